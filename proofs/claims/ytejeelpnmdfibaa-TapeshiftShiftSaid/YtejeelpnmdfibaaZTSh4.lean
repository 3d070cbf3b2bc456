/- Part 4 of the proof's texts, joined in build order. -/
import Derived.Test.YtejeelpnmdfibaaZTSh3
import Derived.Test.YtejeelpnmdfibaaZTSh0
import Derived.Test.YtejeelpnmdfibaaZTSh1
import Derived.Test.YtejeelpnmdfibaaZTSh2
section
namespace Go.Proofs.Ytejeelpnmdfibaa.Hw
open Go.RowKit Go.Proofs.Ytejeelpnmdfibaa.Pr Go.Proofs.YtejeelpnmdfibaaW.PrintWords Go.Proofs.YtejeelpnmdfibaaW.PrintLast Go.Proofs.YtejeelpnmdfibaaW.PrintMore Go.Proofs.Ytejeelpnmdfibaa.E
set_option linter.unusedVariables false
set_option linter.unusedSimpArgs false
def movJ (p k : Int) (z l : List Int) : Nat → Nat → Nat → List Int
 | 0,_,_ => []
 | n + 1,j,q => ((rd l (q : Int) + k * rd z (j : Int) % p) % p) :: movJ p k z l n (j + 1) (q + 1)
def movI (p d : Int) (t : Nat) (z l : List Int) : Nat → Nat → Nat → List Int
 | 0,_,_ => []
 | n + 1,i,q => movJ p (d * rd z (i : Int) % p) z l (t + 1 - i) i q ++ movI p d t z l n (i + 1) (q + (t + 1 - i))
theorem movJ_length (p k : Int) (z l : List Int) : ∀ n j q,(movJ p k z l n j q).length = n
 | 0,_,_ => rfl
 | n + 1,j,q => by rw [movJ,List.length_cons,movJ_length p k z l n]
theorem mk_run0 {t e : TypeId} {z : Value} {b : Nat} (ht : Try.prog.underlying t = some (.slice e)) (hinfo : (Try.prog.info? e).map (fun i => (i.zero,i.size,i.bytes)) = some (some z,1,b)) (hz : z.cells = #[z]) (n : Nat) (hn : n ≤ 1000000) (hb : b ≤ 100) (w : World) :
  (Instr.makeSlice t (.int .i64 0) (.int .i64 (n : Int))).run Try.prog w = .ok (.slice (some ⟨w.heap.size,0,none⟩) 0 n) (w.alloc (.cells (List.replicate n z).toArray e)) := by
 obtain ⟨i0,hi,hzz⟩ := Option.map_eq_some_iff.1 hinfo
 simp only [Prod.mk.injEq] at hzz
 obtain ⟨hz0,hz1,hz2⟩ := hzz
 have hr := run_make (P := Try.prog) w t e i0 z ht hi hz0 .i64 .i64 (0 : Int) (n : Int) (by omega) (by omega)
  (by
   have h3 : ((i0.bytes * n : Nat) : Int) ≤ 281474976710656 := by
    have : i0.bytes * n ≤ 100 * 1000000 := Nat.mul_le_mul (by omega) hn
    omega
   rwa [Int.natCast_mul] at h3) (by omega)
 simp only [Int.toNat_natCast] at hr
 rw [hz1,Nat.mul_one,hz] at hr
 rw [show Int.toNat 0 = 0 from rfl] at hr
 rw [hr]
 have e : madeCells #[z] n = (List.replicate n z).toArray := by
  apply Array.ext'
  rw [toList_madeCells_one]
 rw [e]
theorem room_own (w : World) (n : Nat) (hn : n ≤ 1000000) (base : Nat) (hb : base ≤ w.heap.size) : Kd.R (Kd.int .u64) 22 (w.alloc (.cells (List.replicate n (Value.int .u64 0)).toArray 22)) base (fun _ => True) (.slice (some ⟨w.heap.size,0,none⟩) 0 n) ([] : List Int) := by
 refine R_made ?_ (fun _ _ => trivial)
 refine ⟨rfl,.inr ⟨w.heap.size,n,(List.replicate n (Value.int .u64 0)).toArray,rfl,hb,blk_new w _,Nat.zero_le _,by simp only [maxLen];omega,by rw [List.size_toArray,List.length_replicate];omega,?_⟩⟩
 simp [nums]
set_option maxHeartbeats 4000000 in
set_option maxRecDepth 100000 in
theorem rest_walk {p : Int} (hp : Supp p) (t : Nat) (ht : t ≤ 20) {d : Int} (hd : Res p d) (A0 : Option Addr) (c0 : Nat) (z : List Int) (A2 : Option Addr) (c2 : Nat) (l : List Int) (w : World)
  (hr0 : Kd.C (Kd.int .u64) w A0 z.length z) (hc0 : z.length ≤ c0) (hr2 : Kd.C (Kd.int .u64) w A2 l.length l) (hc2 : l.length ≤ c2)
  (hz : ∀ i : Nat,i ≤ t → Res p (rd z (i : Int))) (hzl : t < z.length) (hlr : ∀ i : Nat,i < l.length → Res p (rd l (i : Int))) (hll : (movI p d t z l t 1 0).length ≤ l.length) (hl2 : l.length ≤ 1000) :
  Calls Try.prog 45 #[.agg #[.int .u64 p,.int .i64 (t : Int),.slice A0 z.length c0],.int .u64 d,.slice A2 l.length c2] w fun e w' => ∃ v0_ : Value,e = .returned (v0_) ∧ Kd.R (Kd.int .u64) 22 w' w.heap.size (fun _ => True) v0_ (movI p d t z l t 1 0) ∧ Below w.heap.size w w' := by
 have HR0 := Aside0.mk hr0
 have HR2 := Aside0.mk hr2
 have HZ := Aside0.mk hz
 have HLR := Aside0.mk hlr
 have HLL := Aside0.mk hll
 have hu := Try.underlying59
 obtain ⟨ad,e0,_⟩ := Kd.at_int hr0 (0 : Int) (by omega) (by omega)
 subst e0
 clear hr0 hr2 hz hlr hll
 go_enter Try.func45,Try.ntmps45
 go_wp2_with (first
  | ((with_reducible refine gate_dst (N := 3) rfl ?_);refine box_event ?hg (N := 3) ?hd (cs := #[.int .u64 p,.int .i64 (t : Int),.slice (some ad) z.length c0]) (t := 59) ?hr ?_;(case hd => rfl);(case hg => rfl);(case hr => first|(go_simp;done)|(go_simp;rfl));intro gb hgb w4 hbox hb4;have GB := Aside0.mk hgb;have BK4 := Aside0.mk hbox;have HB4 := Aside0.mk hb4;have hmk := mk_run0 (t := 26) (e := 22) (z := .int .u64 0) Try.underlying26 info22 rfl l.length (by omega) (by decide) w4;clear hbox hb4 hgb))
 have HB5 := Aside0.mk (below_alloc HB4.out (.cells (List.replicate l.length (Value.int .u64 0)).toArray 22))
 have BK5 := Aside0.mk (blk_alloc BK4.out (.cells (List.replicate l.length (Value.int .u64 0)).toArray 22))
 have HO5 := Aside0.mk (room_own w4 l.length (by omega) w.heap.size (below_size HB4.out))
 have HGB := Aside0.mk (show w.heap.size ≤ gb by rw [GB.out];exact Nat.le_refl _)
 clear hmk BK4 HB4 GB
 go_loopg [7,8,9,10] t (fun kq v7 v8 v9 v10 w' => ∃ (i : Nat) (dn : List Int),v8 = .int .i64 (i : Int) ∧ Aside0 (kq + i = t + 1 ∧ 1 ≤ i) ∧ Aside0 (dn ++ movI p d t z l (t + 1 - i) i dn.length = movI p d t z l t 1 0) ∧ Aside0 (Kd.R (Kd.int .u64) 22 w' w.heap.size (fun _ => True) v7 dn) ∧ Aside0 (w'.heap[gb]? = some (.cells #[.int .u64 p,.int .i64 (t : Int),.slice (some ad) z.length c0] 59 (0,0))) ∧ Aside0 (Below w.heap.size w w'))
 case atStart => exact ⟨1,[],rfl,⟨rfl,Nat.le_refl _⟩,⟨rfl⟩,HO5,BK5,HB5⟩
 case round =>
  clear HO5 BK5 HB5
  obtain ⟨i,dn,rfl,HK,HD,HO,BK,HB⟩ := hrel
  have c0' := blk_cell BK.out 0
  have c1' := blk_cell BK.out 1
  have c2' := blk_cell BK.out 2
  simp only [List.getElem?_toArray,List.getElem?_cons_zero,List.getElem?_cons_succ] at c0' c1' c2'
  obtain ⟨hk0,hk1⟩ := HK.out
  by_cases hlt : i ≤ t
  ·have q1 : decide ((i : Int) ≤ (t : Int)) = true := decide_eq_true (by omega)
   have q2 : decide (i ≤ t) = true := decide_eq_true hlt
   have p1 : ((0 : Int) ≤ (i : Int)) = True := eq_true (by omega)
   have p2 : ((i : Int) < (z.length : Int)) = True := eq_true (by omega)
   obtain ⟨ad',e,hy⟩ := Kd.at_int (Kd.C_below HR0.out HB.out) (i : Int) (by omega) (by omega)
   obtain rfl := Option.some.inj e
   rw [Int.toNat_natCast] at hy
   obtain ⟨kk,hkk⟩ := (mul_ev hp hd (HZ.out i hlt)).rounds
   have HKK := Aside0.mk hkk
   obtain ⟨k,hke⟩ : ∃ y,y = d * rd z (i : Int) % p := ⟨_,rfl⟩
   rw [← hke] at HKK
   have HKR := Aside0.mk (show Res p k by rw [hke];exact Res.mod hp _)
   have hrun : t + 1 - i = (t + 1 - (i + 1)) + 1 := by omega
   have HE := Aside0.mk (show dn ++ (movJ p k z l (t + 1 - i) i dn.length ++ movI p d t z l (t + 1 - (i + 1)) (i + 1) (dn.length + (t + 1 - i))) = movI p d t z l t 1 0 by rw [← HD.out];conv => rhs;rw [hrun,movI,← hke])
   clear hkk hke hrun
   go_wp2
   refine wp_region_quiet_tail_drawn 9 (by kernel_rfl) (by kernel_rfl) ?_
   simp only [List.take_succ_cons,List.take_zero,List.drop_succ_cons,List.drop_zero]
   repeat (quiet_step ((refine Calls.quiet_of ((field_Mul.calls kk _ _ _ k _ HKK.out).mono fun e w' h => ⟨h.1,h.2.out⟩))))
   refine wpQuiet_nil ?_
   rintro _ ⟨nq,rfl⟩
   go_wp2
   have HD2 := Aside0.mk (show dn ++ (movJ p k z l (t + 1 - i) i dn.length ++ movI p d t z l (t + 1 - (i + 1)) (i + 1) (dn.length + (t + 1 - i))) = movI p d t z l t 1 0 from HE.out)
   have HO6 := Aside0.mk (Kd.R_drewN HO.out nq)
   have BK6 := Aside0.mk (blk_drewN BK.out nq)
   have HB6 := Aside0.mk (pw_below_drewN HB.out nq)
   have HI := Aside0.mk (And.intro hk1 hlt)
   clear HD HE HO BK HB hk0 hk1 hlt hy c0' c1' c2' p1 p2 q1 q2
   go_loopg [7,10] (t + 1 - i) (fun kq v7 v10 w' => ∃ (j : Nat) (dm : List Int),v10 = .int .i64 (j : Int) ∧ Aside0 (kq + j = t + 1 ∧ i ≤ j) ∧ Aside0 (dm ++ (movJ p k z l (t + 1 - j) j dm.length ++ movI p d t z l (t + 1 - (i + 1)) (i + 1) (dm.length + (t + 1 - j))) = movI p d t z l t 1 0) ∧ Aside0 (Kd.R (Kd.int .u64) 22 w' w.heap.size (fun _ => True) v7 dm) ∧ Aside0 (w'.heap[gb]? = some (.cells #[.int .u64 p,.int .i64 (t : Int),.slice (some ad) z.length c0] 59 (0,0))) ∧ Aside0 (Below w.heap.size w w'))
   case atStart => exact ⟨i,dn,rfl,⟨by have := HI.out;omega,Nat.le_refl _⟩,HD2,HO6,BK6,HB6⟩
   case round =>
    clear HD2 HO6 BK6 HB6
    obtain ⟨j,dm,rfl,HK2,HD,HO,BK,HB⟩ := hrel
    have c0' := blk_cell BK.out 0
    have c1' := blk_cell BK.out 1
    have c2' := blk_cell BK.out 2
    simp only [List.getElem?_toArray,List.getElem?_cons_zero,List.getElem?_cons_succ] at c0' c1' c2'
    obtain ⟨hk0,hk1⟩ := HK2.out
    obtain ⟨hi1,hi2⟩ := HI.out
    by_cases hlt : j ≤ t
    ·have q1 : decide ((j : Int) ≤ (t : Int)) = true := decide_eq_true (by omega)
     have q2 : decide (j ≤ t) = true := decide_eq_true hlt
     have hrun : t + 1 - j = (t + 1 - (j + 1)) + 1 := by omega
     have hD := HD.out
     have hdl : dm.length < l.length := by
      have h1 := congrArg List.length hD
      rw [List.length_append,List.length_append,movJ_length] at h1
      have := HLL.out
      omega
     have p1 : ((0 : Int) ≤ (j : Int)) = True := eq_true (by omega)
     have p2 : ((j : Int) < (z.length : Int)) = True := eq_true (by omega)
     have p3 : ((0 : Int) ≤ (dm.length : Int)) = True := eq_true (by omega)
     have p4 : ((dm.length : Int) < (l.length : Int)) = True := eq_true (by omega)
     obtain ⟨ad',e,hy⟩ := Kd.at_int (Kd.C_below HR0.out HB.out) (j : Int) (by omega) (by omega)
     obtain rfl := Option.some.inj e
     obtain ⟨ad2,e2,hy2⟩ := Kd.at_int (Kd.C_below HR2.out HB.out) (dm.length : Int) (by omega) (by omega)
     cases e2
     rw [Int.toNat_natCast] at hy hy2
     obtain ⟨k1,hk1'⟩ := (mul_ev hp HKR.out (HZ.out j hlt)).rounds
     obtain ⟨k2,hk2'⟩ := (add_ev hp (HLR.out dm.length hdl) (Res.mod hp (k * rd z (j : Int)))).rounds
     have HE := Aside0.mk (show (dm ++ [(rd l (dm.length : Int) + k * rd z (j : Int) % p) % p]) ++ (movJ p k z l (t + 1 - (j + 1)) (j + 1) (dm.length + 1) ++ movI p d t z l (t + 1 - (i + 1)) (i + 1) (dm.length + 1 + (t + 1 - (j + 1)))) = movI p d t z l t 1 0 by
      rw [← hD]
      conv => rhs;rw [hrun,movJ]
      rw [show dm.length + 1 + (t + 1 - (j + 1)) = dm.length + (t + 1 - (j + 1) + 1) from by omega]
      simp)
     obtain ⟨zk,hzk⟩ : ∃ y,y = k * rd z (j : Int) % p := ⟨_,rfl⟩
     rw [← hzk] at hk1' hk2' HE
     obtain ⟨x,hx⟩ : ∃ y,y = (rd l (dm.length : Int) + zk) % p := ⟨_,rfl⟩
     rw [← hx] at hk2' HE
     have HK1 := Aside0.mk hk1'
     have HK2' := Aside0.mk hk2'
     obtain ⟨m1,hm1⟩ : ∃ y : List Int,y = dm ++ [x] := ⟨_,rfl⟩
     rw [← hm1] at HE
     have NM := Aside0.mk hm1
     have HDL := Aside0.mk hdl
     obtain ⟨A7,c7,rfl⟩ := Kd.R_slice HO.out
     clear hrun hD hzk hx hk1' hk2' hm1 hdl HD
     go_wp2
     refine start_ (n := 21) (S := (fun w' => w'.cell? ⟨gb,0,none⟩ = some (.int .u64 p) ∧ w'.cell? ⟨gb,2,none⟩ = some (.slice (some ad) z.length c0) ∧ w'.cell? (ad2.add dm.length) = some (.int .u64 (rd l (dm.length : Int))) ∧ w'.cell? (ad.add j) = some (.int .u64 (rd z (j : Int))))) (ds := []) (bz 21 0) (by kernel_rfl) rfl rfl ⟨c0',c2',hy2,hy⟩ (fun hHeld => ?_)
     refine pu 0 36 (bz 21 1) ?_
     refine pu 1 37 (bz 21 3) ?_
     refine tu 2 38 (bz 21 7) hHeld ?_
     refine pu 3 39 (bz 21 15) ?_
     refine pu 4 40 (bz 21 31) ?_
     refine pu 5 41 (bz 21 63) ?_
     refine pu 6 42 (bz 21 127) ?_
     refine tu 7 43 (bz 21 255) hHeld ?_
     refine pu 8 44 (bz 21 511) ?_
     refine tu 9 45 (bz 21 1023) hHeld ?_
     refine pu 10 46 (bz 21 2047) ?_
     refine pu 11 47 (bz 21 4095) ?_
     refine tu 12 48 (bz 21 8191) hHeld ?_
     refine pu 13 49 (bz 21 16383) ?_
     refine pu 14 50 (bz 21 32767) ?_
     refine tu 15 51 (bz 21 65535) hHeld ?_
     refine one_ (i := 16) (N := some 52) (bz 21 131071) rfl rfl (by kernel_rfl) (by decide) (fun K hK => ?_)
     refine goes_ Try.func70 (by kernel_rfl) rfl #[.int .u64 p,.int .u64 k,.int .u64 (rd z (j : Int))] (by rfl) rfl rfl (by (try simp only [List.map_toArray,List.map_cons,List.map_nil]);first|done|rfl|(simp only [List.length_drop,List.length_take];rfl)) ?_
     with_reducible refine (field_Mul.calls k1 _ _ _ zk _ HK1.out).mono ?_
     rintro e w' ⟨rfl,⟨nd,rfl⟩⟩
     refine ⟨_,rfl,?_⟩
     refine hK.out _ _ ⟨c0',c2',hy2,hy⟩ (fun hHeld => ?_)
     clear hK K
     refine nm 52 ?_
     refine one_ (i := 17) (N := some 53) (bz 21 262143) rfl rfl (by kernel_rfl) (by decide) (fun K hK => ?_)
     refine goes_ Try.func69 (by kernel_rfl) rfl #[.int .u64 p,.int .u64 (rd l (dm.length : Int)),.int .u64 zk] (by rfl) rfl rfl (by (try simp only [List.map_toArray,List.map_cons,List.map_nil]);first|done|rfl|(simp only [List.length_drop,List.length_take];rfl)) ?_
     with_reducible refine (field_Add.calls k2 _ _ _ x _ HK2'.out).mono ?_
     rintro e w' ⟨rfl,⟨ne,rfl⟩⟩
     refine ⟨_,rfl,?_⟩
     refine hK.out _ _ ⟨c0',c2',hy2,hy⟩ (fun hHeld => ?_)
     clear hK K
     refine nm 53 ?_
     refine one_ (i := 18) (N := some 54) (bz 21 524287) rfl rfl (by kernel_rfl) (by decide) (fun K hK => ?_)
     refine value_ (w1 := ?_) (v := ?_) (by rfl) rfl ?_ ?_
     rotate_left 2
     ·go_simp
      constructor
      ·rfl
      ·rfl
     refine hK.out _ _ ⟨cell_alloc_of (n := 1) c0' _,cell_alloc_of (n := 1) c2' _,cell_alloc_of (n := 1) hy2 _,cell_alloc_of (n := 1) hy _⟩ (fun hHeld => ?_)
     clear hK K
     refine nm 54 ?_
     refine one_ (i := 19) (N := some 55) (bz 21 1048575) rfl rfl (by kernel_rfl) (by decide) (fun K hK => ?_)
     refine Kd.R_append_step (Kd.int .u64) (w0 := w) w.heap.size (by rfl) (.tmp 36) (.tmp 54) 26 22 (.int .u64 0) 8 rfl Try.underlying26 info22 rfl (by decide) (by omega) (.slice A7 dm.length c7) dm x [.int .u64 x] (fun _ => True) (fun _ => False) rfl rfl ?aP (fun _ hk => hk.elim) ?aF ?aO ?aB ?aS ?aL ?_
     (case aP => exact rfl)
     (case aB => exact (bb HB))
     (case aF => exact (fun _ _ => trivial))
     (case aO => exact (by (with_reducible repeat (first|apply Kd.R_alloc|apply Kd.R_drewN|apply Kd.R_drew));exact HO.out))
     (case aS => exact (below_size (bb HB)))
     (case aL => have := HDL.out;omega)
     intro v2 w2 ho hb hg hat
     have hbk : w2.heap[gb]? = some (.cells #[.int .u64 p,.int .i64 (t : Int),.slice (some ad) z.length c0] 59 (0,0)) := blk_grown (by first|exact BK.out|exact blk_drewN BK.out _) hg (Kd.R_ne HO.out BK.out (by decide))
     rw [← NM.out] at ho
     have hcz : w2.cell? (ad.add j) = some (.int .u64 (rd z (j : Int))) := by
      obtain ⟨_,e3,h3⟩ := Kd.at_int (Kd.C_below HR0.out hb) (j : Int) (by omega) (by omega)
      cases e3
      rw [Int.toNat_natCast] at h3
      exact h3
     have hcl : w2.cell? (ad2.add dm.length) = some (.int .u64 (rd l (dm.length : Int))) := by
      obtain ⟨_,e3,h3⟩ := Kd.at_int (Kd.C_below HR2.out hb) (dm.length : Int) (by omega) (by have := HDL.out;omega)
      cases e3
      rw [Int.toNat_natCast] at h3
      exact h3
     have hc0 := blk_cell hbk 0
     have hc2 := blk_cell hbk 2
     simp only [List.getElem?_toArray,List.getElem?_cons_zero,List.getElem?_cons_succ] at hc0 hc2
     refine hK.out _ _ ⟨hc0,hc2,hcl,hcz⟩ (fun hHeld => ?_)
     clear hK K
     refine nm 55 ?_
     refine pu 20 7 (bz 21 2097151) ?_
     refine done_ (by kernel_rfl) ?_
     have HO2 := Aside0.mk ho
     have HB2 := Aside0.mk hb
     have BK2 := Aside0.mk hbk
     clear ho hb hg hat hbk hcz hcl hc0 hc2
     go_wp2
     go_roundg (t - j)
     case measure => omega
     case rel => exact ⟨j + 1,m1,by go_num,⟨by omega⟩,⟨by
      have h1 := HE.out
      rw [show m1.length = dm.length + 1 from by rw [NM.out];simp]
      exact h1⟩,HO2,BK2,HB2⟩
    ·have q1 : decide ((j : Int) ≤ (t : Int)) = false := decide_eq_false (by omega)
     have q2 : decide (j ≤ t) = false := decide_eq_false hlt
     have HE := Aside0.mk (show dm ++ movI p d t z l (t + 1 - (i + 1)) (i + 1) dm.length = movI p d t z l t 1 0 by
      rw [← HD.out,show t + 1 - j = 0 from by omega]
      simp [movJ])
     clear HD
     go_wp2
     go_roundg (t - i)
     case measure => have := HK.out;omega
     case rel => exact ⟨i + 1,dm,by go_num,⟨by have := HK.out;omega⟩,HE,HO,BK,HB⟩
  ·have q1 : decide ((i : Int) ≤ (t : Int)) = false := decide_eq_false (by omega)
   have q2 : decide (i ≤ t) = false := decide_eq_false hlt
   have hz0 : t + 1 - i = 0 := by omega
   have HE := Aside0.mk (show dn = movI p d t z l t 1 0 by rw [← HD.out,hz0];simp [movI])
   clear hz0
   go_wp2
   first|go_ret|((try simp only [Exit.inBlock,Exit.then]);refine bodyPost_ret (results_tmp rfl _ _ rfl) rfl ?_)
   exact ⟨_,rfl,by rw [← HE.out];exact HO.out,HB.out⟩
def tapeshift_mover_rest.f (a0 a1 : Int) (z : List Int) (d : Int) (l : List Int) : Option (List Int) :=
 if supB a0 = true then (if 0 ≤ a1 then (if a1 ≤ 20 then (if resB a0 d = true then (if ressB a0 z = true then (if a1 < z.length then (if ressB a0 l = true then (if (movI a0 d a1.toNat z l a1.toNat 1 0).length ≤ l.length then (if l.length ≤ 1000 then some (movI a0 d a1.toNat z l a1.toNat 1 0) else none) else none) else none) else none) else none) else none) else none) else none) else none
theorem tapeshift_mover_rest.calls (a0 a1 : Int) (A0 : Option Addr) (c0 : Nat) (z : List Int) (d : Int) (A2 : Option Addr) (c2 : Nat) (l r : List Int) (w : World) (hr0 : Kd.C (Kd.int .u64) w A0 z.length z) (hc0 : z.length ≤ c0) (hr2 : Kd.C (Kd.int .u64) w A2 l.length l) (hc2 : l.length ≤ c2) (h : tapeshift_mover_rest.f a0 a1 z d l = some r) :
  Calls Try.prog 45 #[.agg #[.int .u64 a0,.int .i64 a1,.slice A0 z.length c0],.int .u64 d,.slice A2 l.length c2] w fun e w' => ∃ v0_ : Value,e = .returned (v0_) ∧ Kd.R (Kd.int .u64) 22 w' w.heap.size (fun _ => True) v0_ r ∧ Below w.heap.size w w' := by
 unfold tapeshift_mover_rest.f at h
 obtain ⟨h1,h⟩ := ifs h
 obtain ⟨h2,h⟩ := ifs h
 obtain ⟨h3,h⟩ := ifs h
 obtain ⟨h4,h⟩ := ifs h
 obtain ⟨h5,h⟩ := ifs h
 obtain ⟨h6,h⟩ := ifs h
 obtain ⟨h7,h⟩ := ifs h
 obtain ⟨h8,h⟩ := ifs h
 obtain ⟨h9,h⟩ := ifs h
 rw [← Option.some.inj h]
 have e : ((a1.toNat : Nat) : Int) = a1 := Int.toNat_of_nonneg h2
 have hg := rest_walk (supB_of h1) a1.toNat (by omega) (resB_iff.1 h4) A0 c0 z A2 c2 l w hr0 hc0 hr2 hc2 (fun i hi => rd_res (ressB_iff.1 h5) i (by omega)) (by omega) (fun i hi => rd_res (ressB_iff.1 h7) i hi) h8 h9
 rw [e] at hg
 exact hg
end Go.Proofs.Ytejeelpnmdfibaa.Hw
end
section
namespace Go.Proofs.Ytejeelpnmdfibaa.Pr
open Go.RowKit Go.Proofs.YtejeelpnmdfibaaW.PrintWords Go.Proofs.YtejeelpnmdfibaaW.PrintLast Go.Proofs.YtejeelpnmdfibaaW.PrintMore
attribute [local go_sem] max2_int min2_int max_two min_two max_three min_three max_four min_four
set_option linter.unusedVariables false
set_option linter.unusedSimpArgs false
open Go.Proofs.Ytejeelpnmdfibaa.Hw
def tapeshift_Sharing.f (k : Nat) (a0_0 : Int) (a0_1 : Int) (a0_2 : Int) (l1 : List Int) (a2 : Int) (l3 : List Int) (l4 : List Int) : Option (List Int × List Int) := (tapeshift_of.f k a0_0 a0_1 a0_2 l1).bind fun bt247 => ((tapeshift_mover_by.f k bt247.1 bt247.2.1 bt247.2.2 a2 l3).bind fun t253 => ((tapeshift_mover_rest.f bt247.1 bt247.2.1 bt247.2.2 a2 l4).bind fun t256 => (some (t253,t256))))
theorem tapeshift_Sharing.mono : ∀ a0 a1 a2 a3 a4 a5 a6 k,LeO (tapeshift_Sharing.f k a0 a1 a2 a3 a4 a5 a6) (tapeshift_Sharing.f (k + 1) a0 a1 a2 a3 a4 a5 a6) := by
 intro a0 a1 a2 a3 a4 a5 a6 k
 unfold tapeshift_Sharing.f
 repeat' first
   | (with_reducible exact tapeshift_mover_by.mono _ _ _ _ _ _)
   | (with_reducible exact tapeshift_of.mono _ _ _ _ _)
   | (with_reducible exact LeO.refl _)
   | (with_reducible exact LeO.none _)
   | (with_reducible refine LeO.ite ?_ ?_)
   | (with_reducible refine LeO.bind ?_ (fun _ => ?_))
   | exact tapeshift_mover_by.mono _ _ _ _ _ _
   | exact tapeshift_of.mono _ _ _ _ _
   | exact LeO.none _
   | refine LeO.ite ?_ ?_
   | refine LeO.bind ?_ (fun _ => ?_)
def tapeshift_Sharing.T2 : Bool × List (List Nat × List Nat) := (true,[([],[]),([],[]),([],[]),([0,1,2],[0,1,2]),([],[]),([],[]),([],[]),([4,5,6,3],[4,5,6]),([3,7,0,1,2,3],[3]),([7,8,0,1,2,3,4,5,6,7,8],[7])])
def tapeshift_Sharing.B2 : List Nat := [0,0,0,7,0,0,0,127,255,511]
theorem tapeshift_Sharing.tab2 : rtab .any (opsOf Try.f15 2) = tapeshift_Sharing.T2 := by kernel_rfl
theorem tapeshift_Sharing.bits2 : waitsOk tapeshift_Sharing.T2.2 tapeshift_Sharing.B2 = true := by kernel_rfl
set_option maxHeartbeats 8000000 in
set_option maxRecDepth 100000 in
theorem tapeshift_Sharing.calls (k : Nat) (a0_0 : Int) (a0_1 : Int) (a0_2 : Int) (A1 : Option Addr) (c1 : Nat) (l1 : List Int) (a2 : Int) (A3 : Option Addr) (c3 : Nat) (l3 : List Int) (A4 : Option Addr) (c4 : Nat) (l4 : List Int) (r1 : List Int) (r2 : List Int) (w : World) (hr1 : Kd.C (Kd.int .i64) w A1 l1.length l1) (hc1 : l1.length ≤ c1) (hr3 : Kd.C (Kd.int .u64) w A3 l3.length l3) (hc3 : l3.length ≤ c3) (hr4 : Kd.C (Kd.int .u64) w A4 l4.length l4) (hc4 : l4.length ≤ c4) (h : tapeshift_Sharing.f k a0_0 a0_1 a0_2 l1 a2 l3 l4 = some (r1,r2)) :
  Calls Try.prog 15 #[.agg #[.int .u64 a0_0,.int .i64 a0_1,.int .i64 a0_2],.slice A1 l1.length c1,.int .u64 a2,.slice A3 l3.length c3,.slice A4 l4.length c4] w fun e w' => ∃ v0_ v1_ : Value,e = .returned (.tuple #[v0_,v1_]) ∧ Kd.R (Kd.int .u64) 22 w' w.heap.size (fun k_ => some k_ ≠ (v1_ : Value).ownBlock) v0_ r1 ∧ Kd.R (Kd.int .u64) 22 w' w.heap.size (fun k_ => some k_ ≠ (v0_ : Value).ownBlock) v1_ r2 ∧ Below w.heap.size w w' := by
 have hu24 := Try.underlying24
 have hu59 := Try.underlying59
 have HR1 := Aside0.mk hr1
 have HC1 := Aside0.mk hc1
 clear hr1 hc1
 have HR3 := Aside0.mk hr3
 have HC3 := Aside0.mk hc3
 clear hr3 hc3
 have HR4 := Aside0.mk hr4
 have HC4 := Aside0.mk hc4
 clear hr4 hc4
 have HB := Aside0.mk (Below.refl w.heap.size w)
 have H : ((tapeshift_of.f k a0_0 a0_1 a0_2 l1).bind fun bt247 => ((tapeshift_mover_by.f k bt247.1 bt247.2.1 bt247.2.2 a2 l3).bind fun t253 => ((tapeshift_mover_rest.f bt247.1 bt247.2.1 bt247.2.2 a2 l4).bind fun t256 => (some (t253,t256))))) = some (r1,r2) := h
 clear h
 replace H := Option.bind_eq_some_iff.mp H
 obtain ⟨⟨t247,t248,t249⟩,A60,H⟩ := H
 try dsimp only at H
 have A6 := Aside0.mk A60
 clear A60
 replace H := Option.bind_eq_some_iff.mp H
 obtain ⟨t253,A70,H⟩ := H
 try dsimp only at H
 have A7 := Aside0.mk A70
 clear A70
 replace H := Option.bind_eq_some_iff.mp H
 obtain ⟨t256,A80,H⟩ := H
 try dsimp only at H
 have A8 := Aside0.mk A80
 clear A80
 simp only [Option.some.injEq,Prod.mk.injEq] at H
 obtain ⟨rfl,rfl⟩ := H
 go_enter Try.func15,Try.ntmps15
 try go_wp2_with (first|((with_reducible refine gate_dst (N := 5) rfl ?_);refine box_event ?hg (N := 5) ?hd (cs := #[.int .u64 a0_0,.int .i64 a0_1,.int .i64 a0_2]) (t := 24) ?hr ?_;(case hd => rfl);(case hg => rfl);(case hr => first|(go_simp;done)|(go_simp;rfl));intro gb246 hg w9 hbox hb;have n0_ := Aside0.mk (below_step (bb HB) hb);have n1_ := Aside0.mk (hbox);have n2_ := Aside0.mk ((by rw [hg];exact (below_size (bb HB)) : w.heap.size ≤ gb246));have n3_ := Aside0.mk ((by rw [hg];exact (below_size (bb HB)) : w.heap.size ≤ gb246));clear HB;have HB := n0_;have BK246 := n1_;have GW246 := n2_;have GE246 := n3_;clear n0_ n1_ n2_ n3_;clear hb hbox hg;have hcz10_0 := bc BK246 0;have hcz10_1 := bc BK246 1;have hcz10_2 := bc BK246 2;have hfz10_0 := blk_frozen BK246.out 0;have hfz10_1 := blk_frozen BK246.out 1;have hfz10_2 := blk_frozen BK246.out 2)|((with_reducible refine gate_callee (f := 43) rfl ?_);refine goesL_ (some 15) rfl rfl Try.func43 (by kernel_rfl) rfl #[.agg #[.int .u64 a0_0,.int .i64 a0_1,.int .i64 a0_2],.slice A1 l1.length c1] rfl (by (try simp only [List.map_toArray,List.map_cons,List.map_nil]);first|done|rfl|(simp only [List.length_drop,List.length_take];rfl)) ?_;(with_reducible refine (tapeshift_of.calls k a0_0 a0_1 a0_2 _ _ l1 t247 t248 t249 _ ?side1 ?side2 A6.out).mono ?_);(case side1 => exact cb HR1 HB);(case side2 => exact HC1.out);rintro e w11 ⟨v250,rfl,ho0,hb⟩;refine ⟨_,rfl,?_⟩;have n0_ := Aside0.mk (Kd.R_lower ho0 (below_size (bg HB GE246)));have n1_ := Aside0.mk (kb BK246 hb);have n2_ := Aside0.mk (below_step (bg HB GE246) hb);clear BK246 HB;have HO251 := n0_;have BK246 := n1_;have HB := n2_;clear n0_ n1_ n2_;(try clear hb);(try clear hb2);(try clear hk);(try clear hi);(try clear ho0))|((with_reducible refine gate_dst (N := 12) rfl ?_);refine box_event ?hg (N := 12) ?hd (cs := #[.int .u64 0,.int .i64 0,.slice none 0 0]) (t := 59) ?hr ?_;(case hd => rfl);(case hg => rfl);(case hr => first|(go_simp;done)|(go_simp;rfl));intro gb252 hg w12 hbox hb;have n0_ := Aside0.mk (Kd.R_below (rr HO251) hb);have n1_ := Aside0.mk (kb BK246 hb);have n2_ := Aside0.mk (below_step (bg HB GE246) hb);have n3_ := Aside0.mk (hbox);have n4_ := Aside0.mk ((by rw [hg];exact (below_size (bg HB GE246)) : w.heap.size ≤ gb252));have n5_ := Aside0.mk ((by rw [hg];exact (below_size (bg HB GE246)) : w.heap.size ≤ gb252));have n6_ := Aside0.mk ((by rw [hg];exact Nat.ne_of_lt (blk_lt (g := gb246) (o := .cells #[.int .u64 a0_0,.int .i64 a0_1,.int .i64 a0_2] 24 (0,0)) (by (with_reducible repeat (first|refine blk_drewN ?_ _|refine blk_drew ?_|refine blk_alloc ?_ _));exact BK246.out)) : gb246 ≠ gb252));have n7_ := Aside0.mk ((by rw [hg];exact Nat.ne_of_gt (blk_lt (g := gb246) (o := .cells #[.int .u64 a0_0,.int .i64 a0_1,.int .i64 a0_2] 24 (0,0)) (by (with_reducible repeat (first|refine blk_drewN ?_ _|refine blk_drew ?_|refine blk_alloc ?_ _));exact BK246.out)) : gb252 ≠ gb246));clear HO251 BK246 HB;have HO251 := n0_;have BK246 := n1_;have HB := n2_;have BK252 := n3_;have GW252 := n4_;have GE252 := n5_;have NB246_252 := n6_;have NB252_246 := n7_;clear n0_ n1_ n2_ n3_ n4_ n5_ n6_ n7_;clear hb hbox hg;have hnb13 := NB252_246.out;have hnc13 := NB246_252.out;have hcz14_0 := bc BK252 0;have hcz14_1 := bc BK252 1;have hcz14_2 := bc BK252 2;have hfz14_0 := blk_frozen BK252.out 0;have hfz14_1 := blk_frozen BK252.out 1;have hfz14_2 := blk_frozen BK252.out 2;obtain ⟨Ao15,co15,eo15⟩ := Kd.R_slice HO251.out;subst eo15))
 have n0_ : Aside0 (Kd.R (Kd.int .u64) 22 (((w12.setCell ⟨gb252,0,none⟩ (.int .u64 t247)).setCell ⟨gb252,1,none⟩ (.int .i64 t248)).setCell ⟨gb252,2,none⟩ (.slice Ao15 t249.length co15)) w.heap.size (fun _ => True) (.slice Ao15 t249.length co15) t249) := ⟨by (with_reducible repeat (first|apply Kd.R_alloc|apply Kd.R_drewN|apply Kd.R_drew));exact Kd.R_mono (Kd.R_far (p := ⟨gb252,2,none⟩) (Kd.R_far (p := ⟨gb252,1,none⟩) (Kd.R_far (p := ⟨gb252,0,none⟩) (Kd.R_types HO251.out BK252.out (by decide)) (fun _ hk => hk.2) (.int .u64 t247)) (fun _ hk => hk.2) (.int .i64 t248)) (fun _ hk => hk.2) (.slice Ao15 t249.length co15)) (fun _ hk => trivial)⟩
 have n1_ : Aside0 ((((w12.setCell ⟨gb252,0,none⟩ (.int .u64 t247)).setCell ⟨gb252,1,none⟩ (.int .i64 t248)).setCell ⟨gb252,2,none⟩ (.slice Ao15 t249.length co15)).heap[gb246]? = some (.cells #[.int .u64 a0_0,.int .i64 a0_1,.int .i64 a0_2] 24 (0,0))) := ⟨by (with_reducible repeat (first|refine blk_drewN ?_ _|refine blk_drew ?_|refine blk_alloc ?_ _));refine blk_far ?_ NB246_252.out _;(with_reducible repeat (first|refine blk_drewN ?_ _|refine blk_drew ?_|refine blk_alloc ?_ _));refine blk_far ?_ NB246_252.out _;(with_reducible repeat (first|refine blk_drewN ?_ _|refine blk_drew ?_|refine blk_alloc ?_ _));refine blk_far ?_ NB246_252.out _;(with_reducible repeat (first|refine blk_drewN ?_ _|refine blk_drew ?_|refine blk_alloc ?_ _));exact BK246.out⟩
 have n2_ : Aside0 ((((w12.setCell ⟨gb252,0,none⟩ (.int .u64 t247)).setCell ⟨gb252,1,none⟩ (.int .i64 t248)).setCell ⟨gb252,2,none⟩ (.slice Ao15 t249.length co15)).heap[gb252]? = some (.cells #[.int .u64 t247,.int .i64 t248,.slice Ao15 t249.length co15] 59 (0,0))) := ⟨by (with_reducible repeat (first|refine blk_drewN ?_ _|refine blk_drew ?_|refine blk_alloc ?_ _));refine blk_put (cs := #[.int .u64 t247,.int .i64 t248,.slice none 0 0]) ?_ 2 _ rfl;(with_reducible repeat (first|refine blk_drewN ?_ _|refine blk_drew ?_|refine blk_alloc ?_ _));refine blk_put (cs := #[.int .u64 t247,.int .i64 0,.slice none 0 0]) ?_ 1 _ rfl;(with_reducible repeat (first|refine blk_drewN ?_ _|refine blk_drew ?_|refine blk_alloc ?_ _));refine blk_put (cs := #[.int .u64 0,.int .i64 0,.slice none 0 0]) ?_ 0 _ rfl;(with_reducible repeat (first|refine blk_drewN ?_ _|refine blk_drew ?_|refine blk_alloc ?_ _));exact BK252.out⟩
 have n3_ : Aside0 (Below w.heap.size w (((w12.setCell ⟨gb252,0,none⟩ (.int .u64 t247)).setCell ⟨gb252,1,none⟩ (.int .i64 t248)).setCell ⟨gb252,2,none⟩ (.slice Ao15 t249.length co15))) := ⟨by repeat (first|(with_reducible first|exact HB.out|apply below_alloc|apply pw_below_drewN|apply below_drew1|refine below_set ?_ GE246.out|refine below_set ?_ GE252.out)|exact HB.out)⟩
 (try clear HO251)
 (try clear BK246)
 (try clear BK252)
 (try clear HB)
 generalize (((w12.setCell ⟨gb252,0,none⟩ (.int .u64 t247)).setCell ⟨gb252,1,none⟩ (.int .i64 t248)).setCell ⟨gb252,2,none⟩ (.slice Ao15 t249.length co15)) = w16 at n0_ n1_ n2_ n3_ ⊢
 have HO251 := n0_
 have BK246 := n1_
 have BK252 := n2_
 have HB := n3_
 clear n0_ n1_ n2_ n3_
 have n0_ := Aside0.mk (Kd.R_drew HO251.out)
 have n1_ := Aside0.mk (blk_drew BK246.out)
 have n2_ := Aside0.mk (blk_drew BK252.out)
 have n3_ := Aside0.mk (below_drew1 HB.out)
 clear HO251
 clear BK246
 clear BK252
 clear HB
 have HO251 := n0_
 have BK246 := n1_
 have BK252 := n2_
 have HB := n3_
 clear n0_ n1_ n2_ n3_
 refine start_ (n := 10) (S := fun w' => w'.cell? ⟨gb252,0,none⟩ = some (.int .u64 t247) ∧ w'.cell? ⟨gb252,1,none⟩ = some (.int .i64 t248) ∧ w'.cell? ⟨gb252,2,none⟩ = some (.slice Ao15 t249.length co15)) (ds := []) (bz 10 0) (by kernel_rfl) rfl rfl ⟨(blk_cell BK252.out 0).trans rfl,(blk_cell BK252.out 1).trans rfl,(blk_cell BK252.out 2).trans rfl⟩ (fun hHeld => ?_);refine with_tabW tapeshift_Sharing.tab2 tapeshift_Sharing.bits2 (fun HT_ HW_ => ?_)
 generalize w16.drew = w17 at HO251 BK246 BK252 HB hHeld ⊢
 refine pk 1 17 (bz 10 2) HT_ ?_
 refine pk 2 18 (bz 10 6) HT_ ?_
 refine pk 5 21 (bz 10 38) HT_ ?_
 refine pk 6 22 (bz 10 102) HT_ ?_
 refine tk 0 16 (bz 10 103) HT_ HW_ hHeld ?_
 refine tk 4 20 (bz 10 119) HT_ HW_ hHeld ?_
 refine one_ (i := 3) (N := some 19) (bz 10 127) rfl rfl (one_of HT_.out (by kernel_rfl)) (by decide) (fun K hK => ?_)
 refine goes_ Try.func44 (by kernel_rfl) rfl #[.agg #[.int .u64 t247,.int .i64 t248,.slice Ao15 t249.length co15],.int .u64 a2,.slice A3 l3.length c3] (by rfl) rfl rfl (by (try simp only [List.map_toArray,List.map_cons,List.map_nil]);first|done|rfl|(simp only [List.length_drop,List.length_take];rfl)) ?_
 with_reducible refine (tapeshift_mover_by.calls k t247 t248 _ _ t249 a2 _ _ l3 t253 _ ?side1 ?side2 ?side3 ?side4 A7.out).mono ?_
 (case side1 => exact cr HO251)
 (case side2 => exact (Kd.R_reads' HO251.out).2.1)
 (case side3 => exact cb HR3 HB)
 (case side4 => exact HC3.out)
 rintro e w18 ⟨v254,rfl,ho0,hb⟩
 refine ⟨_,rfl,?_⟩
 have n0_ := Aside0.mk (Kd.R_elder' (rr HO251) (Kd.R_base ho0) hb)
 have n1_ := Aside0.mk (Kd.R_lower (Kd.R_new' ho0 (Kd.R_lt (rr HO251))) (below_size (by repeat (first|(with_reducible first|exact HB.out|apply below_alloc|apply pw_below_drewN|apply below_drew1|refine below_set ?_ GE246.out|refine below_set ?_ GE252.out)|exact HB.out))))
 have n2_ := Aside0.mk (kb BK246 hb)
 have n3_ := Aside0.mk (kb BK252 hb)
 have n4_ := Aside0.mk (below_step (by repeat (first|(with_reducible first|exact HB.out|apply below_alloc|apply pw_below_drewN|apply below_drew1|refine below_set ?_ GE246.out|refine below_set ?_ GE252.out)|exact HB.out)) hb)
 clear HO251
 clear BK246
 clear BK252
 clear HB
 have HO251 := n0_
 have HO255 := n1_
 have BK246 := n2_
 have BK252 := n3_
 have HB := n4_
 clear n0_ n1_ n2_ n3_ n4_
 (try clear hb)
 (try clear hb2)
 (try clear hk)
 (try clear hi)
 (try clear ho0)
 refine hK.out _ _ ⟨(blk_cell BK252.out 0).trans rfl,(blk_cell BK252.out 1).trans rfl,(blk_cell BK252.out 2).trans rfl⟩ (fun hHeld => ?_)
 clear hK K
 refine nm 19 ?_
 refine one_ (i := 7) (N := some 23) (bz 10 255) rfl rfl (one_of HT_.out (by kernel_rfl)) (by decide) (fun K hK => ?_)
 refine goes_ Try.func45 (by kernel_rfl) rfl #[.agg #[.int .u64 t247,.int .i64 t248,.slice Ao15 t249.length co15],.int .u64 a2,.slice A4 l4.length c4] (by rfl) rfl rfl (by (try simp only [List.map_toArray,List.map_cons,List.map_nil]);first|done|rfl|(simp only [List.length_drop,List.length_take];rfl)) ?_
 with_reducible refine (tapeshift_mover_rest.calls t247 t248 _ _ t249 a2 _ _ l4 t256 _ ?side1 ?side2 ?side3 ?side4 A8.out).mono ?_
 (case side1 => exact cr HO251)
 (case side2 => exact (Kd.R_reads' HO251.out).2.1)
 (case side3 => exact cb HR4 HB)
 (case side4 => exact HC4.out)
 rintro e w19 ⟨v257,rfl,ho0,hb⟩
 refine ⟨_,rfl,?_⟩
 have n0_ := Aside0.mk (Kd.R_elder' (rr HO251) (Kd.R_base ho0) hb)
 have n1_ := Aside0.mk (Kd.R_elder' (rr HO255) (Kd.R_base ho0) hb)
 have n2_ := Aside0.mk (Kd.R_lower (Kd.R_new' (Kd.R_new' ho0 (Kd.R_lt (rr HO251))) (Kd.R_lt (rr HO255))) (below_size (by repeat (first|(with_reducible first|exact HB.out|apply below_alloc|apply pw_below_drewN|apply below_drew1|refine below_set ?_ GE246.out|refine below_set ?_ GE252.out)|exact HB.out))))
 have n3_ := Aside0.mk (kb BK246 hb)
 have n4_ := Aside0.mk (kb BK252 hb)
 have n5_ := Aside0.mk (below_step (by repeat (first|(with_reducible first|exact HB.out|apply below_alloc|apply pw_below_drewN|apply below_drew1|refine below_set ?_ GE246.out|refine below_set ?_ GE252.out)|exact HB.out)) hb)
 clear HO251
 clear HO255
 clear BK246
 clear BK252
 clear HB
 have HO251 := n0_
 have HO255 := n1_
 have HO258 := n2_
 have BK246 := n3_
 have BK252 := n4_
 have HB := n5_
 clear n0_ n1_ n2_ n3_ n4_ n5_
 (try clear hb)
 (try clear hb2)
 (try clear hk)
 (try clear hi)
 (try clear ho0)
 refine hK.out _ _ ⟨(blk_cell BK252.out 0).trans rfl,(blk_cell BK252.out 1).trans rfl,(blk_cell BK252.out 2).trans rfl⟩ (fun hHeld => ?_)
 clear hK K
 refine nm 23 ?_
 refine pk 8 10 (bz 10 511) HT_ ?_
 refine pk 9 11 (bz 10 1023) HT_ ?_
 refine done_ (done_of HT_.out (by kernel_rfl)) ?_
 try go_wp2
 go_ret2
 exact ⟨_,_,by first|rfl|(simp [errW_none,errW_some] <;> rfl)|(simp [*,errW_none,errW_some] <;> rfl),by (with_reducible repeat (first|apply Kd.R_alloc|apply Kd.R_drewN|apply Kd.R_drew));exact Kd.R_mono HO255.out (fun _ hk => hk.2),by (with_reducible repeat (first|apply Kd.R_alloc|apply Kd.R_drewN|apply Kd.R_drew));exact Kd.R_mono HO258.out (fun _ hk => hk.2),by repeat (first|(with_reducible first|exact HB.out|apply below_alloc|apply pw_below_drewN|apply below_drew1|refine below_set ?_ GE246.out|refine below_set ?_ GE252.out)|exact HB.out)⟩
def privityref14_Words.l0 : Nat → List Int → List Int → Int → Option (Bool)
 | 0,_,_,_ => none
 | k + 1,x0,x1,x5 => if x5 < (x0.length : Int) then (if 0 ≤ x5 then (if x5 < (x1.length : Int) then (if (rd x0 x5) = (rd x1 x5) then (privityref14_Words.l0 k x0 x1 (wrap64 (x5 + 1))) else (some false)) else (none)) else (none)) else (some true)
def privityref14_Words.f (k : Nat) (l0 : List Int) (l1 : List Int) : Option (Bool) := if (l0.length : Int) = (l1.length : Int) then (privityref14_Words.l0 k l0 l1 0) else (some false)
theorem privityref14_Words.mono_l : ∀ k,(∀ y0 y1 y2,LeO (privityref14_Words.l0 k y0 y1 y2) (privityref14_Words.l0 (k + 1) y0 y1 y2))
 | 0 => fun _ _ _ r h => by simp [privityref14_Words.l0] at h
 | k + 1 => by
  have ih0 := privityref14_Words.mono_l k
  ·intro y0 y1 y2
   unfold privityref14_Words.l0
   repeat' first
   | (with_reducible exact ih0 _ _ _)
   | (with_reducible exact LeO.refl _)
   | (with_reducible exact LeO.none _)
   | (with_reducible refine LeO.ite ?_ ?_)
   | (with_reducible refine LeO.bind ?_ (fun _ => ?_))
   | exact ih0 _ _ _
   | exact LeO.none _
   | refine LeO.ite ?_ ?_
   | refine LeO.bind ?_ (fun _ => ?_)
theorem privityref14_Words.mono : ∀ a0 a1 k,LeO (privityref14_Words.f k a0 a1) (privityref14_Words.f (k + 1) a0 a1) := by
 intro a0 a1 k
 have ih0 := privityref14_Words.mono_l k
 unfold privityref14_Words.f
 repeat' first
   | (with_reducible exact ih0 _ _ _)
   | (with_reducible exact LeO.refl _)
   | (with_reducible exact LeO.none _)
   | (with_reducible refine LeO.ite ?_ ?_)
   | (with_reducible refine LeO.bind ?_ (fun _ => ?_))
   | exact ih0 _ _ _
   | exact LeO.none _
   | refine LeO.ite ?_ ?_
   | refine LeO.bind ?_ (fun _ => ?_)
set_option maxHeartbeats 8000000 in
set_option maxRecDepth 100000 in
theorem privityref14_Words.calls (k : Nat) (A0 : Option Addr) (c0 : Nat) (l0 : List Int) (A1 : Option Addr) (c1 : Nat) (l1 : List Int) (r : Bool) (w : World) (hr0 : Kd.C (Kd.int .u64) w A0 l0.length l0) (hc0 : l0.length ≤ c0) (hr1 : Kd.C (Kd.int .u64) w A1 l1.length l1) (hc1 : l1.length ≤ c1) (h : privityref14_Words.f k l0 l1 = some r) :
  Calls Try.prog 18 #[.slice A0 l0.length c0,.slice A1 l1.length c1] w fun e w' => e = .returned (.bool r) ∧ Drawn0 w w' := by
 have HR0 := Aside0.mk hr0
 have HC0 := Aside0.mk hc0
 clear hr0 hc0
 have HR1 := Aside0.mk hr1
 have HC1 := Aside0.mk hc1
 clear hr1 hc1
 have H : (if (l0.length : Int) = (l1.length : Int) then (privityref14_Words.l0 k l0 l1 0) else (some false)) = some r := h
 clear h
 by_cases c3 : (l0.length : Int) = (l1.length : Int)
 ·rw [if_pos c3] at H
  have c3b0 : ((l0.length : Int) == (l1.length : Int)) = true := beq_iff_eq.mpr c3
  have c3b1 : ((l0.length : Int) != (l1.length : Int)) = false := bne_eq_false_iff_eq.mpr c3
  have c3b2 : (l0.length == l1.length) = true := by first|simpa using c3|(simp at c3 ⊢;omega)
  clear c3
  have H' := Aside0.mk H
  clear H
  go_enter Try.func18,Try.ntmps18
  go_wp2
  repeat (go_quiet (fail);try go_wp2)
  go_loopg [5] k (fun kq v5 w' => ∃ (x5_1 : Int),v5 = .int .i64 x5_1 ∧ Aside0 (privityref14_Words.l0 kq l0 l1 x5_1 = some r) ∧ Aside0 (kq ≤ k) ∧ Drawn0 w w')
  case atStart => exact ⟨(0),(by first|rfl|(simp;done)|(simp [*];done)),H',⟨Nat.le_refl _⟩,by repeat (first|exact Drawn0.refl _|apply Drawn0.step)⟩
  case round =>
   clear H'
   try clear c1
   try clear p2
   try clear c3
   try clear c3b0
   try clear c3b1
   try clear c3b2
   obtain ⟨x5_1,rfl,HA,HK1,⟨m1,rfl⟩⟩ := hrel
   cases gk with
   | zero => exact absurd HA.out (by simp [privityref14_Words.l0])
   | succ k1 =>
    have H := HA.out
    clear HA
    simp only [privityref14_Words.l0] at H
    by_cases c4 : x5_1 < (l0.length : Int)
    ·rw [if_pos c4] at H
     have c4b0 : decide (x5_1 < (l0.length : Int)) = true := decide_eq_true c4
     clear c4
     by_cases c5 : 0 ≤ x5_1
     ·rw [if_pos c5] at H
      have c5b0 : decide (0 ≤ x5_1) = true := decide_eq_true c5
      clear c5
      by_cases c6 : x5_1 < (l1.length : Int)
      ·rw [if_pos c6] at H
       have c6b0 : decide (x5_1 < (l1.length : Int)) = true := decide_eq_true c6
       clear c6
       by_cases c7 : (rd l0 x5_1) = (rd l1 x5_1)
       ·rw [if_pos c7] at H
        have c7b0 : ((rd l0 x5_1) == (rd l1 x5_1)) = true := beq_iff_eq.mpr c7
        have c7b1 : ((rd l0 x5_1) != (rd l1 x5_1)) = false := bne_eq_false_iff_eq.mpr c7
        clear c7
        have H' := Aside0.mk H
        clear H
        have p259 : 0 ≤ (x5_1 : Int) := of_decide_eq_true (by first|(with_reducible assumption)|assumption)
        have q259 : x5_1 < (l0.length : Int) := of_decide_eq_true (by first|(with_reducible assumption)|assumption)
        obtain ⟨ad259,e259,hx259_0⟩ := Kd.at_int HR0.out x5_1 p259 q259
        cases e259
        replace p259 := eq_true p259
        replace q259 := eq_true q259
        have p260 : 0 ≤ (x5_1 : Int) := of_decide_eq_true (by first|(with_reducible assumption)|assumption)
        have q260 : x5_1 < (l1.length : Int) := of_decide_eq_true (by first|(with_reducible assumption)|assumption)
        obtain ⟨ad260,e260,hx260_0⟩ := Kd.at_int HR1.out x5_1 p260 q260
        cases e260
        replace p260 := eq_true p260
        replace q260 := eq_true q260
        go_wp2
        repeat (go_quiet (fail);try go_wp2)
        go_roundg k1
        case measure => have := HK1.out;omega
        case rel => exact ⟨(wrap64 (x5_1 + 1)),(by first|rfl|(simp;done)|(simp [*];done)),H',⟨by have := HK1.out;omega⟩,by repeat (first|exact Drawn0.refl _|apply Drawn0.step)⟩
       ·rw [if_neg c7] at H
        have c7b0 : ((rd l0 x5_1) == (rd l1 x5_1)) = false := beq_eq_false_iff_ne.mpr c7
        have c7b1 : ((rd l0 x5_1) != (rd l1 x5_1)) = true := bne_iff_ne.mpr c7
        obtain rfl := Option.some.inj H
        have p259 : 0 ≤ (x5_1 : Int) := of_decide_eq_true (by first|(with_reducible assumption)|assumption)
        have q259 : x5_1 < (l0.length : Int) := of_decide_eq_true (by first|(with_reducible assumption)|assumption)
        obtain ⟨ad259,e259,hx259_0⟩ := Kd.at_int HR0.out x5_1 p259 q259
        cases e259
        replace p259 := eq_true p259
        replace q259 := eq_true q259
        have p260 : 0 ≤ (x5_1 : Int) := of_decide_eq_true (by first|(with_reducible assumption)|assumption)
        have q260 : x5_1 < (l1.length : Int) := of_decide_eq_true (by first|(with_reducible assumption)|assumption)
        obtain ⟨ad260,e260,hx260_0⟩ := Kd.at_int HR1.out x5_1 p260 q260
        cases e260
        replace p260 := eq_true p260
        replace q260 := eq_true q260
        go_wp2
        repeat (go_quiet (fail);try go_wp2)
        go_ret
        exact ⟨by first|rfl|(simp;done)|(simp [*];done),by repeat (first|exact Drawn0.refl _|apply Drawn0.step)⟩
      ·rw [if_neg c6] at H
       exact absurd H (by simp)
     ·rw [if_neg c5] at H
      exact absurd H (by simp)
    ·rw [if_neg c4] at H
     have c4b0 : decide (x5_1 < (l0.length : Int)) = false := decide_eq_false c4
     clear c4
     obtain rfl := Option.some.inj H
     go_wp2
     repeat (go_quiet (fail);try go_wp2)
     go_ret
     exact ⟨by first|rfl|(simp;done)|(simp [*];done),by repeat (first|exact Drawn0.refl _|apply Drawn0.step)⟩
 ·rw [if_neg c3] at H
  have c3b0 : ((l0.length : Int) == (l1.length : Int)) = false := beq_eq_false_iff_ne.mpr c3
  have c3b1 : ((l0.length : Int) != (l1.length : Int)) = true := bne_iff_ne.mpr c3
  have c3b2 : (l0.length == l1.length) = false := by first|simpa using c3|(simp at c3 ⊢;omega)
  obtain rfl := Option.some.inj H
  go_enter Try.func18,Try.ntmps18
  go_wp2
  repeat (go_quiet (fail);try go_wp2)
  go_ret
  exact ⟨by first|rfl|(simp;done)|(simp [*];done),by repeat (first|exact Drawn0.refl _|apply Drawn0.step)⟩
def privitylaw43_four.f  : Option (Int × Int × Int) := some (31,4,1)
set_option maxHeartbeats 8000000 in
set_option maxRecDepth 100000 in
theorem privitylaw43_four.calls  (r1 : Int) (r2 : Int) (r3 : Int) (w : World) (h : privitylaw43_four.f  = some (r1,r2,r3)) :
  Calls Try.prog 41 #[] w fun e w' => e = .returned (.agg #[.int .u64 r1,.int .i64 r2,.int .i64 r3]) ∧ Below w.heap.size w w' := by
 have hu24 := Try.underlying24
 have HB := Aside0.mk (Below.refl w.heap.size w)
 have H : (some (31,4,1)) = some (r1,r2,r3) := h
 clear h
 simp only [Option.some.injEq,Prod.mk.injEq] at H
 obtain ⟨rfl,rfl,rfl⟩ := H
 go_enter Try.func41,Try.ntmps41
 go_wp2_with (first|((with_reducible refine gate_dst (N := 0) rfl ?_);refine box_event ?hg (N := 0) ?hd (cs := #[.int .u64 0,.int .i64 0,.int .i64 0]) (t := 24) ?hr ?_;(case hd => rfl);(case hg => rfl);(case hr => first|(go_simp;done)|(go_simp;rfl));intro gb261 hg w1 hbox hb;have n0_ := Aside0.mk (below_step (bb HB) hb);have n1_ := Aside0.mk (hbox);have n2_ := Aside0.mk ((by rw [hg];exact (below_size (bb HB)) : w.heap.size ≤ gb261));have n3_ := Aside0.mk ((by rw [hg];exact (below_size (bb HB)) : w.heap.size ≤ gb261));clear HB;have HB := n0_;have BK261 := n1_;have GW261 := n2_;have GE261 := n3_;clear n0_ n1_ n2_ n3_;clear hb hbox hg;have hcz2_0 := bc BK261 0;have hcz2_1 := bc BK261 1;have hcz2_2 := bc BK261 2;have hfz2_0 := blk_frozen BK261.out 0;have hfz2_1 := blk_frozen BK261.out 1;have hfz2_2 := blk_frozen BK261.out 2))
 refine bodyPost_ret (results_cell_row rfl _ _ gb261 24 #[.int .u64 31,.int .i64 4,.int .i64 1] (0,0) _ rfl (by (with_reducible repeat (first|refine blk_drewN ?_ _|refine blk_drew ?_|refine blk_alloc ?_ _));refine blk_put (cs := #[.int .u64 31,.int .i64 4,.int .i64 0]) ?_ 2 _ rfl;(with_reducible repeat (first|refine blk_drewN ?_ _|refine blk_drew ?_|refine blk_alloc ?_ _));refine blk_put (cs := #[.int .u64 31,.int .i64 0,.int .i64 0]) ?_ 1 _ rfl;(with_reducible repeat (first|refine blk_drewN ?_ _|refine blk_drew ?_|refine blk_alloc ?_ _));refine blk_put (cs := #[.int .u64 0,.int .i64 0,.int .i64 0]) ?_ 0 _ rfl;(with_reducible repeat (first|refine blk_drewN ?_ _|refine blk_drew ?_|refine blk_alloc ?_ _));exact BK261.out) Try.underlying24 rfl (by kernel_rfl)) rfl ?_
 exact ⟨by first|rfl|(simp [errW_none,errW_some] <;> rfl)|(simp [*,errW_none,errW_some] <;> rfl),by repeat (first|(with_reducible first|exact HB.out|apply below_alloc|apply pw_below_drewN|apply below_drew1|refine below_set ?_ GE261.out)|exact HB.out)⟩
def privitylaw43_awake.f (k : Nat)  : Option (Bool) := (privitylaw43_four.f).bind fun bt262 => ((tapeshift_Sharing.f k bt262.1 bt262.2.1 bt262.2.2 (([3] : List Int)) 2 (([5,2] : List Int)) (([3] : List Int))).bind fun bt274 => ((privitylaw43_four.f).bind fun bt280 => ((tapeshift_Sharing.f k bt280.1 bt280.2.1 bt280.2.2 (([3] : List Int)) 29 (([7,22] : List Int)) (([17] : List Int))).bind fun bt292 => ((privityref14_Words.f k bt274.1 (([7,22] : List Int))).bind fun t301 => (if t301 = true then ((privityref14_Words.f k bt274.2 (([17] : List Int))).bind fun t305 => (if t305 = true then ((privityref14_Words.f k bt292.1 (([5,2] : List Int))).bind fun t309 => (if t309 = true then ((privityref14_Words.f k bt292.2 (([3] : List Int))).bind fun t313 => (some t313)) else (some false))) else (some false))) else (some false))))))
theorem privitylaw43_awake.mono : ∀ k,LeO (privitylaw43_awake.f k ) (privitylaw43_awake.f (k + 1) ) := by
 intro  k
 unfold privitylaw43_awake.f
 repeat' first
   | (with_reducible exact privityref14_Words.mono _ _ _)
   | (with_reducible exact tapeshift_Sharing.mono _ _ _ _ _ _ _ _)
   | (with_reducible exact LeO.refl _)
   | (with_reducible exact LeO.none _)
   | (with_reducible refine LeO.ite ?_ ?_)
   | (with_reducible refine LeO.bind ?_ (fun _ => ?_))
   | exact privityref14_Words.mono _ _ _
   | exact tapeshift_Sharing.mono _ _ _ _ _ _ _ _
   | exact LeO.none _
   | refine LeO.ite ?_ ?_
   | refine LeO.bind ?_ (fun _ => ?_)
theorem privitylaw43_awake.more (k : Nat) : ∀ d,LeO (privitylaw43_awake.f k) (privitylaw43_awake.f (k + d))
 | 0 => fun r h => h
 | d + 1 => fun r h => privitylaw43_awake.mono (k + d) r (privitylaw43_awake.more k d r h)
theorem privitylaw43_awake.is : privitylaw43_awake.f 60 = some true := by kernel_rfl
theorem privitylaw43_awake.one (k : Nat) (r : Bool) (h : privitylaw43_awake.f k = some r) : r = true := by
 have h1 := privitylaw43_awake.more k 60 r h
 have h2 := privitylaw43_awake.more 60 k true privitylaw43_awake.is
 rw [Nat.add_comm,h1] at h2
 exact Option.some.inj h2
set_option maxHeartbeats 8000000 in
set_option maxRecDepth 100000 in
theorem privitylaw43_awake.calls (k : Nat)  (r : Bool) (w : World) (h : privitylaw43_awake.f k  = some r) :
  Calls Try.prog 13 #[] w fun e w' => e = .returned (.bool r) ∧ Below w.heap.size w w' := by
 have HR1 := Aside0.mk (privitylaw43_awake.one k r h)
 have HB := Aside0.mk (Below.refl w.heap.size w)
 have H : ((privitylaw43_four.f).bind fun bt262 => ((tapeshift_Sharing.f k bt262.1 bt262.2.1 bt262.2.2 (([3] : List Int)) 2 (([5,2] : List Int)) (([3] : List Int))).bind fun bt274 => ((privitylaw43_four.f).bind fun bt280 => ((tapeshift_Sharing.f k bt280.1 bt280.2.1 bt280.2.2 (([3] : List Int)) 29 (([7,22] : List Int)) (([17] : List Int))).bind fun bt292 => ((privityref14_Words.f k bt274.1 (([7,22] : List Int))).bind fun t301 => (if t301 = true then ((privityref14_Words.f k bt274.2 (([17] : List Int))).bind fun t305 => (if t305 = true then ((privityref14_Words.f k bt292.1 (([5,2] : List Int))).bind fun t309 => (if t309 = true then ((privityref14_Words.f k bt292.2 (([3] : List Int))).bind fun t313 => (some t313)) else (some false))) else (some false))) else (some false))))))) = some r := h
 clear h
 replace H := Option.bind_eq_some_iff.mp H
 obtain ⟨⟨t262,t263,t264⟩,A10,H⟩ := H
 try dsimp only at H
 have A1 := Aside0.mk A10
 clear A10
 obtain ⟨y265,hy265⟩ : ∃ y_ : List Int,y_ = (([3] : List Int)) := ⟨_,rfl⟩
 replace H : ((tapeshift_Sharing.f k t262 t263 t264 y265 2 (([5,2] : List Int)) (([3] : List Int))).bind fun bt274 => ((privitylaw43_four.f).bind fun bt280 => ((tapeshift_Sharing.f k bt280.1 bt280.2.1 bt280.2.2 (([3] : List Int)) 29 (([7,22] : List Int)) (([17] : List Int))).bind fun bt292 => ((privityref14_Words.f k bt274.1 (([7,22] : List Int))).bind fun t301 => (if t301 = true then ((privityref14_Words.f k bt274.2 (([17] : List Int))).bind fun t305 => (if t305 = true then ((privityref14_Words.f k bt292.1 (([5,2] : List Int))).bind fun t309 => (if t309 = true then ((privityref14_Words.f k bt292.2 (([3] : List Int))).bind fun t313 => (some t313)) else (some false))) else (some false))) else (some false)))))) = some r := by first|(rw [hy265];with_reducible exact H)|(have H2_ := (Option.bind_some _ _).symm.trans H;rw [hy265];with_reducible exact H2_)|(have H2_ := (Option.bind_some _ _).symm.trans H;with_reducible exact H2_)|with_reducible exact H|(rw [hy265];exact H)|exact H
 have Ny265 := Aside0.mk hy265
 clear hy265
 obtain ⟨y268,hy268⟩ : ∃ y_ : List Int,y_ = (([5,2] : List Int)) := ⟨_,rfl⟩
 replace H : ((tapeshift_Sharing.f k t262 t263 t264 y265 2 y268 (([3] : List Int))).bind fun bt274 => ((privitylaw43_four.f).bind fun bt280 => ((tapeshift_Sharing.f k bt280.1 bt280.2.1 bt280.2.2 (([3] : List Int)) 29 (([7,22] : List Int)) (([17] : List Int))).bind fun bt292 => ((privityref14_Words.f k bt274.1 (([7,22] : List Int))).bind fun t301 => (if t301 = true then ((privityref14_Words.f k bt274.2 (([17] : List Int))).bind fun t305 => (if t305 = true then ((privityref14_Words.f k bt292.1 (([5,2] : List Int))).bind fun t309 => (if t309 = true then ((privityref14_Words.f k bt292.2 (([3] : List Int))).bind fun t313 => (some t313)) else (some false))) else (some false))) else (some false)))))) = some r := by first|(rw [hy268];with_reducible exact H)|(have H2_ := (Option.bind_some _ _).symm.trans H;rw [hy268];with_reducible exact H2_)|(have H2_ := (Option.bind_some _ _).symm.trans H;with_reducible exact H2_)|with_reducible exact H|(rw [hy268];exact H)|exact H
 have Ny268 := Aside0.mk hy268
 clear hy268
 obtain ⟨y271,hy271⟩ : ∃ y_ : List Int,y_ = (([3] : List Int)) := ⟨_,rfl⟩
 replace H : ((tapeshift_Sharing.f k t262 t263 t264 y265 2 y268 y271).bind fun bt274 => ((privitylaw43_four.f).bind fun bt280 => ((tapeshift_Sharing.f k bt280.1 bt280.2.1 bt280.2.2 (([3] : List Int)) 29 (([7,22] : List Int)) (([17] : List Int))).bind fun bt292 => ((privityref14_Words.f k bt274.1 (([7,22] : List Int))).bind fun t301 => (if t301 = true then ((privityref14_Words.f k bt274.2 (([17] : List Int))).bind fun t305 => (if t305 = true then ((privityref14_Words.f k bt292.1 (([5,2] : List Int))).bind fun t309 => (if t309 = true then ((privityref14_Words.f k bt292.2 (([3] : List Int))).bind fun t313 => (some t313)) else (some false))) else (some false))) else (some false)))))) = some r := by first|(rw [hy271];with_reducible exact H)|(have H2_ := (Option.bind_some _ _).symm.trans H;rw [hy271];with_reducible exact H2_)|(have H2_ := (Option.bind_some _ _).symm.trans H;with_reducible exact H2_)|with_reducible exact H|(rw [hy271];exact H)|exact H
 have Ny271 := Aside0.mk hy271
 clear hy271
 replace H := Option.bind_eq_some_iff.mp H
 obtain ⟨⟨t274,t277⟩,A20,H⟩ := H
 try dsimp only at H
 have A2 := Aside0.mk A20
 clear A20
 replace H := Option.bind_eq_some_iff.mp H
 obtain ⟨⟨t280,t281,t282⟩,A30,H⟩ := H
 try dsimp only at H
 have A3 := Aside0.mk A30
 clear A30
 obtain ⟨y283,hy283⟩ : ∃ y_ : List Int,y_ = (([3] : List Int)) := ⟨_,rfl⟩
 replace H : ((tapeshift_Sharing.f k t280 t281 t282 y283 29 (([7,22] : List Int)) (([17] : List Int))).bind fun bt292 => ((privityref14_Words.f k t274 (([7,22] : List Int))).bind fun t301 => (if t301 = true then ((privityref14_Words.f k t277 (([17] : List Int))).bind fun t305 => (if t305 = true then ((privityref14_Words.f k bt292.1 (([5,2] : List Int))).bind fun t309 => (if t309 = true then ((privityref14_Words.f k bt292.2 (([3] : List Int))).bind fun t313 => (some t313)) else (some false))) else (some false))) else (some false)))) = some r := by first|(rw [hy283];with_reducible exact H)|(have H2_ := (Option.bind_some _ _).symm.trans H;rw [hy283];with_reducible exact H2_)|(have H2_ := (Option.bind_some _ _).symm.trans H;with_reducible exact H2_)|with_reducible exact H|(rw [hy283];exact H)|exact H
 have Ny283 := Aside0.mk hy283
 clear hy283
 obtain ⟨y286,hy286⟩ : ∃ y_ : List Int,y_ = (([7,22] : List Int)) := ⟨_,rfl⟩
 replace H : ((tapeshift_Sharing.f k t280 t281 t282 y283 29 y286 (([17] : List Int))).bind fun bt292 => ((privityref14_Words.f k t274 (([7,22] : List Int))).bind fun t301 => (if t301 = true then ((privityref14_Words.f k t277 (([17] : List Int))).bind fun t305 => (if t305 = true then ((privityref14_Words.f k bt292.1 (([5,2] : List Int))).bind fun t309 => (if t309 = true then ((privityref14_Words.f k bt292.2 (([3] : List Int))).bind fun t313 => (some t313)) else (some false))) else (some false))) else (some false)))) = some r := by first|(rw [hy286];with_reducible exact H)|(have H2_ := (Option.bind_some _ _).symm.trans H;rw [hy286];with_reducible exact H2_)|(have H2_ := (Option.bind_some _ _).symm.trans H;with_reducible exact H2_)|with_reducible exact H|(rw [hy286];exact H)|exact H
 have Ny286 := Aside0.mk hy286
 clear hy286
 obtain ⟨y289,hy289⟩ : ∃ y_ : List Int,y_ = (([17] : List Int)) := ⟨_,rfl⟩
 replace H : ((tapeshift_Sharing.f k t280 t281 t282 y283 29 y286 y289).bind fun bt292 => ((privityref14_Words.f k t274 (([7,22] : List Int))).bind fun t301 => (if t301 = true then ((privityref14_Words.f k t277 (([17] : List Int))).bind fun t305 => (if t305 = true then ((privityref14_Words.f k bt292.1 (([5,2] : List Int))).bind fun t309 => (if t309 = true then ((privityref14_Words.f k bt292.2 (([3] : List Int))).bind fun t313 => (some t313)) else (some false))) else (some false))) else (some false)))) = some r := by first|(rw [hy289];with_reducible exact H)|(have H2_ := (Option.bind_some _ _).symm.trans H;rw [hy289];with_reducible exact H2_)|(have H2_ := (Option.bind_some _ _).symm.trans H;with_reducible exact H2_)|with_reducible exact H|(rw [hy289];exact H)|exact H
 have Ny289 := Aside0.mk hy289
 clear hy289
 replace H := Option.bind_eq_some_iff.mp H
 obtain ⟨⟨t292,t295⟩,A40,H⟩ := H
 try dsimp only at H
 have A4 := Aside0.mk A40
 clear A40
 obtain ⟨y298,hy298⟩ : ∃ y_ : List Int,y_ = (([7,22] : List Int)) := ⟨_,rfl⟩
 replace H : ((privityref14_Words.f k t274 y298).bind fun t301 => (if t301 = true then ((privityref14_Words.f k t277 (([17] : List Int))).bind fun t305 => (if t305 = true then ((privityref14_Words.f k t292 (([5,2] : List Int))).bind fun t309 => (if t309 = true then ((privityref14_Words.f k t295 (([3] : List Int))).bind fun t313 => (some t313)) else (some false))) else (some false))) else (some false))) = some r := by first|(rw [hy298];with_reducible exact H)|(have H2_ := (Option.bind_some _ _).symm.trans H;rw [hy298];with_reducible exact H2_)|(have H2_ := (Option.bind_some _ _).symm.trans H;with_reducible exact H2_)|with_reducible exact H|(rw [hy298];exact H)|exact H
 have Ny298 := Aside0.mk hy298
 clear hy298
 replace H := Option.bind_eq_some_iff.mp H
 obtain ⟨t301,A50,H⟩ := H
 try dsimp only at H
 have A5 := Aside0.mk A50
 clear A50
 by_cases c6 : t301 = true
 ·subst c6
  rw [if_pos rfl] at H
  obtain ⟨y302,hy302⟩ : ∃ y_ : List Int,y_ = (([17] : List Int)) := ⟨_,rfl⟩
  replace H : ((privityref14_Words.f k t277 y302).bind fun t305 => (if t305 = true then ((privityref14_Words.f k t292 (([5,2] : List Int))).bind fun t309 => (if t309 = true then ((privityref14_Words.f k t295 (([3] : List Int))).bind fun t313 => (some t313)) else (some false))) else (some false))) = some r := by first|(rw [hy302];with_reducible exact H)|(have H2_ := (Option.bind_some _ _).symm.trans H;rw [hy302];with_reducible exact H2_)|(have H2_ := (Option.bind_some _ _).symm.trans H;with_reducible exact H2_)|with_reducible exact H|(rw [hy302];exact H)|exact H
  have Ny302 := Aside0.mk hy302
  clear hy302
  replace H := Option.bind_eq_some_iff.mp H
  obtain ⟨t305,A70,H⟩ := H
  try dsimp only at H
  have A7 := Aside0.mk A70
  clear A70
  by_cases c8 : t305 = true
  ·subst c8
   rw [if_pos rfl] at H
   obtain ⟨y306,hy306⟩ : ∃ y_ : List Int,y_ = (([5,2] : List Int)) := ⟨_,rfl⟩
   replace H : ((privityref14_Words.f k t292 y306).bind fun t309 => (if t309 = true then ((privityref14_Words.f k t295 (([3] : List Int))).bind fun t313 => (some t313)) else (some false))) = some r := by first|(rw [hy306];with_reducible exact H)|(have H2_ := (Option.bind_some _ _).symm.trans H;rw [hy306];with_reducible exact H2_)|(have H2_ := (Option.bind_some _ _).symm.trans H;with_reducible exact H2_)|with_reducible exact H|(rw [hy306];exact H)|exact H
   have Ny306 := Aside0.mk hy306
   clear hy306
   replace H := Option.bind_eq_some_iff.mp H
   obtain ⟨t309,A90,H⟩ := H
   try dsimp only at H
   have A9 := Aside0.mk A90
   clear A90
   by_cases c10 : t309 = true
   ·subst c10
    rw [if_pos rfl] at H
    obtain ⟨y310,hy310⟩ : ∃ y_ : List Int,y_ = (([3] : List Int)) := ⟨_,rfl⟩
    replace H : ((privityref14_Words.f k t295 y310).bind fun t313 => (some t313)) = some r := by first|(rw [hy310];with_reducible exact H)|(have H2_ := (Option.bind_some _ _).symm.trans H;rw [hy310];with_reducible exact H2_)|(have H2_ := (Option.bind_some _ _).symm.trans H;with_reducible exact H2_)|with_reducible exact H|(rw [hy310];exact H)|exact H
    have Ny310 := Aside0.mk hy310
    clear hy310
    replace H := Option.bind_eq_some_iff.mp H
    obtain ⟨t313,A110,H⟩ := H
    try dsimp only at H
    have A11 := Aside0.mk A110
    clear A110
    obtain rfl := Option.some.inj H
    go_enter Try.func13,Try.ntmps13
    go_wp2_with (first|((with_reducible refine gate_callee (f := 41) rfl ?_);refine goesL_ (some 6) rfl rfl Try.func41 (by kernel_rfl) rfl #[] rfl (by (try simp only [List.map_toArray,List.map_cons,List.map_nil]);first|done|rfl|(simp only [List.length_drop,List.length_take];rfl)) ?_;(with_reducible refine (privitylaw43_four.calls  t262 t263 t264 _ A1.out).mono ?_);rintro e w12 ⟨rfl,hb⟩;refine ⟨_,rfl,?_⟩;have n0_ := Aside0.mk (below_step (bb HB) hb);clear HB;have HB := n0_;clear n0_;(try clear hb);(try clear hb2);(try clear hk);(try clear hi))|((with_reducible refine gate_dst (N := 7) rfl ?_);(try (refine gate_guard (by rfl) ?_;dsimp only));refine Kd.R_lit (Kd.int .i64) _ 3 ?hg (N := 7) ?hd (xs := ([3] : List Int)) (inner := [.int .i64 3]) (ok := fun _ => True) (okp := fun _ => True) ?hr ?hp (fun _ hk => hk) trivial (Below.refl _ _) (Nat.le_refl _) (by simp) ?_;(case hd => rfl);(case hg => rfl);(case hr => first|(go_simp;done)|(go_simp;rfl));(case hp => exact (Reps.one (show Kd.M (Kd.int .i64) _ _ _ 3 [.int .i64 3] from rfl) (Reps.none _ _)));intro v266 w13 ho14 hb hg_ hnew_;clear hg_ hnew_;(first|rw [← Ny265.out] at ho14|(simp only [Int.reduceToNat] at ho14;rw [← Ny265.out] at ho14));have n0_ := Aside0.mk (Kd.R_lower ho14 (below_size (bb HB)));have n1_ := Aside0.mk (below_step (bb HB) hb);clear HB;have HO267 := n0_;have HB := n1_;clear n0_ n1_;clear hb ho14)|((with_reducible refine gate_dst (N := 8) rfl ?_);(try (refine gate_guard (by rfl) ?_;dsimp only));refine Kd.R_lit (Kd.int .u64) _ 22 ?hg (N := 8) ?hd (xs := ([5,2] : List Int)) (inner := [.int .u64 5,.int .u64 2]) (ok := fun _ => True) (okp := fun _ => True) ?hr ?hp (fun _ hk => hk) trivial (Below.refl _ _) (Nat.le_refl _) (by simp) ?_;(case hd => rfl);(case hg => rfl);(case hr => first|(go_simp;done)|(go_simp;rfl));(case hp => exact (Reps.one (show Kd.M (Kd.int .u64) _ _ _ 5 [.int .u64 5] from rfl) (Reps.one (show Kd.M (Kd.int .u64) _ _ _ 2 [.int .u64 2] from rfl) (Reps.none _ _))));intro v269 w15 ho16 hb hg_ hnew_;clear hg_ hnew_;(first|rw [← Ny268.out] at ho16|(simp only [Int.reduceToNat] at ho16;rw [← Ny268.out] at ho16));have n0_ := Aside0.mk (Kd.R_below (rr HO267) hb);have n1_ := Aside0.mk (Kd.R_lower ho16 (below_size (bb HB)));have n2_ := Aside0.mk (below_step (bb HB) hb);clear HO267 HB;have HO267 := n0_;have HO270 := n1_;have HB := n2_;clear n0_ n1_ n2_;clear hb ho16)|((with_reducible refine gate_dst (N := 9) rfl ?_);(try (refine gate_guard (by rfl) ?_;dsimp only));refine Kd.R_lit (Kd.int .u64) _ 22 ?hg (N := 9) ?hd (xs := ([3] : List Int)) (inner := [.int .u64 3]) (ok := fun _ => True) (okp := fun _ => True) ?hr ?hp (fun _ hk => hk) trivial (Below.refl _ _) (Nat.le_refl _) (by simp) ?_;(case hd => rfl);(case hg => rfl);(case hr => first|(go_simp;done)|(go_simp;rfl));(case hp => exact (Reps.one (show Kd.M (Kd.int .u64) _ _ _ 3 [.int .u64 3] from rfl) (Reps.none _ _)));intro v272 w17 ho18 hb hg_ hnew_;clear hg_ hnew_;(first|rw [← Ny271.out] at ho18|(simp only [Int.reduceToNat] at ho18;rw [← Ny271.out] at ho18));have n0_ := Aside0.mk (Kd.R_below (rr HO267) hb);have n1_ := Aside0.mk (Kd.R_elder' (rr HO270) (Kd.R_base ho18) hb);have n2_ := Aside0.mk (Kd.R_lower (Kd.R_new' ho18 (Kd.R_lt (rr HO270))) (below_size (bb HB)));have n3_ := Aside0.mk (below_step (bb HB) hb);clear HO267 HO270 HB;have HO267 := n0_;have HO270 := n1_;have HO273 := n2_;have HB := n3_;clear n0_ n1_ n2_ n3_;clear hb ho18;obtain ⟨Ao19,co19,eo19⟩ := Kd.R_slice HO267.out;subst eo19;obtain ⟨Ao20,co20,eo20⟩ := Kd.R_slice HO270.out;subst eo20;obtain ⟨Ao21,co21,eo21⟩ := Kd.R_slice HO273.out;subst eo21)|((with_reducible refine gate_callee (f := 15) rfl ?_);refine goesL_ (some 10) rfl rfl Try.func15 (by kernel_rfl) rfl #[.agg #[.int .u64 t262,.int .i64 t263,.int .i64 t264],.slice Ao19 y265.length co19,.int .u64 2,.slice Ao20 y268.length co20,.slice Ao21 y271.length co21] rfl (by (try simp only [List.map_toArray,List.map_cons,List.map_nil]);first|done|rfl|(simp only [List.length_drop,List.length_take];rfl)) ?_;(with_reducible refine (tapeshift_Sharing.calls k t262 t263 t264 _ _ y265 2 _ _ y268 _ _ y271 t274 t277 _ ?side1 ?side2 ?side3 ?side4 ?side5 ?side6 A2.out).mono ?_);(case side1 => exact cr HO267);(case side2 => exact (Kd.R_reads' HO267.out).2.1);(case side3 => exact cr HO270);(case side4 => exact (Kd.R_reads' HO270.out).2.1);(case side5 => exact cr HO273);(case side6 => exact (Kd.R_reads' HO273.out).2.1);rintro e w22 ⟨v275,v278,rfl,ho0,ho1,hb⟩;refine ⟨_,rfl,?_⟩;have n0_ := Aside0.mk (Kd.R_below (rr HO267) hb);have n1_ := Aside0.mk (Kd.R_mono (Kd.R_told (Kd.R_told (Kd.R_old (rr HO270) hb) (Kd.R_base ho0)) (Kd.R_base ho1)) (fun _ h_ => h_.1));have n2_ := Aside0.mk (Kd.R_mono (Kd.R_told (Kd.R_told (Kd.R_old (rr HO273) hb) (Kd.R_base ho0)) (Kd.R_base ho1)) (fun _ h_ => h_.1));have n3_ := Aside0.mk (Kd.R_lower (Kd.R_new' (Kd.R_new' ho0 (Kd.R_lt (rr HO270))) (Kd.R_lt (rr HO273))) (below_size (bb HB)));have n4_ := Aside0.mk (Kd.R_lower (Kd.R_new' (Kd.R_new' ho1 (Kd.R_lt (rr HO270))) (Kd.R_lt (rr HO273))) (below_size (bb HB)));have n5_ := Aside0.mk (below_step (bb HB) hb);clear HO267 HO270 HO273 HB;have HO267 := n0_;have HO270 := n1_;have HO273 := n2_;have HO276 := n3_;have HO279 := n4_;have HB := n5_;clear n0_ n1_ n2_ n3_ n4_ n5_;(try clear hb);(try clear hb2);(try clear hk);(try clear hi);(try clear ho0);(try clear ho1))|((with_reducible refine gate_callee (f := 41) rfl ?_);refine goesL_ (some 14) rfl rfl Try.func41 (by kernel_rfl) rfl #[] rfl (by (try simp only [List.map_toArray,List.map_cons,List.map_nil]);first|done|rfl|(simp only [List.length_drop,List.length_take];rfl)) ?_;(with_reducible refine (privitylaw43_four.calls  t280 t281 t282 _ A3.out).mono ?_);rintro e w23 ⟨rfl,hb⟩;refine ⟨_,rfl,?_⟩;have n0_ := Aside0.mk (Kd.R_below (rr HO267) hb);have n1_ := Aside0.mk (Kd.R_below (rr HO270) hb);have n2_ := Aside0.mk (Kd.R_below (rr HO273) hb);have n3_ := Aside0.mk (Kd.R_below (rr HO276) hb);have n4_ := Aside0.mk (Kd.R_below (rr HO279) hb);have n5_ := Aside0.mk (below_step (bb HB) hb);clear HO267 HO270 HO273 HO276 HO279 HB;have HO267 := n0_;have HO270 := n1_;have HO273 := n2_;have HO276 := n3_;have HO279 := n4_;have HB := n5_;clear n0_ n1_ n2_ n3_ n4_ n5_;(try clear hb);(try clear hb2);(try clear hk);(try clear hi))|((with_reducible refine gate_dst (N := 15) rfl ?_);(try (refine gate_guard (by rfl) ?_;dsimp only));refine Kd.R_lit (Kd.int .i64) _ 3 ?hg (N := 15) ?hd (xs := ([3] : List Int)) (inner := [.int .i64 3]) (ok := fun _ => True) (okp := fun _ => True) ?hr ?hp (fun _ hk => hk) trivial (Below.refl _ _) (Nat.le_refl _) (by simp) ?_;(case hd => rfl);(case hg => rfl);(case hr => first|(go_simp;done)|(go_simp;rfl));(case hp => exact (Reps.one (show Kd.M (Kd.int .i64) _ _ _ 3 [.int .i64 3] from rfl) (Reps.none _ _)));intro v284 w24 ho25 hb hg_ hnew_;clear hg_ hnew_;(first|rw [← Ny283.out] at ho25|(simp only [Int.reduceToNat] at ho25;rw [← Ny283.out] at ho25));have n0_ := Aside0.mk (Kd.R_elder' (rr HO267) (Kd.R_base ho25) hb);have n1_ := Aside0.mk (Kd.R_below (rr HO270) hb);have n2_ := Aside0.mk (Kd.R_below (rr HO273) hb);have n3_ := Aside0.mk (Kd.R_below (rr HO276) hb);have n4_ := Aside0.mk (Kd.R_below (rr HO279) hb);have n5_ := Aside0.mk (Kd.R_lower (Kd.R_new' ho25 (Kd.R_lt (rr HO267))) (below_size (bb HB)));have n6_ := Aside0.mk (below_step (bb HB) hb);clear HO267 HO270 HO273 HO276 HO279 HB;have HO267 := n0_;have HO270 := n1_;have HO273 := n2_;have HO276 := n3_;have HO279 := n4_;have HO285 := n5_;have HB := n6_;clear n0_ n1_ n2_ n3_ n4_ n5_ n6_;clear hb ho25)|((with_reducible refine gate_dst (N := 16) rfl ?_);(try (refine gate_guard (by rfl) ?_;dsimp only));refine Kd.R_lit (Kd.int .u64) _ 22 ?hg (N := 16) ?hd (xs := ([7,22] : List Int)) (inner := [.int .u64 7,.int .u64 22]) (ok := fun _ => True) (okp := fun _ => True) ?hr ?hp (fun _ hk => hk) trivial (Below.refl _ _) (Nat.le_refl _) (by simp) ?_;(case hd => rfl);(case hg => rfl);(case hr => first|(go_simp;done)|(go_simp;rfl));(case hp => exact (Reps.one (show Kd.M (Kd.int .u64) _ _ _ 7 [.int .u64 7] from rfl) (Reps.one (show Kd.M (Kd.int .u64) _ _ _ 22 [.int .u64 22] from rfl) (Reps.none _ _))));intro v287 w26 ho27 hb hg_ hnew_;clear hg_ hnew_;(first|rw [← Ny286.out] at ho27|(simp only [Int.reduceToNat] at ho27;rw [← Ny286.out] at ho27));have n0_ := Aside0.mk (Kd.R_below (rr HO267) hb);have n1_ := Aside0.mk (Kd.R_elder' (rr HO270) (Kd.R_base ho27) hb);have n2_ := Aside0.mk (Kd.R_elder' (rr HO273) (Kd.R_base ho27) hb);have n3_ := Aside0.mk (Kd.R_elder' (rr HO276) (Kd.R_base ho27) hb);have n4_ := Aside0.mk (Kd.R_elder' (rr HO279) (Kd.R_base ho27) hb);have n5_ := Aside0.mk (Kd.R_below (rr HO285) hb);have n6_ := Aside0.mk (Kd.R_lower (Kd.R_new' (Kd.R_new' (Kd.R_new' (Kd.R_new' ho27 (Kd.R_lt (rr HO270))) (Kd.R_lt (rr HO273))) (Kd.R_lt (rr HO276))) (Kd.R_lt (rr HO279))) (below_size (bb HB)));have n7_ := Aside0.mk (below_step (bb HB) hb);clear HO267 HO270 HO273 HO276 HO279 HO285 HB;have HO267 := n0_;have HO270 := n1_;have HO273 := n2_;have HO276 := n3_;have HO279 := n4_;have HO285 := n5_;have HO288 := n6_;have HB := n7_;clear n0_ n1_ n2_ n3_ n4_ n5_ n6_ n7_;clear hb ho27)|((with_reducible refine gate_dst (N := 17) rfl ?_);(try (refine gate_guard (by rfl) ?_;dsimp only));refine Kd.R_lit (Kd.int .u64) _ 22 ?hg (N := 17) ?hd (xs := ([17] : List Int)) (inner := [.int .u64 17]) (ok := fun _ => True) (okp := fun _ => True) ?hr ?hp (fun _ hk => hk) trivial (Below.refl _ _) (Nat.le_refl _) (by simp) ?_;(case hd => rfl);(case hg => rfl);(case hr => first|(go_simp;done)|(go_simp;rfl));(case hp => exact (Reps.one (show Kd.M (Kd.int .u64) _ _ _ 17 [.int .u64 17] from rfl) (Reps.none _ _)));intro v290 w28 ho29 hb hg_ hnew_;clear hg_ hnew_;(first|rw [← Ny289.out] at ho29|(simp only [Int.reduceToNat] at ho29;rw [← Ny289.out] at ho29));have n0_ := Aside0.mk (Kd.R_below (rr HO267) hb);have n1_ := Aside0.mk (Kd.R_elder' (rr HO270) (Kd.R_base ho29) hb);have n2_ := Aside0.mk (Kd.R_elder' (rr HO273) (Kd.R_base ho29) hb);have n3_ := Aside0.mk (Kd.R_elder' (rr HO276) (Kd.R_base ho29) hb);have n4_ := Aside0.mk (Kd.R_elder' (rr HO279) (Kd.R_base ho29) hb);have n5_ := Aside0.mk (Kd.R_below (rr HO285) hb);have n6_ := Aside0.mk (Kd.R_elder' (rr HO288) (Kd.R_base ho29) hb);have n7_ := Aside0.mk (Kd.R_lower (Kd.R_new' (Kd.R_new' (Kd.R_new' (Kd.R_new' (Kd.R_new' ho29 (Kd.R_lt (rr HO270))) (Kd.R_lt (rr HO273))) (Kd.R_lt (rr HO276))) (Kd.R_lt (rr HO279))) (Kd.R_lt (rr HO288))) (below_size (bb HB)));have n8_ := Aside0.mk (below_step (bb HB) hb);clear HO267 HO270 HO273 HO276 HO279 HO285 HO288 HB;have HO267 := n0_;have HO270 := n1_;have HO273 := n2_;have HO276 := n3_;have HO279 := n4_;have HO285 := n5_;have HO288 := n6_;have HO291 := n7_;have HB := n8_;clear n0_ n1_ n2_ n3_ n4_ n5_ n6_ n7_ n8_;clear hb ho29;obtain ⟨Ao30,co30,eo30⟩ := Kd.R_slice HO285.out;subst eo30;obtain ⟨Ao31,co31,eo31⟩ := Kd.R_slice HO288.out;subst eo31;obtain ⟨Ao32,co32,eo32⟩ := Kd.R_slice HO291.out;subst eo32)|((with_reducible refine gate_callee (f := 15) rfl ?_);refine goesL_ (some 18) rfl rfl Try.func15 (by kernel_rfl) rfl #[.agg #[.int .u64 t280,.int .i64 t281,.int .i64 t282],.slice Ao30 y283.length co30,.int .u64 29,.slice Ao31 y286.length co31,.slice Ao32 y289.length co32] rfl (by (try simp only [List.map_toArray,List.map_cons,List.map_nil]);first|done|rfl|(simp only [List.length_drop,List.length_take];rfl)) ?_;(with_reducible refine (tapeshift_Sharing.calls k t280 t281 t282 _ _ y283 29 _ _ y286 _ _ y289 t292 t295 _ ?side1 ?side2 ?side3 ?side4 ?side5 ?side6 A4.out).mono ?_);(case side1 => exact cr HO285);(case side2 => exact (Kd.R_reads' HO285.out).2.1);(case side3 => exact cr HO288);(case side4 => exact (Kd.R_reads' HO288.out).2.1);(case side5 => exact cr HO291);(case side6 => exact (Kd.R_reads' HO291.out).2.1);rintro e w33 ⟨v293,v296,rfl,ho0,ho1,hb⟩;refine ⟨_,rfl,?_⟩;have n0_ := Aside0.mk (Kd.R_below (rr HO267) hb);have n1_ := Aside0.mk (Kd.R_mono (Kd.R_told (Kd.R_told (Kd.R_old (rr HO270) hb) (Kd.R_base ho0)) (Kd.R_base ho1)) (fun _ h_ => h_.1));have n2_ := Aside0.mk (Kd.R_mono (Kd.R_told (Kd.R_told (Kd.R_old (rr HO273) hb) (Kd.R_base ho0)) (Kd.R_base ho1)) (fun _ h_ => h_.1));have n3_ := Aside0.mk (Kd.R_mono (Kd.R_told (Kd.R_told (Kd.R_old (rr HO276) hb) (Kd.R_base ho0)) (Kd.R_base ho1)) (fun _ h_ => h_.1));have n4_ := Aside0.mk (Kd.R_mono (Kd.R_told (Kd.R_told (Kd.R_old (rr HO279) hb) (Kd.R_base ho0)) (Kd.R_base ho1)) (fun _ h_ => h_.1));have n5_ := Aside0.mk (Kd.R_below (rr HO285) hb);have n6_ := Aside0.mk (Kd.R_mono (Kd.R_told (Kd.R_told (Kd.R_old (rr HO288) hb) (Kd.R_base ho0)) (Kd.R_base ho1)) (fun _ h_ => h_.1));have n7_ := Aside0.mk (Kd.R_mono (Kd.R_told (Kd.R_told (Kd.R_old (rr HO291) hb) (Kd.R_base ho0)) (Kd.R_base ho1)) (fun _ h_ => h_.1));have n8_ := Aside0.mk (Kd.R_lower (Kd.R_new' (Kd.R_new' (Kd.R_new' (Kd.R_new' (Kd.R_new' (Kd.R_new' ho0 (Kd.R_lt (rr HO270))) (Kd.R_lt (rr HO273))) (Kd.R_lt (rr HO276))) (Kd.R_lt (rr HO279))) (Kd.R_lt (rr HO288))) (Kd.R_lt (rr HO291))) (below_size (bb HB)));have n9_ := Aside0.mk (Kd.R_lower (Kd.R_new' (Kd.R_new' (Kd.R_new' (Kd.R_new' (Kd.R_new' (Kd.R_new' ho1 (Kd.R_lt (rr HO270))) (Kd.R_lt (rr HO273))) (Kd.R_lt (rr HO276))) (Kd.R_lt (rr HO279))) (Kd.R_lt (rr HO288))) (Kd.R_lt (rr HO291))) (below_size (bb HB)));have n10_ := Aside0.mk (below_step (bb HB) hb);clear HO267 HO270 HO273 HO276 HO279 HO285 HO288 HO291 HB;have HO267 := n0_;have HO270 := n1_;have HO273 := n2_;have HO276 := n3_;have HO279 := n4_;have HO285 := n5_;have HO288 := n6_;have HO291 := n7_;have HO294 := n8_;have HO297 := n9_;have HB := n10_;clear n0_ n1_ n2_ n3_ n4_ n5_ n6_ n7_ n8_ n9_ n10_;(try clear hb);(try clear hb2);(try clear hk);(try clear hi);(try clear ho0);(try clear ho1))|((with_reducible refine gate_dst (N := 22) rfl ?_);(try (refine gate_guard (by rfl) ?_;dsimp only));refine Kd.R_lit (Kd.int .u64) _ 22 ?hg (N := 22) ?hd (xs := ([7,22] : List Int)) (inner := [.int .u64 7,.int .u64 22]) (ok := fun _ => True) (okp := fun _ => True) ?hr ?hp (fun _ hk => hk) trivial (Below.refl _ _) (Nat.le_refl _) (by simp) ?_;(case hd => rfl);(case hg => rfl);(case hr => first|(go_simp;done)|(go_simp;rfl));(case hp => exact (Reps.one (show Kd.M (Kd.int .u64) _ _ _ 7 [.int .u64 7] from rfl) (Reps.one (show Kd.M (Kd.int .u64) _ _ _ 22 [.int .u64 22] from rfl) (Reps.none _ _))));intro v299 w34 ho35 hb hg_ hnew_;clear hg_ hnew_;(first|rw [← Ny298.out] at ho35|(simp only [Int.reduceToNat] at ho35;rw [← Ny298.out] at ho35));have n0_ := Aside0.mk (Kd.R_below (rr HO267) hb);have n1_ := Aside0.mk (Kd.R_elder' (rr HO270) (Kd.R_base ho35) hb);have n2_ := Aside0.mk (Kd.R_elder' (rr HO273) (Kd.R_base ho35) hb);have n3_ := Aside0.mk (Kd.R_elder' (rr HO276) (Kd.R_base ho35) hb);have n4_ := Aside0.mk (Kd.R_elder' (rr HO279) (Kd.R_base ho35) hb);have n5_ := Aside0.mk (Kd.R_below (rr HO285) hb);have n6_ := Aside0.mk (Kd.R_elder' (rr HO288) (Kd.R_base ho35) hb);have n7_ := Aside0.mk (Kd.R_elder' (rr HO291) (Kd.R_base ho35) hb);have n8_ := Aside0.mk (Kd.R_elder' (rr HO294) (Kd.R_base ho35) hb);have n9_ := Aside0.mk (Kd.R_elder' (rr HO297) (Kd.R_base ho35) hb);have n10_ := Aside0.mk (Kd.R_lower (Kd.R_new' (Kd.R_new' (Kd.R_new' (Kd.R_new' (Kd.R_new' (Kd.R_new' (Kd.R_new' (Kd.R_new' ho35 (Kd.R_lt (rr HO270))) (Kd.R_lt (rr HO273))) (Kd.R_lt (rr HO276))) (Kd.R_lt (rr HO279))) (Kd.R_lt (rr HO288))) (Kd.R_lt (rr HO291))) (Kd.R_lt (rr HO294))) (Kd.R_lt (rr HO297))) (below_size (bb HB)));have n11_ := Aside0.mk (below_step (bb HB) hb);clear HO267 HO270 HO273 HO276 HO279 HO285 HO288 HO291 HO294 HO297 HB;have HO267 := n0_;have HO270 := n1_;have HO273 := n2_;have HO276 := n3_;have HO279 := n4_;have HO285 := n5_;have HO288 := n6_;have HO291 := n7_;have HO294 := n8_;have HO297 := n9_;have HO300 := n10_;have HB := n11_;clear n0_ n1_ n2_ n3_ n4_ n5_ n6_ n7_ n8_ n9_ n10_ n11_;clear hb ho35;obtain ⟨Ao36,co36,eo36⟩ := Kd.R_slice HO276.out;subst eo36;obtain ⟨Ao37,co37,eo37⟩ := Kd.R_slice HO300.out;subst eo37)|((with_reducible refine gate_callee (f := 18) rfl ?_);refine goesL_ (some 23) rfl rfl Try.func18 (by kernel_rfl) rfl #[.slice Ao36 t274.length co36,.slice Ao37 y298.length co37] rfl (by (try simp only [List.map_toArray,List.map_cons,List.map_nil]);first|done|rfl|(simp only [List.length_drop,List.length_take];rfl)) ?_;(with_reducible refine (privityref14_Words.calls k _ _ t274 _ _ y298 true _ ?side1 ?side2 ?side3 ?side4 A5.out).mono ?_);(case side1 => exact cr HO276);(case side2 => exact (Kd.R_reads' HO276.out).2.1);(case side3 => exact cr HO300);(case side4 => exact (Kd.R_reads' HO300.out).2.1);rintro e w' ⟨rfl,⟨nd,rfl⟩⟩;refine ⟨_,rfl,?_⟩)|((with_reducible refine gate_dst (N := 26) rfl ?_);(try (refine gate_guard (by rfl) ?_;dsimp only));refine Kd.R_lit (Kd.int .u64) _ 22 ?hg (N := 26) ?hd (xs := ([17] : List Int)) (inner := [.int .u64 17]) (ok := fun _ => True) (okp := fun _ => True) ?hr ?hp (fun _ hk => hk) trivial (Below.refl _ _) (Nat.le_refl _) (by simp) ?_;(case hd => rfl);(case hg => rfl);(case hr => first|(go_simp;done)|(go_simp;rfl));(case hp => exact (Reps.one (show Kd.M (Kd.int .u64) _ _ _ 17 [.int .u64 17] from rfl) (Reps.none _ _)));intro v303 w38 ho39 hb hg_ hnew_;clear hg_ hnew_;(first|rw [← Ny302.out] at ho39|(simp only [Int.reduceToNat] at ho39;rw [← Ny302.out] at ho39));have n0_ := Aside0.mk (Kd.R_below (rr HO267) hb);have n1_ := Aside0.mk (Kd.R_elder' (rr HO270) (Kd.R_base ho39) hb);have n2_ := Aside0.mk (Kd.R_elder' (rr HO273) (Kd.R_base ho39) hb);have n3_ := Aside0.mk (Kd.R_elder' (rr HO276) (Kd.R_base ho39) hb);have n4_ := Aside0.mk (Kd.R_elder' (rr HO279) (Kd.R_base ho39) hb);have n5_ := Aside0.mk (Kd.R_below (rr HO285) hb);have n6_ := Aside0.mk (Kd.R_elder' (rr HO288) (Kd.R_base ho39) hb);have n7_ := Aside0.mk (Kd.R_elder' (rr HO291) (Kd.R_base ho39) hb);have n8_ := Aside0.mk (Kd.R_elder' (rr HO294) (Kd.R_base ho39) hb);have n9_ := Aside0.mk (Kd.R_elder' (rr HO297) (Kd.R_base ho39) hb);have n10_ := Aside0.mk (Kd.R_elder' (rr HO300) (Kd.R_base ho39) hb);have n11_ := Aside0.mk (Kd.R_lower (Kd.R_new' (Kd.R_new' (Kd.R_new' (Kd.R_new' (Kd.R_new' (Kd.R_new' (Kd.R_new' (Kd.R_new' (Kd.R_new' ho39 (Kd.R_lt (rr HO270))) (Kd.R_lt (rr HO273))) (Kd.R_lt (rr HO276))) (Kd.R_lt (rr HO279))) (Kd.R_lt (rr HO288))) (Kd.R_lt (rr HO291))) (Kd.R_lt (rr HO294))) (Kd.R_lt (rr HO297))) (Kd.R_lt (rr HO300))) (below_size (bb HB)));have n12_ := Aside0.mk (below_step (bb HB) hb);clear HO267 HO270 HO273 HO276 HO279 HO285 HO288 HO291 HO294 HO297 HO300 HB;have HO267 := n0_;have HO270 := n1_;have HO273 := n2_;have HO276 := n3_;have HO279 := n4_;have HO285 := n5_;have HO288 := n6_;have HO291 := n7_;have HO294 := n8_;have HO297 := n9_;have HO300 := n10_;have HO304 := n11_;have HB := n12_;clear n0_ n1_ n2_ n3_ n4_ n5_ n6_ n7_ n8_ n9_ n10_ n11_ n12_;clear hb ho39;obtain ⟨Ao40,co40,eo40⟩ := Kd.R_slice HO279.out;subst eo40;obtain ⟨Ao41,co41,eo41⟩ := Kd.R_slice HO304.out;subst eo41)|(go_at_call 18;(with_reducible refine (privityref14_Words.calls k _ _ t277 _ _ y302 true _ ?side1 ?side2 ?side3 ?side4 A7.out).mono ?_);(case side1 => exact cr HO279);(case side2 => exact (Kd.R_reads' HO279.out).2.1);(case side3 => exact cr HO304);(case side4 => exact (Kd.R_reads' HO304.out).2.1);rintro e w' ⟨rfl,⟨nd,rfl⟩⟩)|((with_reducible refine gate_dst (N := 31) rfl ?_);(try (refine gate_guard (by rfl) ?_;dsimp only));refine Kd.R_lit (Kd.int .u64) _ 22 ?hg (N := 31) ?hd (xs := ([5,2] : List Int)) (inner := [.int .u64 5,.int .u64 2]) (ok := fun _ => True) (okp := fun _ => True) ?hr ?hp (fun _ hk => hk) trivial (Below.refl _ _) (Nat.le_refl _) (by simp) ?_;(case hd => rfl);(case hg => rfl);(case hr => first|(go_simp;done)|(go_simp;rfl));(case hp => exact (Reps.one (show Kd.M (Kd.int .u64) _ _ _ 5 [.int .u64 5] from rfl) (Reps.one (show Kd.M (Kd.int .u64) _ _ _ 2 [.int .u64 2] from rfl) (Reps.none _ _))));intro v307 w42 ho43 hb hg_ hnew_;clear hg_ hnew_;(first|rw [← Ny306.out] at ho43|(simp only [Int.reduceToNat] at ho43;rw [← Ny306.out] at ho43));have n0_ := Aside0.mk (Kd.R_below (rr HO267) hb);have n1_ := Aside0.mk (Kd.R_elder' (rr HO270) (Kd.R_base ho43) hb);have n2_ := Aside0.mk (Kd.R_elder' (rr HO273) (Kd.R_base ho43) hb);have n3_ := Aside0.mk (Kd.R_elder' (rr HO276) (Kd.R_base ho43) hb);have n4_ := Aside0.mk (Kd.R_elder' (rr HO279) (Kd.R_base ho43) hb);have n5_ := Aside0.mk (Kd.R_below (rr HO285) hb);have n6_ := Aside0.mk (Kd.R_elder' (rr HO288) (Kd.R_base ho43) hb);have n7_ := Aside0.mk (Kd.R_elder' (rr HO291) (Kd.R_base ho43) hb);have n8_ := Aside0.mk (Kd.R_elder' (rr HO294) (Kd.R_base ho43) hb);have n9_ := Aside0.mk (Kd.R_elder' (rr HO297) (Kd.R_base ho43) hb);have n10_ := Aside0.mk (Kd.R_elder' (rr HO300) (Kd.R_base ho43) hb);have n11_ := Aside0.mk (Kd.R_elder' (rr HO304) (Kd.R_base ho43) hb);have n12_ := Aside0.mk (Kd.R_lower (Kd.R_new' (Kd.R_new' (Kd.R_new' (Kd.R_new' (Kd.R_new' (Kd.R_new' (Kd.R_new' (Kd.R_new' (Kd.R_new' (Kd.R_new' ho43 (Kd.R_lt (rr HO270))) (Kd.R_lt (rr HO273))) (Kd.R_lt (rr HO276))) (Kd.R_lt (rr HO279))) (Kd.R_lt (rr HO288))) (Kd.R_lt (rr HO291))) (Kd.R_lt (rr HO294))) (Kd.R_lt (rr HO297))) (Kd.R_lt (rr HO300))) (Kd.R_lt (rr HO304))) (below_size (bb HB)));have n13_ := Aside0.mk (below_step (bb HB) hb);clear HO267 HO270 HO273 HO276 HO279 HO285 HO288 HO291 HO294 HO297 HO300 HO304 HB;have HO267 := n0_;have HO270 := n1_;have HO273 := n2_;have HO276 := n3_;have HO279 := n4_;have HO285 := n5_;have HO288 := n6_;have HO291 := n7_;have HO294 := n8_;have HO297 := n9_;have HO300 := n10_;have HO304 := n11_;have HO308 := n12_;have HB := n13_;clear n0_ n1_ n2_ n3_ n4_ n5_ n6_ n7_ n8_ n9_ n10_ n11_ n12_ n13_;clear hb ho43;obtain ⟨Ao44,co44,eo44⟩ := Kd.R_slice HO294.out;subst eo44;obtain ⟨Ao45,co45,eo45⟩ := Kd.R_slice HO308.out;subst eo45)|(go_at_call 18;(with_reducible refine (privityref14_Words.calls k _ _ t292 _ _ y306 true _ ?side1 ?side2 ?side3 ?side4 A9.out).mono ?_);(case side1 => exact cr HO294);(case side2 => exact (Kd.R_reads' HO294.out).2.1);(case side3 => exact cr HO308);(case side4 => exact (Kd.R_reads' HO308.out).2.1);rintro e w' ⟨rfl,⟨nd,rfl⟩⟩)|((with_reducible refine gate_dst (N := 36) rfl ?_);(try (refine gate_guard (by rfl) ?_;dsimp only));refine Kd.R_lit (Kd.int .u64) _ 22 ?hg (N := 36) ?hd (xs := ([3] : List Int)) (inner := [.int .u64 3]) (ok := fun _ => True) (okp := fun _ => True) ?hr ?hp (fun _ hk => hk) trivial (Below.refl _ _) (Nat.le_refl _) (by simp) ?_;(case hd => rfl);(case hg => rfl);(case hr => first|(go_simp;done)|(go_simp;rfl));(case hp => exact (Reps.one (show Kd.M (Kd.int .u64) _ _ _ 3 [.int .u64 3] from rfl) (Reps.none _ _)));intro v311 w46 ho47 hb hg_ hnew_;clear hg_ hnew_;(first|rw [← Ny310.out] at ho47|(simp only [Int.reduceToNat] at ho47;rw [← Ny310.out] at ho47));have n0_ := Aside0.mk (Kd.R_below (rr HO267) hb);have n1_ := Aside0.mk (Kd.R_elder' (rr HO270) (Kd.R_base ho47) hb);have n2_ := Aside0.mk (Kd.R_elder' (rr HO273) (Kd.R_base ho47) hb);have n3_ := Aside0.mk (Kd.R_elder' (rr HO276) (Kd.R_base ho47) hb);have n4_ := Aside0.mk (Kd.R_elder' (rr HO279) (Kd.R_base ho47) hb);have n5_ := Aside0.mk (Kd.R_below (rr HO285) hb);have n6_ := Aside0.mk (Kd.R_elder' (rr HO288) (Kd.R_base ho47) hb);have n7_ := Aside0.mk (Kd.R_elder' (rr HO291) (Kd.R_base ho47) hb);have n8_ := Aside0.mk (Kd.R_elder' (rr HO294) (Kd.R_base ho47) hb);have n9_ := Aside0.mk (Kd.R_elder' (rr HO297) (Kd.R_base ho47) hb);have n10_ := Aside0.mk (Kd.R_elder' (rr HO300) (Kd.R_base ho47) hb);have n11_ := Aside0.mk (Kd.R_elder' (rr HO304) (Kd.R_base ho47) hb);have n12_ := Aside0.mk (Kd.R_elder' (rr HO308) (Kd.R_base ho47) hb);have n13_ := Aside0.mk (Kd.R_lower (Kd.R_new' (Kd.R_new' (Kd.R_new' (Kd.R_new' (Kd.R_new' (Kd.R_new' (Kd.R_new' (Kd.R_new' (Kd.R_new' (Kd.R_new' (Kd.R_new' ho47 (Kd.R_lt (rr HO270))) (Kd.R_lt (rr HO273))) (Kd.R_lt (rr HO276))) (Kd.R_lt (rr HO279))) (Kd.R_lt (rr HO288))) (Kd.R_lt (rr HO291))) (Kd.R_lt (rr HO294))) (Kd.R_lt (rr HO297))) (Kd.R_lt (rr HO300))) (Kd.R_lt (rr HO304))) (Kd.R_lt (rr HO308))) (below_size (bb HB)));have n14_ := Aside0.mk (below_step (bb HB) hb);clear HO267 HO270 HO273 HO276 HO279 HO285 HO288 HO291 HO294 HO297 HO300 HO304 HO308 HB;have HO267 := n0_;have HO270 := n1_;have HO273 := n2_;have HO276 := n3_;have HO279 := n4_;have HO285 := n5_;have HO288 := n6_;have HO291 := n7_;have HO294 := n8_;have HO297 := n9_;have HO300 := n10_;have HO304 := n11_;have HO308 := n12_;have HO312 := n13_;have HB := n14_;clear n0_ n1_ n2_ n3_ n4_ n5_ n6_ n7_ n8_ n9_ n10_ n11_ n12_ n13_ n14_;clear hb ho47;obtain ⟨Ao48,co48,eo48⟩ := Kd.R_slice HO297.out;subst eo48;obtain ⟨Ao49,co49,eo49⟩ := Kd.R_slice HO312.out;subst eo49)|(go_at_call 18;(with_reducible refine (privityref14_Words.calls k _ _ t295 _ _ y310 t313 _ ?side1 ?side2 ?side3 ?side4 A11.out).mono ?_);(case side1 => exact cr HO297);(case side2 => exact (Kd.R_reads' HO297.out).2.1);(case side3 => exact cr HO312);(case side4 => exact (Kd.R_reads' HO312.out).2.1);rintro e w' ⟨rfl,⟨nd,rfl⟩⟩))
    go_ret
    exact ⟨by first|rfl|(simp [errW_none,errW_some] <;> rfl)|(simp [*,errW_none,errW_some] <;> rfl),by repeat (first|(with_reducible first|exact HB.out|apply below_alloc|apply pw_below_drewN|apply below_drew1)|exact HB.out)⟩
   ·replace c10 := Bool.eq_false_iff.mpr c10
    subst c10
    rw [if_neg (show ¬ (false = true) by decide)] at H
    exact absurd (Option.some.inj H) (by rw [HR1.out];simp)
  ·replace c8 := Bool.eq_false_iff.mpr c8
   subst c8
   rw [if_neg (show ¬ (false = true) by decide)] at H
   exact absurd (Option.some.inj H) (by rw [HR1.out];simp)
 ·replace c6 := Bool.eq_false_iff.mpr c6
  subst c6
  rw [if_neg (show ¬ (false = true) by decide)] at H
  exact absurd (Option.some.inj H) (by rw [HR1.out];simp)
def privitylaw43_cut.l0 : Nat → Int → Int → List Int → Int → Int → Int → Int → List Int → Int → Int → List Int → Option (List Int)
 | 0,_,_,_,_,_,_,_,_,_,_,_ => none
 | k + 1,x1,x2,x7,x8,x315000,x315001,x315002,x315003,x315004,x315005,x315006 => if x8 < (wrap64 (x1 + x2)) then (if x8 < (x315006.length : Int) then (if 0 ≤ x8 then (if x315000 = 0 then (none) else (if x7.length < 17592186044416 then (privitylaw43_cut.l0 k x1 x2 (x7 ++ [Int.tmod (rd x315006 x8) x315000]) (wrap64 (x8 + 1)) x315000 x315001 x315002 x315003 x315004 x315005 x315006) else (none))) else (none)) else (if x7.length < 17592186044416 then (privitylaw43_cut.l0 k x1 x2 (x7 ++ [0]) (wrap64 (x8 + 1)) x315000 x315001 x315002 x315003 x315004 x315005 x315006) else (none))) else (some x7)
def privitylaw43_cut.f (k : Nat) (a0_0 : Int) (a0_1 : Int) (a0_2 : Int) (l0_3 : List Int) (a0_4 : Int) (a0_5 : Int) (l0_6 : List Int) (a1 : Int) (a2 : Int) : Option (List Int) := privitylaw43_cut.l0 k a1 a2 ([] : List Int) a1 a0_0 a0_1 a0_2 l0_3 a0_4 a0_5 l0_6
set_option maxHeartbeats 8000000 in
set_option maxRecDepth 100000 in
theorem privitylaw43_cut.calls (k : Nat) (a0_0 : Int) (a0_1 : Int) (a0_2 : Int) (A0_3 : Option Addr) (c0_3 : Nat) (l0_3 : List Int) (a0_4 : Int) (a0_5 : Int) (A0_6 : Option Addr) (c0_6 : Nat) (l0_6 : List Int) (a1 : Int) (a2 : Int) (r : List Int) (w : World) (hr0_3 : Kd.C (Kd.int .i64) w A0_3 l0_3.length l0_3) (hc0_3 : l0_3.length ≤ c0_3) (hr0_6 : Kd.C (Kd.int .u64) w A0_6 l0_6.length l0_6) (hc0_6 : l0_6.length ≤ c0_6) (h : privitylaw43_cut.f k a0_0 a0_1 a0_2 l0_3 a0_4 a0_5 l0_6 a1 a2 = some r) :
  Calls Try.prog 42 #[.agg #[.int .u64 a0_0,.int .i64 a0_1,.int .i64 a0_2,.slice A0_3 l0_3.length c0_3,.int .u64 a0_4,.int .u64 a0_5,.slice A0_6 l0_6.length c0_6],.int .i64 a1,.int .i64 a2] w fun e w' => ∃ v0_ : Value,e = .returned (v0_) ∧ Kd.R (Kd.int .u64) 22 w' w.heap.size (fun _ => True) v0_ r ∧ Below w.heap.size w w' := by
 have hu28 := Try.underlying28
 have HR0_3 := Aside0.mk hr0_3
 have HC0_3 := Aside0.mk hc0_3
 clear hr0_3 hc0_3
 have HR0_6 := Aside0.mk hr0_6
 have HC0_6 := Aside0.mk hc0_6
 clear hr0_6 hc0_6
 have HB := Aside0.mk (Below.refl w.heap.size w)
 have H : (privitylaw43_cut.l0 k a1 a2 ([] : List Int) a1 a0_0 a0_1 a0_2 l0_3 a0_4 a0_5 l0_6) = some r := h
 clear h
 have H' := Aside0.mk H
 clear H
 go_enter Try.func42,Try.ntmps42
 go_wp2_with (first|((with_reducible refine gate_dst (N := 3) rfl ?_);refine box_event ?hg (N := 3) ?hd (cs := #[.int .u64 a0_0,.int .i64 a0_1,.int .i64 a0_2,.slice A0_3 l0_3.length c0_3,.int .u64 a0_4,.int .u64 a0_5,.slice A0_6 l0_6.length c0_6]) (t := 28) ?hr ?_;(case hd => rfl);(case hg => rfl);(case hr => first|(go_simp;done)|(go_simp;rfl));intro gb314 hg w4 hbox hb;have n0_ := Aside0.mk (below_step (bb HB) hb);have n1_ := Aside0.mk (hbox);have n2_ := Aside0.mk ((by rw [hg];exact (below_size (bb HB)) : w.heap.size ≤ gb314));have n3_ := Aside0.mk ((by rw [hg];exact (below_size (bb HB)) : w.heap.size ≤ gb314));clear HB;have HB := n0_;have BK314 := n1_;have GW314 := n2_;have GE314 := n3_;clear n0_ n1_ n2_ n3_;clear hb hbox hg))
 repeat (go_quiet (first|((with_reducible refine gate_dst (N := 3) rfl ?_);refine box_event ?hg (N := 3) ?hd (cs := #[.int .u64 a0_0,.int .i64 a0_1,.int .i64 a0_2,.slice A0_3 l0_3.length c0_3,.int .u64 a0_4,.int .u64 a0_5,.slice A0_6 l0_6.length c0_6]) (t := 28) ?hr ?_;(case hd => rfl);(case hg => rfl);(case hr => first|(go_simp;done)|(go_simp;rfl));intro gb314 hg w4 hbox hb;have n0_ := Aside0.mk (below_step (bb HB) hb);have n1_ := Aside0.mk (hbox);have n2_ := Aside0.mk ((by rw [hg];exact (below_size (bb HB)) : w.heap.size ≤ gb314));have n3_ := Aside0.mk ((by rw [hg];exact (below_size (bb HB)) : w.heap.size ≤ gb314));clear HB;have HB := n0_;have BK314 := n1_;have GW314 := n2_;have GE314 := n3_;clear n0_ n1_ n2_ n3_;clear hb hbox hg));try go_wp2_with (first|((with_reducible refine gate_dst (N := 3) rfl ?_);refine box_event ?hg (N := 3) ?hd (cs := #[.int .u64 a0_0,.int .i64 a0_1,.int .i64 a0_2,.slice A0_3 l0_3.length c0_3,.int .u64 a0_4,.int .u64 a0_5,.slice A0_6 l0_6.length c0_6]) (t := 28) ?hr ?_;(case hd => rfl);(case hg => rfl);(case hr => first|(go_simp;done)|(go_simp;rfl));intro gb314 hg w4 hbox hb;have n0_ := Aside0.mk (below_step (bb HB) hb);have n1_ := Aside0.mk (hbox);have n2_ := Aside0.mk ((by rw [hg];exact (below_size (bb HB)) : w.heap.size ≤ gb314));have n3_ := Aside0.mk ((by rw [hg];exact (below_size (bb HB)) : w.heap.size ≤ gb314));clear HB;have HB := n0_;have BK314 := n1_;have GW314 := n2_;have GE314 := n3_;clear n0_ n1_ n2_ n3_;clear hb hbox hg)))
 go_loopg [7,8] k (fun kq v7 v8 w' => ∃ (x7_1 : List Int) (x8_1 : Int),v8 = .int .i64 x8_1 ∧ Aside0 (privitylaw43_cut.l0 kq a1 a2 x7_1 x8_1 a0_0 a0_1 a0_2 l0_3 a0_4 a0_5 l0_6 = some r) ∧ Aside0 (kq ≤ k) ∧ Aside0 (Kd.R (Kd.int .u64) 22 w' w.heap.size (fun _ => True) v7 x7_1) ∧ Aside0 (w'.heap[gb314]? = some (.cells #[.int .u64 a0_0,.int .i64 a0_1,.int .i64 a0_2,(.slice A0_3 l0_3.length c0_3),.int .u64 a0_4,.int .u64 a0_5,(.slice A0_6 l0_6.length c0_6)] 28 (0,0))) ∧ Aside0 (Below w.heap.size w w'))
 case atStart => exact ⟨(([] : List Int)),(a1),(by first|rfl|(simp;done)|(simp [*];done)),H',⟨Nat.le_refl _⟩,⟨by first|exact Kd.R_nil _ _ _ _ _|exact Kd.N_nil _ _ _ _ _|exact Kd.V_nil _ _ _ _ _|exact Kd.Q_nil _ _ _ _ _|exact Kd.S_nil _ _ _ _ _⟩,⟨by (with_reducible repeat (first|refine blk_drewN ?_ _|refine blk_drew ?_|refine blk_alloc ?_ _));exact BK314.out⟩,⟨by repeat (first|(with_reducible first|exact HB.out|apply below_alloc|apply pw_below_drewN|apply below_drew1|refine below_set ?_ GE314.out)|exact HB.out)⟩⟩
 case round =>
  clear H'
  try clear p2
  try clear c4
  obtain ⟨x7_1,x8_1,rfl,HA,HK1,HO_7,BK314,HB⟩ := hrel
  cases gk with
  | zero => exact absurd HA.out (by simp [privitylaw43_cut.l0])
  | succ k1 =>
   have H := HA.out
   clear HA
   simp only [privitylaw43_cut.l0] at H
   by_cases c5 : x8_1 < (wrap64 (a1 + a2))
   ·rw [if_pos c5] at H
    have c5b0 : decide (x8_1 < (wrap64 (a1 + a2))) = true := decide_eq_true c5
    clear c5
    by_cases c6 : x8_1 < (l0_6.length : Int)
    ·rw [if_pos c6] at H
     have c6b0 : decide (x8_1 < (l0_6.length : Int)) = true := decide_eq_true c6
     clear c6
     by_cases c7 : 0 ≤ x8_1
     ·rw [if_pos c7] at H
      have c7b0 : decide (0 ≤ x8_1) = true := decide_eq_true c7
      clear c7
      by_cases c8 : a0_0 = 0
      ·rw [if_pos c8] at H
       exact absurd H (by simp)
      ·rw [if_neg c8] at H
       have c8b0 : (a0_0 == 0) = false := beq_eq_false_iff_ne.mpr c8
       have c8b1 : (a0_0 != 0) = true := bne_iff_ne.mpr c8
       by_cases c9 : x7_1.length < 17592186044416
       ·rw [if_pos c9] at H
        have LMc9 := Aside0.mk c9
        clear c9
        obtain ⟨y316,hy316⟩ : ∃ y_ : List Int,y_ = (x7_1 ++ [Int.tmod (rd l0_6 x8_1) a0_0]) := ⟨_,rfl⟩
        replace H : (privitylaw43_cut.l0 k1 a1 a2 y316 (wrap64 (x8_1 + 1)) a0_0 a0_1 a0_2 l0_3 a0_4 a0_5 l0_6) = some r := by first|(rw [hy316];with_reducible exact H)|(have H2_ := (Option.bind_some _ _).symm.trans H;rw [hy316];with_reducible exact H2_)|(have H2_ := (Option.bind_some _ _).symm.trans H;with_reducible exact H2_)|with_reducible exact H|(rw [hy316];exact H)|exact H
        have Ny316 := Aside0.mk hy316
        clear hy316
        have H' := Aside0.mk H
        clear H
        have hcz10_0 := bc BK314 0
        have hcz10_1 := bc BK314 1
        have hcz10_2 := bc BK314 2
        have hcz10_3 := bc BK314 3
        have hcz10_4 := bc BK314 4
        have hcz10_5 := bc BK314 5
        have hcz10_6 := bc BK314 6
        have hfz10_0 := blk_frozen BK314.out 0
        have hfz10_1 := blk_frozen BK314.out 1
        have hfz10_2 := blk_frozen BK314.out 2
        have hfz10_3 := blk_frozen BK314.out 3
        have hfz10_4 := blk_frozen BK314.out 4
        have hfz10_5 := blk_frozen BK314.out 5
        have hfz10_6 := blk_frozen BK314.out 6
        have p315 : 0 ≤ (x8_1 : Int) := of_decide_eq_true (by first|(with_reducible assumption)|assumption)
        have q315 : x8_1 < (l0_6.length : Int) := of_decide_eq_true (by first|(with_reducible assumption)|assumption)
        obtain ⟨ad315,e315,hx315_0⟩ := Kd.at_int HR0_6.out x8_1 p315 q315
        cases e315
        replace hx315_0 := (HB.out.cell (World.block_lt_of_cell? w _ hx315_0)).trans hx315_0
        replace p315 := eq_true p315
        replace q315 := eq_true q315
        go_wp2_with (first|((with_reducible refine gate_builtin (b := .append) (xs := #[.tmp 32,.tmp 34]) rfl ?_);at_builtin;refine Kd.R_append (Kd.int .u64) (w0 := w) w.heap.size rfl (.tmp 32) (.tmp 34) 26 22 (.int .u64 0) 8 rfl Try.underlying26 info22 rfl (by decide) (by omega) u7 x7_1 (Int.tmod (rd l0_6 x8_1) a0_0) [.int .u64 (Int.tmod (rd l0_6 x8_1) a0_0)] (fun _ => True) (fun _ => False) rfl rfl ?aP (fun _ hk => hk.elim) ?aF ?aO ?aB ?aS ?aL ?_;(case aP => exact rfl);(case aB => exact (bg HB GE314));(case aF => exact (fun _ _ => trivial));(case aO => exact (rr HO_7));(case aS => exact (below_size (bg HB GE314)));(case aL => have := LMc9.out;omega);intro v317 w11 ho hb hg hat;rw [← Ny316.out] at ho;have n0_ := Aside0.mk (blk_grown (g := gb314) (o := .cells #[.int .u64 a0_0,.int .i64 a0_1,.int .i64 a0_2,.slice A0_3 l0_3.length c0_3,.int .u64 a0_4,.int .u64 a0_5,.slice (some ad315) l0_6.length c0_6] 28 (0,0)) (by (with_reducible repeat (first|refine blk_drewN ?_ _|refine blk_drew ?_|refine blk_alloc ?_ _));exact BK314.out) hg (Kd.R_ne HO_7.out BK314.out (by decide)));have n1_ := Aside0.mk (hb);have n2_ := Aside0.mk (ho);clear BK314 HB HO_7;have BK314 := n0_;have HB := n1_;have HO318 := n2_;clear n0_ n1_ n2_;clear ho hb hg hat))
        repeat (go_quiet (first|((with_reducible refine gate_builtin (b := .append) (xs := #[.tmp 32,.tmp 34]) rfl ?_);at_builtin;refine Kd.R_append (Kd.int .u64) (w0 := w) w.heap.size rfl (.tmp 32) (.tmp 34) 26 22 (.int .u64 0) 8 rfl Try.underlying26 info22 rfl (by decide) (by omega) u7 x7_1 (Int.tmod (rd l0_6 x8_1) a0_0) [.int .u64 (Int.tmod (rd l0_6 x8_1) a0_0)] (fun _ => True) (fun _ => False) rfl rfl ?aP (fun _ hk => hk.elim) ?aF ?aO ?aB ?aS ?aL ?_;(case aP => exact rfl);(case aB => exact (bg HB GE314));(case aF => exact (fun _ _ => trivial));(case aO => exact (rr HO_7));(case aS => exact (below_size (bg HB GE314)));(case aL => have := LMc9.out;omega);intro v317 w11 ho hb hg hat;rw [← Ny316.out] at ho;have n0_ := Aside0.mk (blk_grown (g := gb314) (o := .cells #[.int .u64 a0_0,.int .i64 a0_1,.int .i64 a0_2,.slice A0_3 l0_3.length c0_3,.int .u64 a0_4,.int .u64 a0_5,.slice (some ad315) l0_6.length c0_6] 28 (0,0)) (by (with_reducible repeat (first|refine blk_drewN ?_ _|refine blk_drew ?_|refine blk_alloc ?_ _));exact BK314.out) hg (Kd.R_ne HO_7.out BK314.out (by decide)));have n1_ := Aside0.mk (hb);have n2_ := Aside0.mk (ho);clear BK314 HB HO_7;have BK314 := n0_;have HB := n1_;have HO318 := n2_;clear n0_ n1_ n2_;clear ho hb hg hat));try go_wp2_with (first|((with_reducible refine gate_builtin (b := .append) (xs := #[.tmp 32,.tmp 34]) rfl ?_);at_builtin;refine Kd.R_append (Kd.int .u64) (w0 := w) w.heap.size rfl (.tmp 32) (.tmp 34) 26 22 (.int .u64 0) 8 rfl Try.underlying26 info22 rfl (by decide) (by omega) u7 x7_1 (Int.tmod (rd l0_6 x8_1) a0_0) [.int .u64 (Int.tmod (rd l0_6 x8_1) a0_0)] (fun _ => True) (fun _ => False) rfl rfl ?aP (fun _ hk => hk.elim) ?aF ?aO ?aB ?aS ?aL ?_;(case aP => exact rfl);(case aB => exact (bg HB GE314));(case aF => exact (fun _ _ => trivial));(case aO => exact (rr HO_7));(case aS => exact (below_size (bg HB GE314)));(case aL => have := LMc9.out;omega);intro v317 w11 ho hb hg hat;rw [← Ny316.out] at ho;have n0_ := Aside0.mk (blk_grown (g := gb314) (o := .cells #[.int .u64 a0_0,.int .i64 a0_1,.int .i64 a0_2,.slice A0_3 l0_3.length c0_3,.int .u64 a0_4,.int .u64 a0_5,.slice (some ad315) l0_6.length c0_6] 28 (0,0)) (by (with_reducible repeat (first|refine blk_drewN ?_ _|refine blk_drew ?_|refine blk_alloc ?_ _));exact BK314.out) hg (Kd.R_ne HO_7.out BK314.out (by decide)));have n1_ := Aside0.mk (hb);have n2_ := Aside0.mk (ho);clear BK314 HB HO_7;have BK314 := n0_;have HB := n1_;have HO318 := n2_;clear n0_ n1_ n2_;clear ho hb hg hat)))
        go_roundg k1
        case measure => have := HK1.out;omega
        case rel => exact ⟨(y316),(wrap64 (x8_1 + 1)),(by first|rfl|(simp;done)|(simp [*];done)),H',⟨by have := HK1.out;omega⟩,⟨by (with_reducible repeat (first|apply Kd.R_alloc|apply Kd.R_drewN|apply Kd.R_drew));exact HO318.out⟩,⟨by (with_reducible repeat (first|refine blk_drewN ?_ _|refine blk_drew ?_|refine blk_alloc ?_ _));exact BK314.out⟩,⟨by repeat (first|(with_reducible first|exact HB.out|apply below_alloc|apply pw_below_drewN|apply below_drew1|refine below_set ?_ GE314.out)|exact HB.out)⟩⟩
       ·rw [if_neg c9] at H
        exact absurd H (by simp)
     ·rw [if_neg c7] at H
      exact absurd H (by simp)
    ·rw [if_neg c6] at H
     have c6b0 : decide (x8_1 < (l0_6.length : Int)) = false := decide_eq_false c6
     clear c6
     by_cases c12 : x7_1.length < 17592186044416
     ·rw [if_pos c12] at H
      have LMc12 := Aside0.mk c12
      clear c12
      obtain ⟨y319,hy319⟩ : ∃ y_ : List Int,y_ = (x7_1 ++ [0]) := ⟨_,rfl⟩
      replace H : (privitylaw43_cut.l0 k1 a1 a2 y319 (wrap64 (x8_1 + 1)) a0_0 a0_1 a0_2 l0_3 a0_4 a0_5 l0_6) = some r := by first|(rw [hy319];with_reducible exact H)|(have H2_ := (Option.bind_some _ _).symm.trans H;rw [hy319];with_reducible exact H2_)|(have H2_ := (Option.bind_some _ _).symm.trans H;with_reducible exact H2_)|with_reducible exact H|(rw [hy319];exact H)|exact H
      have Ny319 := Aside0.mk hy319
      clear hy319
      have H' := Aside0.mk H
      clear H
      have hcz13_0 := bc BK314 0
      have hcz13_1 := bc BK314 1
      have hcz13_2 := bc BK314 2
      have hcz13_3 := bc BK314 3
      have hcz13_4 := bc BK314 4
      have hcz13_5 := bc BK314 5
      have hcz13_6 := bc BK314 6
      have hfz13_0 := blk_frozen BK314.out 0
      have hfz13_1 := blk_frozen BK314.out 1
      have hfz13_2 := blk_frozen BK314.out 2
      have hfz13_3 := blk_frozen BK314.out 3
      have hfz13_4 := blk_frozen BK314.out 4
      have hfz13_5 := blk_frozen BK314.out 5
      have hfz13_6 := blk_frozen BK314.out 6
      go_wp2_with (first|((with_reducible refine gate_builtin (b := .append) (xs := #[.tmp 32,.tmp 34]) rfl ?_);at_builtin;refine Kd.R_append (Kd.int .u64) (w0 := w) w.heap.size rfl (.tmp 32) (.tmp 34) 26 22 (.int .u64 0) 8 rfl Try.underlying26 info22 rfl (by decide) (by omega) u7 x7_1 0 [.int .u64 0] (fun _ => True) (fun _ => False) rfl rfl ?aP (fun _ hk => hk.elim) ?aF ?aO ?aB ?aS ?aL ?_;(case aP => exact rfl);(case aB => exact (bg HB GE314));(case aF => exact (fun _ _ => trivial));(case aO => exact (rr HO_7));(case aS => exact (below_size (bg HB GE314)));(case aL => have := LMc12.out;omega);intro v320 w14 ho hb hg hat;rw [← Ny319.out] at ho;have n0_ := Aside0.mk (blk_grown (g := gb314) (o := .cells #[.int .u64 a0_0,.int .i64 a0_1,.int .i64 a0_2,.slice A0_3 l0_3.length c0_3,.int .u64 a0_4,.int .u64 a0_5,.slice A0_6 l0_6.length c0_6] 28 (0,0)) (by (with_reducible repeat (first|refine blk_drewN ?_ _|refine blk_drew ?_|refine blk_alloc ?_ _));exact BK314.out) hg (Kd.R_ne HO_7.out BK314.out (by decide)));have n1_ := Aside0.mk (hb);have n2_ := Aside0.mk (ho);clear BK314 HB HO_7;have BK314 := n0_;have HB := n1_;have HO321 := n2_;clear n0_ n1_ n2_;clear ho hb hg hat))
      repeat (go_quiet (first|((with_reducible refine gate_builtin (b := .append) (xs := #[.tmp 32,.tmp 34]) rfl ?_);at_builtin;refine Kd.R_append (Kd.int .u64) (w0 := w) w.heap.size rfl (.tmp 32) (.tmp 34) 26 22 (.int .u64 0) 8 rfl Try.underlying26 info22 rfl (by decide) (by omega) u7 x7_1 0 [.int .u64 0] (fun _ => True) (fun _ => False) rfl rfl ?aP (fun _ hk => hk.elim) ?aF ?aO ?aB ?aS ?aL ?_;(case aP => exact rfl);(case aB => exact (bg HB GE314));(case aF => exact (fun _ _ => trivial));(case aO => exact (rr HO_7));(case aS => exact (below_size (bg HB GE314)));(case aL => have := LMc12.out;omega);intro v320 w14 ho hb hg hat;rw [← Ny319.out] at ho;have n0_ := Aside0.mk (blk_grown (g := gb314) (o := .cells #[.int .u64 a0_0,.int .i64 a0_1,.int .i64 a0_2,.slice A0_3 l0_3.length c0_3,.int .u64 a0_4,.int .u64 a0_5,.slice A0_6 l0_6.length c0_6] 28 (0,0)) (by (with_reducible repeat (first|refine blk_drewN ?_ _|refine blk_drew ?_|refine blk_alloc ?_ _));exact BK314.out) hg (Kd.R_ne HO_7.out BK314.out (by decide)));have n1_ := Aside0.mk (hb);have n2_ := Aside0.mk (ho);clear BK314 HB HO_7;have BK314 := n0_;have HB := n1_;have HO321 := n2_;clear n0_ n1_ n2_;clear ho hb hg hat));try go_wp2_with (first|((with_reducible refine gate_builtin (b := .append) (xs := #[.tmp 32,.tmp 34]) rfl ?_);at_builtin;refine Kd.R_append (Kd.int .u64) (w0 := w) w.heap.size rfl (.tmp 32) (.tmp 34) 26 22 (.int .u64 0) 8 rfl Try.underlying26 info22 rfl (by decide) (by omega) u7 x7_1 0 [.int .u64 0] (fun _ => True) (fun _ => False) rfl rfl ?aP (fun _ hk => hk.elim) ?aF ?aO ?aB ?aS ?aL ?_;(case aP => exact rfl);(case aB => exact (bg HB GE314));(case aF => exact (fun _ _ => trivial));(case aO => exact (rr HO_7));(case aS => exact (below_size (bg HB GE314)));(case aL => have := LMc12.out;omega);intro v320 w14 ho hb hg hat;rw [← Ny319.out] at ho;have n0_ := Aside0.mk (blk_grown (g := gb314) (o := .cells #[.int .u64 a0_0,.int .i64 a0_1,.int .i64 a0_2,.slice A0_3 l0_3.length c0_3,.int .u64 a0_4,.int .u64 a0_5,.slice A0_6 l0_6.length c0_6] 28 (0,0)) (by (with_reducible repeat (first|refine blk_drewN ?_ _|refine blk_drew ?_|refine blk_alloc ?_ _));exact BK314.out) hg (Kd.R_ne HO_7.out BK314.out (by decide)));have n1_ := Aside0.mk (hb);have n2_ := Aside0.mk (ho);clear BK314 HB HO_7;have BK314 := n0_;have HB := n1_;have HO321 := n2_;clear n0_ n1_ n2_;clear ho hb hg hat)))
      go_roundg k1
      case measure => have := HK1.out;omega
      case rel => exact ⟨(y319),(wrap64 (x8_1 + 1)),(by first|rfl|(simp;done)|(simp [*];done)),H',⟨by have := HK1.out;omega⟩,⟨by (with_reducible repeat (first|apply Kd.R_alloc|apply Kd.R_drewN|apply Kd.R_drew));exact HO321.out⟩,⟨by (with_reducible repeat (first|refine blk_drewN ?_ _|refine blk_drew ?_|refine blk_alloc ?_ _));exact BK314.out⟩,⟨by repeat (first|(with_reducible first|exact HB.out|apply below_alloc|apply pw_below_drewN|apply below_drew1|refine below_set ?_ GE314.out)|exact HB.out)⟩⟩
     ·rw [if_neg c12] at H
      exact absurd H (by simp)
   ·rw [if_neg c5] at H
    have c5b0 : decide (x8_1 < (wrap64 (a1 + a2))) = false := decide_eq_false c5
    clear c5
    obtain rfl := Option.some.inj H
    go_wp2
    repeat (go_quiet (fail);try go_wp2)
    go_ret
    exact ⟨_,by first|rfl|(simp [errW_none,errW_some] <;> rfl)|(simp [*,errW_none,errW_some] <;> rfl),by (with_reducible repeat (first|apply Kd.R_alloc|apply Kd.R_drewN|apply Kd.R_drew));exact HO_7.out,by repeat (first|(with_reducible first|exact HB.out|apply below_alloc|apply pw_below_drewN|apply below_drew1|refine below_set ?_ GE314.out)|exact HB.out)⟩
def privitylaw43_one.f (k : Nat) (a0_0 : Int) (a0_1 : Int) (a0_2 : Int) (l0_3 : List Int) (a0_4 : Int) (a0_5 : Int) (l0_6 : List Int) : Option (List Int × List Int) := (privitylaw43_cut.f k a0_0 a0_1 a0_2 l0_3 a0_4 a0_5 l0_6 0 (wrap64 (a0_2 + 1))).bind fun t323 => ((privitylaw43_cut.f k a0_0 a0_1 a0_2 l0_3 a0_4 a0_5 l0_6 (wrap64 (a0_2 + 1)) (wrap64 (Int.tdiv (wrap64 (a0_2 * (wrap64 (a0_2 + 1)))) 2))).bind fun t326 => (some (t323,t326)))
def privitylaw43_one.T2 : Bool × List (List Nat × List Nat) := (true,[([],[]),([],[]),([1],[1]),([0,2],[0,2]),([],[]),([],[]),([5],[5]),([],[]),([],[]),([8],[8]),([7,9],[7,9]),([10],[10]),([4,6,11,3],[4,6,11]),([3,12,0,1,2,3],[3]),([12,13,0,1,2,3,4,5,6,7,8,9,10,11,12,13],[12])])
def privitylaw43_one.B2 : List Nat := [0,0,2,7,0,0,32,0,0,256,896,1920,4095,8191,16383]
theorem privitylaw43_one.tab2 : rtab .any (opsOf Try.f14 2) = privitylaw43_one.T2 := by kernel_rfl
theorem privitylaw43_one.bits2 : waitsOk privitylaw43_one.T2.2 privitylaw43_one.B2 = true := by kernel_rfl
set_option maxHeartbeats 8000000 in
set_option maxRecDepth 100000 in
theorem privitylaw43_one.calls (k : Nat) (a0_0 : Int) (a0_1 : Int) (a0_2 : Int) (A0_3 : Option Addr) (c0_3 : Nat) (l0_3 : List Int) (a0_4 : Int) (a0_5 : Int) (A0_6 : Option Addr) (c0_6 : Nat) (l0_6 : List Int) (r1 : List Int) (r2 : List Int) (w : World) (hr0_3 : Kd.C (Kd.int .i64) w A0_3 l0_3.length l0_3) (hc0_3 : l0_3.length ≤ c0_3) (hr0_6 : Kd.C (Kd.int .u64) w A0_6 l0_6.length l0_6) (hc0_6 : l0_6.length ≤ c0_6) (h : privitylaw43_one.f k a0_0 a0_1 a0_2 l0_3 a0_4 a0_5 l0_6 = some (r1,r2)) :
  Calls Try.prog 14 #[.agg #[.int .u64 a0_0,.int .i64 a0_1,.int .i64 a0_2,.slice A0_3 l0_3.length c0_3,.int .u64 a0_4,.int .u64 a0_5,.slice A0_6 l0_6.length c0_6]] w fun e w' => ∃ v0_ v1_ : Value,e = .returned (.tuple #[v0_,v1_]) ∧ Kd.R (Kd.int .u64) 22 w' w.heap.size (fun k_ => some k_ ≠ (v1_ : Value).ownBlock) v0_ r1 ∧ Kd.R (Kd.int .u64) 22 w' w.heap.size (fun k_ => some k_ ≠ (v0_ : Value).ownBlock) v1_ r2 ∧ Below w.heap.size w w' := by
 have hu28 := Try.underlying28
 have HR0_3 := Aside0.mk hr0_3
 have HC0_3 := Aside0.mk hc0_3
 clear hr0_3 hc0_3
 have HR0_6 := Aside0.mk hr0_6
 have HC0_6 := Aside0.mk hc0_6
 clear hr0_6 hc0_6
 have HB := Aside0.mk (Below.refl w.heap.size w)
 have H : ((privitylaw43_cut.f k a0_0 a0_1 a0_2 l0_3 a0_4 a0_5 l0_6 0 (wrap64 (a0_2 + 1))).bind fun t323 => ((privitylaw43_cut.f k a0_0 a0_1 a0_2 l0_3 a0_4 a0_5 l0_6 (wrap64 (a0_2 + 1)) (wrap64 (Int.tdiv (wrap64 (a0_2 * (wrap64 (a0_2 + 1)))) 2))).bind fun t326 => (some (t323,t326)))) = some (r1,r2) := h
 clear h
 replace H := Option.bind_eq_some_iff.mp H
 obtain ⟨t323,A20,H⟩ := H
 try dsimp only at H
 have A2 := Aside0.mk A20
 clear A20
 replace H := Option.bind_eq_some_iff.mp H
 obtain ⟨t326,A30,H⟩ := H
 try dsimp only at H
 have A3 := Aside0.mk A30
 clear A30
 simp only [Option.some.injEq,Prod.mk.injEq] at H
 obtain ⟨rfl,rfl⟩ := H
 go_enter Try.func14,Try.ntmps14
 try go_wp2_with (first|((with_reducible refine gate_dst (N := 1) rfl ?_);refine box_event ?hg (N := 1) ?hd (cs := #[.int .u64 a0_0,.int .i64 a0_1,.int .i64 a0_2,.slice A0_3 l0_3.length c0_3,.int .u64 a0_4,.int .u64 a0_5,.slice A0_6 l0_6.length c0_6]) (t := 28) ?hr ?_;(case hd => rfl);(case hg => rfl);(case hr => first|(go_simp;done)|(go_simp;rfl));intro gb322 hg w4 hbox hb;have n0_ := Aside0.mk (below_step (bb HB) hb);have n1_ := Aside0.mk (hbox);have n2_ := Aside0.mk ((by rw [hg];exact (below_size (bb HB)) : w.heap.size ≤ gb322));have n3_ := Aside0.mk ((by rw [hg];exact (below_size (bb HB)) : w.heap.size ≤ gb322));clear HB;have HB := n0_;have BK322 := n1_;have GW322 := n2_;have GE322 := n3_;clear n0_ n1_ n2_ n3_;clear hb hbox hg;have hcz5_0 := bc BK322 0;have hcz5_1 := bc BK322 1;have hcz5_2 := bc BK322 2;have hcz5_3 := bc BK322 3;have hcz5_4 := bc BK322 4;have hcz5_5 := bc BK322 5;have hcz5_6 := bc BK322 6;have hfz5_0 := blk_frozen BK322.out 0;have hfz5_1 := blk_frozen BK322.out 1;have hfz5_2 := blk_frozen BK322.out 2;have hfz5_3 := blk_frozen BK322.out 3;have hfz5_4 := blk_frozen BK322.out 4;have hfz5_5 := blk_frozen BK322.out 5;have hfz5_6 := blk_frozen BK322.out 6))
 have n0_ := Aside0.mk (blk_drew BK322.out)
 have n1_ := Aside0.mk (below_drew1 HB.out)
 clear BK322
 clear HB
 have BK322 := n0_
 have HB := n1_
 clear n0_ n1_
 refine start_ (n := 15) (S := fun w' => w'.cell? ⟨gb322,0,none⟩ = some (.int .u64 a0_0) ∧ w'.cell? ⟨gb322,1,none⟩ = some (.int .i64 a0_1) ∧ w'.cell? ⟨gb322,2,none⟩ = some (.int .i64 a0_2) ∧ w'.cell? ⟨gb322,3,none⟩ = some (.slice A0_3 l0_3.length c0_3) ∧ w'.cell? ⟨gb322,4,none⟩ = some (.int .u64 a0_4) ∧ w'.cell? ⟨gb322,5,none⟩ = some (.int .u64 a0_5) ∧ w'.cell? ⟨gb322,6,none⟩ = some (.slice A0_6 l0_6.length c0_6)) (ds := []) (bz 15 0) (by kernel_rfl) rfl rfl ⟨(blk_cell BK322.out 0).trans rfl,(blk_cell BK322.out 1).trans rfl,(blk_cell BK322.out 2).trans rfl,(blk_cell BK322.out 3).trans rfl,(blk_cell BK322.out 4).trans rfl,(blk_cell BK322.out 5).trans rfl,(blk_cell BK322.out 6).trans rfl⟩ (fun hHeld => ?_);refine with_tabW privitylaw43_one.tab2 privitylaw43_one.bits2 (fun HT_ HW_ => ?_)
 generalize w4.drew = w6 at BK322 HB hHeld ⊢
 refine pk 1 9 (bz 15 2) HT_ ?_
 refine pk 2 10 (bz 15 6) HT_ ?_
 refine pk 5 13 (bz 15 38) HT_ ?_
 refine pk 6 14 (bz 15 102) HT_ ?_
 refine pk 7 15 (bz 15 230) HT_ ?_
 refine pk 8 16 (bz 15 486) HT_ ?_
 refine pk 9 17 (bz 15 998) HT_ ?_
 refine pk 10 18 (bz 15 2022) HT_ ?_
 refine pk 11 19 (bz 15 4070) HT_ ?_
 refine tk 0 8 (bz 15 4071) HT_ HW_ hHeld ?_
 refine tk 4 12 (bz 15 4087) HT_ HW_ hHeld ?_
 refine one_ (i := 3) (N := some 11) (bz 15 4095) rfl rfl (one_of HT_.out (by kernel_rfl)) (by decide) (fun K hK => ?_)
 refine goes_ Try.func42 (by kernel_rfl) rfl #[.agg #[.int .u64 a0_0,.int .i64 a0_1,.int .i64 a0_2,.slice A0_3 l0_3.length c0_3,.int .u64 a0_4,.int .u64 a0_5,.slice A0_6 l0_6.length c0_6],.int .i64 0,.int .i64 (wrap64 (a0_2 + 1))] (by rfl) rfl rfl (by (try simp only [List.map_toArray,List.map_cons,List.map_nil]);first|done|rfl|(simp only [List.length_drop,List.length_take];rfl)) ?_
 with_reducible refine (privitylaw43_cut.calls k a0_0 a0_1 a0_2 _ _ l0_3 a0_4 a0_5 _ _ l0_6 0 (wrap64 (a0_2 + 1)) t323 _ ?side1 ?side2 ?side3 ?side4 A2.out).mono ?_
 (case side1 => exact cb HR0_3 HB)
 (case side2 => exact HC0_3.out)
 (case side3 => exact cb HR0_6 HB)
 (case side4 => exact HC0_6.out)
 rintro e w7 ⟨v324,rfl,ho0,hb⟩
 refine ⟨_,rfl,?_⟩
 have n0_ := Aside0.mk (Kd.R_lower ho0 (below_size (bg HB GE322)))
 have n1_ := Aside0.mk (kb BK322 hb)
 have n2_ := Aside0.mk (below_step (bg HB GE322) hb)
 clear BK322
 clear HB
 have HO325 := n0_
 have BK322 := n1_
 have HB := n2_
 clear n0_ n1_ n2_
 (try clear hb)
 (try clear hb2)
 (try clear hk)
 (try clear hi)
 (try clear ho0)
 refine hK.out _ _ ⟨(blk_cell BK322.out 0).trans rfl,(blk_cell BK322.out 1).trans rfl,(blk_cell BK322.out 2).trans rfl,(blk_cell BK322.out 3).trans rfl,(blk_cell BK322.out 4).trans rfl,(blk_cell BK322.out 5).trans rfl,(blk_cell BK322.out 6).trans rfl⟩ (fun hHeld => ?_)
 clear hK K
 refine nm 11 ?_
 refine one_ (i := 12) (N := some 20) (bz 15 8191) rfl rfl (one_of HT_.out (by kernel_rfl)) (by decide) (fun K hK => ?_)
 refine goes_ Try.func42 (by kernel_rfl) rfl #[.agg #[.int .u64 a0_0,.int .i64 a0_1,.int .i64 a0_2,.slice A0_3 l0_3.length c0_3,.int .u64 a0_4,.int .u64 a0_5,.slice A0_6 l0_6.length c0_6],.int .i64 (wrap64 (a0_2 + 1)),.int .i64 (wrap64 (Int.tdiv (wrap64 (a0_2 * (wrap64 (a0_2 + 1)))) 2))] (by rfl) rfl rfl (by (try simp only [List.map_toArray,List.map_cons,List.map_nil]);first|done|rfl|(simp only [List.length_drop,List.length_take];rfl)) ?_
 with_reducible refine (privitylaw43_cut.calls k a0_0 a0_1 a0_2 _ _ l0_3 a0_4 a0_5 _ _ l0_6 (wrap64 (a0_2 + 1)) (wrap64 (Int.tdiv (wrap64 (a0_2 * (wrap64 (a0_2 + 1)))) 2)) t326 _ ?side1 ?side2 ?side3 ?side4 A3.out).mono ?_
 (case side1 => exact cb HR0_3 HB)
 (case side2 => exact HC0_3.out)
 (case side3 => exact cb HR0_6 HB)
 (case side4 => exact HC0_6.out)
 rintro e w8 ⟨v327,rfl,ho0,hb⟩
 refine ⟨_,rfl,?_⟩
 have n0_ := Aside0.mk (Kd.R_elder' (rr HO325) (Kd.R_base ho0) hb)
 have n1_ := Aside0.mk (Kd.R_lower (Kd.R_new' ho0 (Kd.R_lt (rr HO325))) (below_size (bg HB GE322)))
 have n2_ := Aside0.mk (kb BK322 hb)
 have n3_ := Aside0.mk (below_step (bg HB GE322) hb)
 clear HO325
 clear BK322
 clear HB
 have HO325 := n0_
 have HO328 := n1_
 have BK322 := n2_
 have HB := n3_
 clear n0_ n1_ n2_ n3_
 (try clear hb)
 (try clear hb2)
 (try clear hk)
 (try clear hi)
 (try clear ho0)
 refine hK.out _ _ ⟨(blk_cell BK322.out 0).trans rfl,(blk_cell BK322.out 1).trans rfl,(blk_cell BK322.out 2).trans rfl,(blk_cell BK322.out 3).trans rfl,(blk_cell BK322.out 4).trans rfl,(blk_cell BK322.out 5).trans rfl,(blk_cell BK322.out 6).trans rfl⟩ (fun hHeld => ?_)
 clear hK K
 refine nm 20 ?_
 refine pk 13 2 (bz 15 16383) HT_ ?_
 refine pk 14 3 (bz 15 32767) HT_ ?_
 refine done_ (done_of HT_.out (by kernel_rfl)) ?_
 try go_wp2
 go_ret2
 exact ⟨_,_,by first|rfl|(simp [errW_none,errW_some] <;> rfl)|(simp [*,errW_none,errW_some] <;> rfl),by (with_reducible repeat (first|apply Kd.R_alloc|apply Kd.R_drewN|apply Kd.R_drew));exact Kd.R_mono HO325.out (fun _ hk => hk.2),by (with_reducible repeat (first|apply Kd.R_alloc|apply Kd.R_drewN|apply Kd.R_drew));exact Kd.R_mono HO328.out (fun _ hk => hk.2),by repeat (first|(with_reducible first|exact HB.out|apply below_alloc|apply pw_below_drewN|apply below_drew1|refine below_set ?_ GE322.out)|exact HB.out)⟩
mutual
def privityref10_Translate.l0 : Nat → Int → List (List Int) → Int → List Int → List (List Int) → Int → Option ((List (List Int)))
 | 0,_,_,_,_,_,_ => none
 | k + 1,x0,x1,x2,x3,x9,x10 => if x10 < (x1.length : Int) then (privityref10_Translate.l1 k x0 x1 x2 x3 x9 x10 ([] : List Int) 0) else (some x9)
def privityref10_Translate.l1 : Nat → Int → List (List Int) → Int → List Int → List (List Int) → Int → List Int → Int → Option ((List (List Int)))
 | 0,_,_,_,_,_,_,_,_ => none
 | k + 1,x0,x1,x2,x3,x9,x10,x11,x12 => if x12 < (x1.length : Int) then (if 0 ≤ x10 then (if x10 < (x1.length : Int) then (if 0 ≤ x12 then (if x12 < ((rd_L4 x1 x10).length : Int) then (if x10 < (x3.length : Int) then (if x12 < (x3.length : Int) then ((privityref01_Mul.f k x0 (rd x3 x10) (rd x3 x12)).bind fun t504 => ((privityref01_Mul.f k x0 x2 t504).bind fun t505 => ((privityref01_Add.f x0 (rd (rd_L4 x1 x10) x12) t505).bind fun t506 => (if x11.length < 17592186044416 then (privityref10_Translate.l1 k x0 x1 x2 x3 x9 x10 (x11 ++ [t506]) (wrap64 (x12 + 1))) else (none))))) else (none)) else (none)) else (none)) else (none)) else (none)) else (none)) else (if x9.length < 5864062014805 then (privityref10_Translate.l0 k x0 x1 x2 x3 (x9 ++ [x11]) (wrap64 (x10 + 1))) else (none))
end
def privityref10_Translate.f (k : Nat) (a0 : Int) (l1 : List (List Int)) (a2 : Int) (l3 : List Int) : Option ((List (List Int))) := privityref10_Translate.l0 k a0 l1 a2 l3 ([] : List (List Int)) 0
def privityref10_Translate.T9 : Bool × List (List Nat × List Nat) := (true,[([],[]),([],[]),([],[]),([],[]),([2,3],[2,3]),([4],[4]),([],[]),([5,6],[5,6]),([7],[7]),([],[]),([],[]),([],[]),([],[]),([],[]),([12,13],[12,13]),([14],[14]),([],[]),([],[]),([16,17],[16,17]),([18],[18]),([11,15,19],[11,15,19]),([9,10,20,20],[9,10,20]),([1,8,21,21],[1,8,21]),([22],[22]),([0,23,22],[0,23]),([24,24,0,1,2,3,4,5,6,7,8,9,10,11,12,13,14,15,16,17,18,19,20,21,22,23,24],[0,24])])
def privityref10_Translate.B9 : List Nat := [0,0,0,0,12,28,0,124,252,0,0,0,0,0,12288,28672,0,0,196608,458752,1046528,2096640,4194302,8388606,16777215,33554431]
theorem privityref10_Translate.tab9 : rtab .any (opsOf Try.f74 9) = privityref10_Translate.T9 := by kernel_rfl
theorem privityref10_Translate.bits9 : waitsOk privityref10_Translate.T9.2 privityref10_Translate.B9 = true := by kernel_rfl
set_option maxHeartbeats 8000000 in
set_option maxRecDepth 100000 in
theorem privityref10_Translate.calls (k : Nat) (a0 : Int) (A1 : Option Addr) (c1 : Nat) (l1 : List (List Int)) (a2 : Int) (A3 : Option Addr) (c3 : Nat) (l3 : List Int) (r : List (List Int)) (w : World) (hr1 : Kd.C (Kd.slice 22 (Kd.int .u64)) w A1 l1.length l1) (hc1 : l1.length ≤ c1) (hr3 : Kd.C (Kd.int .u64) w A3 l3.length l3) (hc3 : l3.length ≤ c3) (h : privityref10_Translate.f k a0 l1 a2 l3 = some r) :
  Calls Try.prog 74 #[.int .u64 a0,.slice A1 l1.length c1,.int .u64 a2,.slice A3 l3.length c3] w fun e w' => ∃ v0_ : Value,e = .returned (v0_) ∧ Kd.S (Kd.slice 22 (Kd.int .u64)) 26 w' w.heap.size (fun _ => True) v0_ r ∧ Below w.heap.size w w' := by
 have HR1 := Aside0.mk hr1
 have HC1 := Aside0.mk hc1
 clear hr1 hc1
 have HR3 := Aside0.mk hr3
 have HC3 := Aside0.mk hc3
 clear hr3 hc3
 have HB := Aside0.mk (Below.refl w.heap.size w)
 have H : (privityref10_Translate.l0 k a0 l1 a2 l3 ([] : List (List Int)) 0) = some r := h
 clear h
 have H' := Aside0.mk H
 clear H
 go_enter Try.func74,Try.ntmps74
 go_wp2
 go_loopg [9,10] k (fun kq v9 v10 w' => ∃ (x9_1 : List (List Int)) (x10_1 : Int),v10 = .int .i64 x10_1 ∧ Aside0 (privityref10_Translate.l0 kq a0 l1 a2 l3 x9_1 x10_1 = some r) ∧ Aside0 (kq ≤ k) ∧ Aside0 (Kd.S (Kd.slice 22 (Kd.int .u64)) 26 w' w.heap.size (fun _ => True) v9 x9_1) ∧ Aside0 (Below w.heap.size w w'))
 case atStart => exact ⟨(([] : List (List Int))),(0),(by first|rfl|(simp;done)|(simp [*];done)),H',⟨Nat.le_refl _⟩,⟨by first|exact Kd.S_nil _ _ _ _ _|exact Kd.N_nil _ _ _ _ _|exact Kd.V_nil _ _ _ _ _|exact Kd.Q_nil _ _ _ _ _|exact Kd.R_nil _ _ _ _ _⟩,⟨by repeat (first|(with_reducible first|exact HB.out|apply below_alloc|apply pw_below_drewN|apply below_drew1)|exact HB.out)⟩⟩
 case round =>
  clear H'
  try clear c1
  try clear p2
  try clear c3
  obtain ⟨x9_1,x10_1,rfl,HA,HK1,HO_9,HB⟩ := hrel
  cases gk with
  | zero => exact absurd HA.out (by simp [privityref10_Translate.l0])
  | succ k1 =>
   have H := HA.out
   clear HA
   simp only [privityref10_Translate.l0] at H
   by_cases c5 : x10_1 < (l1.length : Int)
   ·rw [if_pos c5] at H
    have c5b0 : decide (x10_1 < (l1.length : Int)) = true := decide_eq_true c5
    clear c5
    have H' := Aside0.mk H
    clear H
    go_wp2
    go_loopg [11,12] k1 (fun kq v11 v12 w' => ∃ (x11_2 : List Int) (x12_2 : Int),v12 = .int .i64 x12_2 ∧ Aside0 (privityref10_Translate.l1 kq a0 l1 a2 l3 x9_1 x10_1 x11_2 x12_2 = some r) ∧ Aside0 (kq ≤ k1) ∧ Aside0 (Kd.S (Kd.slice 22 (Kd.int .u64)) 26 w' w.heap.size (fun k_ => some k_ ≠ (v11 : Value).ownBlock) u9 x9_1) ∧ Aside0 (Kd.R (Kd.int .u64) 22 w' w.heap.size (fun _ => True) v11 x11_2) ∧ Aside0 (Below w.heap.size w w'))
    case atStart => exact ⟨(([] : List Int)),(0),(by first|rfl|(simp;done)|(simp [*];done)),H',⟨Nat.le_refl _⟩,⟨by (with_reducible repeat (first|apply Kd.S_alloc|apply Kd.S_drewN|apply Kd.S_drew));exact Kd.S_mono HO_9.out (fun _ hk => (by simp [Value.ownBlock]))⟩,⟨by first|exact Kd.R_nil _ _ _ _ _|exact Kd.N_nil _ _ _ _ _|exact Kd.V_nil _ _ _ _ _|exact Kd.Q_nil _ _ _ _ _|exact Kd.S_nil _ _ _ _ _⟩,⟨by repeat (first|(with_reducible first|exact HB.out|apply below_alloc|apply pw_below_drewN|apply below_drew1)|exact HB.out)⟩⟩
    case round =>
     clear H'
     try clear c1
     try clear p2
     try clear c3
     try clear c5
     try clear c5b0
     try clear p2
     obtain ⟨x11_2,x12_2,rfl,HA,HK2,HO_9,HO_11,HB⟩ := hrel
     cases gk with
     | zero => exact absurd HA.out (by simp [privityref10_Translate.l1])
     | succ k2 =>
      have H := HA.out
      clear HA
      simp only [privityref10_Translate.l1] at H
      by_cases c6 : x12_2 < (l1.length : Int)
      ·rw [if_pos c6] at H
       have c6b0 : decide (x12_2 < (l1.length : Int)) = true := decide_eq_true c6
       clear c6
       by_cases c7 : 0 ≤ x10_1
       ·rw [if_pos c7] at H
        have c7b0 : decide (0 ≤ x10_1) = true := decide_eq_true c7
        clear c7
        by_cases c8 : x10_1 < (l1.length : Int)
        ·rw [if_pos c8] at H
         have c8b0 : decide (x10_1 < (l1.length : Int)) = true := decide_eq_true c8
         clear c8
         by_cases c9 : 0 ≤ x12_2
         ·rw [if_pos c9] at H
          have c9b0 : decide (0 ≤ x12_2) = true := decide_eq_true c9
          clear c9
          by_cases c10 : x12_2 < ((rd_L4 l1 x10_1).length : Int)
          ·rw [if_pos c10] at H
           have c10b0 : decide (x12_2 < ((rd_L4 l1 x10_1).length : Int)) = true := decide_eq_true c10
           clear c10
           by_cases c11 : x10_1 < (l3.length : Int)
           ·rw [if_pos c11] at H
            have c11b0 : decide (x10_1 < (l3.length : Int)) = true := decide_eq_true c11
            clear c11
            by_cases c12 : x12_2 < (l3.length : Int)
            ·rw [if_pos c12] at H
             have c12b0 : decide (x12_2 < (l3.length : Int)) = true := decide_eq_true c12
             clear c12
             replace H := Option.bind_eq_some_iff.mp H
             obtain ⟨t504,A130,H⟩ := H
             try dsimp only at H
             have A13 := Aside0.mk A130
             clear A130
             replace H := Option.bind_eq_some_iff.mp H
             obtain ⟨t505,A140,H⟩ := H
             try dsimp only at H
             have A14 := Aside0.mk A140
             clear A140
             replace H := Option.bind_eq_some_iff.mp H
             obtain ⟨t506,A150,H⟩ := H
             try dsimp only at H
             have A15 := Aside0.mk A150
             clear A150
             by_cases c16 : x11_2.length < 17592186044416
             ·rw [if_pos c16] at H
              have LMc16 := Aside0.mk c16
              clear c16
              obtain ⟨y507,hy507⟩ : ∃ y_ : List Int,y_ = (x11_2 ++ [t506]) := ⟨_,rfl⟩
              replace H : (privityref10_Translate.l1 k2 a0 l1 a2 l3 x9_1 x10_1 y507 (wrap64 (x12_2 + 1))) = some r := by first|(rw [hy507];with_reducible exact H)|(have H2_ := (Option.bind_some _ _).symm.trans H;rw [hy507];with_reducible exact H2_)|(have H2_ := (Option.bind_some _ _).symm.trans H;with_reducible exact H2_)|with_reducible exact H|(rw [hy507];exact H)|exact H
              have Ny507 := Aside0.mk hy507
              clear hy507
              have H' := Aside0.mk H
              clear H
              try go_wp2
              have n0_ := Aside0.mk (Kd.S_drew HO_9.out)
              have n1_ := Aside0.mk (Kd.R_drew HO_11.out)
              have n2_ := Aside0.mk (below_drew1 HB.out)
              clear HO_9
              clear HO_11
              clear HB
              have HO_9 := n0_
              have HO_11 := n1_
              have HB := n2_
              clear n0_ n1_ n2_
              have p500 : 0 ≤ (x10_1 : Int) := of_decide_eq_true (by first|(with_reducible assumption)|assumption)
              have q500 : x10_1 < (l1.length : Int) := of_decide_eq_true (by first|(with_reducible assumption)|assumption)
              obtain ⟨ad500,A500_0,c500_0,e500,hx500_0,hl500_0,hi500_0⟩ := at_L4 HR1.out x10_1 p500 q500
              have hw500_0 := hx500_0
              cases e500
              replace hx500_0 := (HB.out.cell (World.block_lt_of_cell? w _ hx500_0)).trans hx500_0
              have HR500_0 := Aside0.mk hi500_0
              have HC500_0 := Aside0.mk hl500_0
              clear hi500_0 hl500_0
              replace p500 := eq_true p500
              replace q500 := eq_true q500
              have p501 : 0 ≤ (x12_2 : Int) := of_decide_eq_true (by first|(with_reducible assumption)|assumption)
              have q501 : x12_2 < ((rd_L4 l1 x10_1).length : Int) := of_decide_eq_true (by first|(with_reducible assumption)|assumption)
              obtain ⟨ad501,e501,hx501_0⟩ := Kd.at_int HR500_0.out x12_2 p501 q501
              have hw501_0 := hx501_0
              cases e501
              replace hx501_0 := (HB.out.cell (World.block_lt_of_cell? w _ hx501_0)).trans hx501_0
              replace p501 := eq_true p501
              replace q501 := eq_true q501
              have p502 : 0 ≤ (x10_1 : Int) := of_decide_eq_true (by first|(with_reducible assumption)|assumption)
              have q502 : x10_1 < (l3.length : Int) := of_decide_eq_true (by first|(with_reducible assumption)|assumption)
              obtain ⟨ad502,e502,hx502_0⟩ := Kd.at_int HR3.out x10_1 p502 q502
              have hw502_0 := hx502_0
              cases e502
              replace hx502_0 := (HB.out.cell (World.block_lt_of_cell? w _ hx502_0)).trans hx502_0
              replace p502 := eq_true p502
              replace q502 := eq_true q502
              have p503 : 0 ≤ (x12_2 : Int) := of_decide_eq_true (by first|(with_reducible assumption)|assumption)
              have q503 : x12_2 < (l3.length : Int) := of_decide_eq_true (by first|(with_reducible assumption)|assumption)
              obtain ⟨ad503,e503,hx503_0⟩ := Kd.at_int HR3.out x12_2 p503 q503
              have hw503_0 := hx503_0
              obtain rfl : ad502 = ad503 := (by injection e503)
              replace hx503_0 := (HB.out.cell (World.block_lt_of_cell? w _ hx503_0)).trans hx503_0
              replace p503 := eq_true p503
              replace q503 := eq_true q503
              refine start_ (n := 26) (S := fun w' => w'.cell? (ad500.add (x10_1).toNat) = some (.slice (some ad501) (rd_L4 l1 x10_1).length c500_0) ∧ w'.cell? (ad501.add (x12_2).toNat) = some (.int .u64 (rd (rd_L4 l1 x10_1) x12_2)) ∧ w'.cell? (ad502.add (x10_1).toNat) = some (.int .u64 (rd l3 x10_1)) ∧ w'.cell? (ad502.add (x12_2).toNat) = some (.int .u64 (rd l3 x12_2))) (ds := []) (bz 26 0) (by kernel_rfl) rfl rfl ⟨((HB.out.cell (World.block_lt_of_cell? w _ hw500_0)).trans hw500_0),((HB.out.cell (World.block_lt_of_cell? w _ hw501_0)).trans hw501_0),((HB.out.cell (World.block_lt_of_cell? w _ hw502_0)).trans hw502_0),((HB.out.cell (World.block_lt_of_cell? w _ hw503_0)).trans hw503_0)⟩ (fun hHeld => ?_);refine with_tabW privityref10_Translate.tab9 privityref10_Translate.bits9 (fun HT_ HW_ => ?_)
              generalize wr.drew = w17 at HO_9 HO_11 HB HR500_0 hx500_0 hx501_0 hx502_0 hx503_0 hHeld ⊢
              refine pk 0 25 (bz 26 1) HT_ ?_
              refine pk 1 26 (bz 26 3) HT_ ?_
              refine pk 2 27 (bz 26 7) HT_ ?_
              refine pk 3 28 (bz 26 15) HT_ ?_
              refine pk 4 29 (bz 26 31) HT_ ?_
              refine pk 6 31 (bz 26 95) HT_ ?_
              refine pk 9 34 (bz 26 607) HT_ ?_
              refine pk 10 35 (bz 26 1631) HT_ ?_
              refine pk 11 36 (bz 26 3679) HT_ ?_
              refine pk 12 37 (bz 26 7775) HT_ ?_
              refine pk 13 38 (bz 26 15967) HT_ ?_
              refine pk 14 39 (bz 26 32351) HT_ ?_
              refine pk 16 41 (bz 26 97887) HT_ ?_
              refine pk 17 42 (bz 26 228959) HT_ ?_
              refine pk 18 43 (bz 26 491103) HT_ ?_
              refine tk 5 30 (bz 26 491135) HT_ HW_ hHeld ?_
              refine pk 7 32 (bz 26 491263) HT_ ?_
              refine tk 8 33 (bz 26 491519) HT_ HW_ hHeld ?_
              refine tk 15 40 (bz 26 524287) HT_ HW_ hHeld ?_
              refine tk 19 44 (bz 26 1048575) HT_ HW_ hHeld ?_
              refine one_ (i := 20) (N := some 45) (bz 26 2097151) rfl rfl (one_of HT_.out (by kernel_rfl)) (by decide) (fun K hK => ?_)
              refine goes_ Try.func31 (by kernel_rfl) rfl #[.int .u64 a0,.int .u64 (rd l3 x10_1),.int .u64 (rd l3 x12_2)] (by rfl) rfl rfl (by (try simp only [List.map_toArray,List.map_cons,List.map_nil]);first|done|rfl|(simp only [List.length_drop,List.length_take];rfl)) ?_
              with_reducible refine (privityref01_Mul.calls k2 a0 (rd l3 x10_1) (rd l3 x12_2) t504 _ A13.out).mono ?_
              rintro e w' ⟨rfl,⟨nd,rfl⟩⟩
              refine ⟨_,rfl,?_⟩
              refine hK.out _ _ ⟨((HB.out.cell (World.block_lt_of_cell? w _ hw500_0)).trans hw500_0),((HB.out.cell (World.block_lt_of_cell? w _ hw501_0)).trans hw501_0),((HB.out.cell (World.block_lt_of_cell? w _ hw502_0)).trans hw502_0),((HB.out.cell (World.block_lt_of_cell? w _ hw503_0)).trans hw503_0)⟩ (fun hHeld => ?_)
              clear hK K
              refine nm 45 ?_
              refine one_ (i := 21) (N := some 46) (bz 26 4194303) rfl rfl (one_of HT_.out (by kernel_rfl)) (by decide) (fun K hK => ?_)
              refine goes_ Try.func31 (by kernel_rfl) rfl #[.int .u64 a0,.int .u64 a2,.int .u64 t504] (by rfl) rfl rfl (by (try simp only [List.map_toArray,List.map_cons,List.map_nil]);first|done|rfl|(simp only [List.length_drop,List.length_take];rfl)) ?_
              with_reducible refine (privityref01_Mul.calls k2 a0 a2 t504 t505 _ A14.out).mono ?_
              rintro e w' ⟨rfl,⟨nd,rfl⟩⟩
              refine ⟨_,rfl,?_⟩
              refine hK.out _ _ ⟨((HB.out.cell (World.block_lt_of_cell? w _ hw500_0)).trans hw500_0),((HB.out.cell (World.block_lt_of_cell? w _ hw501_0)).trans hw501_0),((HB.out.cell (World.block_lt_of_cell? w _ hw502_0)).trans hw502_0),((HB.out.cell (World.block_lt_of_cell? w _ hw503_0)).trans hw503_0)⟩ (fun hHeld => ?_)
              clear hK K
              refine nm 46 ?_
              refine one_ (i := 22) (N := some 47) (bz 26 8388607) rfl rfl (one_of HT_.out (by kernel_rfl)) (by decide) (fun K hK => ?_)
              refine goes_ Try.func17 (by kernel_rfl) rfl #[.int .u64 a0,.int .u64 (rd (rd_L4 l1 x10_1) x12_2),.int .u64 t505] (by rfl) rfl rfl (by (try simp only [List.map_toArray,List.map_cons,List.map_nil]);first|done|rfl|(simp only [List.length_drop,List.length_take];rfl)) ?_
              with_reducible refine (privityref01_Add.calls a0 (rd (rd_L4 l1 x10_1) x12_2) t505 t506 _ A15.out).mono ?_
              rintro e w' ⟨rfl,⟨nd,rfl⟩⟩
              refine ⟨_,rfl,?_⟩
              refine hK.out _ _ ⟨((HB.out.cell (World.block_lt_of_cell? w _ hw500_0)).trans hw500_0),((HB.out.cell (World.block_lt_of_cell? w _ hw501_0)).trans hw501_0),((HB.out.cell (World.block_lt_of_cell? w _ hw502_0)).trans hw502_0),((HB.out.cell (World.block_lt_of_cell? w _ hw503_0)).trans hw503_0)⟩ (fun hHeld => ?_)
              clear hK K
              refine nm 47 ?_
              refine one_ (i := 23) (N := some 48) (bz 26 16777215) rfl rfl (one_of HT_.out (by kernel_rfl)) (by decide) (fun K hK => ?_)
              refine value_ (w1 := ?_) (v := ?_) (by rfl) rfl ?_ ?_
              rotate_left 2
              ·go_simp
               constructor
               ·rfl
               ·rfl
              refine hK.out _ _ ⟨(World.cell?_alloc_lt _ _ _ (World.block_lt_of_cell? _ _ (((HB.out.cell (World.block_lt_of_cell? w _ hw500_0)).trans hw500_0)))).trans (((HB.out.cell (World.block_lt_of_cell? w _ hw500_0)).trans hw500_0)),(World.cell?_alloc_lt _ _ _ (World.block_lt_of_cell? _ _ (((HB.out.cell (World.block_lt_of_cell? w _ hw501_0)).trans hw501_0)))).trans (((HB.out.cell (World.block_lt_of_cell? w _ hw501_0)).trans hw501_0)),(World.cell?_alloc_lt _ _ _ (World.block_lt_of_cell? _ _ (((HB.out.cell (World.block_lt_of_cell? w _ hw502_0)).trans hw502_0)))).trans (((HB.out.cell (World.block_lt_of_cell? w _ hw502_0)).trans hw502_0)),(World.cell?_alloc_lt _ _ _ (World.block_lt_of_cell? _ _ (((HB.out.cell (World.block_lt_of_cell? w _ hw503_0)).trans hw503_0)))).trans (((HB.out.cell (World.block_lt_of_cell? w _ hw503_0)).trans hw503_0))⟩ (fun hHeld => ?_)
              clear hK K
              refine nm 48 ?_
              refine one_ (i := 24) (N := some 49) (bz 26 33554431) rfl rfl (one_of HT_.out (by kernel_rfl)) (by decide) (fun K hK => ?_)
              refine Kd.R_append_step (Kd.int .u64) (w0 := w) w.heap.size (by rfl) (.tmp 25) (.tmp 48) 26 22 (.int .u64 0) 8 rfl Try.underlying26 info22 rfl (by decide) (by omega) u11 x11_2 t506 [.int .u64 t506] (fun _ => True) (fun _ => False) rfl rfl ?aP (fun _ hk => hk.elim) ?aF ?aO ?aB ?aS ?aL ?_
              (case aP => exact rfl)
              (case aB => exact (bb HB))
              (case aF => exact (fun _ _ => trivial))
              (case aO => exact (rr HO_11))
              (case aS => exact (below_size (bb HB)))
              (case aL => have := LMc16.out;omega)
              intro v508 w18 ho hb hg hat
              rw [← Ny507.out] at ho
              have n0_ := Aside0.mk (Kd.S_after (ok := (fun _ => True)) (by (with_reducible repeat (first|apply Kd.S_alloc|apply Kd.S_drewN|apply Kd.S_drew));exact Kd.S_mono HO_9.out (fun _ hk => ⟨trivial,hk⟩)) hg hat)
              have n1_ := Aside0.mk (hb)
              have n2_ := Aside0.mk (ho)
              clear HO_9
              clear HB
              clear HO_11
              have HO_9 := n0_
              have HB := n1_
              have HO509 := n2_
              clear n0_ n1_ n2_
              clear ho hb hg hat
              refine hK.out _ _ ⟨((HB.out.cell (World.block_lt_of_cell? w _ hw500_0)).trans hw500_0),((HB.out.cell (World.block_lt_of_cell? w _ hw501_0)).trans hw501_0),((HB.out.cell (World.block_lt_of_cell? w _ hw502_0)).trans hw502_0),((HB.out.cell (World.block_lt_of_cell? w _ hw503_0)).trans hw503_0)⟩ (fun hHeld => ?_)
              clear hK K
              refine nm 49 ?_
              refine pk 25 11 (bz 26 67108863) HT_ ?_
              refine done_ (done_of HT_.out (by kernel_rfl)) ?_
              try go_wp2
              go_roundg k2
              case measure => have := HK1.out;have := HK2.out;omega
              case rel => exact ⟨(y507),(wrap64 (x12_2 + 1)),(by first|rfl|(simp;done)|(simp [*];done)),H',⟨by have := HK1.out;have := HK2.out;omega⟩,⟨by (with_reducible repeat (first|apply Kd.S_alloc|apply Kd.S_drewN|apply Kd.S_drew));exact Kd.S_mono HO_9.out (fun _ hk => hk.2)⟩,⟨by (with_reducible repeat (first|apply Kd.R_alloc|apply Kd.R_drewN|apply Kd.R_drew));exact HO509.out⟩,⟨by repeat (first|(with_reducible first|exact HB.out|apply below_alloc|apply pw_below_drewN|apply below_drew1)|exact HB.out)⟩⟩
             ·rw [if_neg c16] at H
              exact absurd H (by simp)
            ·rw [if_neg c12] at H
             exact absurd H (by simp)
           ·rw [if_neg c11] at H
            exact absurd H (by simp)
          ·rw [if_neg c10] at H
           exact absurd H (by simp)
         ·rw [if_neg c9] at H
          exact absurd H (by simp)
        ·rw [if_neg c8] at H
         exact absurd H (by simp)
       ·rw [if_neg c7] at H
        exact absurd H (by simp)
      ·rw [if_neg c6] at H
       have c6b0 : decide (x12_2 < (l1.length : Int)) = false := decide_eq_false c6
       clear c6
       by_cases c19 : x9_1.length < 5864062014805
       ·rw [if_pos c19] at H
        have LMc19 := Aside0.mk c19
        clear c19
        obtain ⟨y510,hy510⟩ : ∃ y_ : List (List Int),y_ = (x9_1 ++ [x11_2]) := ⟨_,rfl⟩
        replace H : (privityref10_Translate.l0 k2 a0 l1 a2 l3 y510 (wrap64 (x10_1 + 1))) = some r := by first|(rw [hy510];with_reducible exact H)|(have H2_ := (Option.bind_some _ _).symm.trans H;rw [hy510];with_reducible exact H2_)|(have H2_ := (Option.bind_some _ _).symm.trans H;with_reducible exact H2_)|with_reducible exact H|(rw [hy510];exact H)|exact H
        have Ny510 := Aside0.mk hy510
        clear hy510
        have H' := Aside0.mk H
        clear H
        obtain ⟨Ao21,co21,eo21⟩ := Kd.R_slice HO_11.out
        subst eo21
        go_wp2_with (first|((with_reducible refine gate_builtin (b := .append) (xs := #[.tmp 50,.tmp 52]) rfl ?_);at_builtin;refine Kd.S_append (Kd.slice 22 (Kd.int .u64)) (w0 := w) w.heap.size rfl (.tmp 50) (.tmp 52) 34 26 (.slice none 0 0) 24 rfl Try.underlying34 info26 rfl (by decide) (by omega) u9 x9_1 x11_2 [.slice Ao21 x11_2.length co21] (fun _ => True) (fun k_ => some k_ = (.slice Ao21 x11_2.length co21 : Value).ownBlock) rfl rfl ?aP (fun k_ hk_ => ((Kd.R_mono (ok' := fun k_ => ((fun _ => True)) k_ ∧ some k_ ≠ (u9 : Value).ownBlock) (Kd.R_apart' (HO_11.out) (Kd.S_typed HO_9.out) (by decide)) (fun k_ hk => ⟨trivial,hk.2⟩))).1 k_ hk_.symm) ?aF ?aO ?aB ?aS ?aL ?_;(case aP => exact Kd.M_row (Kd.R_mono (Kd.R_tight rfl (Kd.R_mono (ok' := fun k_ => ((fun _ => True)) k_ ∧ some k_ ≠ (u9 : Value).ownBlock) (Kd.R_apart' (HO_11.out) (Kd.S_typed HO_9.out) (by decide)) (fun k_ hk => ⟨trivial,hk.2⟩))) (fun _ h_ => h_)));(case aB => exact (bb HB));(case aF => exact (fun _ _ => trivial));(case aO => exact (by (with_reducible repeat (first|apply Kd.S_alloc|apply Kd.S_drewN|apply Kd.S_drew));exact Kd.S_mono HO_9.out (fun k_ hk => ⟨trivial,fun e_ => hk e_⟩)));(case aS => exact (below_size (bb HB)));(case aL => have := LMc19.out;omega);intro v511 w20 ho hb hg hat;rw [← Ny510.out] at ho;have n0_ := Aside0.mk (hb);have n1_ := Aside0.mk (ho);clear HB HO_9 HO_11;have HB := n0_;have HO512 := n1_;clear n0_ n1_;clear ho hb hg hat))
        go_roundg k2
        case measure => have := HK1.out;have := HK2.out;omega
        case rel => exact ⟨(y510),(wrap64 (x10_1 + 1)),(by first|rfl|(simp;done)|(simp [*];done)),H',⟨by have := HK1.out;have := HK2.out;omega⟩,⟨by (with_reducible repeat (first|apply Kd.S_alloc|apply Kd.S_drewN|apply Kd.S_drew));exact HO512.out⟩,⟨by repeat (first|(with_reducible first|exact HB.out|apply below_alloc|apply pw_below_drewN|apply below_drew1)|exact HB.out)⟩⟩
       ·rw [if_neg c19] at H
        exact absurd H (by simp)
   ·rw [if_neg c5] at H
    have c5b0 : decide (x10_1 < (l1.length : Int)) = false := decide_eq_false c5
    clear c5
    obtain rfl := Option.some.inj H
    go_wp2
    go_ret
    exact ⟨_,by first|rfl|(simp [errW_none,errW_some] <;> rfl)|(simp [*,errW_none,errW_some] <;> rfl),by (with_reducible repeat (first|apply Kd.S_alloc|apply Kd.S_drewN|apply Kd.S_drew));exact HO_9.out,by repeat (first|(with_reducible first|exact HB.out|apply below_alloc|apply pw_below_drewN|apply below_drew1)|exact HB.out)⟩
def privityref43_rest.l0 : Nat → List (List Int) → List Int → Int → Option (List Int)
 | 0,_,_,_ => none
 | k + 1,x0,x3,x4 => if x4 < (x0.length : Int) then (if 0 ≤ x4 then (if x4 ≤ ((rd_L4 x0 x4).length : Int) then (if x3.length + ((rd_L4 x0 x4).drop (x4 : Int).toNat).length < 17592186044416 then (privityref43_rest.l0 k x0 (x3 ++ ((rd_L4 x0 x4).drop (x4 : Int).toNat)) (wrap64 (x4 + 1))) else (none)) else (none)) else (none)) else (some x3)
def privityref43_rest.f (k : Nat) (l0 : List (List Int)) : Option (List Int) := privityref43_rest.l0 k l0 ([] : List Int) 1
set_option maxHeartbeats 8000000 in
set_option maxRecDepth 100000 in
theorem privityref43_rest.calls (k : Nat) (A0 : Option Addr) (c0 : Nat) (l0 : List (List Int)) (r : List Int) (w : World) (hr0 : Kd.C (Kd.slice 22 (Kd.int .u64)) w A0 l0.length l0) (hc0 : l0.length ≤ c0) (h : privityref43_rest.f k l0 = some r) :
  Calls Try.prog 75 #[.slice A0 l0.length c0] w fun e w' => ∃ v0_ : Value,e = .returned (v0_) ∧ Kd.R (Kd.int .u64) 22 w' w.heap.size (fun _ => True) v0_ r ∧ Below w.heap.size w w' := by
 have HR0 := Aside0.mk hr0
 have HC0 := Aside0.mk hc0
 clear hr0 hc0
 have HB := Aside0.mk (Below.refl w.heap.size w)
 have H : (privityref43_rest.l0 k l0 ([] : List Int) 1) = some r := h
 clear h
 have H' := Aside0.mk H
 clear H
 go_enter Try.func75,Try.ntmps75
 go_wp2
 go_loopg [3,4] k (fun kq v3 v4 w' => ∃ (x3_1 : List Int) (x4_1 : Int),v4 = .int .i64 x4_1 ∧ Aside0 (privityref43_rest.l0 kq l0 x3_1 x4_1 = some r) ∧ Aside0 (kq ≤ k) ∧ Aside0 (Kd.R (Kd.int .u64) 22 w' w.heap.size (fun _ => True) v3 x3_1) ∧ Aside0 (Below w.heap.size w w'))
 case atStart => exact ⟨(([] : List Int)),(1),(by first|rfl|(simp;done)|(simp [*];done)),H',⟨Nat.le_refl _⟩,⟨by first|exact Kd.R_nil _ _ _ _ _|exact Kd.N_nil _ _ _ _ _|exact Kd.V_nil _ _ _ _ _|exact Kd.Q_nil _ _ _ _ _|exact Kd.S_nil _ _ _ _ _⟩,⟨by repeat (first|(with_reducible first|exact HB.out|apply below_alloc|apply pw_below_drewN|apply below_drew1)|exact HB.out)⟩⟩
 case round =>
  clear H'
  obtain ⟨x3_1,x4_1,rfl,HA,HK1,HO_3,HB⟩ := hrel
  cases gk with
  | zero => exact absurd HA.out (by simp [privityref43_rest.l0])
  | succ k1 =>
   have H := HA.out
   clear HA
   simp only [privityref43_rest.l0] at H
   by_cases c2 : x4_1 < (l0.length : Int)
   ·rw [if_pos c2] at H
    have c2b0 : decide (x4_1 < (l0.length : Int)) = true := decide_eq_true c2
    clear c2
    by_cases c3 : 0 ≤ x4_1
    ·rw [if_pos c3] at H
     have c3b0 : decide (0 ≤ x4_1) = true := decide_eq_true c3
     clear c3
     have c4b0 := eq_true (of_decide_eq_true (by first|(with_reducible assumption)|assumption) : 0 ≤ x4_1)
     by_cases c5 : x4_1 ≤ ((rd_L4 l0 x4_1).length : Int)
     ·rw [if_pos c5] at H
      have c5b0 := eq_true c5
      have c5b1 : decide (x4_1 ≤ ((rd_L4 l0 x4_1).length : Int)) = true := decide_eq_true c5
      clear c5
      by_cases c6 : x3_1.length + ((rd_L4 l0 x4_1).drop (x4_1 : Int).toNat).length < 17592186044416
      ·rw [if_pos c6] at H
       have LMc6 := Aside0.mk c6
       clear c6
       obtain ⟨y515,hy515⟩ : ∃ y_ : List Int,y_ = (x3_1 ++ ((rd_L4 l0 x4_1).drop (x4_1 : Int).toNat)) := ⟨_,rfl⟩
       replace H : (privityref43_rest.l0 k1 l0 y515 (wrap64 (x4_1 + 1))) = some r := by first|(rw [hy515];with_reducible exact H)|(have H2_ := (Option.bind_some _ _).symm.trans H;rw [hy515];with_reducible exact H2_)|(have H2_ := (Option.bind_some _ _).symm.trans H;with_reducible exact H2_)|with_reducible exact H|(rw [hy515];exact H)|exact H
       have Ny515 := Aside0.mk hy515
       clear hy515
       have H' := Aside0.mk H
       clear H
       have p513 : 0 ≤ (x4_1 : Int) := of_decide_eq_true (by first|(with_reducible assumption)|assumption)
       have q513 : x4_1 < (l0.length : Int) := of_decide_eq_true (by first|(with_reducible assumption)|assumption)
       obtain ⟨ad513,A513_0,c513_0,e513,hx513_0,hl513_0,hi513_0⟩ := at_L4 HR0.out x4_1 p513 q513
       cases e513
       replace hx513_0 := (HB.out.cell (World.block_lt_of_cell? w _ hx513_0)).trans hx513_0
       have HR513_0 := Aside0.mk hi513_0
       have HC513_0 := Aside0.mk hl513_0
       clear hi513_0 hl513_0
       replace p513 := eq_true p513
       replace q513 := eq_true q513
       obtain ⟨i07,hi07,_,hsz7,_⟩ := info_parts info22
       obtain ⟨A7,hcut7,hA7,hC7⟩ := print_drop_of (P := Try.prog) (Value.int .u64) 0 26 22 .i64 Try.underlying26 hi07 hsz7 A513_0 c513_0 (rd_L4 l0 x4_1) x4_1 (of_decide_eq_true (by first|(with_reducible assumption)|assumption)) (of_decide_eq_true (by first|(with_reducible assumption)|assumption)) HC513_0.out
       have HR514 := Aside0.mk (Kd.C_of_reads (h1 := fun _ => rfl) (hA7 _ (Kd.reads_of_C HR513_0.out)))
       have HC514 := Aside0.mk hC7
       clear hA7 hC7 hi07 hsz7
       go_wp2_with (first|((with_reducible refine gate_builtin (b := .append) (xs := #[.tmp 11,.tmp 17]) rfl ?_);at_builtin;refine Kd.R_append_rows (Kd.int .u64) (w0 := w) w.heap.size rfl (.tmp 11) (.tmp 17) 26 22 (.int .u64 0) 8 rfl Try.underlying26 info22 rfl (by decide) (by omega) u3 x3_1 ((rd_L4 l0 x4_1).drop (x4_1 : Int).toNat) _ _ _ (fun _ => True) (fun _ => False) rfl rfl ?aO ?aR (fun _ _ h => h) (fun _ h => h.elim) ?aF ?aB ?aS ?aL ?_;(case aR => first|(rw [← show ((rd_L4 l0 x4_1).drop (x4_1 : Int).toNat).length = ((rd_L4 l0 x4_1).length - x4_1.toNat) from List.length_drop];repeat (first|exact (Kd.C_below HR514.out HB.out)|(with_reducible refine Kd.C_alloc ?_ _)|(with_reducible refine Kd.C_drewN ?_ _)|(with_reducible refine Kd.C_drew ?_)))|(repeat (first|exact (Kd.C_below HR514.out HB.out)|(with_reducible refine Kd.C_alloc ?_ _)|(with_reducible refine Kd.C_drewN ?_ _)|(with_reducible refine Kd.C_drew ?_))));(case aB => exact (bb HB));(case aF => exact (fun _ _ => trivial));(case aO => exact (rr HO_3));(case aS => exact (below_size (bb HB)));(case aL => have := LMc6.out;have hlx_ := (show ((rd_L4 l0 x4_1).drop (x4_1 : Int).toNat).length = ((rd_L4 l0 x4_1).length - x4_1.toNat) from List.length_drop);omega);intro v516 w8 ho hb hg hat;rw [← Ny515.out] at ho;have n0_ := Aside0.mk (hb);have n1_ := Aside0.mk (ho);clear HB HO_3;have HB := n0_;have HO517 := n1_;clear n0_ n1_;clear ho hb hg hat))
       go_roundg k1
       case measure => have := HK1.out;omega
       case rel => exact ⟨(y515),(wrap64 (x4_1 + 1)),(by first|rfl|(simp;done)|(simp [*];done)),H',⟨by have := HK1.out;omega⟩,⟨by (with_reducible repeat (first|apply Kd.R_alloc|apply Kd.R_drewN|apply Kd.R_drew));exact HO517.out⟩,⟨by repeat (first|(with_reducible first|exact HB.out|apply below_alloc|apply pw_below_drewN|apply below_drew1)|exact HB.out)⟩⟩
      ·rw [if_neg c6] at H
       exact absurd H (by simp)
     ·rw [if_neg c5] at H
      exact absurd H (by simp)
    ·rw [if_neg c3] at H
     exact absurd H (by simp)
   ·rw [if_neg c2] at H
    have c2b0 : decide (x4_1 < (l0.length : Int)) = false := decide_eq_false c2
    clear c2
    obtain rfl := Option.some.inj H
    go_wp2
    go_ret
    exact ⟨_,by first|rfl|(simp [errW_none,errW_some] <;> rfl)|(simp [*,errW_none,errW_some] <;> rfl),by (with_reducible repeat (first|apply Kd.R_alloc|apply Kd.R_drewN|apply Kd.R_drew));exact HO_3.out,by repeat (first|(with_reducible first|exact HB.out|apply below_alloc|apply pw_below_drewN|apply below_drew1)|exact HB.out)⟩
end Go.Proofs.Ytejeelpnmdfibaa.Pr
end
section
namespace Go.Proofs.Ytejeelpnmdfibaa.Hw
open Go.RowKit Go.Proofs.Ytejeelpnmdfibaa.Pr Go.Proofs.YtejeelpnmdfibaaW.PrintWords Go.Proofs.YtejeelpnmdfibaaW.PrintLast Go.Proofs.YtejeelpnmdfibaaW.PrintMore Go.Proofs.Ytejeelpnmdfibaa.E
set_option linter.unusedVariables false
set_option linter.unusedSimpArgs false
def rS (n : Nat) (first rest : List Int) (c i j a b : Nat) : Int := if (min a b = 0 ∧ max a b < c) ∨ (0 < min a b ∧ (min a b < i ∨ (min a b = i ∧ max a b < j))) then newG n first rest a b else 0
theorem rS_first {n : Nat} {first rest : List Int} (i : Nat) : ∀ a,a < n → ∀ b,b < n → upd (upd (rS n first rest i i i) 0 i (first.getD i 0)) i 0 (first.getD i 0) a b = rS n first rest (i + 1) i i a b := by
 intro a ha b hb
 unfold upd rS newG
 by_cases h1 : a = i ∧ b = 0
 ·obtain ⟨rfl,rfl⟩ := h1
  rw [if_pos ⟨rfl,rfl⟩,if_pos (by omega),if_pos (by omega),show max a 0 = a from by omega]
 ·rw [if_neg h1]
  by_cases h2 : a = 0 ∧ b = i
  ·obtain ⟨rfl,rfl⟩ := h2
   rw [if_pos ⟨rfl,rfl⟩,if_pos (by omega),if_pos (by omega),show max 0 b = b from by omega]
  ·rw [if_neg h2]
   by_cases h3 : (min a b = 0 ∧ max a b < i) ∨ (0 < min a b ∧ (min a b < i ∨ (min a b = i ∧ max a b < i)))
   ·rw [if_pos h3,if_pos (show (min a b = 0 ∧ max a b < i + 1) ∨ (0 < min a b ∧ (min a b < i ∨ (min a b = i ∧ max a b < i))) from by omega)]
   ·rw [if_neg h3,if_neg (show ¬ ((min a b = 0 ∧ max a b < i + 1) ∨ (0 < min a b ∧ (min a b < i ∨ (min a b = i ∧ max a b < i)))) from by omega)]
theorem rS_next {n : Nat} {first rest : List Int} {i : Nat} (h1 : 1 ≤ i) {j : Nat} (hij : i ≤ j) (c : Nat) : ∀ a,a < n → ∀ b,b < n →
  upd (upd (rS n first rest c i j) i j (rest.getD (offs n i + (j - i)) 0)) j i (rest.getD (offs n i + (j - i)) 0) a b = rS n first rest c i (j + 1) a b := by
 intro a ha b hb
 unfold upd rS newG
 by_cases h1 : a = j ∧ b = i
 ·obtain ⟨rfl,rfl⟩ := h1
  rw [if_pos ⟨rfl,rfl⟩,if_pos (by omega),if_neg (by omega),show min a b = b from by omega,show max a b = a from by omega]
 ·rw [if_neg h1]
  by_cases h2 : a = i ∧ b = j
  ·obtain ⟨rfl,rfl⟩ := h2
   rw [if_pos ⟨rfl,rfl⟩,if_pos (by omega),if_neg (by omega),show min a b = a from by omega,show max a b = b from by omega]
  ·rw [if_neg h2]
   by_cases h3 : (min a b = 0 ∧ max a b < c) ∨ (0 < min a b ∧ (min a b < i ∨ (min a b = i ∧ max a b < j)))
   ·rw [if_pos h3,if_pos (show (min a b = 0 ∧ max a b < c) ∨ (0 < min a b ∧ (min a b < i ∨ (min a b = i ∧ max a b < j + 1))) from by omega)]
   ·rw [if_neg h3,if_neg (show ¬ ((min a b = 0 ∧ max a b < c) ∨ (0 < min a b ∧ (min a b < i ∨ (min a b = i ∧ max a b < j + 1)))) from by omega)]
theorem rS_row {n : Nat} {first rest : List Int} (c i j : Nat) (h : i = 0 ∨ j = n) : ∀ a,a < n → ∀ b,b < n → rS n first rest c i j a b = rS n first rest c (i + 1) (i + 1) a b := by
 intro a ha b hb
 unfold rS
 by_cases h3 : (min a b = 0 ∧ max a b < c) ∨ (0 < min a b ∧ (min a b < i ∨ (min a b = i ∧ max a b < j)))
 ·rw [if_pos h3,if_pos (show (min a b = 0 ∧ max a b < c) ∨ (0 < min a b ∧ (min a b < i + 1 ∨ (min a b = i + 1 ∧ max a b < i + 1))) from by omega)]
 ·rw [if_neg h3,if_neg (show ¬ ((min a b = 0 ∧ max a b < c) ∨ (0 < min a b ∧ (min a b < i + 1 ∨ (min a b = i + 1 ∧ max a b < i + 1)))) from by omega)]
theorem rS_all {n : Nat} {first rest : List Int} (j : Nat) : ∀ a,a < n → ∀ b,b < n → rS n first rest n n j a b = newG n first rest a b := by
 intro a ha b hb
 unfold rS
 rw [if_pos (by omega)]
set_option maxHeartbeats 2000000 in
set_option maxRecDepth 100000 in
theorem rnew_walk (A0 : Option Addr) (c0 : Nat) (first : List Int) (A1 : Option Addr) (c1 : Nat) (rest : List Int) (w : World) (hr0 : Kd.C (Kd.int .u64) w A0 first.length first) (hc0 : first.length ≤ c0) (hr1 : Kd.C (Kd.int .u64) w A1 rest.length rest) (hc1 : rest.length ≤ c1)
  (hn : 0 < first.length) (hn2 : first.length ≤ 1000) (hl : rest.length = offs first.length first.length) :
  Calls Try.prog 16 #[.slice A0 first.length c0,.slice A1 rest.length c1] w fun e w' => ∃ v0_ : Value,e = .returned (.tuple #[v0_,.int .i64 0]) ∧ Kd.S (Kd.slice 22 (Kd.int .u64)) 26 w' w.heap.size (fun _ => True) v0_ (matL first.length (newG first.length first rest)) ∧ Below w.heap.size w w' := by
 have HR0 := Aside0.mk hr0
 have HR1 := Aside0.mk hr1
 have hol := offs_last (n := first.length) hn
 obtain ⟨t,en⟩ : ∃ t,t + 1 = first.length := ⟨first.length - 1,by omega⟩
 rw [← en] at hol hl hn hn2 ⊢
 have HEN := Aside0.mk en
 have HL := Aside0.mk hl
 have hq : ((rest.length : Int) != wrap64 ((wrap64 ((t : Int) * ((t : Int) + 1))).tdiv 2)) = false := by
  have h1 : (t : Int) * ((t : Int) + 1) = 2 * (rest.length : Int) := by rw [hl,hol];push_cast;grind
  have h2 : (t : Int) * ((t : Int) + 1) ≤ 1000 * 1000 := Int.mul_le_mul (by omega) (by omega) (by omega) (by omega)
  have h3 : wrap64 ((t : Int) * ((t : Int) + 1)) = 2 * (rest.length : Int) := by rw [h1,w64' (by omega) (by omega)]
  rw [h3,Int.mul_tdiv_cancel_left _ (by omega),w64' (by omega) (by omega)]
  simp
 have hmk := mk_run (t := 34) (e := 26) (z := .slice none 0 0) Try.underlying34 infoSl rfl (t + 1) (by omega) (by decide) w
 rw [outC_zero w.heap.size,show ((t + 1 : Nat) : Int) = (t : Int) + 1 from rfl] at hmk
 have q0 : decide ((t : Int) < 0) = false := decide_eq_false (by omega)
 clear hr0 hr1 hl hol en
 go_enter Try.func16,Try.ntmps16
 go_wp2
 obtain ⟨bo,hbo⟩ : ∃ y,y = w.heap.size := ⟨_,rfl⟩
 rw [← hbo]
 have HBO := Aside0.mk hbo
 clear hmk hq q0 hbo
 go_loopg [8] (t + 1) (fun kq v8 w' => ∃ i : Nat,v8 = .int .i64 (i : Int) ∧ Aside0 (kq + i = t + 1) ∧ Aside0 (Mx w' bo (t + 1) i fun _ _ => 0) ∧ Aside0 (w'.heap.size = bo + 1 + i) ∧ Aside0 (Below w.heap.size w w'))
 case atStart => exact ⟨0,rfl,⟨rfl⟩,⟨by rw [HBO.out];exact Mx.start w (t + 1)⟩,⟨by rw [HBO.out];exact Array.size_push _⟩,⟨below_alloc (Below.refl _ _) _⟩⟩
 case round =>
  obtain ⟨i,rfl,HK,HM,HS,HB⟩ := hrel
  by_cases hlt : i < t + 1
  ·have q1 : decide ((i : Int) ≤ (t : Int)) = true := decide_eq_true (by omega)
   have q2 : decide (i ≤ t) = true := decide_eq_true (by omega)
   have p1 : ((0 : Int) ≤ (i : Int)) = True := eq_true (by omega)
   have p2 : ((i : Int) < (t : Int) + 1) = True := eq_true (by omega)
   have p3 : (i < t + 1) = True := eq_true hlt
   have hmk := mk_run (t := 26) (e := 22) (z := .int .u64 0) Try.underlying26 info22 rfl (t + 1) (by omega) (by decide) wr
   rw [rowC_zero,HS.out,show ((t + 1 : Nat) : Int) = (t : Int) + 1 from rfl] at hmk
   have h1 := blk_alloc HM.out.out (Obj.cells (rowC (t + 1) fun _ => 0).toArray 22)
   have c1 := blk_cell h1 i
   have f1 := blk_frozen h1 i
   rw [List.getElem?_toArray,outC_get hlt,if_neg (Nat.lt_irrefl i)] at c1
   clear h1
   go_wp2
   go_roundg (t + 1 - (i + 1))
   case measure => have := HK.out;omega
   case rel => exact ⟨i + 1,(by first|go_num|rw [show wrap64 ((i : Int) + 1) = ((i + 1 : Nat) : Int) from by rw [w64' (by omega) (by omega)];omega]),⟨by omega⟩,⟨HM.out.more hlt HS.out fun _ => rfl⟩,⟨by rw [size_setCell',alloc_size',HS.out];omega⟩,⟨below_alloc_set HB.out _ (by rw [← HBO.out];exact Nat.le_refl _) _ _⟩⟩
  ·have q1 : decide ((i : Int) ≤ (t : Int)) = false := decide_eq_false (by omega)
   have q2 : decide (i ≤ t) = false := decide_eq_false (by omega)
   have hin : i = t + 1 := by have := HK.out;omega
   have hM := HM.out
   rw [hin] at hM
   have HM0 := Aside0.mk (show Mx wr bo (t + 1) (t + 1) (rS (t + 1) first rest 0 0 0) from hM.congr fun a ha b hb => by unfold rS;rw [if_neg (by omega)])
   clear HM HS hM
   go_wp2
   go_loopg [9,10] (t + 1) (fun kq v9 v10 w' => ∃ i : Nat,v10 = .int .i64 (i : Int) ∧ v9 = .int .i64 (offs (t + 1) i : Int) ∧ Aside0 (kq + i = t + 1) ∧ Aside0 (Mx w' bo (t + 1) (t + 1) (rS (t + 1) first rest i i i)) ∧ Aside0 (Below w.heap.size w w'))
   case atStart => exact ⟨0,rfl,rfl,⟨rfl⟩,HM0,HB⟩
   case round =>
    clear HM0 HB HK hin q1 q2 hlt
    obtain ⟨i,rfl,rfl,HK,HM,HB⟩ := hrel
    by_cases hlt : i < t + 1
    ·have q1 : decide ((i : Int) ≤ (t : Int)) = true := decide_eq_true (by omega)
     have q2 : decide (i ≤ t) = true := decide_eq_true (by omega)
     have p1 : ((0 : Int) ≤ (i : Int)) = True := eq_true (by omega)
     have p2 : ((i : Int) < (t : Int) + 1) = True := eq_true (by omega)
     have p3 : ((0 : Int) < (t : Int) + 1) = True := eq_true (by omega)
     have p4 : (i < t + 1) = True := eq_true hlt
     have p5 : (0 < t + 1) = True := eq_true (by omega)
     obtain ⟨ad0,e0,hx0⟩ := Kd.at_int (Kd.C_below HR0.out HB.out) (i : Int) (by omega) (by have := HEN.out;omega)
     cases e0
     rw [Int.toNat_natCast] at hx0
     have hfj : rd first (i : Int) = first.getD i 0 := rd_nat first i
     rw [hfj] at hx0
     obtain ⟨x,hx⟩ : ∃ x,x = first.getD i 0 := ⟨_,rfl⟩
     rw [← hx] at hx0
     have HX := Aside0.mk hx
     have c1 : wr.cell? ⟨bo,0,none⟩ = some (.slice (some ⟨bo + 1,0,none⟩) (t + 1) (t + 1)) := HM.out.cellO (i := 0) (by omega) (by omega)
     have c2 : wr.cell? ⟨bo,i,none⟩ = some (.slice (some ⟨bo + 1 + i,0,none⟩) (t + 1) (t + 1)) := HM.out.cellO hlt hlt
     have d1 : wr.cell? ⟨bo + 1,i,none⟩ = some _ := HM.out.cellR (i := 0) (by omega) hlt
     have g1 : wr.frozen? ⟨bo + 1,i,none⟩ = false := HM.out.frozR (i := 0) (by omega) i
     have hm2 := HM.out.put (i := 0) (j := i) (by omega) hlt x
     have d2 : (wr.setCell ⟨bo + 1,i,none⟩ (.int .u64 x)).cell? ⟨bo + 1 + i,0,none⟩ = some _ := hm2.cellR hlt (by omega)
     have g2 : wr.frozen? ⟨bo + 1 + i,0,none⟩ = false := HM.out.frozR hlt 0
     have HM2 := Aside0.mk (show Mx _ bo (t + 1) (t + 1) (rS (t + 1) first rest (i + 1) i i) from Mx.drew ((hm2.put (i := i) (j := 0) hlt (by omega) x).congr fun a ha b hb => by rw [HX.out];exact rS_first i a ha b hb))
     have hbo : w.heap.size ≤ bo := by rw [← HBO.out];exact Nat.le_refl _
     have HB2 := Aside0.mk (show Below w.heap.size w _ from below_drew (Below.setCell (Below.setCell HB.out (p := ⟨bo + 1,i,none⟩) (by show w.heap.size ≤ bo + 1;omega) (.int .u64 x)) (p := ⟨bo + 1 + i,0,none⟩) (by show w.heap.size ≤ bo + 1 + i;omega) (.int .u64 x)))
     clear hx hfj hm2 hbo
     go_wp2
     refine start_ (n := 20) (S := (fun w' => w'.cell? ⟨bo,0,none⟩ = some (.slice (some ⟨bo + 1,0,none⟩) (t + 1) (t + 1)) ∧ w'.cell? ⟨bo,i,none⟩ = some (.slice (some ⟨bo + 1 + i,0,none⟩) (t + 1) (t + 1)) ∧ w'.cell? (ad0.add i) = some (.int .u64 x))) (ds := [17,19]) (bz 20 0) (by kernel_rfl) rfl rfl ⟨c1,c2,hx0⟩ (fun hHeld => ?_)
     refine pu 0 46 (bz 20 1) ?_
     refine pu 1 47 (bz 20 3) ?_
     refine tu 2 48 (bz 20 7) hHeld ?_
     refine pu 3 49 (bz 20 15) ?_
     refine pu 4 50 (bz 20 31) ?_
     refine pu 5 51 (bz 20 63) ?_
     refine pu 6 52 (bz 20 127) ?_
     refine tu 7 53 (bz 20 255) hHeld ?_
     refine pu 8 54 (bz 20 511) ?_
     refine pu 9 55 (bz 20 1023) ?_
     refine pu 10 56 (bz 20 2047) ?_
     refine tu 11 57 (bz 20 4095) hHeld ?_
     refine pu 12 58 (bz 20 8191) ?_
     refine pu 13 59 (bz 20 16383) ?_
     refine pu 14 60 (bz 20 32767) ?_
     refine tu 15 61 (bz 20 65535) hHeld ?_
     refine pu 16 62 (bz 20 131071) ?_
     refine last_ (i := 17) (N := none) (bz 20 262143) rfl rfl (by kernel_rfl) (by decide) (fun K hK => ?_)
     refine skip_ (w1 := ?_) (by rfl) rfl ?_ ?_
     rotate_left
     ·go_simp
      rfl
     refine hK.out _ _ ?_
     clear hK K
     refine pu 18 63 (bz 20 524287) ?_
     refine last_ (i := 19) (N := none) (bz 20 1048575) rfl rfl (by kernel_rfl) (by decide) (fun K hK => ?_)
     refine skip_ (w1 := ?_) (by rfl) rfl ?_ ?_
     rotate_left
     ·go_simp
      rfl
     refine hK.out _ _ ?_
     clear hK K
     refine done_ (by kernel_rfl) ?_
     clear c1 c2 d1 d2 g1 g2 hx0 p2 p3 p4 p5 q1 q2
     generalize hW : ((wr.setCell { block := bo + 1,off := i } (Value.int IntKind.u64 x)).setCell { block := bo + 1 + i,off := 0 } (Value.int IntKind.u64 x)).drew = W at HM2 HB2 ⊢
     clear hW
     go_wp2
     go_loopg [9,11] (t + 1 - i) (fun kq v9 v11 w' => ∃ j : Nat,v11 = .int .i64 (j : Int) ∧ v9 = .int .i64 ((offs (t + 1) i + (j - i) : Nat) : Int) ∧ Aside0 (kq + j = t + 1 ∧ i ≤ j) ∧ Aside0 (i = 0 → j = 0) ∧ Aside0 (Mx w' bo (t + 1) (t + 1) (rS (t + 1) first rest (i + 1) i j)) ∧ Aside0 (Below w.heap.size w w'))
     case atStart => exact ⟨i,rfl,(by rw [Nat.sub_self];rfl),⟨by omega,Nat.le_refl _⟩,⟨fun h => h⟩,HM2,HB2⟩
     case round =>
      clear HM2 HB2 HM HB
      obtain ⟨j,rfl,rfl,HK2,HJ0,HM,HB⟩ := hrel
      have hkk := HK2.out.2
      by_cases hlj : j < t + 1 ∧ 0 < i
      ·obtain ⟨hlj,hi1⟩ := hlj
       have q3 : decide ((j : Int) ≤ (t : Int)) = true := decide_eq_true (by omega)
       have q4 : decide (j ≤ t) = true := decide_eq_true (by omega)
       have q5 : decide ((0 : Int) < (i : Int)) = true := decide_eq_true (by omega)
       have q6 : decide (0 < i) = true := decide_eq_true hi1
       have hqb : offs (t + 1) i + (j - i) < rest.length := by
        have h1 := offs_next (t + 1) i hi1
        have h2 := offs_mono (n := t + 1) (t + 1 - (i + 1)) (i + 1) (by omega)
        rw [show i + 1 + (t + 1 - (i + 1)) = t + 1 from by omega] at h2
        have := HL.out
        omega
       obtain ⟨q,hq⟩ : ∃ q,q = offs (t + 1) i + (j - i) := ⟨_,rfl⟩
       rw [← hq] at hqb ⊢
       have HQ := Aside0.mk hq
       obtain ⟨ad,e1,hx0⟩ := Kd.at_int (Kd.C_below HR1.out HB.out) (q : Int) (by omega) (by omega)
       cases e1
       rw [Int.toNat_natCast,show rd rest (q : Int) = rest.getD q 0 from rd_nat rest q] at hx0
       obtain ⟨x,hx⟩ : ∃ x,x = rest.getD q 0 := ⟨_,rfl⟩
       rw [← hx] at hx0
       have HX := Aside0.mk hx
       have p2 : ((i : Int) < (t : Int) + 1) = True := eq_true (by omega)
       have p3 : ((0 : Int) ≤ (j : Int)) = True := eq_true (by omega)
       have p4 : ((j : Int) < (t : Int) + 1) = True := eq_true (by omega)
       have p5 : ((0 : Int) ≤ (q : Int)) = True := eq_true (by omega)
       have p6 : ((q : Int) < (rest.length : Int)) = True := eq_true (by omega)
       have c1 : wr.cell? ⟨bo,i,none⟩ = some (.slice (some ⟨bo + 1 + i,0,none⟩) (t + 1) (t + 1)) := HM.out.cellO hlt hlt
       have c2 : wr.cell? ⟨bo,j,none⟩ = some (.slice (some ⟨bo + 1 + j,0,none⟩) (t + 1) (t + 1)) := HM.out.cellO hlj hlj
       have d1 : wr.cell? ⟨bo + 1 + i,j,none⟩ = some _ := HM.out.cellR hlt hlj
       have g1 : wr.frozen? ⟨bo + 1 + i,j,none⟩ = false := HM.out.frozR hlt j
       have hm2 := HM.out.put (i := i) (j := j) hlt hlj x
       have d2 : (wr.setCell ⟨bo + 1 + i,j,none⟩ (.int .u64 x)).cell? ⟨bo + 1 + j,i,none⟩ = some _ := hm2.cellR hlj hlt
       have g2 : wr.frozen? ⟨bo + 1 + j,i,none⟩ = false := HM.out.frozR hlj i
       have HM2 := Aside0.mk (show Mx _ bo (t + 1) (t + 1) (rS (t + 1) first rest (i + 1) i (j + 1)) from Mx.drew ((hm2.put (i := j) (j := i) hlj hlt x).congr fun a ha b hb => by rw [HX.out,HQ.out];exact rS_next hi1 hkk (i + 1) a ha b hb))
       have hbo : w.heap.size ≤ bo := by rw [← HBO.out];exact Nat.le_refl _
       have HB2 := Aside0.mk (show Below w.heap.size w _ from below_drew (Below.setCell (Below.setCell HB.out (p := ⟨bo + 1 + i,j,none⟩) (by show w.heap.size ≤ bo + 1 + i;omega) (.int .u64 x)) (p := ⟨bo + 1 + j,i,none⟩) (by show w.heap.size ≤ bo + 1 + j;omega) (.int .u64 x)))
       have HQB := Aside0.mk hqb
       have HLJ := Aside0.mk hlj
       clear hm2 hx hq hbo
       go_wp2
       refine start_ (n := 22) (S := (fun w' => w'.cell? ⟨bo,i,none⟩ = some (.slice (some ⟨bo + 1 + i,0,none⟩) (t + 1) (t + 1)) ∧ w'.cell? ⟨bo,j,none⟩ = some (.slice (some ⟨bo + 1 + j,0,none⟩) (t + 1) (t + 1)) ∧ w'.cell? (ad.add q) = some (.int .u64 x))) (ds := [19,21]) (bz 22 0) (by kernel_rfl) rfl rfl ⟨c1,c2,hx0⟩ (fun hHeld => ?_)
       refine pu 0 74 (bz 22 1) ?_
       refine pu 1 75 (bz 22 3) ?_
       refine pu 2 76 (bz 22 7) ?_
       refine tu 3 77 (bz 22 15) hHeld ?_
       refine pu 4 78 (bz 22 31) ?_
       refine pu 5 79 (bz 22 63) ?_
       refine pu 6 80 (bz 22 127) ?_
       refine pu 7 81 (bz 22 255) ?_
       refine tu 8 82 (bz 22 511) hHeld ?_
       refine pu 9 83 (bz 22 1023) ?_
       refine pu 10 84 (bz 22 2047) ?_
       refine pu 11 85 (bz 22 4095) ?_
       refine pu 12 86 (bz 22 8191) ?_
       refine tu 13 87 (bz 22 16383) hHeld ?_
       refine pu 14 88 (bz 22 32767) ?_
       refine pu 15 89 (bz 22 65535) ?_
       refine pu 16 90 (bz 22 131071) ?_
       refine tu 17 91 (bz 22 262143) hHeld ?_
       refine pu 18 92 (bz 22 524287) ?_
       refine last_ (i := 19) (N := none) (bz 22 1048575) rfl rfl (by kernel_rfl) (by decide) (fun K hK => ?_)
       refine skip_ (w1 := ?_) (by rfl) rfl ?_ ?_
       rotate_left
       ·go_simp
        rfl
       refine hK.out _ _ ?_
       clear hK K
       refine pu 20 93 (bz 22 2097151) ?_
       refine last_ (i := 21) (N := none) (bz 22 4194303) rfl rfl (by kernel_rfl) (by decide) (fun K hK => ?_)
       refine skip_ (w1 := ?_) (by rfl) rfl ?_ ?_
       rotate_left
       ·go_simp
        rfl
       refine hK.out _ _ ?_
       clear hK K
       refine done_ (by kernel_rfl) ?_
       go_wp2
       go_roundg (t + 1 - (j + 1))
       case measure => have := HK2.out;have := HLJ.out;omega
       case rel =>
        have hqb := HQB.out
        have hlj := HLJ.out
        refine ⟨j + 1,(by first|rfl|rw [show wrap64 ((j : Int) + 1) = ((j + 1 : Nat) : Int) from by rw [w64' (by omega) (by omega)];omega]),?_,⟨by omega,by omega⟩,⟨fun h => by omega⟩,HM2,HB2⟩
        have h9 := HL.out
        have h10 := offs_last (n := t + 1) (by omega)
        have h11 : ((t + 1 : Nat) : Int) * (((t + 1 : Nat) : Int) - 1) ≤ 1000 * 1000 := Int.mul_le_mul (by omega) (by omega) (by omega) (by omega)
        rw [show wrap64 ((q : Int) + 1) = ((q + 1 : Nat) : Int) from by rw [w64' (by omega) (by omega)];omega,HQ.out,show offs (t + 1) i + (j - i) + 1 = offs (t + 1) i + (j + 1 - i) from by omega]
      ·by_cases hjt : j < t + 1
       ·have q3 : decide ((j : Int) ≤ (t : Int)) = true := decide_eq_true (by omega)
        have q4 : decide (j ≤ t) = true := decide_eq_true (by omega)
        have q5 : decide ((0 : Int) < (i : Int)) = false := decide_eq_false (by omega)
        have q6 : decide (0 < i) = false := decide_eq_false (by omega)
        have HM3 := Aside0.mk (HM.out.congr (rS_row (n := t + 1) (first := first) (rest := rest) (i + 1) i j (by have := HK2.out;omega)))
        have hoff : offs (t + 1) i + (j - i) = offs (t + 1) (i + 1) := by
         by_cases hi0 : i = 0
         ·have := HJ0.out hi0
          rw [hi0,this];rfl
         ·rw [offs_next (t + 1) i (by omega)]
          have := HK2.out;omega
        rw [hoff]
        clear hoff
        go_wp2
        go_roundg (t + 1 - (i + 1))
        case measure => have := HK.out;omega
        case rel => exact ⟨i + 1,(by first|rfl|rw [show wrap64 ((i : Int) + 1) = ((i + 1 : Nat) : Int) from by rw [w64' (by omega) (by omega)];omega]),rfl,⟨by have := HK.out;omega⟩,HM3,HB⟩
       ·have q3 : decide ((j : Int) ≤ (t : Int)) = false := decide_eq_false (by omega)
        have q4 : decide (j ≤ t) = false := decide_eq_false (by omega)
        have HM3 := Aside0.mk (HM.out.congr (rS_row (n := t + 1) (first := first) (rest := rest) (i + 1) i j (by have := HK2.out;omega)))
        have hoff : offs (t + 1) i + (j - i) = offs (t + 1) (i + 1) := by
         by_cases hi0 : i = 0
         ·have := HJ0.out hi0
          rw [hi0,this];rfl
         ·rw [offs_next (t + 1) i (by omega)]
          have := HK2.out;omega
        rw [hoff]
        clear hoff
        go_wp2
        go_roundg (t + 1 - (i + 1))
        case measure => have := HK.out;omega
        case rel => exact ⟨i + 1,(by first|rfl|rw [show wrap64 ((i : Int) + 1) = ((i + 1 : Nat) : Int) from by rw [w64' (by omega) (by omega)];omega]),rfl,⟨by have := HK.out;omega⟩,HM3,HB⟩
    ·have q1 : decide ((i : Int) ≤ (t : Int)) = false := decide_eq_false (by omega)
     have q2 : decide (i ≤ t) = false := decide_eq_false (by omega)
     have hij : i = t + 1 := by have := HK.out;omega
     go_wp2
     first|go_ret2|((try simp only [Exit.inBlock,Exit.then]);refine bodyPost_ret (results_tmp2 rfl _ _ _) rfl ?_)
     have hM := HM.out
     rw [hij] at hM
     exact ⟨_,rfl,(hM.congr (rS_all (t + 1))).own (by rw [← HBO.out];exact Nat.le_refl _) (by omega),HB.out⟩
set_option maxHeartbeats 2000000 in
set_option maxRecDepth 100000 in
theorem rnew_err (A0 : Option Addr) (c0 : Nat) (first : List Int) (A1 : Option Addr) (c1 : Nat) (rest : List Int) (w : World) (hn2 : first.length ≤ 1000) (hlr : rest.length ≤ 1000000000) (hbad : first.length = 0 ∨ rest.length ≠ offs first.length first.length) :
  Calls Try.prog 16 #[.slice A0 first.length c0,.slice A1 rest.length c1] w fun e w' => ∃ v0_ : Value,e = .returned (.tuple #[v0_,.int .i64 1]) ∧ Kd.S (Kd.slice 22 (Kd.int .u64)) 26 w' w.heap.size (fun _ => True) v0_ [] ∧ Below w.heap.size w w' := by
 by_cases hn : first.length = 0
 ·have q0 : decide ((first.length : Int) - 1 < 0) = true := decide_eq_true (by omega)
  rw [hn] at q0 ⊢
  clear hbad hn
  go_enter Try.func16,Try.ntmps16
  go_wp2
  first|go_ret2|((try simp only [Exit.inBlock,Exit.then]);refine bodyPost_ret (results_tmp2 rfl _ _ _) rfl ?_)
  exact ⟨_,rfl,Kd.S_nil _ _ _ _ _,Below.refl _ _⟩
 ·have hl : rest.length ≠ offs first.length first.length := hbad.resolve_left hn
  have hol := offs_last (n := first.length) (by omega)
  obtain ⟨t,en⟩ : ∃ t,t + 1 = first.length := ⟨first.length - 1,by omega⟩
  rw [← en] at hol hl hn2 ⊢
  have hq : ((rest.length : Int) != wrap64 ((wrap64 ((t : Int) * ((t : Int) + 1))).tdiv 2)) = true := by
   have h1 : (t : Int) * ((t : Int) + 1) = 2 * (offs (t + 1) (t + 1) : Int) := by rw [hol];push_cast;grind
   have h2 : (t : Int) * ((t : Int) + 1) ≤ 1000 * 1000 := Int.mul_le_mul (by omega) (by omega) (by omega) (by omega)
   have h3 : wrap64 ((t : Int) * ((t : Int) + 1)) = 2 * (offs (t + 1) (t + 1) : Int) := by rw [h1,w64' (by omega) (by omega)]
   rw [h3,Int.mul_tdiv_cancel_left _ (by omega),w64' (by omega) (by omega)]
   exact bne_iff_ne.mpr (by omega)
  have q0 : decide ((t : Int) < 0) = false := decide_eq_false (by omega)
  clear hbad hl hol hn en
  go_enter Try.func16,Try.ntmps16
  go_wp2
  first|go_ret2|((try simp only [Exit.inBlock,Exit.then]);refine bodyPost_ret (results_tmp2 rfl _ _ _) rfl ?_)
  exact ⟨_,rfl,Kd.S_nil _ _ _ _ _,Below.refl _ _⟩
def privityref10_New.f (l0 l1 : List Int) : Option (List (List Int) × Int) :=
 if l0.length ≤ 1000 then (if l1.length ≤ 1000000000 then (if newBad l0 l1 = true then some ([],1) else some (matL l0.length (newG l0.length l0 l1),0)) else none) else none
theorem privityref10_New.calls (A0 : Option Addr) (c0 : Nat) (l0 : List Int) (A1 : Option Addr) (c1 : Nat) (l1 : List Int) (r1 : List (List Int)) (r2 : Int) (w : World) (hr0 : Kd.C (Kd.int .u64) w A0 l0.length l0) (hc0 : l0.length ≤ c0) (hr1 : Kd.C (Kd.int .u64) w A1 l1.length l1) (hc1 : l1.length ≤ c1) (h : privityref10_New.f l0 l1 = some (r1,r2)) :
  Calls Try.prog 16 #[.slice A0 l0.length c0,.slice A1 l1.length c1] w fun e w' => ∃ v0_ : Value,e = .returned (.tuple #[v0_,.int .i64 r2]) ∧ Kd.S (Kd.slice 22 (Kd.int .u64)) 26 w' w.heap.size (fun _ => True) v0_ r1 ∧ Below w.heap.size w w' := by
 unfold privityref10_New.f at h
 obtain ⟨h1,h⟩ := ifs h
 obtain ⟨h2,h⟩ := ifs h
 by_cases hb : newBad l0 l1 = true
 ·rw [if_pos hb] at h
  have h := Option.some.inj h
  rw [← (Prod.mk.inj h).1,← (Prod.mk.inj h).2]
  exact rnew_err A0 c0 l0 A1 c1 l1 w h1 h2 (newBad_iff.1 hb)
 ·rw [if_neg hb] at h
  have h := Option.some.inj h
  rw [← (Prod.mk.inj h).1,← (Prod.mk.inj h).2]
  have hg : ¬ (l0.length = 0 ∨ l1.length ≠ offs l0.length l0.length) := fun hx => hb (newBad_iff.2 hx)
  exact rnew_walk A0 c0 l0 A1 c1 l1 w hr0 hc0 hr1 hc1 (by omega) h1 (Classical.byContradiction fun hx => hg (Or.inr hx))
end Go.Proofs.Ytejeelpnmdfibaa.Hw
end
section
namespace Go.Proofs.Ytejeelpnmdfibaa.Pr
open Go.RowKit Go.Proofs.YtejeelpnmdfibaaW.PrintWords Go.Proofs.YtejeelpnmdfibaaW.PrintLast Go.Proofs.YtejeelpnmdfibaaW.PrintMore
attribute [local go_sem] max2_int min2_int max_two min_two max_three min_three max_four min_four
set_option linter.unusedVariables false
set_option linter.unusedSimpArgs false
open Go.Proofs.Ytejeelpnmdfibaa.Hw
def privityref43_moved.f (k : Nat) (a0 : Int) (l1 : List Int) (a2 : Int) (l3 : List Int) (l4 : List Int) : Option (List Int × List Int) := (privityref10_New.f l3 l4).bind fun bt518 => ((privityref10_Translate.f k a0 bt518.1 a2 l1).bind fun t522 => ((some (([] : List Int) : List Int)).bind fun y525 => (if 0 < (t522.length : Int) then (if y525.length + (rd_L4 t522 0).length < 17592186044416 then ((privityref43_rest.f k t522).bind fun t532 => (some ((y525 ++ (rd_L4 t522 0)),t532))) else (none)) else (none))))
set_option maxHeartbeats 8000000 in
set_option maxRecDepth 100000 in
theorem privityref43_moved.calls (k : Nat) (a0 : Int) (A1 : Option Addr) (c1 : Nat) (l1 : List Int) (a2 : Int) (A3 : Option Addr) (c3 : Nat) (l3 : List Int) (A4 : Option Addr) (c4 : Nat) (l4 : List Int) (r1 : List Int) (r2 : List Int) (w : World) (hr1 : Kd.C (Kd.int .u64) w A1 l1.length l1) (hc1 : l1.length ≤ c1) (hr3 : Kd.C (Kd.int .u64) w A3 l3.length l3) (hc3 : l3.length ≤ c3) (hr4 : Kd.C (Kd.int .u64) w A4 l4.length l4) (hc4 : l4.length ≤ c4) (h : privityref43_moved.f k a0 l1 a2 l3 l4 = some (r1,r2)) :
  Calls Try.prog 48 #[.int .u64 a0,.slice A1 l1.length c1,.int .u64 a2,.slice A3 l3.length c3,.slice A4 l4.length c4] w fun e w' => ∃ v0_ v1_ : Value,e = .returned (.tuple #[v0_,v1_]) ∧ Kd.R (Kd.int .u64) 22 w' w.heap.size (fun k_ => some k_ ≠ (v1_ : Value).ownBlock) v0_ r1 ∧ Kd.R (Kd.int .u64) 22 w' w.heap.size (fun k_ => some k_ ≠ (v0_ : Value).ownBlock) v1_ r2 ∧ Below w.heap.size w w' := by
 have HR1 := Aside0.mk hr1
 have HC1 := Aside0.mk hc1
 clear hr1 hc1
 have HR3 := Aside0.mk hr3
 have HC3 := Aside0.mk hc3
 clear hr3 hc3
 have HR4 := Aside0.mk hr4
 have HC4 := Aside0.mk hc4
 clear hr4 hc4
 have HB := Aside0.mk (Below.refl w.heap.size w)
 have H : ((privityref10_New.f l3 l4).bind fun bt518 => ((privityref10_Translate.f k a0 bt518.1 a2 l1).bind fun t522 => ((some (([] : List Int) : List Int)).bind fun y525 => (if 0 < (t522.length : Int) then (if y525.length + (rd_L4 t522 0).length < 17592186044416 then ((privityref43_rest.f k t522).bind fun t532 => (some ((y525 ++ (rd_L4 t522 0)),t532))) else (none)) else (none))))) = some (r1,r2) := h
 clear h
 replace H := Option.bind_eq_some_iff.mp H
 obtain ⟨⟨t518,t519⟩,A60,H⟩ := H
 try dsimp only at H
 have A6 := Aside0.mk A60
 clear A60
 replace H := Option.bind_eq_some_iff.mp H
 obtain ⟨t522,A70,H⟩ := H
 try dsimp only at H
 have A7 := Aside0.mk A70
 clear A70
 obtain ⟨y525,hy525⟩ : ∃ y_ : List Int,y_ = (([] : List Int)) := ⟨_,rfl⟩
 replace H : (if 0 < (t522.length : Int) then (if y525.length + (rd_L4 t522 0).length < 17592186044416 then ((privityref43_rest.f k t522).bind fun t532 => (some ((y525 ++ (rd_L4 t522 0)),t532))) else (none)) else (none)) = some (r1,r2) := by first|(rw [hy525];with_reducible exact H)|(have H2_ := (Option.bind_some _ _).symm.trans H;rw [hy525];with_reducible exact H2_)|(have H2_ := (Option.bind_some _ _).symm.trans H;with_reducible exact H2_)|with_reducible exact H|(rw [hy525];exact H)|exact H
 have Ny525 := Aside0.mk hy525
 clear hy525
 by_cases c8 : 0 < (t522.length : Int)
 ·rw [if_pos c8] at H
  have c8b0 : decide (0 < (t522.length : Int)) = true := decide_eq_true c8
  have c8b1 : decide (0 < t522.length) = true := decide_eq_true (by omega)
  clear c8
  by_cases c9 : y525.length + (rd_L4 t522 0).length < 17592186044416
  ·rw [if_pos c9] at H
   have LMc9 := Aside0.mk c9
   clear c9
   obtain ⟨y529,hy529⟩ : ∃ y_ : List Int,y_ = (y525 ++ (rd_L4 t522 0)) := ⟨_,rfl⟩
   replace H : ((privityref43_rest.f k t522).bind fun t532 => (some (y529,t532))) = some (r1,r2) := by first|(rw [hy529];with_reducible exact H)|(have H2_ := (Option.bind_some _ _).symm.trans H;rw [hy529];with_reducible exact H2_)|(have H2_ := (Option.bind_some _ _).symm.trans H;with_reducible exact H2_)|with_reducible exact H|(rw [hy529];exact H)|exact H
   have Ny529 := Aside0.mk hy529
   clear hy529
   replace H := Option.bind_eq_some_iff.mp H
   obtain ⟨t532,A100,H⟩ := H
   try dsimp only at H
   have A10 := Aside0.mk A100
   clear A100
   simp only [Option.some.injEq,Prod.mk.injEq] at H
   obtain ⟨rfl,rfl⟩ := H
   go_enter Try.func48,Try.ntmps48
   go_wp2_with (first|((with_reducible refine gate_callee (f := 16) rfl ?_);refine goesL_ (some 18) rfl rfl Try.func16 (by kernel_rfl) rfl #[.slice A3 l3.length c3,.slice A4 l4.length c4] rfl (by (try simp only [List.map_toArray,List.map_cons,List.map_nil]);first|done|rfl|(simp only [List.length_drop,List.length_take];rfl)) ?_;(with_reducible refine (privityref10_New.calls _ _ l3 _ _ l4 t518 t519 _ ?side1 ?side2 ?side3 ?side4 A6.out).mono ?_);(case side1 => repeat (first|exact HR3.out|(with_reducible refine Kd.C_alloc ?_ _)|(with_reducible refine Kd.C_drewN ?_ _)|(with_reducible refine Kd.C_drew ?_)));(case side2 => exact HC3.out);(case side3 => repeat (first|exact HR4.out|(with_reducible refine Kd.C_alloc ?_ _)|(with_reducible refine Kd.C_drewN ?_ _)|(with_reducible refine Kd.C_drew ?_)));(case side4 => exact HC4.out);rintro e w11 ⟨v520,rfl,ho0,hb⟩;refine ⟨_,rfl,?_⟩;have n0_ := Aside0.mk (Kd.S_lower ho0 (below_size (bb HB)));have n1_ := Aside0.mk (below_step (bb HB) hb);clear HB;have HO521 := n0_;have HB := n1_;clear n0_ n1_;(try clear hb);(try clear hb2);(try clear hk);(try clear hi);(try clear ho0);obtain ⟨Ao12,co12,eo12⟩ := Kd.S_slice HO521.out;subst eo12)|((with_reducible refine gate_callee (f := 74) rfl ?_);refine goesL_ (some 25) rfl rfl Try.func74 (by kernel_rfl) rfl #[.int .u64 a0,.slice Ao12 t518.length co12,.int .u64 a2,.slice A1 l1.length c1] rfl (by (try simp only [List.map_toArray,List.map_cons,List.map_nil]);first|done|rfl|(simp only [List.length_drop,List.length_take];rfl)) ?_;(with_reducible refine (privityref10_Translate.calls k a0 _ _ t518 a2 _ _ l1 t522 _ ?side1 ?side2 ?side3 ?side4 A7.out).mono ?_);(case side1 => repeat (first|exact (Kd.S_reads' HO521.out).2.2|(with_reducible refine Kd.C_alloc ?_ _)|(with_reducible refine Kd.C_drewN ?_ _)|(with_reducible refine Kd.C_drew ?_)));(case side2 => exact (Kd.S_reads' HO521.out).2.1);(case side3 => exact cb HR1 HB);(case side4 => exact HC1.out);rintro e w13 ⟨v523,rfl,ho0,hb⟩;refine ⟨_,rfl,?_⟩;have n0_ := Aside0.mk (Kd.S_elder' (by (with_reducible repeat (first|apply Kd.S_alloc|apply Kd.S_drewN|apply Kd.S_drew));exact HO521.out) (Kd.S_base ho0) hb);have n1_ := Aside0.mk (Kd.S_lower (Kd.S_new' ho0 (Kd.S_lt (by (with_reducible repeat (first|apply Kd.S_alloc|apply Kd.S_drewN|apply Kd.S_drew));exact HO521.out))) (below_size (bb HB)));have n2_ := Aside0.mk (below_step (bb HB) hb);clear HO521 HB;have HO521 := n0_;have HO524 := n1_;have HB := n2_;clear n0_ n1_ n2_;(try clear hb);(try clear hb2);(try clear hk);(try clear hi);(try clear ho0))|((with_reducible refine gate_dst (N := 26) rfl ?_);refine Kd.R_lit (Kd.int .u64) _ 22 ?hg (N := 26) ?hd (xs := ([] : List Int)) (inner := []) (ok := fun _ => True) (okp := fun _ => True) ?hr ?hp (fun _ hk => hk) trivial (Below.refl _ _) (Nat.le_refl _) (by simp) ?_;(case hd => rfl);(case hg => rfl);(case hr => first|(go_simp;done)|(go_simp;rfl));(case hp => exact (Reps.none _ _));intro v526 w14 ho15 hb hg_ hnew_;clear hg_ hnew_;(first|rw [← Ny525.out] at ho15|(simp only [Int.reduceToNat] at ho15;rw [← Ny525.out] at ho15));have n0_ := Aside0.mk (Kd.S_elder' (by (with_reducible repeat (first|apply Kd.S_alloc|apply Kd.S_drewN|apply Kd.S_drew));exact HO521.out) (Kd.R_base ho15) hb);have n1_ := Aside0.mk (Kd.S_elder' (by (with_reducible repeat (first|apply Kd.S_alloc|apply Kd.S_drewN|apply Kd.S_drew));exact HO524.out) (Kd.R_base ho15) hb);have n2_ := Aside0.mk (Kd.R_lower ho15 (below_size (bb HB)));have n3_ := Aside0.mk (below_step (bb HB) hb);clear HO521 HO524 HB;have HO521 := n0_;have HO524 := n1_;have HO527 := n2_;have HB := n3_;clear n0_ n1_ n2_ n3_;clear hb ho15;obtain ⟨Ao16,co16,eo16⟩ := Kd.S_slice HO524.out;subst eo16;have p528 : 0 ≤ (0 : Int) := (by omega);have q528 : 0 < (t522.length : Int) := of_decide_eq_true (by first|(with_reducible assumption)|assumption);obtain ⟨ad528,A528_0,c528_0,e528,hx528_0,hl528_0,hi528_0⟩ := at_L4 (Kd.S_reads' HO524.out).2.2 0 p528 q528;cases e528;obtain ⟨ce528,hce528,hMe528,hcc528⟩ := Kd.S_get HO524.out [] 0 p528 (by first|exact q528|exact of_decide_eq_true (by first|(with_reducible assumption)|assumption)|(have e_ := (Kd.S_reads' HO524.out).1;omega));obtain ⟨ve528_0,rfl,ge528_0⟩ := hMe528;have hv528_0 := hcc528 0 _ rfl;rw [Nat.add_zero,show ((Kd.slice 22 (Kd.int .u64))).sz = 1 from rfl,Nat.mul_one] at hv528_0;replace hv528_0 := Option.some.inj (hv528_0.symm.trans hx528_0);rw [hv528_0] at ge528_0;have HL528_0 := Aside0.mk (show Kd.R (Kd.int .u64) 22 _ _ _ _ (rd_L4 t522 0) from ge528_0);clear hv528_0 ge528_0;clear hcc528 hce528;have qi528 : (0 < t522.length) = True := eq_true (by omega);(try rw [show ((0 : Int)).toNat = 0 from rfl] at hx528_0);(try rw [Addr.add_zero'] at hx528_0);have HR528_0 := Aside0.mk hi528_0;have HC528_0 := Aside0.mk hl528_0;clear hi528_0 hl528_0;replace p528 := eq_true p528;replace q528 := eq_true q528)|((with_reducible refine gate_builtin (b := .append) (xs := #[.tmp 26,.tmp 29]) rfl ?_);at_builtin;refine Kd.R_append_rows (Kd.int .u64) (w0 := w) w.heap.size rfl (.tmp 26) (.tmp 29) 26 22 (.int .u64 0) 8 rfl Try.underlying26 info22 rfl (by decide) (by omega) v526 y525 (rd_L4 t522 0) _ _ _ (fun _ => True) (fun _ => False) rfl rfl ?aO ?aR (fun _ _ h => h) (fun _ h => h.elim) ?aF ?aB ?aS ?aL ?_;(case aR => repeat (first|exact (by repeat (first|(with_reducible exact HR528_0.out)|(with_reducible refine Kd.C_alloc ?_ _)|(with_reducible refine Kd.C_drewN ?_ _)|(with_reducible refine Kd.C_drew ?_)|exact HR528_0.out))|(with_reducible refine Kd.C_alloc ?_ _)|(with_reducible refine Kd.C_drewN ?_ _)|(with_reducible refine Kd.C_drew ?_)));(case aB => exact (bb HB));(case aF => exact (fun _ _ => trivial));(case aO => exact (rr HO527));(case aS => exact (below_size (bb HB)));(case aL => have := LMc9.out;omega);intro v530 w17 ho hb hg hat;rw [← Ny529.out] at ho;have n0_ := Aside0.mk (Kd.S_after (ok := (fun k_ => some k_ ≠ (.slice (some ad528) t522.length co16 : Value).ownBlock)) (by (with_reducible repeat (first|apply Kd.S_alloc|apply Kd.S_drewN|apply Kd.S_drew));exact Kd.S_mono HO521.out (fun _ hk => ⟨hk.1.2,hk.2⟩)) hg hat);have n1_ := Aside0.mk (Kd.S_after (ok := (fun k_ => some k_ ≠ (.slice Ao12 t518.length co12 : Value).ownBlock)) (by (with_reducible repeat (first|apply Kd.S_alloc|apply Kd.S_drewN|apply Kd.S_drew));exact Kd.S_mono HO524.out (fun _ hk => ⟨hk.1.2,hk.2⟩)) hg hat);have n2_ := Aside0.mk (Kd.R_after (ok := (fun k_ => some k_ ≠ (.slice Ao12 t518.length co12 : Value).ownBlock ∧ some k_ ≠ (.slice (some ad528) t522.length co16 : Value).ownBlock)) (by (with_reducible repeat (first|apply Kd.R_alloc|apply Kd.R_drewN|apply Kd.R_drew));exact Kd.R_mono HL528_0.out (fun _ hk => ⟨⟨hk.1.1.2,hk.2⟩,hk.1.2⟩)) hg hat);have n3_ := Aside0.mk (hb);have n4_ := Aside0.mk (ho);clear HO521 HO524 HL528_0 HB HO527;have HO521 := n0_;have HO524 := n1_;have HL528_0 := n2_;have HB := n3_;have HO531 := n4_;clear n0_ n1_ n2_ n3_ n4_;clear ho hb hg hat)|((with_reducible refine gate_callee (f := 75) rfl ?_);refine goesL_ (some 32) rfl rfl Try.func75 (by kernel_rfl) rfl #[.slice (some ad528) t522.length co16] rfl (by (try simp only [List.map_toArray,List.map_cons,List.map_nil]);first|done|rfl|(simp only [List.length_drop,List.length_take];rfl)) ?_;(with_reducible refine (privityref43_rest.calls k _ _ t522 t532 _ ?side1 ?side2 A10.out).mono ?_);(case side1 => repeat (first|exact (Kd.S_reads' HO524.out).2.2|(with_reducible refine Kd.C_alloc ?_ _)|(with_reducible refine Kd.C_drewN ?_ _)|(with_reducible refine Kd.C_drew ?_)));(case side2 => exact (Kd.S_reads' HO524.out).2.1);rintro e w18 ⟨v533,rfl,ho0,hb⟩;refine ⟨_,rfl,?_⟩;have n0_ := Aside0.mk (Kd.S_elder' (by (with_reducible repeat (first|apply Kd.S_alloc|apply Kd.S_drewN|apply Kd.S_drew));exact HO521.out) (Kd.R_base ho0) hb);have n1_ := Aside0.mk (Kd.S_elder' (by (with_reducible repeat (first|apply Kd.S_alloc|apply Kd.S_drewN|apply Kd.S_drew));exact HO524.out) (Kd.R_base ho0) hb);have n2_ := Aside0.mk (Kd.R_elder' (by (with_reducible repeat (first|apply Kd.R_alloc|apply Kd.R_drewN|apply Kd.R_drew));exact HL528_0.out) (Kd.R_base ho0) hb);have n3_ := Aside0.mk (Kd.R_elder' (rr HO531) (Kd.R_base ho0) hb);have n4_ := Aside0.mk (Kd.R_lower (Kd.R_new' (Kd.R_new' ho0 (Kd.R_lt (by (with_reducible repeat (first|apply Kd.R_alloc|apply Kd.R_drewN|apply Kd.R_drew));exact HL528_0.out))) (Kd.R_lt (rr HO531))) (below_size (bb HB)));have n5_ := Aside0.mk (below_step (bb HB) hb);clear HO521 HO524 HL528_0 HO531 HB;have HO521 := n0_;have HO524 := n1_;have HL528_0 := n2_;have HO531 := n3_;have HO534 := n4_;have HB := n5_;clear n0_ n1_ n2_ n3_ n4_ n5_;(try clear hb);(try clear hb2);(try clear hk);(try clear hi);(try clear ho0)))
   go_ret2
   exact ⟨_,_,by first|rfl|(simp [errW_none,errW_some] <;> rfl)|(simp [*,errW_none,errW_some] <;> rfl),by (with_reducible repeat (first|apply Kd.R_alloc|apply Kd.R_drewN|apply Kd.R_drew));exact Kd.R_mono HO531.out (fun _ hk => hk.2),by (with_reducible repeat (first|apply Kd.R_alloc|apply Kd.R_drewN|apply Kd.R_drew));exact Kd.R_mono HO534.out (fun _ hk => hk.2),by repeat (first|(with_reducible first|exact HB.out|apply below_alloc|apply pw_below_drewN|apply below_drew1)|exact HB.out)⟩
  ·rw [if_neg c9] at H
   exact absurd H (by simp)
 ·rw [if_neg c8] at H
  exact absurd H (by simp)
end Go.Proofs.Ytejeelpnmdfibaa.Pr
end
