/- Part 8 of the proof's texts, joined in build order. -/
import Derived.Test.YtmdoaijkaaaglaaZKK7
import Derived.Test.YtmdoaijkaaaglaaZKK2
set_option linter.unusedVariables false
set_option linter.unusedSimpArgs false
section
namespace Go.Proofs.Ytmdoaijkaaaglaa.Hw
open Go.RowKit Go.Proofs.Ytmdoaijkaaaglaa.Pr Go.Proofs.YtmdoaijkaaaglaaW.PrintWords Go.Proofs.YtmdoaijkaaaglaaW.PrintLast Go.Proofs.YtmdoaijkaaaglaaW.PrintMore Go.Proofs.Ytmdoaijkaaaglaa.E
def RedS (p : Int) (l : List (List Int)) (k : Nat) (w : World) (e : Ending) (w' : World) : Prop := ∃ mv vs pv,e = .returned (.tuple #[mv,pv,.int .u64 (red p l k).2.2]) ∧ Wq w' w.heap.size mv vs (red p l k).1 pv (red p l k).2.1 ∧ Below w.heap.size w w'
set_option maxHeartbeats 8000000 in
set_option maxRecDepth 100000 in
theorem rreduce_walk (p : Int) (hp : Supp p) (A : Option Addr) (c : Nat) (l : List (List Int)) (n k : Nat) (w : World) (hr : Kd.C (Kd.slice 22 (Kd.int .u64)) w A l.length l) (hc : l.length ≤ c) (h0 : 0 < l.length) (hl : l.length ≤ 1000) (hn0 : 0 < n) (hn : n ≤ 1000) (hok : RowsOk p n l) (hk : k ≤ n) :
  Calls Try.prog 80 #[.int .u64 p,.slice A l.length c,.int .i64 (k : Int)] w (RedS p l k w) := by
 have HR := am hr
 have HOK := am hok
 have HP := am hp
 clear hr hok
 go_enter Try.func80,Try.ntmps80
 go_wp2
 go_loopg [9,10] l.length (fun kq v9 v10 w' => ∃ (i : Nat) (xs : List (List Int)),v10 = .int .i64 (i : Int) ∧ Aside0 (kq + i = l.length) ∧ Aside0 (xs = l.take i) ∧ Aside0 (Kd.S (Kd.slice 22 (Kd.int .u64)) 40 w' w.heap.size (fun _ => True) v9 xs) ∧ Aside0 (Below w.heap.size w w'))
 case atStart => exact ⟨0,[],rfl,⟨rfl⟩,⟨rfl⟩,⟨Kd.S_nil _ _ _ _ _⟩,⟨Below.refl _ _⟩⟩
 case round =>
  as_aux_lemma =>
   obtain ⟨i,xs,rfl,HK,HXS,HS,HB⟩ := hrel
   by_cases hlt : i < l.length
   ·
    have q1 : ((i : Int) < (l.length : Int)) = True := eq_true (by omega)
    have q2 : decide (i < l.length) = true := decide_eq_true hlt
    have p1 : ((0 : Int) ≤ (i : Int)) = True := eq_true (by omega)
    obtain ⟨ad,A2,c2,e1,hx,hc2,hC2⟩ := at_L2 HR.out (i : Int) (by omega) (by omega)
    cases e1
    rw [Int.toNat_natCast] at hx
    have hrd : rd_L2 l (i : Int) = l[i] := by unfold rd_L2;rw [Int.toNat_natCast,List.getD_eq_getElem?_getD,List.getElem?_eq_getElem hlt];rfl
    obtain ⟨r,hrr⟩ : ∃ r,r = rd_L2 l (i : Int) := ⟨_,rfl⟩
    rw [← hrr] at hx hc2 hC2 hrd
    have hnx := List.take_succ_eq_append_getElem hlt
    rw [← hrd] at hnx
    have hrn : r.length = n := by rw [hrd];exact (HOK.out.at hlt).1
    have HNX := am hnx
    have HC2 := am (Kd.C_below hC2 HB.out)
    have HRN := am hrn
    have hx := (HB.out.cell (World.block_lt_of_cell? w _ hx)).trans hx
    have HTL := am (show xs.length ≤ 1000 from by rw [HXS.out,List.length_take];omega)
    clear hrr hrd hnx hC2 hrn
    obtain ⟨A9,c9,rfl⟩ := Kd.S_slice HS.out
    rw [← HXS.out] at HNX
    go_wp2_with (first
     | ((with_reducible refine gate_dst (N := 29) rfl ?_);refine Kd.R_lit (Kd.int .u64) _ 22 ?hg (N := 29) ?hd (xs := ([] : List Int)) (inner := []) (ok := fun _ => True) (okp := fun _ => True) ?hr ?hp (fun _ hk => hk) trivial (Below.refl _ _) (Nat.le_refl _) (by simp) ?_;(case hd => rfl);(case hg => rfl);(case hr => first|(go_simp;done)|(go_simp;rfl));(case hp => exact (Reps.none _ _));intro v29 w10 ho11 hb hg_ hnew_;have HS1 := am (Kd.S_elder' HS.out (Kd.R_base ho11) hb);have HO1 := am (Kd.R_lower ho11 (below_size HB.out));have HB1 := am (below_step HB.out hb);have HC3 := am (Kd.C_below HC2.out hb);have hx1 := (hb.cell (World.block_lt_of_cell? _ _ hx)).trans hx;clear hg_ hnew_ hb ho11 hx)
     | ((with_reducible refine gate_builtin (b := .append) (xs := #[.tmp 29,.tmp 33]) rfl ?_);at_builtin;refine Kd.R_append_rows (Kd.int .u64) (w0 := w) w.heap.size rfl (.tmp 29) (.tmp 33) 40 22 (.int .u64 0) 8 rfl Try.underlying40 info22 rfl (by decide) (by omega) v29 [] r _ _ _ (fun _ => True) (fun _ => False) rfl rfl ?aO ?aR (fun _ _ h => h) (fun _ h => h.elim) ?aF ?aB ?aS ?aL ?_;(case aR => exact HC3.out);(case aB => exact HB1.out);(case aF => exact (fun _ _ => trivial));(case aO => exact HO1.out);(case aS => exact (below_size HB1.out));(case aL => have := HRN.out;simp;omega);intro v34 w13 ho hb hg hat;have HS2 := am (Kd.S_after (ok := (fun _ => True)) HS1.out hg hat);have HB2 := am hb;rw [List.nil_append] at ho;obtain ⟨A34,c34,ev34⟩ := Kd.R_slice ho;subst ev34;have HO2 := am ho;clear ho hb hg hat hx1)
     | ((with_reducible refine gate_builtin (b := .append) (xs := #[.tmp 28,.tmp 35]) rfl ?_);at_builtin;refine Kd.S_append (Kd.slice 22 (Kd.int .u64)) (w0 := w) w.heap.size rfl (.tmp 28) (.tmp 35) 25 40 (.slice none 0 0) 24 rfl Try.underlying25 info40 rfl (by decide) (by omega) (.slice A9 xs.length c9) xs r [.slice A34 r.length c34] (fun _ => True) (fun k_ => some k_ = (.slice A34 r.length c34 : Value).ownBlock) rfl rfl ?aP (fun k_ hk_ => ((Kd.R_mono (ok' := fun k_ => ((fun _ => True)) k_ ∧ some k_ ≠ (.slice A9 xs.length c9 : Value).ownBlock) (Kd.R_apart' (HO2.out) (Kd.S_typed HS2.out) (by decide)) (fun k_ hk => ⟨trivial,hk.2⟩))).1 k_ hk_.symm) ?aF ?aO ?aB ?aS ?aL ?_;(case aP => exact Kd.M_row (Kd.R_mono (Kd.R_tight rfl HO2.out) (fun _ h_ => h_)));(case aB => exact HB2.out);(case aF => exact (fun _ _ => trivial));(case aO => exact Kd.S_mono HS2.out (fun k_ hk => ⟨trivial,fun e_ => hk.2 e_⟩));(case aS => exact (below_size HB2.out));(case aL => have := HTL.out;omega);intro v36 w14 ho hb hg hat;rw [← HNX.out] at ho;have HS3 := am ho;have HB3 := am hb;clear ho hb hg hat))
    go_roundg (l.length - (i + 1))
    case measure => have := HK.out;omega
    case rel => exact ⟨i + 1,_,by go_num,⟨by omega⟩,⟨rfl⟩,HS3,HB3⟩
   ·have q1 : ((i : Int) < (l.length : Int)) = False := eq_false (by omega)
    have q2 : decide (i < l.length) = false := decide_eq_false hlt
    have hil : xs = l := by rw [HXS.out];exact List.take_of_length_le (by omega)
    rw [hil] at HS
    obtain ⟨vs,hW⟩ := Wq.of_S HS.out
    obtain ⟨bo,co,ev,hco,hbo⟩ := hW.mform h0
    subst ev
    have HW := am hW
    clear hW HS HK hil hlt HXS
    go_wp2
    go_loopg [11,12,13] k (fun kq v11 v12 v13 w' => ∃ (i : Nat) (vs : List Value) (Ap : Option Addr) (cp : Nat) (rs : List (List Int)) (ps : List Int) (det : Int),v11 = .slice Ap ps.length cp ∧ v12 = .int .u64 det ∧ v13 = .int .i64 (i : Int) ∧ Aside0 (kq + i = k) ∧ Aside0 (red p l i = (rs,ps,det)) ∧ Aside0 (Wq w' w.heap.size (.slice (some ⟨bo,0,none⟩) l.length co) vs rs (.slice Ap ps.length cp) ps) ∧ Aside0 (Below w.heap.size w w'))
    case atStart => exact ⟨0,vs,none,0,l,[],1,rfl,rfl,rfl,⟨rfl⟩,⟨rfl⟩,HW,HB⟩
    case round =>
     as_aux_lemma =>
      clear HW HB q1 q2
      obtain ⟨i,vs,Ap,cp,rs,ps,det,rfl,rfl,rfl,HK,HRD,HW,HB⟩ := hrel
      by_cases hik : i < k
      ·have HRO := am (show RedOk p l.length n (rs,ps,det) from by rw [← HRD.out];exact red_ok HP.out HOK.out i)
       have HS := am (show red p l (i + 1) = redStep p (rs,ps,det) i by rw [red_succ,HRD.out])
       clear HRD
       have HRL := am (show rs.length = l.length from HRO.out.len)
       have HRW := am (show RowsOk p n rs from HRO.out.rows)
       have hpm : ps.length ≤ l.length := HRO.out.piv
       have HDT := am (show Res p det from HRO.out.det)
       clear HRO
       obtain ⟨q,hq⟩ : ∃ q,q = fndP rs i ps.length := ⟨_,rfl⟩
       have hq0 : ps.length ≤ q := by rw [hq];exact fndP_ge _ _ _
       have hq1 : q ≤ l.length := by rw [hq,← HRL.out];exact fndP_le _ _ _ (by rw [HRL.out];exact hpm)
       have HQ := am hq
       clear hq
       have g0 : decide (i < k) = true := decide_eq_true hik
       have g1 : ((i : Int) < (k : Int)) = True := eq_true (by omega)
       go_wp2
       go_loopg [14] (l.length - ps.length) (fun kq v14 w' => ∃ (a : Nat),v14 = .int .i64 (a : Int) ∧ Aside0 (kq + a = l.length) ∧ Aside0 (ps.length ≤ a) ∧ Aside0 (a ≤ q) ∧ Aside0 (Wq w' w.heap.size (.slice (some ⟨bo,0,none⟩) l.length co) vs rs (.slice Ap ps.length cp) ps) ∧ Aside0 (Below w.heap.size w w'))
       case atStart => exact ⟨ps.length,rfl,⟨by omega⟩,⟨Nat.le_refl _⟩,⟨hq0⟩,HW,HB⟩
       case round =>
        as_aux_lemma =>
         clear HW HB g0 g1
         obtain ⟨a,rfl,HKa,HA,HAQ,HW,HB⟩ := hrel
         have ham : a ≤ l.length := by have := HKa.out;omega
         by_cases hlt : a < l.length
         ·have q1 : ((a : Int) < (l.length : Int)) = True := eq_true (by omega)
          have q2 : decide (a < l.length) = true := decide_eq_true hlt
          have p1 : ((0 : Int) ≤ (a : Int)) = True := eq_true (by omega)
          have hal : a < rs.length := by rw [HRL.out];exact hlt
          have hrn := (HRW.out.at hal).1
          obtain ⟨b,cb,hv,_,_⟩ := HW.out.rform a hal (by omega)
          have hx := HW.out.ahead hv
          have hin : i < rs[a].length := by omega
          have hy := HW.out.rcell hv (List.getElem?_eq_getElem hal) hin
          have p2 : ((i : Int) < (rs[a].length : Int)) = True := eq_true (by omega)
          have p3 : ((0 : Int) ≤ (i : Int)) = True := eq_true (by omega)
          have hgd : (rs[a]).getD i 0 = rs[a][i] := by rw [List.getD_eq_getElem?_getD,List.getElem?_eq_getElem hin];rfl
          have HZ := am (show rs[a][i] = 0 → a ≠ q from fun h e => by
           subst e
           have e2 := HQ.out
           have := fndP_nz (rs := rs) (c := i) (r := ps.length) (by rw [← e2];exact hal)
           simp only [← e2] at this
           exact this (by rw [hgd];exact h))
          have HN := am (show rs[a][i] ≠ 0 → a = q from fun h => by
           by_cases e : a < q
           ·exact absurd (fndP_zero HA.out (by rw [← HQ.out];exact e) hal) (by rw [hgd];exact h)
           ·have := HAQ.out;omega)
          obtain ⟨x,hxx⟩ : ∃ x,x = rs[a][i] := ⟨_,rfl⟩
          rw [← hxx] at hy HZ HN
          clear hxx hgd hrn hv
          by_cases hz : x = 0
          ·have z1 : (x == 0) = true := by simpa using hz
           have hne := HZ.out hz
           have HAN := am (show a + 1 ≤ q from by have := HAQ.out;omega)
           clear hz hne
           go_wp2
           go_roundg (l.length - (a + 1))
           case measure => have := HKa.out;omega
           case rel => exact ⟨a + 1,by go_num,⟨by omega⟩,⟨by have := HA.out;omega⟩,HAN,HW,HB⟩
          ·have z1 : (x == 0) = false := by simpa using hz
           obtain rfl : q = a := (HN.out hz).symm
           have z5 : ((q : Int) == (l.length : Int)) = false := by
            have : ¬ (q : Int) = (l.length : Int) := by omega
            simpa using this
           have HE := am hz
           clear hz HKa HA HAQ HZ HN
           obtain ⟨rs1,hrs1⟩ : ∃ x,x = (if fndP rs i ps.length = ps.length then rs else swapR rs (fndP rs i ps.length) ps.length) := ⟨_,rfl⟩
           obtain ⟨d1,hd1⟩ : ∃ x,x = (if fndP rs i ps.length = ps.length then det else -det % p) := ⟨_,rfl⟩
           have HST := am (show redStep p (rs,ps,det) i = (elimAll p i ps.length (scaleR p (invp p ((rs1.getD ps.length []).getD i 0)) (rs1.getD ps.length [])) (rs1.set ps.length (scaleR p (invp p ((rs1.getD ps.length []).getD i 0)) (rs1.getD ps.length []))),ps ++ [(i : Int)],d1 * ((rs1.getD ps.length []).getD i 0) % p) from by
            unfold redStep
            rw [if_pos (by show fndP rs i ps.length < rs.length;rw [← HQ.out,HRL.out];exact hlt)]
            simp only [← hrs1,← hd1])
           have HRS := am hrs1
           have HD1 := am hd1
           have hrm : ps.length < l.length := by omega
           clear hrs1 hd1
           go_upto_if 68 with fail
           go_cut [12] (fun v12 wc => ∃ vs1 : List Value,v12 = .int .u64 d1 ∧ Aside0 (Wq wc w.heap.size (.slice (some ⟨bo,0,none⟩) l.length co) vs1 rs1 (.slice Ap ps.length cp) ps) ∧ Aside0 (Below w.heap.size w wc))
           case first =>
            as_aux_lemma =>
             clear hx hy p2 p3
             by_cases hqr : q = ps.length
             ·have z3 : ((q : Int) != (ps.length : Int)) = false := by rw [hqr];simp
              have HE := am hqr
              have HD2 := am (show d1 = det from by rw [HD1.out,if_pos (by rw [← HQ.out];exact HE.out)])
              have HR2 := am (show rs1 = rs from by rw [HRS.out,if_pos (by rw [← HQ.out];exact HE.out)])
              clear hqr
              go_wp2_with fail
              go_meet
              refine ⟨vs,by rw [HD2.out],?_,HB⟩
              rw [HR2.out]
              exact HW
             ·have z3 : ((q : Int) != (ps.length : Int)) = true := by
               have : ¬ (q : Int) = (ps.length : Int) := by omega
               simpa using this
              have HE := am hqr
              clear hqr
              have p2 : ((q : Int) < (l.length : Int)) = True := eq_true (by omega)
              have p3 : ((0 : Int) ≤ (ps.length : Int)) = True := eq_true (by omega)
              have p4 : ((ps.length : Int) < (l.length : Int)) = True := eq_true (by omega)
              have p5 : decide (q < l.length) = true := decide_eq_true hlt
              have p6 : decide (ps.length < l.length) = true := decide_eq_true hrm
              have hql : q < rs.length := by rw [HRL.out];exact hlt
              have hrl : ps.length < rs.length := by rw [HRL.out];exact hrm
              obtain ⟨bq,cq,hvq,_,_⟩ := HW.out.rform q hql (by have := (HRW.out.at hql).1;omega)
              obtain ⟨br,cr,hvr,_,_⟩ := HW.out.rform ps.length hrl (by have := (HRW.out.at hrl).1;omega)
              have hx := HW.out.ahead hvq
              have hy := HW.out.ahead hvr
              rw [(HRW.out.at hql).1] at hx hvq
              rw [(HRW.out.at hrl).1] at hy hvr
              have HWS := am (HW.out.drew.swap q ps.length hvq hvr (List.getElem?_eq_getElem hql) (List.getElem?_eq_getElem hrl))
              have hy2 : (wr.setCell ⟨bo,q,none⟩ (.slice (some ⟨br,0,none⟩) n cr)).cell? ⟨bo,ps.length,none⟩ = some (.slice (some ⟨br,0,none⟩) n cr) := cell_other0 HE.out hy
              have hf1 := HW.out.afz q
              have hf2 := HW.out.afz ps.length
              clear hvq hvr
              go_upto_region 17 with fail
              go_cut [] (fun wd => Aside0 (Wq wd w.heap.size (.slice (some ⟨bo,0,none⟩) l.length co) ((vs.set q (.slice (some ⟨br,0,none⟩) n cr)).set ps.length (.slice (some ⟨bq,0,none⟩) n cq)) ((rs.set q rs[ps.length]).set ps.length rs[q]) (.slice Ap ps.length cp) ps) ∧ Aside0 (Below w.heap.size w wd))
              case first =>
               as_aux_lemma =>
                refine start_ (n := 16) (S := (fun w' => w'.cell? ⟨bo,q,none⟩ = some (.slice (some ⟨bq,0,none⟩) n cq) ∧ w'.cell? ⟨bo,ps.length,none⟩ = some (.slice (some ⟨br,0,none⟩) n cr))) (ds := [13,15]) (bz 16 0) (by kernel_rfl) rfl rfl ⟨hx,hy⟩ (fun hHeld => ?_)
                refine pu 0 69 (bz 16 1) ?_
                refine pu 1 70 (bz 16 3) ?_
                refine pu 2 71 (bz 16 7) ?_
                refine pu 3 72 (bz 16 15) ?_
                refine pu 4 73 (bz 16 31) ?_
                refine pu 5 74 (bz 16 63) ?_
                refine pu 6 75 (bz 16 127) ?_
                refine tu 7 76 (bz 16 255) hHeld ?_
                refine pu 8 77 (bz 16 511) ?_
                refine pu 9 78 (bz 16 1023) ?_
                refine pu 10 79 (bz 16 2047) ?_
                refine tu 11 80 (bz 16 4095) hHeld ?_
                refine pu 12 81 (bz 16 8191) ?_
                refine last_ (i := 13) (N := none) (bz 16 16383) rfl rfl (by kernel_rfl) (by decide) (fun K hK => ?_)
                refine skip_ (w1 := ?_) (by rfl) rfl ?_ ?_
                rotate_left
                ·go_simp
                 rfl
                refine hK.out _ _ ?_
                clear hK K
                refine pu 14 82 (bz 16 32767) ?_
                refine last_ (i := 15) (N := none) (bz 16 65535) rfl rfl (by kernel_rfl) (by decide) (fun K hK => ?_)
                refine skip_ (w1 := ?_) (by rfl) rfl ?_ ?_
                rotate_left
                ·go_simp
                 rfl
                refine hK.out _ _ ?_
                clear hK K
                refine done_ (by kernel_rfl) ?_
                go_wp2_with fail
                go_meet
                exact ⟨HWS,⟨((below_drew HB.out).setCell (p := ⟨bo,q,none⟩) hbo _).setCell (p := ⟨bo,ps.length,none⟩) hbo _⟩⟩
              case rest =>
               as_aux_lemma =>
                obtain ⟨HW5,HB5⟩ := hcut
                clear hx hy hy2 hf1 hf2 HWS
                have HE1 := am (show rs1 = (rs.set q rs[ps.length]).set ps.length rs[q] from by
                 have e := HRS.out
                 rw [if_neg (by rw [← HQ.out];exact HE.out)] at e
                 rw [e,← HQ.out]
                 unfold swapR
                 rw [getD_row hrl,getD_row hql])
                have HZ0 := am (show Res p 0 from ⟨Int.le_refl 0,by have := HP.out.bd;show (0 : Int) < p;omega⟩)
                have HNG := am (rsub_eq HP.out HZ0.out HDT.out)
                have HD2 := am (show (0 - det) % p = d1 from by rw [HD1.out,if_neg (by rw [← HQ.out];exact HE.out),Int.zero_sub])
                rw [HD2.out] at HNG
                go_wp2_with (first|(go_at_call 48;(with_reducible refine (privityref01_Sub.calls p 0 det _ _ HNG.out).mono ?_);rintro e w6 ⟨rfl,⟨nd,rfl⟩⟩))
                go_meet
                refine ⟨(vs.set q (.slice (some ⟨br,0,none⟩) n cr)).set ps.length (.slice (some ⟨bq,0,none⟩) n cq),rfl,⟨?_⟩,⟨pw_below_drewN HB5.out nd⟩⟩
                rw [HE1.out]
                exact HW5.out.below (pw_below_drewN (Below.refl _ _) nd)
           case rest =>
            as_aux_lemma =>
             obtain ⟨vs1,rfl,HW1,HB1⟩ := hcut
             clear hx hy p2 p3
             have HR1 := am (show rs1.length = l.length ∧ RowsOk p n rs1 ∧ Res p d1 ∧ ∃ row,rs1[ps.length]? = some row ∧ row.getD i 0 ≠ 0 from by
              have hql : q < rs.length := by rw [HRL.out];exact hlt
              have hrl : ps.length < rs.length := by rw [HRL.out];exact hrm
              have hnz : (rs[q]).getD i 0 ≠ 0 := by
               have e2 := HQ.out
               have := fndP_nz (rs := rs) (c := i) (r := ps.length) (by rw [← e2];exact hql)
               simp only [← e2] at this
               exact this
              rw [HRS.out,HD1.out,← HQ.out]
              by_cases hh : q = ps.length
              ·rw [if_pos hh,if_pos hh]
               exact ⟨HRL.out,HRW.out,HDT.out,rs[q],by rw [← hh];exact List.getElem?_eq_getElem hql,hnz⟩
              ·rw [if_neg hh,if_neg hh]
               exact ⟨by rw [swapR_len];exact HRL.out,swapR_ok HRW.out hql hrl,Res.mod HP.out _,rs[q],swapR_at hql hrl,hnz⟩)
             clear z1 z5 HRS HD1 HW HB q1 q2 p1
             obtain ⟨row,hrow,hxz⟩ := HR1.out.2.2.2
             have hr1 : ps.length < rs1.length := by rw [HR1.out.1];exact hrm
             have hge : row = rs1[ps.length] := by rw [List.getElem?_eq_getElem hr1] at hrow;exact (Option.some.inj hrow).symm
             have hrn : row.length = n := by rw [hge];exact (HR1.out.2.1.at hr1).1
             have hin : i < row.length := by omega
             obtain ⟨b,cb,hv,hcb,hbb⟩ := HW1.out.rform ps.length hr1 (by rw [← hge,hrn];exact hn0)
             rw [← hge,hrn] at hv hcb
             have hgd : row.getD i 0 = row[i] := by rw [List.getD_eq_getElem?_getD,List.getElem?_eq_getElem hin];rfl
             obtain ⟨x,hx⟩ : ∃ x,x = row[i] := ⟨_,rfl⟩
             have HX0 := am (show row[i]'hin = x from hx.symm)
             have HX := am (show Res p x ∧ x ≠ 0 from ⟨by rw [hx];subst hge;exact HR1.out.2.1.word hr1 hin,by rw [hx,← hgd];exact hxz⟩)
             have HST := am (show redStep p (rs,ps,det) i = (elimAll p i ps.length (scaleR p (invp p x) row) (rs1.set ps.length (scaleR p (invp p x) row)),ps ++ [(i : Int)],d1 * x % p) from by
              rw [HST.out,getD_row hr1,← hge,hgd,← hx])
             have hc4 := HW1.out.rcell hv hrow hin
             rw [← hx] at hc4
             have hc3 := HW1.out.ahead hv
             have HRN := am hrn
             have HROW := am hrow
             have HV := am hv
             have HRR := am (show ∀ y ∈ row,Res p y from by rw [hge];exact (HR1.out.2.1.at hr1).2)
             have p1 : ((0 : Int) ≤ (ps.length : Int)) = True := eq_true (by omega)
             have p2 : ((ps.length : Int) < (l.length : Int)) = True := eq_true (by omega)
             have p3 : ((0 : Int) ≤ (i : Int)) = True := eq_true (by omega)
             have p4 : ((i : Int) < (n : Int)) = True := eq_true (by omega)
             have p5 : decide (ps.length < l.length) = true := decide_eq_true hrm
             have p6 : decide (i < n) = true := decide_eq_true (by omega)
             clear hx hgd hge hrow hxz hr1 hrn hv
             obtain ⟨k1,hk1⟩ := (rmul_ev HP.out HR1.out.2.2.1 HX.out.1).rounds
             have HK1 := am hk1
             obtain ⟨d2,hd2⟩ : ∃ d,d = d1 * x % p := ⟨_,rfl⟩
             rw [← hd2] at HK1 HST
             clear hk1 hd2
             obtain ⟨k2,hk2⟩ := (rinv_ev HP.out HX.out.1 HX.out.2).rounds
             have HK2 := am hk2
             obtain ⟨iv,hiv⟩ : ∃ y,y = invp p x := ⟨_,rfl⟩
             have HIV := am (show Res p iv from by rw [hiv];exact inv_res HP.out x)
             rw [← hiv] at HK2 HST
             obtain ⟨prow,hpr⟩ : ∃ y,y = scaleR p iv row := ⟨_,rfl⟩
             rw [← hpr] at HST
             have HPL := am (show prow.length = row.length from by rw [hpr];exact scaleR_len _ _ _)
             have HPA := am (show ∀ j (h1 : j < row.length) (h2 : j < prow.length),prow[j] = iv * row[j] % p from by intro j h1 h2;subst hpr;simp [scaleR])
             have HPR := am (show ∀ y ∈ prow,Res p y from by rw [hpr];exact (scaleR_ok HP.out rfl).2)
             have HW3 := am (show Wq wc w.heap.size (.slice (some ⟨bo,0,none⟩) l.length co) vs1 (rs1.set ps.length (part prow row 0)) (.slice Ap ps.length cp) ps from by
              rw [part_zero,set_at HROW.out];exact HW1.out)
             clear hk2 hiv hpr HW1
             go_wp2_with (first|(go_at_call 78;(with_reducible refine (privityref01_Mul.calls k1 p d1 x d2 _ HK1.out).mono ?_);rintro e w6 ⟨rfl,⟨nd1,rfl⟩⟩)|(go_at_call 91;(with_reducible refine (privityref01_Inverse.calls k2 p x iv 0 _ HK2.out).mono ?_);rintro e w7 ⟨rfl,⟨nd,rfl⟩⟩))
             go_loopg [18] n (fun kq v18 w' => ∃ (j : Nat),v18 = .int .i64 (j : Int) ∧ Aside0 (kq + j = n) ∧ Aside0 (Wq w' w.heap.size (.slice (some ⟨bo,0,none⟩) l.length co) vs1 (rs1.set ps.length (part prow row j)) (.slice Ap ps.length cp) ps) ∧ Aside0 (Below w.heap.size w w'))
             case atStart => exact ⟨0,rfl,⟨rfl⟩,⟨HW3.out.below (pw_below_drewN (Below.refl _ _) (nd1 + nd))⟩,⟨pw_below_drewN HB1.out (nd1 + nd)⟩⟩
             case round =>
              as_aux_lemma =>
               clear HW3 HB1 hc3 hc4
               obtain ⟨j,rfl,HKj,HW,HB⟩ := hrel
               have HPP := am (show (rs1.set ps.length (part prow row j))[ps.length]? = some (part prow row j) from List.getElem?_set_self (by rw [HR1.out.1];exact hrm))
               have hc3 := HW.out.ahead HV.out
               by_cases hjn : j < n
               ·
                have q1 : ((j : Int) < (n : Int)) = True := eq_true (by omega)
                have q2 : decide (j < n) = true := decide_eq_true hjn
                have q3 : ((0 : Int) ≤ (j : Int)) = True := eq_true (by omega)
                have hjr : j < row.length := by rw [HRN.out];exact hjn
                have hpl : (part prow row j).length = row.length := part_len HPL.out (by omega)
                have hc4 := HW.out.rcell HV.out HPP.out (show j < (part prow row j).length by omega)
                have hpj : (part prow row j)[j]'(by omega) = row[j] := by
                 have := part_at HPL.out hjr
                 rw [List.getElem?_eq_getElem (by omega)] at this
                 exact Option.some.inj this
                rw [hpj] at hc4
                have HY := am (show Res p row[j] from HRR.out _ (List.getElem_mem _))
                have hpa := HPA.out j hjr (by rw [HPL.out];exact hjr)
                have HNX := am (show (part prow row j).set j (prow[j]'(by rw [HPL.out];exact hjr)) = part prow row (j + 1) from part_set HPL.out hjr)
                obtain ⟨y,hy⟩ : ∃ y,y = row[j] := ⟨_,rfl⟩
                rw [hpa] at HNX
                rw [← hy] at hc4 HY HNX
                obtain ⟨k3,hk3⟩ := (rmul_ev HP.out HY.out HIV.out).rounds
                have HK3 := am hk3
                obtain ⟨z,hz⟩ : ∃ z,z = y * iv % p := ⟨_,rfl⟩
                rw [Int.mul_comm iv y] at HNX
                rw [← hz] at HK3 HNX
                have hf4 := HW.out.rfz HV.out HPP.out j
                clear hpa hpj hy hk3 hz hjr hpl
                go_wp2
                refine start_ (n := 17) (S := (fun w' => w'.cell? ⟨bo,ps.length,none⟩ = some (.slice (some ⟨b,0,none⟩) n cb) ∧ w'.cell? ⟨b,j,none⟩ = some (.int .u64 y))) (ds := [16]) (bz 17 0) (by kernel_rfl) rfl rfl ⟨hc3,hc4⟩ (fun hHeld => ?_)
                refine pu 0 117 (bz 17 1) ?_
                refine pu 1 118 (bz 17 3) ?_
                refine pu 2 119 (bz 17 7) ?_
                refine tu 3 120 (bz 17 15) hHeld ?_
                refine pu 4 121 (bz 17 31) ?_
                refine pu 5 122 (bz 17 63) ?_
                refine pu 6 123 (bz 17 127) ?_
                refine pu 7 124 (bz 17 255) ?_
                refine pu 8 125 (bz 17 511) ?_
                refine tu 9 126 (bz 17 1023) hHeld ?_
                refine pu 10 127 (bz 17 2047) ?_
                refine pu 11 128 (bz 17 4095) ?_
                refine tu 12 129 (bz 17 8191) hHeld ?_
                refine pu 13 130 (bz 17 16383) ?_
                refine one_ (i := 14) (N := some 131) (bz 17 32767) rfl rfl (by kernel_rfl) (by decide) (fun K hK => ?_)
                refine goes_ Try.func78 (by kernel_rfl) rfl #[.int .u64 p,.int .u64 y,.int .u64 iv] (by rfl) rfl rfl (by (try simp only [List.map_toArray,List.map_cons,List.map_nil]);first|done|rfl) ?_
                with_reducible refine (privityref01_Mul.calls k3 p y iv z _ HK3.out).mono ?_
                rintro e w' ⟨rfl,⟨nd,rfl⟩⟩
                refine ⟨_,rfl,?_⟩
                refine hK.out _ _ ⟨hc3,hc4⟩ (fun hHeld => ?_)
                clear hK K
                refine nm 131 ?_
                refine pu 15 132 (bz 17 65535) ?_
                refine last_ (i := 16) (N := none) (bz 17 131071) rfl rfl (by kernel_rfl) (by decide) (fun K hK => ?_)
                refine skip_ (w1 := ?_) (by rfl) rfl ?_ ?_
                rotate_left
                ·go_simp
                 rfl
                refine hK.out _ _ ?_
                clear hK K
                refine done_ (by kernel_rfl) ?_
                have HW5 := am (show Wq ((wr.drewN (1 + nd)).setCell ⟨b,j,none⟩ (.int .u64 z)) w.heap.size (.slice (some ⟨bo,0,none⟩) l.length co) vs1 (rs1.set ps.length (part prow row (j + 1))) (.slice Ap ps.length cp) ps from by
                 have := (HW.out.below (pw_below_drewN (Below.refl _ _) (1 + nd))).setRow HV.out HPP.out j z
                 rw [List.set_set,HNX.out] at this
                 exact this)
                have HB5 := am (show Below w.heap.size w ((wr.drewN (1 + nd)).setCell ⟨b,j,none⟩ (.int .u64 z)) from (pw_below_drewN HB.out (1 + nd)).setCell (p := ⟨b,j,none⟩) hbb _)
                go_wp2
                go_roundg (n - (j + 1))
                case measure => have := HKj.out;omega
                case rel => exact ⟨j + 1,by go_num,⟨by omega⟩,HW5,HB5⟩
               ·have q1 : ((j : Int) < (n : Int)) = False := eq_false (by omega)
                have q2 : decide (j < n) = false := decide_eq_false hjn
                have HF := am (show rs1.set ps.length (part prow row j) = rs1.set ps.length prow from by
                 have e : j = row.length := by rw [HRN.out];have := HKj.out;omega
                 rw [e,part_all HPL.out])
                rw [HF.out] at HW
                clear HPP HF HKj
                obtain ⟨rs2,hrs2⟩ : ∃ y,y = rs1.set ps.length prow := ⟨_,rfl⟩
                have H2P := am (show rs2[ps.length]? = some prow from by rw [hrs2];exact List.getElem?_set_self (by rw [HR1.out.1];exact hrm))
                have H2L := am (show rs2.length = l.length from by rw [hrs2,List.length_set];exact HR1.out.1)
                have H2R := am (show RowsOk p n rs2 from by rw [hrs2];exact HR1.out.2.1.set ⟨by rw [HPL.out];exact HRN.out,HPR.out⟩)
                obtain ⟨E,hE⟩ : ∃ y,y = elimAll p i ps.length prow rs2 := ⟨_,rfl⟩
                have HEL := am (show E.length = rs2.length from by rw [hE];exact elimAll_len _ _ _ _ _)
                have HEA := am (show ∀ (a : Nat) (h : a < rs2.length),E[a]? = some (elimRow p i ps.length prow a rs2[a]) from by intro a h;rw [hE];exact elimAll_get _ _ _ _ _ h)
                rw [← hrs2] at HW HST
                rw [← hE] at HST
                have HPN := am (show prow.length = n from by rw [HPL.out];exact HRN.out)
                have HW9 := am (show Wq wr w.heap.size (.slice (some ⟨bo,0,none⟩) l.length co) vs1 (part E rs2 0) (.slice Ap ps.length cp) ps from by rw [part_zero];exact HW.out)
                clear hrs2 hE HW HPA HPL HRN HROW HRR HX HX0 HR1 HIV
                go_wp2
                go_loopg [19] l.length (fun kq v19 w' => ∃ (a : Nat),v19 = .int .i64 (a : Int) ∧ Aside0 (kq + a = l.length) ∧ Aside0 (Wq w' w.heap.size (.slice (some ⟨bo,0,none⟩) l.length co) vs1 (part E rs2 a) (.slice Ap ps.length cp) ps) ∧ Aside0 (Below w.heap.size w w'))
                case atStart => exact ⟨0,rfl,⟨rfl⟩,HW9,HB⟩
                case round =>
                 as_aux_lemma =>
                  clear HW9 HB hc3 q1 q2
                  obtain ⟨a,rfl,HKa,HW,HB⟩ := hrel
                  by_cases ham : a < l.length
                  ·
                   have q1 : ((a : Int) < (l.length : Int)) = True := eq_true (by omega)
                   have q2 : decide (a < l.length) = true := decide_eq_true ham
                   have q3 : ((0 : Int) ≤ (a : Int)) = True := eq_true (by omega)
                   have ha2 : a < rs2.length := by rw [H2L.out];exact ham
                   have HPT := am (show (part E rs2 a)[a]? = some rs2[a] from part_at HEL.out ha2)
                   have HPQ := am (show (part E rs2 a)[ps.length]? = some prow from by
                    rw [part_get HEL.out (by omega)]
                    have hr2 : ps.length < rs2.length := by rw [H2L.out];exact hrm
                    have e2 := H2P.out
                    by_cases e : ps.length < a
                    ·rw [if_pos e,HEA.out ps.length hr2]
                     rw [List.getElem?_eq_getElem hr2] at e2
                     unfold elimRow
                     rw [if_pos (Or.inl rfl)];exact e2
                    ·rw [if_neg e];exact e2)
                   have hal : a < (part E rs2 a).length := (List.getElem?_eq_some_iff.1 HPT.out).1
                   have hge : rs2[a] = (part E rs2 a)[a] := by have := HPT.out;rw [List.getElem?_eq_getElem hal] at this;exact (Option.some.inj this).symm
                   have hrn := (H2R.out.at ha2).1
                   obtain ⟨ba,ca,hva,_,hba⟩ := HW.out.rform a hal (by rw [← hge,hrn];exact hn0)
                   rw [← hge,hrn] at hva
                   obtain ⟨rowa,hra⟩ : ∃ y,y = rs2[a] := ⟨_,rfl⟩
                   have HEa := am (HEA.out a ha2)
                   have HRA := am (show ∀ y ∈ rowa,Res p y from by rw [hra];exact (H2R.out.at ha2).2)
                   have HOA := am (show rs2[a]? = some rowa from by rw [hra];exact List.getElem?_eq_getElem ha2)
                   rw [← hra] at hrn HPT HEa
                   have hia : i < rowa.length := by omega
                   have hc4 := HW.out.rcell hva HPT.out hia
                   have hgd : rowa.getD i 0 = rowa[i] := by rw [List.getD_eq_getElem?_getD,List.getElem?_eq_getElem hia];rfl
                   have HY := am (show Res p rowa[i] from HRA.out _ (List.getElem_mem _))
                   obtain ⟨y,hy⟩ : ∃ y,y = rowa[i] := ⟨_,rfl⟩
                   have HGD := am (show rowa.getD i 0 = y from hgd.trans hy.symm)
                   rw [← hy] at hc4 HY
                   have hc3 := HW.out.ahead hva
                   have HVA := am hva
                   have HRN := am hrn
                   clear hge hra hgd hy hva hrn
                   by_cases har : a = ps.length
                   ·have z1 : ((a : Int) != (ps.length : Int)) = false := by rw [har];simp
                    have HSM := am (show part E rs2 (a + 1) = part E rs2 a from part_same HEL.out ha2 (by
                     rw [HEa.out,HOA.out];unfold elimRow;rw [if_pos (Or.inl har)]))
                    clear har
                    go_wp2
                    go_roundg (l.length - (a + 1))
                    case measure => have := HKa.out;omega
                    case rel => exact ⟨a + 1,by go_num,⟨by omega⟩,⟨by rw [HSM.out];exact HW.out⟩,HB⟩
                   ·have z1 : ((a : Int) != (ps.length : Int)) = true := by
                     have : ¬ (a : Int) = (ps.length : Int) := by omega
                     simpa using this
                    by_cases hy0 : y = 0
                    ·have z2 : (y != 0) = false := by simpa using hy0
                     have HSM := am (show part E rs2 (a + 1) = part E rs2 a from part_same HEL.out ha2 (by
                      rw [HEa.out,HOA.out];unfold elimRow;rw [if_pos (Or.inr (by rw [HGD.out];exact hy0))]))
                     clear hy0
                     go_wp2
                     go_roundg (l.length - (a + 1))
                     case measure => have := HKa.out;omega
                     case rel => exact ⟨a + 1,by go_num,⟨by omega⟩,⟨by rw [HSM.out];exact HW.out⟩,HB⟩
                    ·have z2 : (y != 0) = true := by simpa using hy0
                     obtain ⟨er,her⟩ : ∃ z,z = elimR p y prow rowa := ⟨_,rfl⟩
                     have HER := am (show E[a]? = some er from by
                      rw [HEa.out,her];unfold elimRow;rw [if_neg (by intro h;rcases h with h|h;exact har h;exact hy0 (by rw [← HGD.out];exact h)),HGD.out])
                     have HEL2 := am (show er.length = rowa.length from by rw [her];exact elimR_len (by rw [HPN.out];exact HRN.out.symm))
                     have HEV := am (show ∀ j (h1 : j < rowa.length) (h2 : j < prow.length),er[j]? = some ((rowa[j] - y * prow[j] % p) % p) from by intro j h1 h2;rw [her];exact elimR_at h1 h2)
                     have HNE := am har
                     have HNP := am (show (part E rs2 a).set a er = part E rs2 (a + 1) from by
                      have hae : a < E.length := by rw [HEL.out];exact ha2
                      have e3 : E[a] = er := by have := HER.out;rw [List.getElem?_eq_getElem hae] at this;exact Option.some.inj this
                      rw [← e3];exact part_set HEL.out ha2)
                     have HAL := am hal
                     have HW6 := am (show Wq wr w.heap.size (.slice (some ⟨bo,0,none⟩) l.length co) vs1 ((part E rs2 a).set a (part er rowa 0)) (.slice Ap ps.length cp) ps from by
                      rw [part_zero,set_at HPT.out];exact HW.out)
                     clear her hy0 har HW HEa HEA HOA HGD H2P
                     go_wp2
                     go_loopg [21] n (fun kq v21 w' => ∃ (j : Nat),v21 = .int .i64 (j : Int) ∧ Aside0 (kq + j = n) ∧ Aside0 (Wq w' w.heap.size (.slice (some ⟨bo,0,none⟩) l.length co) vs1 ((part E rs2 a).set a (part er rowa j)) (.slice Ap ps.length cp) ps) ∧ Aside0 (Below w.heap.size w w'))
                     case atStart => exact ⟨0,rfl,⟨rfl⟩,HW6,HB⟩
                     case round =>
                      as_aux_lemma =>
                       clear HW6 HB hc3 hc4 q1 q2 z1 z2
                       obtain ⟨j,rfl,HKj,HW,HB⟩ := hrel
                       have HPP := am (show ((part E rs2 a).set a (part er rowa j))[a]? = some (part er rowa j) from List.getElem?_set_self HAL.out)
                       have hc3 := HW.out.ahead HVA.out
                       have q5 : ((a : Int) < (l.length : Int)) = True := eq_true (by omega)
                       have q6 : decide (a < l.length) = true := decide_eq_true ham
                       by_cases hjn : j < n
                       ·have q1 : ((j : Int) < (n : Int)) = True := eq_true (by omega)
                        have q2 : decide (j < n) = true := decide_eq_true hjn
                        have q4 : ((0 : Int) ≤ (j : Int)) = True := eq_true (by omega)
                        have hjr : j < rowa.length := by rw [HRN.out];exact hjn
                        have hjp : j < prow.length := by rw [HPN.out];exact hjn
                        have hpl : (part er rowa j).length = rowa.length := part_len HEL2.out (by omega)
                        have hd4 := HW.out.rcell HVA.out HPP.out (show j < (part er rowa j).length by omega)
                        have hpj : (part er rowa j)[j]'(by omega) = rowa[j] := by
                         have := part_at HEL2.out hjr
                         rw [List.getElem?_eq_getElem (by omega)] at this
                         exact Option.some.inj this
                        rw [hpj] at hd4
                        have HPS := am (show ((part E rs2 a).set a (part er rowa j))[ps.length]? = some prow from by rw [List.getElem?_set_ne HNE.out];exact HPQ.out)
                        have hd5 := HW.out.rcell HV.out HPS.out hjp
                        have hd3 := HW.out.ahead HV.out
                        have HY1 := am (show Res p rowa[j] from HRA.out _ (List.getElem_mem _))
                        have HY2 := am (show Res p prow[j] from HPR.out _ (List.getElem_mem _))
                        have hev := HEV.out j hjr hjp
                        have HNX := am (show (part er rowa j).set j (er[j]'(by rw [HEL2.out];exact hjr)) = part er rowa (j + 1) from part_set HEL2.out hjr)
                        have hee : er[j]'(by rw [HEL2.out];exact hjr) = (rowa[j] - y * prow[j] % p) % p := by
                         rw [List.getElem?_eq_getElem (by rw [HEL2.out];exact hjr)] at hev
                         exact Option.some.inj hev
                        rw [hee] at HNX
                        obtain ⟨u,hu⟩ : ∃ u,u = rowa[j] := ⟨_,rfl⟩
                        obtain ⟨v,hvv⟩ : ∃ v,v = prow[j] := ⟨_,rfl⟩
                        rw [← hu] at hd4 HY1 HNX
                        rw [← hvv] at hd5 HY2 HNX
                        obtain ⟨k3,hk3⟩ := (rmul_ev HP.out HY.out HY2.out).rounds
                        have hk4 := rsub_eq HP.out HY1.out (Res.mod HP.out (y * v))
                        obtain ⟨t1,ht1⟩ : ∃ z,z = y * v % p := ⟨_,rfl⟩
                        rw [← ht1] at hk3 hk4 HNX
                        obtain ⟨t2,ht2⟩ : ∃ z,z = (u - t1) % p := ⟨_,rfl⟩
                        rw [← ht2] at hk4 HNX
                        have HK3 := am hk3
                        have HK4 := am hk4
                        have hf4 := HW.out.rfz HVA.out HPP.out j
                        clear hpj hee hev hu hvv hk3 hk4 ht1 ht2 hjr hjp hpl
                        go_wp2
                        refine start_ (n := 26) (S := (fun w' => w'.cell? ⟨bo,a,none⟩ = some (.slice (some ⟨ba,0,none⟩) n ca) ∧ w'.cell? ⟨ba,j,none⟩ = some (.int .u64 u) ∧ w'.cell? ⟨bo,ps.length,none⟩ = some (.slice (some ⟨b,0,none⟩) n cb) ∧ w'.cell? ⟨b,j,none⟩ = some (.int .u64 v))) (ds := [25]) (bz 26 0) (by kernel_rfl) rfl rfl ⟨hc3,hd4,hd3,hd5⟩ (fun hHeld => ?_)
                        refine pu 0 162 (bz 26 1) ?_
                        refine pu 1 163 (bz 26 3) ?_
                        refine pu 2 164 (bz 26 7) ?_
                        refine tu 3 165 (bz 26 15) hHeld ?_
                        refine pu 4 166 (bz 26 31) ?_
                        refine pu 5 167 (bz 26 63) ?_
                        refine pu 6 168 (bz 26 127) ?_
                        refine pu 7 169 (bz 26 255) ?_
                        refine pu 8 170 (bz 26 511) ?_
                        refine tu 9 171 (bz 26 1023) hHeld ?_
                        refine pu 10 172 (bz 26 2047) ?_
                        refine pu 11 173 (bz 26 4095) ?_
                        refine tu 12 174 (bz 26 8191) hHeld ?_
                        refine pu 13 175 (bz 26 16383) ?_
                        refine pu 14 176 (bz 26 32767) ?_
                        refine pu 15 177 (bz 26 65535) ?_
                        refine pu 16 178 (bz 26 131071) ?_
                        refine pu 17 179 (bz 26 262143) ?_
                        refine tu 18 180 (bz 26 524287) hHeld ?_
                        refine pu 19 181 (bz 26 1048575) ?_
                        refine pu 20 182 (bz 26 2097151) ?_
                        refine tu 21 183 (bz 26 4194303) hHeld ?_
                        refine one_ (i := 22) (N := some 184) (bz 26 8388607) rfl rfl (by kernel_rfl) (by decide) (fun K hK => ?_)
                        refine goes_ Try.func78 (by kernel_rfl) rfl #[.int .u64 p,.int .u64 y,.int .u64 v] (by rfl) rfl rfl (by (try simp only [List.map_toArray,List.map_cons,List.map_nil]);first|done|rfl) ?_
                        with_reducible refine (privityref01_Mul.calls k3 p y v t1 _ HK3.out).mono ?_
                        rintro e w' ⟨rfl,⟨nd,rfl⟩⟩
                        refine ⟨_,rfl,?_⟩
                        refine hK.out _ _ ⟨hc3,hd4,hd3,hd5⟩ (fun hHeld => ?_)
                        clear hK K
                        refine nm 184 ?_
                        refine one_ (i := 23) (N := some 185) (bz 26 16777215) rfl rfl (by kernel_rfl) (by decide) (fun K hK => ?_)
                        refine goes_ Try.func48 (by kernel_rfl) rfl #[.int .u64 p,.int .u64 u,.int .u64 t1] (by rfl) rfl rfl (by (try simp only [List.map_toArray,List.map_cons,List.map_nil]);first|done|rfl) ?_
                        with_reducible refine (privityref01_Sub.calls p u t1 t2 _ HK4.out).mono ?_
                        rintro e w' ⟨rfl,⟨nd2,rfl⟩⟩
                        refine ⟨_,rfl,?_⟩
                        refine hK.out _ _ ⟨hc3,hd4,hd3,hd5⟩ (fun hHeld => ?_)
                        clear hK K
                        refine nm 185 ?_
                        refine pu 24 186 (bz 26 33554431) ?_
                        refine last_ (i := 25) (N := none) (bz 26 67108863) rfl rfl (by kernel_rfl) (by decide) (fun K hK => ?_)
                        refine skip_ (w1 := ?_) (by rfl) rfl ?_ ?_
                        rotate_left
                        ·go_simp
                         rfl
                        refine hK.out _ _ ?_
                        clear hK K
                        refine done_ (by kernel_rfl) ?_
                        have HW5 := am (show Wq ((wr.drewN (1 + nd + nd2)).setCell ⟨ba,j,none⟩ (.int .u64 t2)) w.heap.size (.slice (some ⟨bo,0,none⟩) l.length co) vs1 ((part E rs2 a).set a (part er rowa (j + 1))) (.slice Ap ps.length cp) ps from by
                         have := (HW.out.below (pw_below_drewN (Below.refl _ _) (1 + nd + nd2))).setRow HVA.out HPP.out j t2
                         rw [List.set_set,HNX.out] at this
                         exact this)
                        have HB5 := am (show Below w.heap.size w ((wr.drewN (1 + nd + nd2)).setCell ⟨ba,j,none⟩ (.int .u64 t2)) from (pw_below_drewN HB.out (1 + nd + nd2)).setCell (p := ⟨ba,j,none⟩) hba _)
                        go_wp2
                        go_roundg (n - (j + 1))
                        case measure => have := HKj.out;omega
                        case rel => exact ⟨j + 1,by go_num,⟨by omega⟩,HW5,HB5⟩
                       ·have q1 : ((j : Int) < (n : Int)) = False := eq_false (by omega)
                        have q2 : decide (j < n) = false := decide_eq_false hjn
                        have HF := am (show (part E rs2 a).set a (part er rowa j) = part E rs2 (a + 1) from by
                         have e : j = rowa.length := by rw [HRN.out];have := HKj.out;omega
                         rw [e,part_all HEL2.out,HNP.out])
                        rw [HF.out] at HW
                        clear HPP HF HKj
                        go_wp2
                        go_roundg (l.length - (a + 1))
                        case measure => have := HKa.out;omega
                        case rel => exact ⟨a + 1,by go_num,⟨by omega⟩,HW,HB⟩
                  ·have q1 : ((a : Int) < (l.length : Int)) = False := eq_false (by omega)
                   have q2 : decide (a < l.length) = false := decide_eq_false ham
                   have HF := am (show part E rs2 a = E from by
                    have e : a = rs2.length := by rw [H2L.out];have := HKa.out;omega
                    rw [e,part_all HEL.out])
                   rw [HF.out] at HW
                   clear HF HKa
                   have HPI := am (show Kd.R (Kd.int .i64) 3 wr w.heap.size (fun _ => True) (.slice Ap ps.length cp) ps from Kd.R_of_own HW.out.piv (fun _ _ => trivial))
                   have hpl : ps.length ≤ 1000 := by omega
                   go_wp2_with (first|((with_reducible refine gate_builtin (b := .append) (xs := #[.tmp 187,.tmp 189]) rfl ?_);at_builtin;refine Kd.R_append (Kd.int .i64) (w0 := w) w.heap.size rfl (.tmp 187) (.tmp 189) 31 3 (.int .i64 0) 8 rfl Try.underlying31 info3 rfl (by decide) (by omega) (.slice Ap ps.length cp) ps (i : Int) [.int .i64 (i : Int)] (fun _ => True) (fun _ => False) rfl rfl ?aP (fun _ hk => hk.elim) ?aF ?aO ?aB ?aS ?aL ?_;(case aP => exact rfl);(case aB => exact HB.out);(case aF => exact (fun _ _ => trivial));(case aO => exact HPI.out);(case aS => exact (below_size HB.out));(case aL => omega);intro v8 w8 ho hb hg hat;have hpv := Kd.own_of_R ho;obtain ⟨A8,c8,ev8⟩ := Kd.R_slice ho;subst ev8;have HW8 := am (HW.out.push hg hpv);have HB8 := am hb;clear HPI HW ho hb hg hat hpv))
                   go_roundg (k - (i + 1))
                   case measure => have := HK.out;omega
                   case rel => exact ⟨i + 1,vs1,A8,c8,E,ps ++ [(i : Int)],d2,by rw [List.length_append];rfl,rfl,by go_num,⟨by omega⟩,⟨by rw [HS.out,HST.out]⟩,HW8,HB8⟩
         ·have q1 : ((a : Int) < (l.length : Int)) = False := eq_false (by omega)
          have q2 : decide (a < l.length) = false := decide_eq_false hlt
          have z5 : ((a : Int) == (l.length : Int)) = true := by
           have : (a : Int) = (l.length : Int) := by omega
           simpa using this
          have hqa : l.length ≤ q := by have := HKa.out;have := HAQ.out;omega
          have HSame := am (show redStep p (rs,ps,det) i = (rs,ps,det) from by
           unfold redStep
           rw [if_neg (by show ¬ fndP rs i ps.length < rs.length;rw [← HQ.out,HRL.out];omega)])
          clear hqa
          go_wp2
          go_roundg (k - (i + 1))
          case measure => have := HK.out;omega
          case rel => exact ⟨i + 1,vs,Ap,cp,rs,ps,det,rfl,rfl,by go_num,⟨by omega⟩,⟨by rw [HS.out,HSame.out]⟩,HW,HB⟩
      ·have g0 : decide (i < k) = false := decide_eq_false hik
       have g1 : ((i : Int) < (k : Int)) = False := eq_false (by omega)
       obtain rfl : i = k := by have := HK.out;omega
       clear HK
       go_wp2
       go_ret3
       refine ⟨(.slice (some ⟨bo,0,none⟩) l.length co),vs,(.slice Ap ps.length cp),by rw [HRD.out];rfl,?_,HB.out⟩
       rw [HRD.out]
       exact HW.out
def rrdN (l : List (List Int)) : Nat := (l.getD 0 []).length
def privityref06_Reduced.f (a0 : Int) (l1 : List (List Int)) (a2 : Int) : Option (List (List Int) × List Int × Int) := if supB a0 = true then (if 0 < l1.length then (if l1.length ≤ 100 then (if 0 < rrdN l1 ∧ rrdN l1 ≤ 200 then (if rowsB a0 (rrdN l1) l1 = true then (if 0 ≤ a2 ∧ a2 ≤ (rrdN l1 : Int) then some (red a0 l1 a2.toNat) else none) else none) else none) else none) else none) else none
theorem privityref06_Reduced.calls (a0 : Int) (A1 : Option Addr) (c1 : Nat) (l1 : List (List Int)) (a2 : Int) (r1 : List (List Int)) (r2 : List Int) (r3 : Int) (w : World) (hr1 : Kd.C (Kd.slice 22 (Kd.int .u64)) w A1 l1.length l1) (hc1 : l1.length ≤ c1) (h : privityref06_Reduced.f a0 l1 a2 = some (r1,r2,r3)) :
  Calls Try.prog 80 #[.int .u64 a0,.slice A1 l1.length c1,.int .i64 a2] w fun e w' => ∃ v0_ v1_ : Value,e = .returned (.tuple #[v0_,v1_,.int .u64 r3]) ∧ Kd.S (Kd.slice 22 (Kd.int .u64)) 40 w' w.heap.size (fun _ => True) v0_ r1 ∧ Kd.R (Kd.int .i64) 3 w' w.heap.size (fun _ => True) v1_ r2 ∧ Below w.heap.size w w' := by
 unfold privityref06_Reduced.f at h
 by_cases h1 : supB a0 = true
 ·rw [if_pos h1] at h
  by_cases h2 : 0 < l1.length
  ·rw [if_pos h2] at h
   by_cases h3 : l1.length ≤ 100
   ·rw [if_pos h3] at h
    by_cases h4 : 0 < rrdN l1 ∧ rrdN l1 ≤ 200
    ·rw [if_pos h4] at h
     by_cases h5 : rowsB a0 (rrdN l1) l1 = true
     ·rw [if_pos h5] at h
      by_cases h6 : 0 ≤ a2 ∧ a2 ≤ (rrdN l1 : Int)
      ·rw [if_pos h6] at h
       have e := Option.some.inj h
       have hw := rreduce_walk a0 (supB_of h1) A1 c1 l1 (rrdN l1) a2.toNat w hr1 hc1 h2 (by omega) h4.1 (by omega) (rowsB_iff.1 h5) (by omega)
       rw [Int.toNat_of_nonneg h6.1] at hw
       refine hw.mono ?_
       rintro e' w' ⟨mv,vs,pv,rfl,hW,hb⟩
       rw [e] at hW
       refine ⟨mv,pv,by rw [e],hW.to_S,Kd.R_of_own hW.piv (fun _ _ => trivial),hb⟩
      ·rw [if_neg h6] at h;cases h
     ·rw [if_neg h5] at h;cases h
    ·rw [if_neg h4] at h;cases h
   ·rw [if_neg h3] at h;cases h
  ·rw [if_neg h2] at h;cases h
 ·rw [if_neg h1] at h;cases h
end Go.Proofs.Ytmdoaijkaaaglaa.Hw
end
