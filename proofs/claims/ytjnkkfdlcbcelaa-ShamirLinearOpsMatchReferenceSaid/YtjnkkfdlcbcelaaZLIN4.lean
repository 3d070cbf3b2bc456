/- The row of the law ShamirLinearOpsMatchReference, out of its plain law and the walk. -/
import Derived.Test.YtjnkkfdlcbcelaaZLIN1
import Derived.Test.YtjnkkfdlcbcelaaZLIN0
import Derived.Test.YtjnkkfdlcbcelaaZLIN2
import Derived.Test.YtjnkkfdlcbcelaaZLIN3
import Derived.Test.YtjnkkfdlcbcelaaProg
import Derived.ChangeArms
import Derived.DataReads
import Derived.DataElems
import Derived.ShutString
import Derived.ChangeSame
import Derived.OpenShut
import Derived.Test.YtjnkkfdlcbcelaaRows
import Derived.WalkKit
import Derived.ProofKit
import Derived.ChangeOld
import Derived.Below
import Derived.SizedLaws
set_option linter.unusedVariables false
set_option linter.unusedSimpArgs false
section
namespace Go.Proofs.Ytjnkkfdlcbcelaa.Hw
open Go.RowKit Go.Proofs.Ytjnkkfdlcbcelaa.Pr Go.Proofs.YtjnkkfdlcbcelaaW.PrintWords Go.Proofs.YtjnkkfdlcbcelaaW.PrintLast Go.Proofs.YtjnkkfdlcbcelaaW.PrintMore Go.Proofs.Ytjnkkfdlcbcelaa.E
theorem goesV_ {P : Program} {ops : Array Oper} {Q : Exit → Act → World → Prop} {oi : Oper} {N : Option Tmp} {a : Act} {w : World} {K : Act → World → Prop} {f : FuncId} {fn : Func} {cb : Array Value} {x : Operand} {ars : Array Operand} {ts : Array TypeId}
  (hf : P.funcs[f]? = some fn) (hname : (fn.name == "runtime.NumGoroutine") = false) (hb : fn.body.isSome = true) (args0 args : Array Value)
  (hw : Region.wanted oi (yielded ops a.tmps) = true) (hN : oi.dst = N) (hop : oi.op = .call { callee := .value x,args := ars,argTypes := ts }) (hx : a.eval x = .func (.func f) #[] cb) (hargs : ars.map a.eval = args0) (happ : args0 ++ cb = args)
  (h : Calls P f args w fun e w' => ∃ v,e = .returned v ∧ K (a.put N v) w') : if Region.wanted oi (yielded ops a.tmps) = true then Oper.wp P oi a w K Q else K (a.put N undef) w := by
 refine call_ f args hw hN ?_ h
 have he := enters_ hf hname hb args w
 unfold execOp
 simp [hop,hx,resolve,Deferred.ofValue,invoke,hargs,happ,he]
theorem mkS_run {t e : TypeId} {z : Value} {b : Nat} (ht : Try.prog.underlying t = some (.slice e)) (hinfo : (Try.prog.info? e).map (fun i => (i.zero,i.size,i.bytes)) = some (some z,1,b)) (hz : z.cells = #[z]) (n : Nat) (hn : n ≤ 1000000) (hb : b ≤ 100) (w : World) :
  (Instr.makeSlice t (.int .i64 (n : Int)) (.int .i64 (n : Int))).run Try.prog w = .ok (.slice (some ⟨w.heap.size,0,none⟩) n n) (w.alloc (.cells (List.replicate n z).toArray e)) := by
 obtain ⟨i0,hi,hzz⟩ := Option.map_eq_some_iff.1 hinfo
 simp only [Prod.mk.injEq] at hzz
 obtain ⟨hz0,hz1,hz2⟩ := hzz
 have hr := run_make (P := Try.prog) w t e i0 z ht hi hz0 .i64 .i64 (n : Int) (n : Int) (by omega) (by omega)
  (by
   have h3 : ((i0.bytes * n : Nat) : Int) ≤ 281474976710656 := by
    have : i0.bytes * n ≤ 100 * 1000000 := Nat.mul_le_mul (by omega) hn
    omega
   rwa [Int.natCast_mul] at h3) (by omega)
 simp only [Int.toNat_natCast] at hr
 rw [hz1,Nat.mul_one,hz] at hr
 rw [hr]
 have e : madeCells #[z] n = (List.replicate n z).toArray := by
  apply Array.ext'
  rw [toList_madeCells_one]
 rw [e]
theorem rdR {p : Int} {l : List Int} (h : ∀ x ∈ l,Res p x) {n : Nat} (hn : n < l.length) : Res p (rd l (n : Int)) := by
 have e : rd l (n : Int) = l[n] := by unfold rd;rw [Int.toNat_natCast,List.getD_eq_getElem?_getD,List.getElem?_eq_getElem hn];rfl
 rw [e];exact h _ (List.getElem_mem _)
theorem infoShW : (Try.prog.info? 22).map (fun i => (i.zero,i.size,i.bytes)) = some (some (.int .u64 0),1,8) := by kernel_rfl
theorem infoShR : (Try.prog.info? 41).map (fun i => (i.zero,i.size,i.bytes)) = some (some (.slice none 0 0),1,24) := by kernel_rfl
def prL (op : Int → Int → Int) (l1 l2 : List Int) (n : Nat) : List Int := (List.zipWith op l1 l2).take n ++ List.replicate (l1.length - n) 0
theorem prL_len (op : Int → Int → Int) {l1 l2 : List Int} (hl : l1.length ≤ l2.length) {n : Nat} (hn : n ≤ l1.length) : (prL op l1 l2 n).length = l1.length := by
 unfold prL;simp;omega
theorem prL_zero (op : Int → Int → Int) (l1 l2 : List Int) : prL op l1 l2 0 = List.replicate l1.length 0 := by simp [prL]
theorem prL_all (op : Int → Int → Int) {l1 l2 : List Int} (hl : l1.length ≤ l2.length) : prL op l1 l2 l1.length = List.zipWith op l1 l2 := by
 unfold prL
 rw [Nat.sub_self,List.replicate_zero,List.append_nil,List.take_of_length_le (by simp;omega)]
theorem prL_set (op : Int → Int → Int) {l1 l2 : List Int} (hl : l1.length ≤ l2.length) {n : Nat} (hn : n < l1.length) : (prL op l1 l2 n).set n (op (rd l1 (n : Int)) (rd l2 (n : Int))) = prL op l1 l2 (n + 1) := by
 have e1 : rd l1 (n : Int) = l1[n] := by unfold rd;rw [Int.toNat_natCast,List.getD_eq_getElem?_getD,List.getElem?_eq_getElem hn];rfl
 have e2 : rd l2 (n : Int) = l2[n]'(by omega) := by unfold rd;rw [Int.toNat_natCast,List.getD_eq_getElem?_getD,List.getElem?_eq_getElem (by omega)];rfl
 have hz : n < (List.zipWith op l1 l2).length := by simp;omega
 have ez : (List.zipWith op l1 l2)[n] = op l1[n] (l2[n]'(by omega)) := by simp
 unfold prL
 rw [e1,e2,← ez,List.take_succ_eq_append_getElem hz,show l1.length - n = (l1.length - (n + 1)) + 1 from by omega,List.replicate_succ]
 have hln : ((List.zipWith op l1 l2).take n).length = n := by simp;omega
 rw [List.set_append_right _ _ (by omega),hln,Nat.sub_self,List.set_cons_zero,List.append_assoc]
 rfl
theorem nums_set (k : IntKind) (l : List Int) (n : Nat) (x : Int) : (nums k l).set n (.int k x) = nums k (l.set n x) := by simp [nums,List.map_set]
theorem blk_row {w : World} {bo : Nat} {l : List Int} (h : w.heap[bo]? = some (.cells (nums .u64 l).toArray 22 (0,0))) {base : Nat} (hb : base ≤ bo) (hn : l.length ≤ 1000000) {n : Nat} (hl : n = l.length) (ok : Nat → Prop) (hok : ok bo) :
  Kd.R (Kd.int .u64) 22 w base ok (.slice (some ⟨bo,0,none⟩) n n) l := by
 subst hl
 have hnl : (nums .u64 l).length = l.length := by simp [nums]
 refine R_made ?_ (fun b hb => ?_)
 ·refine ⟨by rw [hnl];omega,.inr ⟨bo,l.length,(nums .u64 l).toArray,rfl,hb,h,Nat.le_refl _,by simp only [maxLen];omega,by rw [List.size_toArray,hnl];omega,?_⟩⟩
  show (nums .u64 l).take (l.length * 1) = _
  exact List.take_of_length_le (by rw [hnl];omega)
 ·have e : (Value.slice (some ⟨bo,0,none⟩) l.length l.length).ownBlock = some bo := rfl
  rw [e] at hb;exact Option.some.inj hb ▸ hok
def DoesAt (p : Int) (op : Int → Int → Int) (bd bp : Nat) (w : World) : Prop :=
 ∀ (W : World),Below w.heap.size w W → ∀ (x y : Int),Res p x → Res p y →
  Calls Try.prog 51 #[.int .u64 x,.int .u64 y,.pointer (some ⟨bd,0,none⟩),.pointer (some ⟨bp,0,none⟩)] W fun e w' => e = .returned (.int .u64 (op x y)) ∧ Below W.heap.size W w'
theorem DoesAt.below {p : Int} {op : Int → Int → Int} {bd bp : Nat} {w w1 : World} (h : DoesAt p op bd bp w) (hb : Below w.heap.size w w1) : DoesAt p op bd bp w1 := fun W hW => h W (below_step hb hW)
set_option maxHeartbeats 4000000 in
set_option maxRecDepth 100000 in
theorem pairsW_walk {p : Int} (op : Int → Int → Int) (bd bp : Nat) (A1 : Option Addr) (c1 : Nat) (l1 : List Int) (A2 : Option Addr) (c2 : Nat) (l2 : List Int) (w : World)
  (hr1 : Kd.C (Kd.int .u64) w A1 l1.length l1) (hc1 : l1.length ≤ c1) (hr2 : Kd.C (Kd.int .u64) w A2 l2.length l2) (hc2 : l2.length ≤ c2) (hl : l1.length ≤ l2.length) (hn : l1.length ≤ 1000000)
  (h1 : ∀ x ∈ l1,Res p x) (h2 : ∀ x ∈ l2,Res p x) (hdo : DoesAt p op bd bp w) :
  Calls Try.prog 50 #[.slice A1 l1.length c1,.slice A2 l2.length c2,.func (.func 51) #[] #[.pointer (some ⟨bd,0,none⟩),.pointer (some ⟨bp,0,none⟩)]] w
   fun e w' => ∃ v0_ : Value,e = .returned (v0_) ∧ Kd.R (Kd.int .u64) 22 w' w.heap.size (fun _ => True) v0_ (List.zipWith op l1 l2) ∧ Below w.heap.size w w' := by
 have HR1 := am hr1
 have HR2 := am hr2
 have H1 := am h1
 have H2 := am h2
 have HD := am hdo
 obtain ⟨bo,hbo⟩ : ∃ b,b = w.heap.size := ⟨_,rfl⟩
 have hmk := mkS_run (t := 41) (e := 22) (z := .int .u64 0) Try.underlying41 infoShW rfl l1.length hn (by decide) w
 rw [← hbo] at hmk
 have HB0 := am (below_alloc (Below.refl w.heap.size w) (.cells (List.replicate l1.length (Value.int .u64 0)).toArray 22))
 have BK0 := am (show (w.alloc (.cells (List.replicate l1.length (Value.int .u64 0)).toArray 22)).heap[bo]? = some (.cells (nums .u64 (prL op l1 l2 0)).toArray 22 (0,0)) by
  rw [prL_zero,show nums .u64 (List.replicate l1.length 0) = List.replicate l1.length (Value.int .u64 0) from by simp [nums],hbo];exact blk_new w _)
 have HBO := am hbo
 clear hr1 hr2 h1 h2 hdo hbo
 go_enter Try.func50,Try.ntmps50
 go_wp2
 clear hmk
 go_loopg [8,14] l1.length (fun kq v8 v14 w' => ∃ n : Nat,v14 = .int .i64 (n : Int) ∧ Aside0 (kq + n = l1.length) ∧ Aside0 (w'.heap[bo]? = some (.cells (nums .u64 (prL op l1 l2 n)).toArray 22 (0,0))) ∧ Aside0 (Below w.heap.size w w'))
 case atStart => exact ⟨0,rfl,⟨rfl⟩,BK0,HB0⟩
 case round =>
  clear BK0 HB0
  obtain ⟨n,rfl,HK,BK,HB⟩ := hrel
  by_cases hlt : n < l1.length
  ·have q1 : ((n : Int) < (l1.length : Int)) = True := eq_true (by omega)
   have q2 : decide (n < l1.length) = true := decide_eq_true hlt
   have p1 : ((0 : Int) ≤ (n : Int)) = True := eq_true (by omega)
   have p2 : ((n : Int) < (l2.length : Int)) = True := eq_true (by omega)
   obtain ⟨ad1,e1,hy1⟩ := Kd.at_int (Kd.C_below HR1.out HB.out) (n : Int) (by omega) (by omega)
   cases e1
   obtain ⟨ad2,e2,hy2⟩ := Kd.at_int (Kd.C_below HR2.out HB.out) (n : Int) (by omega) (by omega)
   cases e2
   rw [Int.toNat_natCast] at hy1 hy2
   have hx1 : Res p (rd l1 (n : Int)) := rdR H1.out hlt
   have hx2 : Res p (rd l2 (n : Int)) := rdR H2.out (by omega)
   have HC := am (fun W (hW : Below w.heap.size w W) => HD.out W hW _ _ hx1 hx2)
   have HSet := am (prL_set op hl hlt)
   have hlen := prL_len op hl (n := n) (by omega)
   obtain ⟨x1,ex1⟩ : ∃ x,x = rd l1 (n : Int) := ⟨_,rfl⟩
   obtain ⟨x2,ex2⟩ : ∃ x,x = rd l2 (n : Int) := ⟨_,rfl⟩
   rw [← ex1] at hy1 HC HSet
   rw [← ex2] at hy2 HC HSet
   have HY1 := am hy1
   have HY2 := am hy2
   clear hx1 hx2 ex1 ex2
   go_wp2
   refine start_ (n := 14) (S := (fun w' => w'.cell? (ad1.add n) = some (.int .u64 x1) ∧ w'.cell? (ad2.add n) = some (.int .u64 x2))) (ds := [13]) (bz 14 0) (by kernel_rfl) rfl rfl ⟨hy1,hy2⟩ (fun hHeld => ?_)
   refine pu 0 17 (bz 14 1) ?_
   refine pu 1 18 (bz 14 3) ?_
   refine pu 2 19 (bz 14 7) ?_
   refine pu 3 20 (bz 14 15) ?_
   refine pu 4 21 (bz 14 31) ?_
   refine pu 5 22 (bz 14 63) ?_
   refine tu 6 23 (bz 14 127) hHeld ?_
   refine pu 7 24 (bz 14 255) ?_
   refine pu 8 25 (bz 14 511) ?_
   refine pu 9 26 (bz 14 1023) ?_
   refine tu 10 27 (bz 14 2047) hHeld ?_
   refine one_ (i := 11) (N := some 28) (bz 14 4095) rfl rfl (by kernel_rfl) (by decide) (fun K hK => ?_)
   refine goesV_ Try.func51 (by kernel_rfl) rfl #[.int .u64 x1,.int .u64 x2] #[.int .u64 x1,.int .u64 x2,.pointer (some ⟨bd,0,none⟩),.pointer (some ⟨bp,0,none⟩)] (by rfl) rfl rfl rfl (by (try simp only [List.map_toArray,List.map_cons,List.map_nil]);rfl) (by simp) ?_
   with_reducible refine (HC.out _ (below_drew HB.out)).mono ?_
   rintro e w4 ⟨rfl,hb4⟩
   refine ⟨_,rfl,?_⟩
   refine hK.out _ _ ⟨pw_cell_below hb4 HY1.out,pw_cell_below hb4 HY2.out⟩ (fun hHeld => ?_)
   clear hK K
   refine nm 28 ?_
   have HB4 := am (below_step (below_drew HB.out) hb4)
   have BK4 := am (blk_below (blk_drew BK.out) hb4)
   have f4 := blk_frozen BK4.out n
   have c4 : w4.cell? ⟨bo,n,none⟩ = some (.int .u64 ((prL op l1 l2 n)[n]'(by omega))) := by
    rw [blk_cell BK4.out n,List.getElem?_toArray]
    unfold nums
    rw [List.getElem?_map,List.getElem?_eq_getElem (by omega)];rfl
   clear hb4
   refine pu 12 29 (bz 14 8191) ?_
   refine last_ (i := 13) (N := none) (bz 14 16383) rfl rfl (by kernel_rfl) (by decide) (fun K hK => ?_)
   refine skip_ (w1 := ?_) (by rfl) rfl ?_ ?_
   rotate_left
   ·go_simp
    rfl
   refine hK.out _ _ ?_
   clear hK K
   refine done_ (by kernel_rfl) ?_
   have HB5 := am (HB4.out.setCell (p := ⟨bo,n,none⟩) (by rw [← HBO.out];exact Nat.le_refl _) (.int .u64 (op x1 x2)))
   have BK5 := am (show (w4.setCell ⟨bo,n,none⟩ (.int .u64 (op x1 x2))).heap[bo]? = some (.cells (nums .u64 (prL op l1 l2 (n + 1))).toArray 22 (0,0)) from
    blk_put BK4.out n _ (by rw [List.setIfInBounds_toArray,nums_set,HSet.out]))
   go_wp2
   go_roundg (l1.length - (n + 1))
   case measure => have := HK.out;omega
   case rel => exact ⟨n + 1,by go_num,⟨by omega⟩,BK5,HB5⟩
  ·have q1 : decide ((n : Int) < (l1.length : Int)) = false := decide_eq_false (by omega)
   have q2 : decide (n < l1.length) = false := decide_eq_false hlt
   have hnl : n = l1.length := by have := HK.out;omega
   have hfin : prL op l1 l2 n = List.zipWith op l1 l2 := by rw [hnl];exact prL_all op hl
   have HF := am hfin
   clear hfin hnl
   go_wp2
   first|go_ret|((try simp only [Exit.inBlock,Exit.then]);refine bodyPost_ret (results_tmp rfl _ _ _) rfl ?_)
   have hzl : (List.zipWith op l1 l2).length = l1.length := by simp;omega
   refine ⟨_,rfl,blk_row (by rw [← HF.out];exact BK.out) (by rw [← HBO.out];exact Nat.le_refl _) (by omega) (by omega) _ trivial,HB.out⟩
set_option maxHeartbeats 2000000 in
set_option maxRecDepth 100000 in
theorem wordsR_walk {p : Int} (op : Int → Int → Int) (bd bp : Nat) (A1 : Option Addr) (c1 : Nat) (l1 : List Int) (A2 : Option Addr) (c2 : Nat) (l2 : List Int) (w : World)
  (hr1 : Kd.C (Kd.int .u64) w A1 l1.length l1) (hc1 : l1.length ≤ c1) (hr2 : Kd.C (Kd.int .u64) w A2 l2.length l2) (hc2 : l2.length ≤ c2) (hl : l1.length ≤ l2.length) (hn : l1.length ≤ 1000000)
  (h1 : ∀ x ∈ l1,Res p x) (h2 : ∀ x ∈ l2,Res p x) (hdo : DoesAt p op bd bp w) :
  Calls Try.prog 49 #[.slice A1 l1.length c1,.slice A2 l2.length c2,.pointer (some ⟨bd,0,none⟩),.pointer (some ⟨bp,0,none⟩)] w
   fun e w' => ∃ v0_ : Value,e = .returned (v0_) ∧ Kd.R (Kd.int .u64) 22 w' w.heap.size (fun _ => True) v0_ (List.zipWith op l1 l2) ∧ Below w.heap.size w w' := by
 have HP := am (pairsW_walk op bd bp A1 c1 l1 A2 c2 l2 w hr1 hc1 hr2 hc2 hl hn h1 h2 hdo)
 clear hr1 hr2 h1 h2 hdo
 go_enter Try.func49,Try.ntmps49
 go_wp2_with (first|(go_at_call 50;(with_reducible refine HP.out.mono ?_);rintro e w1 ⟨v1,rfl,ho1,hb1⟩;have HO1 := am ho1;have HB1 := am hb1;clear ho1 hb1))
 first|go_ret|((try simp only [Exit.inBlock,Exit.then]);refine bodyPost_ret (results_tmp rfl _ _ _) rfl ?_)
 exact ⟨_,rfl,HO1.out,HB1.out⟩
structure Rws (w : World) (base bo m : Nat) (vs : List Value) (rows : List (List Int)) : Prop where
 blk : w.heap[bo]? = some (.cells (vs ++ List.replicate (m - vs.length) (Value.slice none 0 0)).toArray 41 (0,0))
 len : rows.length = vs.length
 each : ∀ (j : Nat) v r,vs[j]? = some v → rows[j]? = some r → Kd.R (Kd.int .u64) 22 w base (fun b => b ≠ bo) v r
 apart : ∀ (i j b : Nat) u v,vs[i]? = some u → vs[j]? = some v → u.ownBlock = some b → v.ownBlock = some b → i = j
theorem Rws.below {w w1 : World} {base bo m : Nat} {vs : List Value} {rows : List (List Int)} (h : Rws w base bo m vs rows) (hb : Below w.heap.size w w1) : Rws w1 base bo m vs rows :=
 ⟨blk_below h.blk hb,h.len,fun j v r hv hr => Kd.R_below (h.each j v r hv hr) hb,h.apart⟩
theorem Rws.add {w w1 : World} {base bo m : Nat} {vs : List Value} {rows : List (List Int)} {v : Value} {r : List Int} (h : Rws w base bo m vs rows) (hb : Below w.heap.size w w1) (hv : Kd.R (Kd.int .u64) 22 w1 w.heap.size (fun _ => True) v r) (hbase : base ≤ w.heap.size) (hlt : vs.length < m) :
  Rws (w1.setCell ⟨bo,vs.length,none⟩ v) base bo m (vs ++ [v]) (rows ++ [r]) := by
 have h1 := h.below hb
 have hbo : bo < w.heap.size := blk_lt h.blk
 refine ⟨blk_put h1.blk vs.length v ?_,by simp [h.len],?_,?_⟩
 ·rw [List.setIfInBounds_toArray]
  congr 1
  rw [List.set_append_right _ _ (Nat.le_refl _),Nat.sub_self,List.length_append,List.length_cons,List.length_nil,show m - vs.length = (m - (vs.length + 1)) + 1 from by omega,List.replicate_succ,List.set_cons_zero,List.append_assoc]
  rfl
 ·intro j u r' hu hr'
  have hu1 : Kd.R (Kd.int .u64) 22 w1 base (fun b => b ≠ bo) u r' := by
   rcases Nat.lt_or_ge j vs.length with hj|hj
   ·rw [List.getElem?_append_left hj] at hu
    rw [List.getElem?_append_left (by rw [h.len];exact hj)] at hr'
    exact h1.each j u r' hu hr'
   ·have hj2 : j = vs.length := by have := (List.getElem?_eq_some_iff.1 hu).1;simp at this;omega
    subst hj2
    rw [List.getElem?_append_right (Nat.le_refl _),Nat.sub_self] at hu
    rw [List.getElem?_append_right (by rw [h.len];exact Nat.le_refl _),h.len,Nat.sub_self] at hr'
    obtain rfl := Option.some.inj hu
    obtain rfl := Option.some.inj hr'
    refine Kd.R_lower (Kd.R_mono (Kd.R_bound hv) fun k hk => ?_) hbase
    have := hk.2.1
    show k ≠ bo
    omega
  exact R_setfar hu1 fun k hk => hk
 ·intro i j b u u' hu hu' hi hj
  have hold : ∀ (k : Nat) y,k < vs.length → (vs ++ [v])[k]? = some y → y.ownBlock = some b → b < w.heap.size := by
   intro k y hk hy hyb
   rw [List.getElem?_append_left hk] at hy
   exact Kd.R_lt (h.each k y _ hy (List.getElem?_eq_getElem (by rw [h.len];exact hk))) b hyb
  have hnew : ∀ (k : Nat) y,¬ k < vs.length → (vs ++ [v])[k]? = some y → y.ownBlock = some b → k = vs.length ∧ w.heap.size ≤ b := by
   intro k y hk hy hyb
   have hk2 : k = vs.length := by have := (List.getElem?_eq_some_iff.1 hy).1;simp at this;omega
   subst hk2
   rw [List.getElem?_append_right (Nat.le_refl _),Nat.sub_self] at hy
   obtain rfl := Option.some.inj hy
   exact ⟨rfl,Kd.R_base hv b hyb⟩
  by_cases h1 : i < vs.length
  ·by_cases h2 : j < vs.length
   ·rw [List.getElem?_append_left h1] at hu
    rw [List.getElem?_append_left h2] at hu'
    exact h.apart i j b u u' hu hu' hi hj
   ·have a := hold i u h1 hu hi
    have c := (hnew j u' h2 hu' hj).2
    omega
  ·by_cases h2 : j < vs.length
   ·have a := hold j u' h2 hu' hj
    have c := (hnew i u h1 hu hi).2
    omega
   ·rw [(hnew i u h1 hu hi).1,(hnew j u' h2 hu' hj).1]
theorem Rws.own {w : World} {base bo m : Nat} {vs : List Value} {rows : List (List Int)} (h : Rws w base bo m vs rows) (hb : base ≤ bo) (hm : vs.length = m) (hn : m ≤ 1000000) :
  Kd.S (Kd.slice 22 (Kd.int .u64)) 41 w base (fun _ => True) (.slice (some ⟨bo,0,none⟩) m m) rows := by
 have hblk := h.blk
 rw [hm,Nat.sub_self,List.replicate_zero,List.append_nil] at hblk
 obtain ⟨f,hf⟩ := Kd.reps_tag (d := Kd.slice 22 (Kd.int .u64)) (w := w) (base := base) (ok := fun k => True ∧ some k ≠ (Value.slice (some ⟨bo,0,none⟩) m m).ownBlock) (xs := rows) (inner := vs)
  (fun j k => k ≠ bo ∧ ∃ v,vs[j]? = some v ∧ v.ownBlock = some k) (fun i j k hi hj => by obtain ⟨_,u,hu,hub⟩ := hi;obtain ⟨_,v,hv,hvb⟩ := hj;exact h.apart i j k u v hu hv hub hvb)
  (fun j k hk => ⟨trivial,fun e => hk.1 (Option.some.inj e)⟩) (by show vs.length = rows.length * 1;rw [h.len,Nat.mul_one]) (fun j x hx => by
   have hj : j < vs.length := by have := (List.getElem?_eq_some_iff.1 hx).1;rw [h.len] at this;exact this
   have hv : vs[j]? = some vs[j] := List.getElem?_eq_getElem hj
   have hcs : (vs.drop (j * 1)).take 1 = [vs[j]] := by rw [Nat.mul_one,List.drop_eq_getElem_cons hj];rfl
   show ∃ v,(vs.drop (j * 1)).take 1 = [v] ∧ _
   refine ⟨vs[j],hcs,?_⟩
   have hR := h.each j _ x hv hx
   exact ⟨fun k hk => ⟨hR.1 k hk,_,hv,hk⟩,hR.2.imp_ fun _ _ hp => hp⟩)
 refine ⟨f,fun _ _ => trivial,vs,?_,?_⟩
 ·rw [List.length_zipIdx,h.len,hm]
  refine ⟨by rw [hm];show m = m * 1;omega,.inr ⟨bo,m,vs.toArray,rfl,hb,hblk,Nat.le_refl _,by simp only [maxLen];omega,by rw [List.size_toArray,hm];show m = m * 1;omega,?_⟩⟩
  show vs.take (m * 1) = vs
  exact List.take_of_length_le (by omega)
 ·exact hf
def rowsZ (op : Int → Int → Int) (l1 l2 : List (List Int)) : List (List Int) := List.zipWith (List.zipWith op) l1 l2
set_option maxHeartbeats 4000000 in
set_option maxRecDepth 100000 in
theorem pairsR_walk {p : Int} (op : Int → Int → Int) (bd bp : Nat) (A1 : Option Addr) (c1 : Nat) (l1 : List (List Int)) (A2 : Option Addr) (c2 : Nat) (l2 : List (List Int)) (w : World)
  (hr1 : Kd.C (Kd.slice 22 (Kd.int .u64)) w A1 l1.length l1) (hc1 : l1.length ≤ c1) (hr2 : Kd.C (Kd.slice 22 (Kd.int .u64)) w A2 l2.length l2) (hc2 : l2.length ≤ c2) (hl : l1.length ≤ l2.length) (hn : l1.length ≤ 1000000)
  (hx : ∀ i : Nat,i < l1.length → (rd_L1 l1 (i : Int)).length ≤ (rd_L1 l2 (i : Int)).length ∧ (rd_L1 l1 (i : Int)).length ≤ 1000000 ∧ (∀ x ∈ rd_L1 l1 (i : Int),Res p x) ∧ (∀ x ∈ rd_L1 l2 (i : Int),Res p x)) (hdo : DoesAt p op bd bp w) :
  Calls Try.prog 48 #[.slice A1 l1.length c1,.slice A2 l2.length c2,.func (.func 49) #[] #[.pointer (some ⟨bd,0,none⟩),.pointer (some ⟨bp,0,none⟩)]] w
   fun e w' => ∃ v0_ : Value,e = .returned (v0_) ∧ Kd.S (Kd.slice 22 (Kd.int .u64)) 41 w' w.heap.size (fun _ => True) v0_ (rowsZ op l1 l2) ∧ Below w.heap.size w w' := by
 have HR1 := am hr1
 have HR2 := am hr2
 have HX := am hx
 have HD := am hdo
 obtain ⟨bo,hbo⟩ : ∃ b,b = w.heap.size := ⟨_,rfl⟩
 have hmk := mkS_run (t := 25) (e := 41) (z := .slice none 0 0) Try.underlying25 infoShR rfl l1.length hn (by decide) w
 rw [← hbo] at hmk
 have HB0 := am (below_alloc (Below.refl w.heap.size w) (.cells (List.replicate l1.length (Value.slice none 0 0)).toArray 41))
 have BK0 := am (show Rws (w.alloc (.cells (List.replicate l1.length (Value.slice none 0 0)).toArray 41)) w.heap.size bo l1.length [] ((rowsZ op l1 l2).take 0) from
  ⟨by rw [hbo];exact blk_new w _,by simp,fun j v r hv => by simp at hv,fun i j b u v hu => by simp at hu⟩)
 have HBO := am hbo
 clear hr1 hr2 hx hdo hbo
 go_enter Try.func48,Try.ntmps48
 go_wp2
 clear hmk
 go_loopg [8,14] l1.length (fun kq v8 v14 w' => ∃ (n : Nat) (vs : List Value),v14 = .int .i64 (n : Int) ∧ Aside0 (kq + n = l1.length) ∧ Aside0 (vs.length = n) ∧ Aside0 (Rws w' w.heap.size bo l1.length vs ((rowsZ op l1 l2).take n)) ∧ Aside0 (Below w.heap.size w w'))
 case atStart => exact ⟨0,[],rfl,⟨rfl⟩,⟨rfl⟩,BK0,HB0⟩
 case round =>
  clear BK0 HB0
  obtain ⟨n,vs,rfl,HK,HV,BK,HB⟩ := hrel
  by_cases hlt : n < l1.length
  ·have q1 : ((n : Int) < (l1.length : Int)) = True := eq_true (by omega)
   have q2 : decide (n < l1.length) = true := decide_eq_true hlt
   have p1 : ((0 : Int) ≤ (n : Int)) = True := eq_true (by omega)
   have p2 : ((n : Int) < (l2.length : Int)) = True := eq_true (by omega)
   obtain ⟨ad1,A4,c4,e1,hy1,hc4,hC4⟩ := at_L1 (Kd.C_below HR1.out HB.out) (n : Int) (by omega) (by omega)
   cases e1
   obtain ⟨ad2,A5,c5,e2,hy2,hc5,hC5⟩ := at_L1 (Kd.C_below HR2.out HB.out) (n : Int) (by omega) (by omega)
   cases e2
   rw [Int.toNat_natCast] at hy1 hy2
   obtain ⟨hx1,hx2,hx3,hx4⟩ := HX.out n hlt
   have hz : (rowsZ op l1 l2).take (n + 1) = (rowsZ op l1 l2).take n ++ [List.zipWith op (rd_L1 l1 (n : Int)) (rd_L1 l2 (n : Int))] := by
    have e1 : rd_L1 l1 (n : Int) = l1[n] := by unfold rd_L1;rw [Int.toNat_natCast,List.getD_eq_getElem?_getD,List.getElem?_eq_getElem hlt];rfl
    have e2 : rd_L1 l2 (n : Int) = l2[n]'(by omega) := by unfold rd_L1;rw [Int.toNat_natCast,List.getD_eq_getElem?_getD,List.getElem?_eq_getElem (by omega)];rfl
    have hzl : n < (rowsZ op l1 l2).length := by unfold rowsZ;simp;omega
    have e3 : (rowsZ op l1 l2)[n] = List.zipWith op l1[n] (l2[n]'(by omega)) := by simp [rowsZ]
    rw [List.take_succ_eq_append_getElem hzl,e1,e2,e3]
   obtain ⟨y1,ey1⟩ : ∃ x,x = rd_L1 l1 (n : Int) := ⟨_,rfl⟩
   obtain ⟨y2,ey2⟩ : ∃ x,x = rd_L1 l2 (n : Int) := ⟨_,rfl⟩
   rw [← ey1] at hy1 hz hx1 hx2 hx3 hc4 hC4
   rw [← ey2] at hy2 hz hx1 hx4 hc5 hC5
   have hw := wordsR_walk op bd bp A4 c4 y1 A5 c5 y2 wr.drew (Kd.C_drew hC4) hc4 (Kd.C_drew hC5) hc5 hx1 hx2 hx3 hx4 (DoesAt.below HD.out (below_drew HB.out))
   obtain ⟨z,ez⟩ : ∃ x,x = List.zipWith op y1 y2 := ⟨_,rfl⟩
   rw [← ez] at hw hz
   have HW := am hw
   have HZ := am hz
   have HY1 := am hy1
   have HY2 := am hy2
   clear hx1 hx2 hx3 hx4 ey1 ey2 ez hw hz hc4 hC4 hc5 hC5
   go_wp2
   refine start_ (n := 14) (S := (fun w' => w'.cell? (ad1.add n) = some (.slice A4 y1.length c4) ∧ w'.cell? (ad2.add n) = some (.slice A5 y2.length c5))) (ds := [13]) (bz 14 0) (by kernel_rfl) rfl rfl ⟨hy1,hy2⟩ (fun hHeld => ?_)
   refine pu 0 17 (bz 14 1) ?_
   refine pu 1 18 (bz 14 3) ?_
   refine pu 2 19 (bz 14 7) ?_
   refine pu 3 20 (bz 14 15) ?_
   refine pu 4 21 (bz 14 31) ?_
   refine pu 5 22 (bz 14 63) ?_
   refine tu 6 23 (bz 14 127) hHeld ?_
   refine pu 7 24 (bz 14 255) ?_
   refine pu 8 25 (bz 14 511) ?_
   refine pu 9 26 (bz 14 1023) ?_
   refine tu 10 27 (bz 14 2047) hHeld ?_
   refine one_ (i := 11) (N := some 28) (bz 14 4095) rfl rfl (by kernel_rfl) (by decide) (fun K hK => ?_)
   refine goesV_ Try.func49 (by kernel_rfl) rfl #[.slice A4 y1.length c4,.slice A5 y2.length c5] #[.slice A4 y1.length c4,.slice A5 y2.length c5,.pointer (some ⟨bd,0,none⟩),.pointer (some ⟨bp,0,none⟩)] (by rfl) rfl rfl rfl (by (try simp only [List.map_toArray,List.map_cons,List.map_nil]);rfl) (by simp) ?_
   with_reducible refine HW.out.mono ?_
   rintro e w4 ⟨v4,rfl,ho4,hb4⟩
   refine ⟨_,rfl,?_⟩
   have HO4 := am ho4
   have HBW := am hb4
   refine hK.out _ _ ⟨pw_cell_below hb4 HY1.out,pw_cell_below hb4 HY2.out⟩ (fun hHeld => ?_)
   clear hK K
   refine nm 28 ?_
   have HB4 := am (below_step (below_drew HB.out) hb4)
   have BK4 := am (BK.out.below (w1 := w4) (below_step (below_drew (Below.refl _ _)) hb4))
   have f4 := blk_frozen BK4.out.blk n
   have hvl := HV.out
   have c4' : w4.cell? ⟨bo,n,none⟩ = some (.slice none 0 0) := by
    rw [blk_cell BK4.out.blk n,List.getElem?_toArray,List.getElem?_append_right (by omega),List.getElem?_replicate,if_pos (by omega)]
   obtain ⟨A6,c6,e6⟩ := Kd.R_slice HO4.out
   subst e6
   clear hb4 ho4 hvl
   refine pu 12 29 (bz 14 8191) ?_
   refine last_ (i := 13) (N := none) (bz 14 16383) rfl rfl (by kernel_rfl) (by decide) (fun K hK => ?_)
   refine skip_ (w1 := ?_) (by rfl) rfl ?_ ?_
   rotate_left
   ·go_simp
    rfl
   refine hK.out _ _ ?_
   clear hK K
   refine done_ (by kernel_rfl) ?_
   have HB5 := am (HB4.out.setCell (p := ⟨bo,n,none⟩) (by rw [← HBO.out];exact Nat.le_refl _) (.slice A6 z.length c6))
   have hbs := below_size HB.out
   have BK5 := am (show Rws (w4.setCell ⟨bo,n,none⟩ (.slice A6 z.length c6)) w.heap.size bo l1.length (vs ++ [.slice A6 z.length c6]) ((rowsZ op l1 l2).take (n + 1)) by
    have := BK.out.add (w1 := w4) (v := .slice A6 z.length c6) (r := z) (below_step (below_drew (Below.refl _ _)) HBW.out) HO4.out hbs (by rw [HV.out];exact hlt)
    rw [HV.out] at this
    rw [HZ.out]
    exact this)
   clear hbs
   go_wp2
   go_roundg (l1.length - (n + 1))
   case measure => have := HK.out;omega
   case rel => exact ⟨n + 1,vs ++ [.slice A6 z.length c6],by go_num,⟨by omega⟩,⟨by rw [List.length_append,HV.out];rfl⟩,BK5,HB5⟩
  ·have q1 : decide ((n : Int) < (l1.length : Int)) = false := decide_eq_false (by omega)
   have q2 : decide (n < l1.length) = false := decide_eq_false hlt
   have hnl : n = l1.length := by have := HK.out;omega
   have hzl : (rowsZ op l1 l2).length = l1.length := by unfold rowsZ;simp;omega
   have HF := am (show (rowsZ op l1 l2).take n = rowsZ op l1 l2 from List.take_of_length_le (by omega))
   have HN := am hnl
   clear hnl hzl
   go_wp2
   first|go_ret|((try simp only [Exit.inBlock,Exit.then]);refine bodyPost_ret (results_tmp rfl _ _ _) rfl ?_)
   refine ⟨_,rfl,?_,HB.out⟩
   rw [← HF.out]
   exact BK.out.own (by rw [← HBO.out];exact Nat.le_refl _) (by rw [HV.out,HN.out]) hn
set_option maxHeartbeats 2000000 in
set_option maxRecDepth 100000 in
theorem words_walk {p : Int} (op : Int → Int → Int) (g : Fn) (cb : Array Value) (A1 : Option Addr) (c1 : Nat) (l1 : List (List Int)) (A2 : Option Addr) (c2 : Nat) (l2 : List (List Int)) (w : World)
  (hr1 : Kd.C (Kd.slice 22 (Kd.int .u64)) w A1 l1.length l1) (hc1 : l1.length ≤ c1) (hr2 : Kd.C (Kd.slice 22 (Kd.int .u64)) w A2 l2.length l2) (hc2 : l2.length ≤ c2) (hl : l1.length ≤ l2.length) (hn : l1.length ≤ 1000000)
  (hx : ∀ i : Nat,i < l1.length → (rd_L1 l1 (i : Int)).length ≤ (rd_L1 l2 (i : Int)).length ∧ (rd_L1 l1 (i : Int)).length ≤ 1000000 ∧ (∀ x ∈ rd_L1 l1 (i : Int),Res p x) ∧ (∀ x ∈ rd_L1 l2 (i : Int),Res p x))
  (hdo : ∀ (bd bp : Nat) (W : World),Below w.heap.size w W → W.heap[bd]? = some (.cells #[.func g #[] cb] 53 (0,0)) → W.heap[bp]? = some (.cells #[.int .u64 p] 22 (0,0)) → DoesAt p op bd bp W) :
  Calls Try.prog 33 #[.int .u64 p,.slice A1 l1.length c1,.slice A2 l2.length c2,.func g #[] cb] w
   fun e w' => ∃ v0_ : Value,e = .returned (v0_) ∧ Kd.S (Kd.slice 22 (Kd.int .u64)) 41 w' w.heap.size (fun _ => True) v0_ (rowsZ op l1 l2) ∧ Below w.heap.size w w' := by
 have hbA := below_alloc (Below.refl w.heap.size w) (.cells #[.int .u64 p] 22)
 have hbB := below_alloc hbA (.cells #[.func g #[] cb] 53)
 have hd := hdo (w.heap.size + 1) w.heap.size ((w.alloc (.cells #[.int .u64 p] 22)).alloc (.cells #[.func g #[] cb] 53)) hbB (by
  have := blk_new (w.alloc (.cells #[.int .u64 p] 22)) (Obj.cells #[.func g #[] cb] 53)
  rwa [show (w.alloc (.cells #[.int .u64 p] 22)).heap.size = w.heap.size + 1 from Array.size_push _] at this) (blk_alloc (blk_new w _) _)
 have HP := am (pairsR_walk op (w.heap.size + 1) w.heap.size A1 c1 l1 A2 c2 l2 _ (Kd.C_below hr1 hbB) hc1 (Kd.C_below hr2 hbB) hc2 hl hn hx hd)
 have HBB := am hbB
 clear hr1 hr2 hx hdo hd hbA hbB
 go_enter Try.func33,Try.ntmps33
 go_wp2_with (first|(go_at_call 48;(with_reducible refine HP.out.mono ?_);rintro e w1 ⟨v1,rfl,ho1,hb1⟩;have HO1 := am (Kd.S_lower ho1 (below_size HBB.out));have HB1 := am (below_step HBB.out hb1);clear ho1 hb1))
 first|go_ret|((try simp only [Exit.inBlock,Exit.then]);refine bodyPost_ret (results_tmp rfl _ _ _) rfl ?_)
 exact ⟨_,rfl,HO1.out,HB1.out⟩
theorem does_add {p : Int} (hp : Supp p) (bd bp : Nat) (w : World) (h1 : w.heap[bd]? = some (.cells #[.func (.func 26) #[] #[]] 53 (0,0))) (h2 : w.heap[bp]? = some (.cells #[.int .u64 p] 22 (0,0))) :
  DoesAt p (fun x y => (x + y) % p) bd bp w := by
 intro W hW x y hx hy
 have c1 := blk_cell (blk_below h1 hW) 0
 have c2 := blk_cell (blk_below h2 hW) 0
 simp only [List.getElem?_toArray,List.getElem?_cons_zero] at c1 c2
 obtain ⟨k,hk⟩ := (add_ev hp hx hy).rounds
 have HK := am hk
 clear hk h1 h2
 go_enter Try.func51,Try.ntmps51
 go_wp2_with (first|(go_at_call 26;(with_reducible refine (field_Add.calls k _ _ _ ((x + y) % p) _ HK.out).mono ?_);rintro e w' ⟨rfl,⟨nd,rfl⟩⟩))
 first|go_ret|((try simp only [Exit.inBlock,Exit.then]);refine bodyPost_ret (results_tmp rfl _ _ _) rfl ?_)
 exact ⟨rfl,pw_below_drewN (Below.refl _ _) _⟩
theorem does_sub {p : Int} (hp : Supp p) (bd bp : Nat) (w : World) (h1 : w.heap[bd]? = some (.cells #[.func (.func 25) #[] #[]] 53 (0,0))) (h2 : w.heap[bp]? = some (.cells #[.int .u64 p] 22 (0,0))) :
  DoesAt p (fun x y => (x - y) % p) bd bp w := by
 intro W hW x y hx hy
 have c1 := blk_cell (blk_below h1 hW) 0
 have c2 := blk_cell (blk_below h2 hW) 0
 simp only [List.getElem?_toArray,List.getElem?_cons_zero] at c1 c2
 obtain ⟨k,hk⟩ := (sub_ev hp hx hy).rounds
 have HK := am hk
 clear hk h1 h2
 go_enter Try.func51,Try.ntmps51
 go_wp2_with (first|(go_at_call 25;(with_reducible refine (field_Sub.calls k _ _ _ ((x - y) % p) _ HK.out).mono ?_);rintro e w' ⟨rfl,⟨nd,rfl⟩⟩))
 first|go_ret|((try simp only [Exit.inBlock,Exit.then]);refine bodyPost_ret (results_tmp rfl _ _ _) rfl ?_)
 exact ⟨rfl,pw_below_drewN (Below.refl _ _) _⟩
theorem does_mul {p c : Int} (hp : Supp p) (hc : Res p c) (bd bp bk : Nat) (w : World) (h1 : w.heap[bd]? = some (.cells #[.func (.func 35) #[] #[.pointer (some ⟨bk,0,none⟩)]] 53 (0,0))) (h2 : w.heap[bp]? = some (.cells #[.int .u64 p] 22 (0,0))) (h3 : w.heap[bk]? = some (.cells #[.int .u64 c] 22 (0,0))) :
  DoesAt p (fun x y => (c * x) % p) bd bp w := by
 have hs : ∀ (W : World),Below w.heap.size w W → ∀ (x y : Int),Res p x → Calls Try.prog 35 #[.int .u64 p,.int .u64 x,.int .u64 y,.pointer (some ⟨bk,0,none⟩)] W fun e w' => e = .returned (.int .u64 ((c * x) % p)) ∧ Below W.heap.size W w' := by
  intro W hW x y hx
  have c3 := blk_cell (blk_below h3 hW) 0
  simp only [List.getElem?_toArray,List.getElem?_cons_zero] at c3
  obtain ⟨k,hk⟩ := (mul_ev hp hc hx).rounds
  have HK := am hk
  clear hk h1 h2 h3
  go_enter Try.func35,Try.ntmps35
  go_wp2_with (first|(go_at_call 27;(with_reducible refine (field_Mul.calls k _ _ _ ((c * x) % p) _ HK.out).mono ?_);rintro e w' ⟨rfl,⟨nd,rfl⟩⟩))
  first|go_ret|((try simp only [Exit.inBlock,Exit.then]);refine bodyPost_ret (results_tmp rfl _ _ _) rfl ?_)
  exact ⟨rfl,pw_below_drewN (Below.refl _ _) _⟩
 intro W hW x y hx hy
 have c1 := blk_cell (blk_below h1 hW) 0
 have c2 := blk_cell (blk_below h2 hW) 0
 simp only [List.getElem?_toArray,List.getElem?_cons_zero] at c1 c2
 have HS := am (hs W hW x y hx)
 clear hs h1 h2 h3
 go_enter Try.func51,Try.ntmps51
 go_wp2_with (first|(go_at_call 35;(with_reducible refine HS.out.mono ?_);rintro e w' ⟨rfl,hb⟩;have HB := am hb;clear hb))
 first|go_ret|((try simp only [Exit.inBlock,Exit.then]);refine bodyPost_ret (results_tmp rfl _ _ _) rfl ?_)
 exact ⟨rfl,HB.out⟩
def fitsB (p : Int) (l1 l2 : List (List Int)) : Bool := decide (l1.length ≤ l2.length) && (decide (l1.length ≤ 1000000) && (List.range l1.length).all fun (i : Nat) => decide ((rd_L1 l1 (i : Int)).length ≤ (rd_L1 l2 (i : Int)).length) && (decide ((rd_L1 l1 (i : Int)).length ≤ 1000000) && (ressB p (rd_L1 l1 (i : Int)) && ressB p (rd_L1 l2 (i : Int)))))
theorem fitsB_iff {p : Int} {l1 l2 : List (List Int)} : fitsB p l1 l2 = true ↔ l1.length ≤ l2.length ∧ l1.length ≤ 1000000 ∧ ∀ i : Nat,i < l1.length → (rd_L1 l1 (i : Int)).length ≤ (rd_L1 l2 (i : Int)).length ∧ (rd_L1 l1 (i : Int)).length ≤ 1000000 ∧ (∀ x ∈ rd_L1 l1 (i : Int),Res p x) ∧ (∀ x ∈ rd_L1 l2 (i : Int),Res p x) := by
 unfold fitsB
 simp only [Bool.and_eq_true,decide_eq_true_eq,List.all_eq_true,List.mem_range,ressB_iff]
def shamir_Add.f (a0 : Int) (l1 l2 : List (List Int)) : Option (List (List Int)) := if supB a0 = true then (if fitsB a0 l1 l2 = true then some (rowsZ (fun x y => (x + y) % a0) l1 l2) else none) else none
def shamir_Sub.f (a0 : Int) (l1 l2 : List (List Int)) : Option (List (List Int)) := if supB a0 = true then (if fitsB a0 l1 l2 = true then some (rowsZ (fun x y => (x - y) % a0) l1 l2) else none) else none
def shamir_Scale.f (a0 a1 : Int) (l2 : List (List Int)) : Option (List (List Int)) := if supB a0 = true then (if resB a0 a1 = true then (if fitsB a0 l2 l2 = true then some (rowsZ (fun x y => (a1 * x) % a0) l2 l2) else none) else none) else none
set_option maxRecDepth 100000 in
theorem shamir_Add.calls (a0 : Int) (A1 : Option Addr) (c1 : Nat) (l1 : List (List Int)) (A2 : Option Addr) (c2 : Nat) (l2 r : List (List Int)) (w : World) (hr1 : Kd.C (Kd.slice 22 (Kd.int .u64)) w A1 l1.length l1) (hc1 : l1.length ≤ c1) (hr2 : Kd.C (Kd.slice 22 (Kd.int .u64)) w A2 l2.length l2) (hc2 : l2.length ≤ c2) (h : shamir_Add.f a0 l1 l2 = some r) :
  Calls Try.prog 11 #[.int .u64 a0,.slice A1 l1.length c1,.slice A2 l2.length c2] w fun e w' => ∃ v0_ : Value,e = .returned (v0_) ∧ Kd.S (Kd.slice 22 (Kd.int .u64)) 41 w' w.heap.size (fun _ => True) v0_ r ∧ Below w.heap.size w w' := by
 unfold shamir_Add.f at h
 obtain ⟨h1,h⟩ := ifs h
 obtain ⟨h2,h⟩ := ifs h
 obtain ⟨g1,g2,g3⟩ := fitsB_iff.1 h2
 rw [← Option.some.inj h]
 have HW := am (words_walk (p := a0) (fun x y => (x + y) % a0) (.func 26) #[] A1 c1 l1 A2 c2 l2 w hr1 hc1 hr2 hc2 g1 g2 g3 (fun bd bp W _ hd hb => does_add (supB_of h1) bd bp W hd hb))
 clear hr1 hr2 h h1 h2 g1 g2 g3
 go_enter Try.func11,Try.ntmps11
 go_wp2_with (first|(go_at_call 33;(with_reducible refine HW.out.mono ?_);rintro e w1 ⟨v1,rfl,ho1,hb1⟩;have HO1 := am ho1;have HB1 := am hb1;clear ho1 hb1))
 first|go_ret|((try simp only [Exit.inBlock,Exit.then]);refine bodyPost_ret (results_tmp rfl _ _ _) rfl ?_)
 exact ⟨_,rfl,HO1.out,HB1.out⟩
set_option maxRecDepth 100000 in
theorem shamir_Sub.calls (a0 : Int) (A1 : Option Addr) (c1 : Nat) (l1 : List (List Int)) (A2 : Option Addr) (c2 : Nat) (l2 r : List (List Int)) (w : World) (hr1 : Kd.C (Kd.slice 22 (Kd.int .u64)) w A1 l1.length l1) (hc1 : l1.length ≤ c1) (hr2 : Kd.C (Kd.slice 22 (Kd.int .u64)) w A2 l2.length l2) (hc2 : l2.length ≤ c2) (h : shamir_Sub.f a0 l1 l2 = some r) :
  Calls Try.prog 13 #[.int .u64 a0,.slice A1 l1.length c1,.slice A2 l2.length c2] w fun e w' => ∃ v0_ : Value,e = .returned (v0_) ∧ Kd.S (Kd.slice 22 (Kd.int .u64)) 41 w' w.heap.size (fun _ => True) v0_ r ∧ Below w.heap.size w w' := by
 unfold shamir_Sub.f at h
 obtain ⟨h1,h⟩ := ifs h
 obtain ⟨h2,h⟩ := ifs h
 obtain ⟨g1,g2,g3⟩ := fitsB_iff.1 h2
 rw [← Option.some.inj h]
 have HW := am (words_walk (p := a0) (fun x y => (x - y) % a0) (.func 25) #[] A1 c1 l1 A2 c2 l2 w hr1 hc1 hr2 hc2 g1 g2 g3 (fun bd bp W _ hd hb => does_sub (supB_of h1) bd bp W hd hb))
 clear hr1 hr2 h h1 h2 g1 g2 g3
 go_enter Try.func13,Try.ntmps13
 go_wp2_with (first|(go_at_call 33;(with_reducible refine HW.out.mono ?_);rintro e w1 ⟨v1,rfl,ho1,hb1⟩;have HO1 := am ho1;have HB1 := am hb1;clear ho1 hb1))
 first|go_ret|((try simp only [Exit.inBlock,Exit.then]);refine bodyPost_ret (results_tmp rfl _ _ _) rfl ?_)
 exact ⟨_,rfl,HO1.out,HB1.out⟩
set_option maxRecDepth 100000 in
theorem shamir_Scale.calls (a0 a1 : Int) (A2 : Option Addr) (c2 : Nat) (l2 r : List (List Int)) (w : World) (hr2 : Kd.C (Kd.slice 22 (Kd.int .u64)) w A2 l2.length l2) (hc2 : l2.length ≤ c2) (h : shamir_Scale.f a0 a1 l2 = some r) :
  Calls Try.prog 15 #[.int .u64 a0,.int .u64 a1,.slice A2 l2.length c2] w fun e w' => ∃ v0_ : Value,e = .returned (v0_) ∧ Kd.S (Kd.slice 22 (Kd.int .u64)) 41 w' w.heap.size (fun _ => True) v0_ r ∧ Below w.heap.size w w' := by
 unfold shamir_Scale.f at h
 obtain ⟨h1,h⟩ := ifs h
 obtain ⟨h0,h⟩ := ifs h
 obtain ⟨h2,h⟩ := ifs h
 obtain ⟨g1,g2,g3⟩ := fitsB_iff.1 h2
 rw [← Option.some.inj h]
 have hbA := below_alloc (Below.refl w.heap.size w) (.cells #[.int .u64 a1] 22)
 have HW := am (words_walk (p := a0) (fun x y => (a1 * x) % a0) (.func 35) #[.pointer (some ⟨w.heap.size,0,none⟩)] A2 c2 l2 A2 c2 l2 _ (Kd.C_below hr2 hbA) hc2 (Kd.C_below hr2 hbA) hc2 g1 g2 g3 (fun bd bp W hW hd hb => does_mul (supB_of h1) (resB_iff.1 h0) bd bp w.heap.size W hd hb (blk_below (blk_new w _) hW)))
 have HBA := am hbA
 clear hr2 h h0 h1 h2 g1 g2 g3 hbA
 go_enter Try.func15,Try.ntmps15
 go_wp2_with (first|(go_at_call 33;(with_reducible refine HW.out.mono ?_);rintro e w1 ⟨v1,rfl,ho1,hb1⟩;have HO1 := am (Kd.S_lower ho1 (below_size HBA.out));have HB1 := am (below_step HBA.out hb1);clear ho1 hb1))
 first|go_ret|((try simp only [Exit.inBlock,Exit.then]);refine bodyPost_ret (results_tmp rfl _ _ _) rfl ?_)
 exact ⟨_,rfl,HO1.out,HB1.out⟩
end Go.Proofs.Ytjnkkfdlcbcelaa.Hw
end
section
namespace Go.Proofs.Ytjnkkfdlcbcelaa.Pr
open Go.RowKit Go.Proofs.YtjnkkfdlcbcelaaW.PrintWords Go.Proofs.YtjnkkfdlcbcelaaW.PrintLast Go.Proofs.YtjnkkfdlcbcelaaW.PrintMore
attribute [local go_sem] max2_int min2_int max_two min_two max_three min_three max_four min_four
open Go.Proofs.Ytjnkkfdlcbcelaa.Hw
mutual
def privitylaw09_ShamirLinearOpsMatchReference.j0 : Nat → Bool → Int → Int → Int → List (List Int) → List (List Int) → Int → Option (Bool)
 | 0,_,_,_,_,_,_,_ => none
 | k + 1,x17,x318000,x318001,x318002,x318003,x318004,x318005 => if x17 = true then (some true) else ((privityref01_Supported.f k x318000).bind fun t319 => (if t319 = true then (if x318001 < 1 then (privitylaw09_ShamirLinearOpsMatchReference.j1 k true x318000 x318001 x318002 x318003 x318004 x318005) else (if x318001 > 13 then (privitylaw09_ShamirLinearOpsMatchReference.j1 k true x318000 x318001 x318002 x318003 x318004 x318005) else (if (wrap64 (x318002 + 1)) < 1 then (privitylaw09_ShamirLinearOpsMatchReference.j1 k true x318000 x318001 x318002 x318003 x318004 x318005) else (if (wrap64 (x318002 + 1)) > 6 then (privitylaw09_ShamirLinearOpsMatchReference.j1 k true x318000 x318001 x318002 x318003 x318004 x318005) else ((privityref09_Rows.f k x318000 x318003 x318001 (wrap64 (x318002 + 1))).bind fun t320 => (if t320 = true then ((privityref09_Rows.f k x318000 x318004 x318001 (wrap64 (x318002 + 1))).bind fun t321 => (if t321 = true then (privitylaw09_ShamirLinearOpsMatchReference.j1 k (decide (x318005 ≥ x318000)) x318000 x318001 x318002 x318003 x318004 x318005) else (privitylaw09_ShamirLinearOpsMatchReference.j1 k true x318000 x318001 x318002 x318003 x318004 x318005))) else (privitylaw09_ShamirLinearOpsMatchReference.j1 k true x318000 x318001 x318002 x318003 x318004 x318005))))))) else (privitylaw09_ShamirLinearOpsMatchReference.j1 k true x318000 x318001 x318002 x318003 x318004 x318005)))
def privitylaw09_ShamirLinearOpsMatchReference.j1 : Nat → Bool → Int → Int → Int → List (List Int) → List (List Int) → Int → Option (Bool)
 | 0,_,_,_,_,_,_,_ => none
 | k + 1,x80,x318000,x318001,x318002,x318003,x318004,x318005 => if x80 = true then (some true) else ((privitylaw09_setups.f x318000 x318001 x318002).bind fun t322 => (if t322 = true then ((some (([x318003,x318004,x318003] : List (List (List Int))) : List (List (List Int)))).bind fun y323 => ((shamir_Add.f x318000 x318003 x318004).bind fun t326 => ((privityref09_Add.f k x318000 x318003 x318004).bind fun t329 => ((privityref09_Same.f k t326 t329).bind fun t332 => (if t332 = true then ((shamir_Sub.f x318000 x318003 x318004).bind fun t333 => ((privityref09_Sub.f k x318000 x318003 x318004).bind fun t336 => ((privityref09_Same.f k t333 t336).bind fun t339 => (if t339 = true then ((shamir_Scale.f x318000 x318005 x318003).bind fun t340 => ((privityref09_Scale.f k x318000 x318005 x318003).bind fun t343 => ((privityref09_Same.f k t340 t343).bind fun t346 => (if t346 = true then ((shamir_Constant.f k x318000 x318001 x318002 x318005).bind fun t347 => ((privityref09_Constant.f k x318000 x318001 x318002 x318005).bind fun t350 => ((privityref09_Same.f k t347 t350).bind fun t353 => (if t353 = true then ((shamir_LocalShares.f k y323).bind fun t354 => ((privityref09_LocalShares.f k y323).bind fun t357 => ((privityref05_SameRows.f k t354 t357).bind fun t360 => (if t360 = true then ((shamir_LocalShares.f k ([] : List (List (List Int)))).bind fun t361 => (some ((t361.length : Int) == 0))) else (some false))))) else (some false))))) else (some false))))) else (some false))))) else (some false)))))) else (some true)))
end
def privitylaw09_ShamirLinearOpsMatchReference.f (k : Nat) (a0_0 : Int) (a0_1 : Int) (a0_2 : Int) (l0_3 : List (List Int)) (l0_4 : List (List Int)) (a0_5 : Int) : Option (Bool) := (privitylaw09_awake.f k).bind fun t318 => (if t318 = true then (if a0_2 < 0 then (privitylaw09_ShamirLinearOpsMatchReference.j0 k true a0_0 a0_1 a0_2 l0_3 l0_4 a0_5) else (privitylaw09_ShamirLinearOpsMatchReference.j0 k (decide (a0_2 > 13)) a0_0 a0_1 a0_2 l0_3 l0_4 a0_5)) else (some false))
def privitylaw09_ShamirLinearOpsMatchReference.T12 : Bool × List (List Nat × List Nat) := (true,[([],[]),([],[]),([1],[1]),([],[]),([3],[3]),([0,2,4],[0,2,4]),([],[]),([],[]),([7],[7]),([],[]),([9],[9]),([6,8,10,5],[6,8,10]),([5,11,11],[5,11]),([12,12],[12]),([13],[13]),([13],[13]),([15,13],[13,15]),([13],[13]),([17,13],[13,17]),([14,16,18,13,13],[13,14,16,18]),([13],[13]),([13],[13]),([21,13],[13,21]),([13],[13]),([23,13],[13,23]),([20,22,24,19,13],[13,20,22,24]),([19,25,25,13],[13,19,25]),([13,26],[13,26]),([27,26],[27]),([28],[28]),([28],[28]),([30,28],[28,30]),([28],[28]),([32,28],[28,32]),([29,31,33,28,28],[28,29,31,33]),([28],[28]),([28],[28]),([36,28],[28,36]),([28],[28]),([38,28],[28,38]),([35,37,39,34,28],[28,35,37,39]),([34,40,40,28],[28,34,40]),([28,41],[28,41]),([42,41],[42]),([43],[43]),([44,43],[43,44]),([43],[43]),([46,43],[43,46]),([45,47,43,43],[43,45,47]),([43],[43]),([49,43],[43,49]),([43],[43]),([51,43],[43,51]),([50,52,48,43],[43,50,52]),([48,53,53,43],[43,48,53]),([43,54],[43,54]),([55,54],[55]),([56],[56]),([57,56,56],[56,57]),([56],[56]),([59,58,56],[56,59]),([58,60,60,56],[56,58,60]),([56,61],[56,61]),([62,61],[62]),([63,63],[63]),([64,63],[63,64]),([65,63],[63,65]),([63,66],[63,66]),([67,64,0,1,2,3,4,5,6,7,8,9,10,11,12,13,14,15,16,17,18,19,20,21,22,23,24,25,26,27,28,29,30,31,32,33,34,35,36,37,38,39,40,41,42,43,44,45,46,47,48,49,50,51,52,53,54,55,56,57,58,59,60,61,62,63,64,65,66,67],[67])])
def privitylaw09_ShamirLinearOpsMatchReference.B12 : List Nat := [0,0,2,0,8,31,0,0,128,0,512,2047,4095,8191,16383,16383,49151,16383,147455,524287,16383,16383,2113535,16383,8404991,33554431,67108863,134217727,268435455,536870911,536870911,1610612735,536870911,4831838207,17179869183,536870911,536870911,69256347647,536870911,275414777855,1099511627775,2199023255551,4398046511103,8796093022207,17592186044415,35184372088831,17592186044415,87960930222079,281474976710655,17592186044415,580542139465727,17592186044415,2269391999729663,9007199254740991,18014398509481983,36028797018963967,72057594037927935,144115188075855871,288230376151711743,144115188075855871,1152921504606846975,2305843009213693951,4611686018427387903,9223372036854775807,18446744073709551615,36893488147419103231,73786976294838206463,147573952589676412927,295147905179352825855]
theorem privitylaw09_ShamirLinearOpsMatchReference.tab12 : rtab .any (opsOf Try.f3 12) = privitylaw09_ShamirLinearOpsMatchReference.T12 := by kernel_rfl
theorem privitylaw09_ShamirLinearOpsMatchReference.bits12 : waitsOk privitylaw09_ShamirLinearOpsMatchReference.T12.2 privitylaw09_ShamirLinearOpsMatchReference.B12 = true := by kernel_rfl
set_option maxHeartbeats 8000000 in
set_option maxRecDepth 100000 in
theorem privitylaw09_ShamirLinearOpsMatchReference.calls (k : Nat) (a0_0 : Int) (a0_1 : Int) (a0_2 : Int) (A0_3 : Option Addr) (c0_3 : Nat) (l0_3 : List (List Int)) (A0_4 : Option Addr) (c0_4 : Nat) (l0_4 : List (List Int)) (a0_5 : Int) (r : Bool) (w : World) (hr0_3 : Kd.C (Kd.slice 22 (Kd.int .u64)) w A0_3 l0_3.length l0_3) (hc0_3 : l0_3.length ≤ c0_3) (hr0_4 : Kd.C (Kd.slice 22 (Kd.int .u64)) w A0_4 l0_4.length l0_4) (hc0_4 : l0_4.length ≤ c0_4) (hr1_ : r = true) (h : privitylaw09_ShamirLinearOpsMatchReference.f k a0_0 a0_1 a0_2 l0_3 l0_4 a0_5 = some r) :
  Calls Try.prog 3 #[.agg #[.int .u64 a0_0,.int .i64 a0_1,.int .i64 a0_2,.slice A0_3 l0_3.length c0_3,.slice A0_4 l0_4.length c0_4,.int .u64 a0_5]] w fun e w' => e = .returned (.bool r) ∧ Below w.heap.size w w' := by
 have HLA3_ := am hr0_3
 have HLA4_ := am hr0_4
 have HLC3_ := am hc0_3
 have HLC4_ := am hc0_4
 have HRT_ := am hr1_
 clear hr1_
 have hu28 := Try.underlying28
 have hu24 := Try.underlying24
 have HR0_3 := am hr0_3
 have HC0_3 := am hc0_3
 clear hr0_3 hc0_3
 have HR0_4 := am hr0_4
 have HC0_4 := am hc0_4
 clear hr0_4 hc0_4
 have HB := am (Below.refl w.heap.size w)
 have H : ((privitylaw09_awake.f k).bind fun t318 => (if t318 = true then (if a0_2 < 0 then (privitylaw09_ShamirLinearOpsMatchReference.j0 k true a0_0 a0_1 a0_2 l0_3 l0_4 a0_5) else (privitylaw09_ShamirLinearOpsMatchReference.j0 k (decide (a0_2 > 13)) a0_0 a0_1 a0_2 l0_3 l0_4 a0_5)) else (some false))) = some r := h
 clear h
 replace H := Option.bind_eq_some_iff.mp H
 obtain ⟨t318,A20,H⟩ := H
 try dsimp only at H
 have A2 := am A20
 clear A20
 by_cases c3 : t318 = true
 ·subst c3
  rw [if_pos rfl] at H
  have HC4 := am H
  clear H
  go_enter Try.func3,Try.ntmps3
  go_upto_region 3 with (first|((with_reducible refine gate_dst (N := 1) rfl ?_);(try (refine gate_guard (by rfl) ?_;dsimp only));refine box_event ?hg (N := 1) ?hd (cs := #[.int .u64 a0_0,.int .i64 a0_1,.int .i64 a0_2,.slice A0_3 l0_3.length c0_3,.slice A0_4 l0_4.length c0_4,.int .u64 a0_5]) (t := 28) ?hr ?_;(case hd => rfl);(case hg => rfl);(case hr => first|(go_simp;done)|(go_simp;rfl));intro gb317 hg w5 hbox hb;have n0_ := am (below_step (bb HB) hb);have n1_ := am (hbox);have n2_ := am ((by rw [hg];exact (below_size (bb HB)) : w.heap.size ≤ gb317));have n3_ := am ((by rw [hg];exact (below_size (bb HB)) : w.heap.size ≤ gb317));clear HB;have HB := n0_;have BK317 := n1_;have GW317 := n2_;have GE317 := n3_;clear n0_ n1_ n2_ n3_;clear hb hbox hg)|((with_reducible refine gate_callee (f := 6) rfl ?_);refine goesL_ (some 6) rfl rfl Try.func6 (by kernel_rfl) rfl #[] rfl (by (try simp only [List.map_toArray,List.map_cons,List.map_nil]);first|done|rfl|(simp only [List.length_drop,List.length_take];rfl)) ?_;(with_reducible refine (privitylaw09_awake.calls k  true _ A2.out).mono ?_);rintro e w6 ⟨rfl,hb⟩;refine ⟨_,rfl,?_⟩;have n0_ := am (kb BK317 hb);have n1_ := am (below_step (bg HB GE317) hb);clear BK317 HB;have BK317 := n0_;have HB := n1_;clear n0_ n1_;(try clear hb);(try clear hb2);(try clear hk);(try clear hi)))
  (try simp only [Act.put,List.setIfInBounds_toArray,List.set_cons_zero,List.set_cons_succ])
  go_cut [17] (fun v17 wc => ∃ (kq : Nat) (x17_3 : Bool),v17 = .bool x17_3 ∧ Aside0 (privitylaw09_ShamirLinearOpsMatchReference.j0 kq x17_3 a0_0 a0_1 a0_2 l0_3 l0_4 a0_5 = some r) ∧ Aside0 (kq ≤ k) ∧ Aside0 (wc.heap[gb317]? = some (.cells #[.int .u64 a0_0,.int .i64 a0_1,.int .i64 a0_2,(.slice A0_3 l0_3.length c0_3),(.slice A0_4 l0_4.length c0_4),.int .u64 a0_5] 28 (0,0))) ∧ Aside0 (Below w.heap.size w wc))
  case first =>
   have H := HC4.out
   clear HC4
   by_cases c7 : a0_2 < 0
   ·rw [if_pos c7] at H
    have c7b0 : decide (a0_2 < 0) = true := decide_eq_true c7
    clear c7
    (first|rw [c7b0]|(simp only [i64_w,i32_w];rw [c7b0])|skip)
    have H' := am H
    clear H
    have hcz8_0 := bc BK317 0
    have hcz8_1 := bc BK317 1
    have hcz8_2 := bc BK317 2
    have hcz8_3 := bc BK317 3
    have hcz8_4 := bc BK317 4
    have hcz8_5 := bc BK317 5
    have hfz8_0 := bf BK317 0
    have hfz8_1 := bf BK317 1
    have hfz8_2 := bf BK317 2
    have hfz8_3 := bf BK317 3
    have hfz8_4 := bf BK317 4
    have hfz8_5 := bf BK317 5
    go_wp2
    go_meet
    case rel => exact ⟨_,(true),(by first|rfl|(simp;done)|(simp [*];done)),H',⟨by first|omega|exact Nat.le_refl _⟩,⟨kx BK317⟩,⟨bg HB GE317⟩⟩
   ·rw [if_neg c7] at H
    have c7b0 : decide (a0_2 < 0) = false := decide_eq_false c7
    clear c7
    (first|rw [c7b0]|(simp only [i64_w,i32_w];rw [c7b0])|skip)
    have H' := am H
    clear H
    have hcz9_0 := bc BK317 0
    have hcz9_1 := bc BK317 1
    have hcz9_2 := bc BK317 2
    have hcz9_3 := bc BK317 3
    have hcz9_4 := bc BK317 4
    have hcz9_5 := bc BK317 5
    have hfz9_0 := bf BK317 0
    have hfz9_1 := bf BK317 1
    have hfz9_2 := bf BK317 2
    have hfz9_3 := bf BK317 3
    have hfz9_4 := bf BK317 4
    have hfz9_5 := bf BK317 5
    go_wp2
    go_meet
    case rel => exact ⟨_,(decide (a0_2 > 13)),(by first|rfl|(simp;done)|(simp [*];done)),H',⟨by first|omega|exact Nat.le_refl _⟩,⟨kx BK317⟩,⟨bg HB GE317⟩⟩
  case rest =>
   clear HC4
   try clear p2
   try clear c3
   try clear c6
   try clear c7
   try clear c7b0
   try clear hcz8_0
   try clear hcz8_1
   try clear hcz8_2
   try clear hcz8_3
   try clear hcz8_4
   try clear hcz8_5
   try clear hcz9_0
   try clear hcz9_1
   try clear hcz9_2
   try clear hcz9_3
   try clear hcz9_4
   try clear hcz9_5
   try clear hfz8_0
   try clear hfz8_1
   try clear hfz8_2
   try clear hfz8_3
   try clear hfz8_4
   try clear hfz8_5
   try clear hfz9_0
   try clear hfz9_1
   try clear hfz9_2
   try clear hfz9_3
   try clear hfz9_4
   try clear hfz9_5
   obtain ⟨kq,x17_3,rfl,HA,HJ3,BK317,HB⟩ := hcut
   cases kq with
   | zero => exact absurd HA.out (by simp [privitylaw09_ShamirLinearOpsMatchReference.j0])
   | succ kj3 =>
    have H := HA.out
    clear HA
    simp only [privitylaw09_ShamirLinearOpsMatchReference.j0] at H
    by_cases c10 : x17_3 = true
    ·subst c10
     rw [if_pos rfl] at H
     obtain rfl := Option.some.inj H
     go_wp2
     go_ret
     exact ⟨by first|rfl|(simp [errW_none,errW_some] <;> rfl)|(simp [*,errW_none,errW_some] <;> rfl),bg HB GE317⟩
    ·replace c10 := Bool.eq_false_iff.mpr c10
     subst c10
     rw [if_neg (show ¬ (false = true) by decide)] at H
     have HC11 := am H
     clear H
     have hcz12_0 := bc BK317 0
     have hcz12_1 := bc BK317 1
     have hcz12_2 := bc BK317 2
     have hcz12_3 := bc BK317 3
     have hcz12_4 := bc BK317 4
     have hcz12_5 := bc BK317 5
     have hfz12_0 := bf BK317 0
     have hfz12_1 := bf BK317 1
     have hfz12_2 := bf BK317 2
     have hfz12_3 := bf BK317 3
     have hfz12_4 := bf BK317 4
     have hfz12_5 := bf BK317 5
     go_upto_region 6 with (fail)
     go_cut [80] (fun v80 wc => ∃ (kq : Nat) (x80_10 : Bool),v80 = .bool x80_10 ∧ Aside0 (privitylaw09_ShamirLinearOpsMatchReference.j1 kq x80_10 a0_0 a0_1 a0_2 l0_3 l0_4 a0_5 = some r) ∧ Aside0 (kq ≤ kj3) ∧ Aside0 (wc.heap[gb317]? = some (.cells #[.int .u64 a0_0,.int .i64 a0_1,.int .i64 a0_2,(.slice A0_3 l0_3.length c0_3),(.slice A0_4 l0_4.length c0_4),.int .u64 a0_5] 28 (0,0))) ∧ Aside0 (Below w.heap.size w wc))
     case first =>
      have H := HC11.out
      clear HC11
      replace H := Option.bind_eq_some_iff.mp H
      obtain ⟨t319,A130,H⟩ := H
      try dsimp only at H
      have A13 := am A130
      clear A130
      by_cases c14 : t319 = true
      ·subst c14
       rw [if_pos rfl] at H
       by_cases c15 : a0_1 < 1
       ·rw [if_pos c15] at H
        have c15b0 : decide (a0_1 < 1) = true := decide_eq_true c15
        clear c15
        (first|rw [c15b0]|(simp only [i64_w,i32_w];rw [c15b0])|skip)
        have H' := am H
        clear H
        have hcz16_0 := bc BK317 0
        have hcz16_1 := bc BK317 1
        have hcz16_2 := bc BK317 2
        have hcz16_3 := bc BK317 3
        have hcz16_4 := bc BK317 4
        have hcz16_5 := bc BK317 5
        have hfz16_0 := bf BK317 0
        have hfz16_1 := bf BK317 1
        have hfz16_2 := bf BK317 2
        have hfz16_3 := bf BK317 3
        have hfz16_4 := bf BK317 4
        have hfz16_5 := bf BK317 5
        go_wp2_with (first|((with_reducible refine gate_callee (f := 7) rfl ?_);refine goesL_ (some 25) rfl rfl Try.func7 (by kernel_rfl) rfl #[.int .u64 a0_0] rfl (by (try simp only [List.map_toArray,List.map_cons,List.map_nil]);first|done|rfl|(simp only [List.length_drop,List.length_take];rfl)) ?_;(with_reducible refine (privityref01_Supported.calls kj3 a0_0 true _ A13.out).mono ?_);rintro e w17 ⟨rfl,hb⟩;refine ⟨_,rfl,?_⟩;have n0_ := am (kb BK317 hb);have n1_ := am (below_step (bg HB GE317) hb);clear BK317 HB;have BK317 := n0_;have HB := n1_;clear n0_ n1_;(try clear hb);(try clear hb2);(try clear hk);(try clear hi);have hcz18_0 := bc BK317 0;have hcz18_1 := bc BK317 1;have hcz18_2 := bc BK317 2;have hcz18_3 := bc BK317 3;have hcz18_4 := bc BK317 4;have hcz18_5 := bc BK317 5;have hfz18_0 := bf BK317 0;have hfz18_1 := bf BK317 1;have hfz18_2 := bf BK317 2;have hfz18_3 := bf BK317 3;have hfz18_4 := bf BK317 4;have hfz18_5 := bf BK317 5))
        go_meet
        case rel => exact ⟨_,(true),(by first|rfl|(simp;done)|(simp [*];done)),H',⟨by have := HJ3.out;first|omega|exact Nat.le_refl _⟩,⟨kx BK317⟩,⟨bg HB GE317⟩⟩
       ·rw [if_neg c15] at H
        have c15b0 : decide (a0_1 < 1) = false := decide_eq_false c15
        clear c15
        (first|rw [c15b0]|(simp only [i64_w,i32_w];rw [c15b0])|skip)
        by_cases c19 : a0_1 > 13
        ·rw [if_pos c19] at H
         have c19b0 : decide (13 < a0_1) = true := decide_eq_true c19
         clear c19
         have H' := am H
         clear H
         have hcz20_0 := bc BK317 0
         have hcz20_1 := bc BK317 1
         have hcz20_2 := bc BK317 2
         have hcz20_3 := bc BK317 3
         have hcz20_4 := bc BK317 4
         have hcz20_5 := bc BK317 5
         have hfz20_0 := bf BK317 0
         have hfz20_1 := bf BK317 1
         have hfz20_2 := bf BK317 2
         have hfz20_3 := bf BK317 3
         have hfz20_4 := bf BK317 4
         have hfz20_5 := bf BK317 5
         go_wp2_with (first|((with_reducible refine gate_callee (f := 7) rfl ?_);refine goesL_ (some 25) rfl rfl Try.func7 (by kernel_rfl) rfl #[.int .u64 a0_0] rfl (by (try simp only [List.map_toArray,List.map_cons,List.map_nil]);first|done|rfl|(simp only [List.length_drop,List.length_take];rfl)) ?_;(with_reducible refine (privityref01_Supported.calls kj3 a0_0 true _ A13.out).mono ?_);rintro e w21 ⟨rfl,hb⟩;refine ⟨_,rfl,?_⟩;have n0_ := am (kb BK317 hb);have n1_ := am (below_step (bg HB GE317) hb);clear BK317 HB;have BK317 := n0_;have HB := n1_;clear n0_ n1_;(try clear hb);(try clear hb2);(try clear hk);(try clear hi);have hcz22_0 := bc BK317 0;have hcz22_1 := bc BK317 1;have hcz22_2 := bc BK317 2;have hcz22_3 := bc BK317 3;have hcz22_4 := bc BK317 4;have hcz22_5 := bc BK317 5;have hfz22_0 := bf BK317 0;have hfz22_1 := bf BK317 1;have hfz22_2 := bf BK317 2;have hfz22_3 := bf BK317 3;have hfz22_4 := bf BK317 4;have hfz22_5 := bf BK317 5))
         go_meet
         case rel => exact ⟨_,(true),(by first|rfl|(simp;done)|(simp [*];done)),H',⟨by have := HJ3.out;first|omega|exact Nat.le_refl _⟩,⟨kx BK317⟩,⟨bg HB GE317⟩⟩
        ·rw [if_neg c19] at H
         have c19b0 : decide (13 < a0_1) = false := decide_eq_false c19
         clear c19
         by_cases c23 : (wrap64 (a0_2 + 1)) < 1
         ·rw [if_pos c23] at H
          have c23b0 : decide ((wrap64 (a0_2 + 1)) < 1) = true := decide_eq_true c23
          clear c23
          have H' := am H
          clear H
          have hcz24_0 := bc BK317 0
          have hcz24_1 := bc BK317 1
          have hcz24_2 := bc BK317 2
          have hcz24_3 := bc BK317 3
          have hcz24_4 := bc BK317 4
          have hcz24_5 := bc BK317 5
          have hfz24_0 := bf BK317 0
          have hfz24_1 := bf BK317 1
          have hfz24_2 := bf BK317 2
          have hfz24_3 := bf BK317 3
          have hfz24_4 := bf BK317 4
          have hfz24_5 := bf BK317 5
          go_wp2_with (first|((with_reducible refine gate_callee (f := 7) rfl ?_);refine goesL_ (some 25) rfl rfl Try.func7 (by kernel_rfl) rfl #[.int .u64 a0_0] rfl (by (try simp only [List.map_toArray,List.map_cons,List.map_nil]);first|done|rfl|(simp only [List.length_drop,List.length_take];rfl)) ?_;(with_reducible refine (privityref01_Supported.calls kj3 a0_0 true _ A13.out).mono ?_);rintro e w25 ⟨rfl,hb⟩;refine ⟨_,rfl,?_⟩;have n0_ := am (kb BK317 hb);have n1_ := am (below_step (bg HB GE317) hb);clear BK317 HB;have BK317 := n0_;have HB := n1_;clear n0_ n1_;(try clear hb);(try clear hb2);(try clear hk);(try clear hi);have hcz26_0 := bc BK317 0;have hcz26_1 := bc BK317 1;have hcz26_2 := bc BK317 2;have hcz26_3 := bc BK317 3;have hcz26_4 := bc BK317 4;have hcz26_5 := bc BK317 5;have hfz26_0 := bf BK317 0;have hfz26_1 := bf BK317 1;have hfz26_2 := bf BK317 2;have hfz26_3 := bf BK317 3;have hfz26_4 := bf BK317 4;have hfz26_5 := bf BK317 5))
          go_meet
          case rel => exact ⟨_,(true),(by first|rfl|(simp;done)|(simp [*];done)),H',⟨by have := HJ3.out;first|omega|exact Nat.le_refl _⟩,⟨kx BK317⟩,⟨bg HB GE317⟩⟩
         ·rw [if_neg c23] at H
          have c23b0 : decide ((wrap64 (a0_2 + 1)) < 1) = false := decide_eq_false c23
          clear c23
          by_cases c27 : (wrap64 (a0_2 + 1)) > 6
          ·rw [if_pos c27] at H
           have c27b0 : decide (6 < (wrap64 (a0_2 + 1))) = true := decide_eq_true c27
           clear c27
           have H' := am H
           clear H
           have hcz28_0 := bc BK317 0
           have hcz28_1 := bc BK317 1
           have hcz28_2 := bc BK317 2
           have hcz28_3 := bc BK317 3
           have hcz28_4 := bc BK317 4
           have hcz28_5 := bc BK317 5
           have hfz28_0 := bf BK317 0
           have hfz28_1 := bf BK317 1
           have hfz28_2 := bf BK317 2
           have hfz28_3 := bf BK317 3
           have hfz28_4 := bf BK317 4
           have hfz28_5 := bf BK317 5
           go_wp2_with (first|((with_reducible refine gate_callee (f := 7) rfl ?_);refine goesL_ (some 25) rfl rfl Try.func7 (by kernel_rfl) rfl #[.int .u64 a0_0] rfl (by (try simp only [List.map_toArray,List.map_cons,List.map_nil]);first|done|rfl|(simp only [List.length_drop,List.length_take];rfl)) ?_;(with_reducible refine (privityref01_Supported.calls kj3 a0_0 true _ A13.out).mono ?_);rintro e w29 ⟨rfl,hb⟩;refine ⟨_,rfl,?_⟩;have n0_ := am (kb BK317 hb);have n1_ := am (below_step (bg HB GE317) hb);clear BK317 HB;have BK317 := n0_;have HB := n1_;clear n0_ n1_;(try clear hb);(try clear hb2);(try clear hk);(try clear hi);have hcz30_0 := bc BK317 0;have hcz30_1 := bc BK317 1;have hcz30_2 := bc BK317 2;have hcz30_3 := bc BK317 3;have hcz30_4 := bc BK317 4;have hcz30_5 := bc BK317 5;have hfz30_0 := bf BK317 0;have hfz30_1 := bf BK317 1;have hfz30_2 := bf BK317 2;have hfz30_3 := bf BK317 3;have hfz30_4 := bf BK317 4;have hfz30_5 := bf BK317 5))
           go_meet
           case rel => exact ⟨_,(true),(by first|rfl|(simp;done)|(simp [*];done)),H',⟨by have := HJ3.out;first|omega|exact Nat.le_refl _⟩,⟨kx BK317⟩,⟨bg HB GE317⟩⟩
          ·rw [if_neg c27] at H
           have c27b0 : decide (6 < (wrap64 (a0_2 + 1))) = false := decide_eq_false c27
           clear c27
           replace H := Option.bind_eq_some_iff.mp H
           obtain ⟨t320,A310,H⟩ := H
           try dsimp only at H
           have A31 := am A310
           clear A310
           by_cases c32 : t320 = true
           ·subst c32
            rw [if_pos rfl] at H
            replace H := Option.bind_eq_some_iff.mp H
            obtain ⟨t321,A330,H⟩ := H
            try dsimp only at H
            have A33 := am A330
            clear A330
            by_cases c34 : t321 = true
            ·subst c34
             rw [if_pos rfl] at H
             have H' := am H
             clear H
             have hcz35_0 := bc BK317 0
             have hcz35_1 := bc BK317 1
             have hcz35_2 := bc BK317 2
             have hcz35_3 := bc BK317 3
             have hcz35_4 := bc BK317 4
             have hcz35_5 := bc BK317 5
             have hfz35_0 := bf BK317 0
             have hfz35_1 := bf BK317 1
             have hfz35_2 := bf BK317 2
             have hfz35_3 := bf BK317 3
             have hfz35_4 := bf BK317 4
             have hfz35_5 := bf BK317 5
             go_wp2_with (first|((with_reducible refine gate_callee (f := 7) rfl ?_);refine goesL_ (some 25) rfl rfl Try.func7 (by kernel_rfl) rfl #[.int .u64 a0_0] rfl (by (try simp only [List.map_toArray,List.map_cons,List.map_nil]);first|done|rfl|(simp only [List.length_drop,List.length_take];rfl)) ?_;(with_reducible refine (privityref01_Supported.calls kj3 a0_0 true _ A13.out).mono ?_);rintro e w36 ⟨rfl,hb⟩;refine ⟨_,rfl,?_⟩;have n0_ := am (kb BK317 hb);have n1_ := am (below_step (bg HB GE317) hb);clear BK317 HB;have BK317 := n0_;have HB := n1_;clear n0_ n1_;(try clear hb);(try clear hb2);(try clear hk);(try clear hi);have hcz37_0 := bc BK317 0;have hcz37_1 := bc BK317 1;have hcz37_2 := bc BK317 2;have hcz37_3 := bc BK317 3;have hcz37_4 := bc BK317 4;have hcz37_5 := bc BK317 5;have hfz37_0 := bf BK317 0;have hfz37_1 := bf BK317 1;have hfz37_2 := bf BK317 2;have hfz37_3 := bf BK317 3;have hfz37_4 := bf BK317 4;have hfz37_5 := bf BK317 5)|(go_at_call 8;(with_reducible refine (privityref09_Rows.calls kj3 a0_0 _ _ l0_3 a0_1 (wrap64 (a0_2 + 1)) true _ ?side1 ?side2 A31.out).mono ?_);(case side1 => exact cb HR0_3 HB);(case side2 => exact HC0_3.out);rintro e w' ⟨rfl,⟨nd,rfl⟩⟩)|(go_at_call 8;(with_reducible refine (privityref09_Rows.calls kj3 a0_0 _ _ l0_4 a0_1 (wrap64 (a0_2 + 1)) true _ ?side1 ?side2 A33.out).mono ?_);(case side1 => repeat (first|exact (Kd.C_below HR0_4.out (bg HB GE317))|(with_reducible refine Kd.C_alloc ?_ _)|(with_reducible refine Kd.C_drewN ?_ _)|(with_reducible refine Kd.C_drew ?_)));(case side2 => exact HC0_4.out);rintro e w' ⟨rfl,⟨nd,rfl⟩⟩))
             go_meet
             case rel => exact ⟨_,(decide (a0_5 ≥ a0_0)),(by first|rfl|(simp;done)|(simp [*];done)),H',⟨by have := HJ3.out;first|omega|exact Nat.le_refl _⟩,⟨kx BK317⟩,⟨bg HB GE317⟩⟩
            ·replace c34 := Bool.eq_false_iff.mpr c34
             subst c34
             rw [if_neg (show ¬ (false = true) by decide)] at H
             have H' := am H
             clear H
             have hcz38_0 := bc BK317 0
             have hcz38_1 := bc BK317 1
             have hcz38_2 := bc BK317 2
             have hcz38_3 := bc BK317 3
             have hcz38_4 := bc BK317 4
             have hcz38_5 := bc BK317 5
             have hfz38_0 := bf BK317 0
             have hfz38_1 := bf BK317 1
             have hfz38_2 := bf BK317 2
             have hfz38_3 := bf BK317 3
             have hfz38_4 := bf BK317 4
             have hfz38_5 := bf BK317 5
             go_wp2_with (first|((with_reducible refine gate_callee (f := 7) rfl ?_);refine goesL_ (some 25) rfl rfl Try.func7 (by kernel_rfl) rfl #[.int .u64 a0_0] rfl (by (try simp only [List.map_toArray,List.map_cons,List.map_nil]);first|done|rfl|(simp only [List.length_drop,List.length_take];rfl)) ?_;(with_reducible refine (privityref01_Supported.calls kj3 a0_0 true _ A13.out).mono ?_);rintro e w39 ⟨rfl,hb⟩;refine ⟨_,rfl,?_⟩;have n0_ := am (kb BK317 hb);have n1_ := am (below_step (bg HB GE317) hb);clear BK317 HB;have BK317 := n0_;have HB := n1_;clear n0_ n1_;(try clear hb);(try clear hb2);(try clear hk);(try clear hi);have hcz40_0 := bc BK317 0;have hcz40_1 := bc BK317 1;have hcz40_2 := bc BK317 2;have hcz40_3 := bc BK317 3;have hcz40_4 := bc BK317 4;have hcz40_5 := bc BK317 5;have hfz40_0 := bf BK317 0;have hfz40_1 := bf BK317 1;have hfz40_2 := bf BK317 2;have hfz40_3 := bf BK317 3;have hfz40_4 := bf BK317 4;have hfz40_5 := bf BK317 5)|(go_at_call 8;(with_reducible refine (privityref09_Rows.calls kj3 a0_0 _ _ l0_3 a0_1 (wrap64 (a0_2 + 1)) true _ ?side1 ?side2 A31.out).mono ?_);(case side1 => exact cb HR0_3 HB);(case side2 => exact HC0_3.out);rintro e w' ⟨rfl,⟨nd,rfl⟩⟩)|(go_at_call 8;(with_reducible refine (privityref09_Rows.calls kj3 a0_0 _ _ l0_4 a0_1 (wrap64 (a0_2 + 1)) false _ ?side1 ?side2 A33.out).mono ?_);(case side1 => repeat (first|exact (Kd.C_below HR0_4.out (bg HB GE317))|(with_reducible refine Kd.C_alloc ?_ _)|(with_reducible refine Kd.C_drewN ?_ _)|(with_reducible refine Kd.C_drew ?_)));(case side2 => exact HC0_4.out);rintro e w' ⟨rfl,⟨nd,rfl⟩⟩))
             go_meet
             case rel => exact ⟨_,(true),(by first|rfl|(simp;done)|(simp [*];done)),H',⟨by have := HJ3.out;first|omega|exact Nat.le_refl _⟩,⟨kx BK317⟩,⟨bg HB GE317⟩⟩
           ·replace c32 := Bool.eq_false_iff.mpr c32
            subst c32
            rw [if_neg (show ¬ (false = true) by decide)] at H
            have H' := am H
            clear H
            have hcz41_0 := bc BK317 0
            have hcz41_1 := bc BK317 1
            have hcz41_2 := bc BK317 2
            have hcz41_3 := bc BK317 3
            have hcz41_4 := bc BK317 4
            have hcz41_5 := bc BK317 5
            have hfz41_0 := bf BK317 0
            have hfz41_1 := bf BK317 1
            have hfz41_2 := bf BK317 2
            have hfz41_3 := bf BK317 3
            have hfz41_4 := bf BK317 4
            have hfz41_5 := bf BK317 5
            go_wp2_with (first|((with_reducible refine gate_callee (f := 7) rfl ?_);refine goesL_ (some 25) rfl rfl Try.func7 (by kernel_rfl) rfl #[.int .u64 a0_0] rfl (by (try simp only [List.map_toArray,List.map_cons,List.map_nil]);first|done|rfl|(simp only [List.length_drop,List.length_take];rfl)) ?_;(with_reducible refine (privityref01_Supported.calls kj3 a0_0 true _ A13.out).mono ?_);rintro e w42 ⟨rfl,hb⟩;refine ⟨_,rfl,?_⟩;have n0_ := am (kb BK317 hb);have n1_ := am (below_step (bg HB GE317) hb);clear BK317 HB;have BK317 := n0_;have HB := n1_;clear n0_ n1_;(try clear hb);(try clear hb2);(try clear hk);(try clear hi);have hcz43_0 := bc BK317 0;have hcz43_1 := bc BK317 1;have hcz43_2 := bc BK317 2;have hcz43_3 := bc BK317 3;have hcz43_4 := bc BK317 4;have hcz43_5 := bc BK317 5;have hfz43_0 := bf BK317 0;have hfz43_1 := bf BK317 1;have hfz43_2 := bf BK317 2;have hfz43_3 := bf BK317 3;have hfz43_4 := bf BK317 4;have hfz43_5 := bf BK317 5)|(go_at_call 8;(with_reducible refine (privityref09_Rows.calls kj3 a0_0 _ _ l0_3 a0_1 (wrap64 (a0_2 + 1)) false _ ?side1 ?side2 A31.out).mono ?_);(case side1 => exact cb HR0_3 HB);(case side2 => exact HC0_3.out);rintro e w' ⟨rfl,⟨nd,rfl⟩⟩))
            go_meet
            case rel => exact ⟨_,(true),(by first|rfl|(simp;done)|(simp [*];done)),H',⟨by have := HJ3.out;first|omega|exact Nat.le_refl _⟩,⟨kx BK317⟩,⟨bg HB GE317⟩⟩
      ·replace c14 := Bool.eq_false_iff.mpr c14
       subst c14
       rw [if_neg (show ¬ (false = true) by decide)] at H
       have H' := am H
       clear H
       have hcz44_0 := bc BK317 0
       have hcz44_1 := bc BK317 1
       have hcz44_2 := bc BK317 2
       have hcz44_3 := bc BK317 3
       have hcz44_4 := bc BK317 4
       have hcz44_5 := bc BK317 5
       have hfz44_0 := bf BK317 0
       have hfz44_1 := bf BK317 1
       have hfz44_2 := bf BK317 2
       have hfz44_3 := bf BK317 3
       have hfz44_4 := bf BK317 4
       have hfz44_5 := bf BK317 5
       go_wp2_with (first|((with_reducible refine gate_callee (f := 7) rfl ?_);refine goesL_ (some 25) rfl rfl Try.func7 (by kernel_rfl) rfl #[.int .u64 a0_0] rfl (by (try simp only [List.map_toArray,List.map_cons,List.map_nil]);first|done|rfl|(simp only [List.length_drop,List.length_take];rfl)) ?_;(with_reducible refine (privityref01_Supported.calls kj3 a0_0 false _ A13.out).mono ?_);rintro e w45 ⟨rfl,hb⟩;refine ⟨_,rfl,?_⟩;have n0_ := am (kb BK317 hb);have n1_ := am (below_step (bg HB GE317) hb);clear BK317 HB;have BK317 := n0_;have HB := n1_;clear n0_ n1_;(try clear hb);(try clear hb2);(try clear hk);(try clear hi)))
       go_meet
       case rel => exact ⟨_,(true),(by first|rfl|(simp;done)|(simp [*];done)),H',⟨by have := HJ3.out;first|omega|exact Nat.le_refl _⟩,⟨kx BK317⟩,⟨bg HB GE317⟩⟩
     case rest =>
      clear HC11
      try clear c1
      try clear c2
      try clear p2
      try clear c3
      try clear c6
      try clear p6
      try clear c7
      try clear c7b0
      try clear c10
      try clear c14
      try clear c15
      try clear c15b0
      try clear c19
      try clear c19b0
      try clear c23
      try clear c23b0
      try clear c27
      try clear c27b0
      try clear c32
      try clear c34
      try clear hcz12_0
      try clear hcz12_1
      try clear hcz12_2
      try clear hcz12_3
      try clear hcz12_4
      try clear hcz12_5
      try clear hcz16_0
      try clear hcz16_1
      try clear hcz16_2
      try clear hcz16_3
      try clear hcz16_4
      try clear hcz16_5
      try clear hcz18_0
      try clear hcz18_1
      try clear hcz18_2
      try clear hcz18_3
      try clear hcz18_4
      try clear hcz18_5
      try clear hcz20_0
      try clear hcz20_1
      try clear hcz20_2
      try clear hcz20_3
      try clear hcz20_4
      try clear hcz20_5
      try clear hcz22_0
      try clear hcz22_1
      try clear hcz22_2
      try clear hcz22_3
      try clear hcz22_4
      try clear hcz22_5
      try clear hcz24_0
      try clear hcz24_1
      try clear hcz24_2
      try clear hcz24_3
      try clear hcz24_4
      try clear hcz24_5
      try clear hcz26_0
      try clear hcz26_1
      try clear hcz26_2
      try clear hcz26_3
      try clear hcz26_4
      try clear hcz26_5
      try clear hcz28_0
      try clear hcz28_1
      try clear hcz28_2
      try clear hcz28_3
      try clear hcz28_4
      try clear hcz28_5
      try clear hcz30_0
      try clear hcz30_1
      try clear hcz30_2
      try clear hcz30_3
      try clear hcz30_4
      try clear hcz30_5
      try clear hcz35_0
      try clear hcz35_1
      try clear hcz35_2
      try clear hcz35_3
      try clear hcz35_4
      try clear hcz35_5
      try clear hcz37_0
      try clear hcz37_1
      try clear hcz37_2
      try clear hcz37_3
      try clear hcz37_4
      try clear hcz37_5
      try clear hcz38_0
      try clear hcz38_1
      try clear hcz38_2
      try clear hcz38_3
      try clear hcz38_4
      try clear hcz38_5
      try clear hcz40_0
      try clear hcz40_1
      try clear hcz40_2
      try clear hcz40_3
      try clear hcz40_4
      try clear hcz40_5
      try clear hcz41_0
      try clear hcz41_1
      try clear hcz41_2
      try clear hcz41_3
      try clear hcz41_4
      try clear hcz41_5
      try clear hcz43_0
      try clear hcz43_1
      try clear hcz43_2
      try clear hcz43_3
      try clear hcz43_4
      try clear hcz43_5
      try clear hcz44_0
      try clear hcz44_1
      try clear hcz44_2
      try clear hcz44_3
      try clear hcz44_4
      try clear hcz44_5
      try clear hcz8_0
      try clear hcz8_1
      try clear hcz8_2
      try clear hcz8_3
      try clear hcz8_4
      try clear hcz8_5
      try clear hcz9_0
      try clear hcz9_1
      try clear hcz9_2
      try clear hcz9_3
      try clear hcz9_4
      try clear hcz9_5
      try clear hfz12_0
      try clear hfz12_1
      try clear hfz12_2
      try clear hfz12_3
      try clear hfz12_4
      try clear hfz12_5
      try clear hfz16_0
      try clear hfz16_1
      try clear hfz16_2
      try clear hfz16_3
      try clear hfz16_4
      try clear hfz16_5
      try clear hfz18_0
      try clear hfz18_1
      try clear hfz18_2
      try clear hfz18_3
      try clear hfz18_4
      try clear hfz18_5
      try clear hfz20_0
      try clear hfz20_1
      try clear hfz20_2
      try clear hfz20_3
      try clear hfz20_4
      try clear hfz20_5
      try clear hfz22_0
      try clear hfz22_1
      try clear hfz22_2
      try clear hfz22_3
      try clear hfz22_4
      try clear hfz22_5
      try clear hfz24_0
      try clear hfz24_1
      try clear hfz24_2
      try clear hfz24_3
      try clear hfz24_4
      try clear hfz24_5
      try clear hfz26_0
      try clear hfz26_1
      try clear hfz26_2
      try clear hfz26_3
      try clear hfz26_4
      try clear hfz26_5
      try clear hfz28_0
      try clear hfz28_1
      try clear hfz28_2
      try clear hfz28_3
      try clear hfz28_4
      try clear hfz28_5
      try clear hfz30_0
      try clear hfz30_1
      try clear hfz30_2
      try clear hfz30_3
      try clear hfz30_4
      try clear hfz30_5
      try clear hfz35_0
      try clear hfz35_1
      try clear hfz35_2
      try clear hfz35_3
      try clear hfz35_4
      try clear hfz35_5
      try clear hfz37_0
      try clear hfz37_1
      try clear hfz37_2
      try clear hfz37_3
      try clear hfz37_4
      try clear hfz37_5
      try clear hfz38_0
      try clear hfz38_1
      try clear hfz38_2
      try clear hfz38_3
      try clear hfz38_4
      try clear hfz38_5
      try clear hfz40_0
      try clear hfz40_1
      try clear hfz40_2
      try clear hfz40_3
      try clear hfz40_4
      try clear hfz40_5
      try clear hfz41_0
      try clear hfz41_1
      try clear hfz41_2
      try clear hfz41_3
      try clear hfz41_4
      try clear hfz41_5
      try clear hfz43_0
      try clear hfz43_1
      try clear hfz43_2
      try clear hfz43_3
      try clear hfz43_4
      try clear hfz43_5
      try clear hfz44_0
      try clear hfz44_1
      try clear hfz44_2
      try clear hfz44_3
      try clear hfz44_4
      try clear hfz44_5
      try clear hfz8_0
      try clear hfz8_1
      try clear hfz8_2
      try clear hfz8_3
      try clear hfz8_4
      try clear hfz8_5
      try clear hfz9_0
      try clear hfz9_1
      try clear hfz9_2
      try clear hfz9_3
      try clear hfz9_4
      try clear hfz9_5
      try clear p2
      obtain ⟨kq,x80_10,rfl,HA,HJ10,BK317,HB⟩ := hcut
      cases kq with
      | zero => exact absurd HA.out (by simp [privitylaw09_ShamirLinearOpsMatchReference.j1])
      | succ kj10 =>
       have H := HA.out
       clear HA
       simp only [privitylaw09_ShamirLinearOpsMatchReference.j1] at H
       by_cases c46 : x80_10 = true
       ·subst c46
        rw [if_pos rfl] at H
        obtain rfl := Option.some.inj H
        go_wp2
        go_ret
        exact ⟨by first|rfl|(simp [errW_none,errW_some] <;> rfl)|(simp [*,errW_none,errW_some] <;> rfl),bg HB GE317⟩
       ·replace c46 := Bool.eq_false_iff.mpr c46
        subst c46
        rw [if_neg (show ¬ (false = true) by decide)] at H
        replace H := Option.bind_eq_some_iff.mp H
        obtain ⟨t322,A470,H⟩ := H
        try dsimp only at H
        have A47 := am A470
        clear A470
        by_cases c48 : t322 = true
        ·subst c48
         rw [if_pos rfl] at H
         obtain ⟨y323,hy323⟩ : ∃ y_ : List (List (List Int)),y_ = (([l0_3,l0_4,l0_3] : List (List (List Int)))) := ⟨_,rfl⟩
         replace H : ((shamir_Add.f a0_0 l0_3 l0_4).bind fun t326 => ((privityref09_Add.f kj10 a0_0 l0_3 l0_4).bind fun t329 => ((privityref09_Same.f kj10 t326 t329).bind fun t332 => (if t332 = true then ((shamir_Sub.f a0_0 l0_3 l0_4).bind fun t333 => ((privityref09_Sub.f kj10 a0_0 l0_3 l0_4).bind fun t336 => ((privityref09_Same.f kj10 t333 t336).bind fun t339 => (if t339 = true then ((shamir_Scale.f a0_0 a0_5 l0_3).bind fun t340 => ((privityref09_Scale.f kj10 a0_0 a0_5 l0_3).bind fun t343 => ((privityref09_Same.f kj10 t340 t343).bind fun t346 => (if t346 = true then ((shamir_Constant.f kj10 a0_0 a0_1 a0_2 a0_5).bind fun t347 => ((privityref09_Constant.f kj10 a0_0 a0_1 a0_2 a0_5).bind fun t350 => ((privityref09_Same.f kj10 t347 t350).bind fun t353 => (if t353 = true then ((shamir_LocalShares.f kj10 y323).bind fun t354 => ((privityref09_LocalShares.f kj10 y323).bind fun t357 => ((privityref05_SameRows.f kj10 t354 t357).bind fun t360 => (if t360 = true then ((shamir_LocalShares.f kj10 ([] : List (List (List Int)))).bind fun t361 => (some ((t361.length : Int) == 0))) else (some false))))) else (some false))))) else (some false))))) else (some false))))) else (some false))))) = some r := by first|(rw [hy323];with_reducible exact H)|(have H2_ := (Option.bind_some _ _).symm.trans H;rw [hy323];with_reducible exact H2_)|(have H2_ := (Option.bind_some _ _).symm.trans H;with_reducible exact H2_)|with_reducible exact H|(rw [hy323];exact H)|exact H
         have Ny323 := am hy323
         clear hy323
         replace H := Option.bind_eq_some_iff.mp H
         obtain ⟨t326,A490,H⟩ := H
         try dsimp only at H
         have A49 := am A490
         clear A490
         replace H := Option.bind_eq_some_iff.mp H
         obtain ⟨t329,A500,H⟩ := H
         try dsimp only at H
         have A50 := am A500
         clear A500
         replace H := Option.bind_eq_some_iff.mp H
         obtain ⟨t332,A510,H⟩ := H
         try dsimp only at H
         have A51 := am A510
         clear A510
         by_cases c52 : t332 = true
         ·subst c52
          rw [if_pos rfl] at H
          replace H := Option.bind_eq_some_iff.mp H
          obtain ⟨t333,A530,H⟩ := H
          try dsimp only at H
          have A53 := am A530
          clear A530
          replace H := Option.bind_eq_some_iff.mp H
          obtain ⟨t336,A540,H⟩ := H
          try dsimp only at H
          have A54 := am A540
          clear A540
          replace H := Option.bind_eq_some_iff.mp H
          obtain ⟨t339,A550,H⟩ := H
          try dsimp only at H
          have A55 := am A550
          clear A550
          by_cases c56 : t339 = true
          ·subst c56
           rw [if_pos rfl] at H
           replace H := Option.bind_eq_some_iff.mp H
           obtain ⟨t340,A570,H⟩ := H
           try dsimp only at H
           have A57 := am A570
           clear A570
           replace H := Option.bind_eq_some_iff.mp H
           obtain ⟨t343,A580,H⟩ := H
           try dsimp only at H
           have A58 := am A580
           clear A580
           replace H := Option.bind_eq_some_iff.mp H
           obtain ⟨t346,A590,H⟩ := H
           try dsimp only at H
           have A59 := am A590
           clear A590
           by_cases c60 : t346 = true
           ·subst c60
            rw [if_pos rfl] at H
            replace H := Option.bind_eq_some_iff.mp H
            obtain ⟨t347,A610,H⟩ := H
            try dsimp only at H
            have A61 := am A610
            clear A610
            replace H := Option.bind_eq_some_iff.mp H
            obtain ⟨t350,A620,H⟩ := H
            try dsimp only at H
            have A62 := am A620
            clear A620
            replace H := Option.bind_eq_some_iff.mp H
            obtain ⟨t353,A630,H⟩ := H
            try dsimp only at H
            have A63 := am A630
            clear A630
            by_cases c64 : t353 = true
            ·subst c64
             rw [if_pos rfl] at H
             replace H := Option.bind_eq_some_iff.mp H
             obtain ⟨t354,A650,H⟩ := H
             try dsimp only at H
             have A65 := am A650
             clear A650
             replace H := Option.bind_eq_some_iff.mp H
             obtain ⟨t357,A660,H⟩ := H
             try dsimp only at H
             have A66 := am A660
             clear A660
             replace H := Option.bind_eq_some_iff.mp H
             obtain ⟨t360,A670,H⟩ := H
             try dsimp only at H
             have A67 := am A670
             clear A670
             by_cases c68 : t360 = true
             ·subst c68
              rw [if_pos rfl] at H
              replace H := Option.bind_eq_some_iff.mp H
              obtain ⟨t361,A690,H⟩ := H
              try dsimp only at H
              have A69 := am A690
              clear A690
              obtain rfl := Option.some.inj H
              have hcz70_0 := bc BK317 0
              have hcz70_1 := bc BK317 1
              have hcz70_2 := bc BK317 2
              have hcz70_3 := bc BK317 3
              have hcz70_4 := bc BK317 4
              have hcz70_5 := bc BK317 5
              have hfz70_0 := bf BK317 0
              have hfz70_1 := bf BK317 1
              have hfz70_2 := bf BK317 2
              have hfz70_3 := bf BK317 3
              have hfz70_4 := bf BK317 4
              have hfz70_5 := bf BK317 5
              try go_wp2_with (first|((with_reducible refine gate_callee (f := 9) rfl ?_);refine goesL_ (some 83) rfl rfl Try.func9 (by kernel_rfl) rfl #[.agg #[.int .u64 a0_0,.int .i64 a0_1,.int .i64 a0_2]] rfl (by (try simp only [List.map_toArray,List.map_cons,List.map_nil]);first|done|rfl|(simp only [List.length_drop,List.length_take];rfl)) ?_;(with_reducible refine (privitylaw09_setups.calls a0_0 a0_1 a0_2 true _ A47.out).mono ?_);rintro e w71 ⟨rfl,hb⟩;refine ⟨_,rfl,?_⟩;have n0_ := am (kb BK317 hb);have n1_ := am (below_step (bg HB GE317) hb);clear BK317 HB;have BK317 := n0_;have HB := n1_;clear n0_ n1_;(try clear hb);(try clear hb2);(try clear hk);(try clear hi);have hcz72_0 := bc BK317 0;have hcz72_1 := bc BK317 1;have hcz72_2 := bc BK317 2;have hcz72_3 := bc BK317 3;have hcz72_4 := bc BK317 4;have hcz72_5 := bc BK317 5;have hfz72_0 := bf BK317 0;have hfz72_1 := bf BK317 1;have hfz72_2 := bf BK317 2;have hfz72_3 := bf BK317 3;have hfz72_4 := bf BK317 4;have hfz72_5 := bf BK317 5)|((with_reducible refine gate_dst (N := 94) rfl ?_);(try (refine gate_guard (by rfl) ?_;dsimp only));refine Kd.N_lit (Kd.slice 41 (Kd.slice 22 (Kd.int .u64))) _ 26 ?hg (N' := 94) ?hd (xs := ([l0_3,l0_4,l0_3] : List (List (List Int)))) (inner := [.slice A0_3 l0_3.length c0_3,.slice A0_4 l0_4.length c0_4,.slice A0_3 l0_3.length c0_3]) (ok := fun _ => True) (okp := fun _ => True) ?hr ?hp (fun _ hk => hk) trivial (Below.refl _ _) (Nat.le_refl _) (by simp) ?_;(case hd => rfl);(case hg => rfl);(case hr => first|(go_simp;done)|(go_simp;rfl));(case hp => exact (Reps.one (fk_came HLA3_.out HLC3_.out (bg HB GE317)) (Reps.one (fk_came HLA4_.out HLC4_.out (bg HB GE317)) (Reps.one (fk_came HLA3_.out HLC3_.out (bg HB GE317)) (Reps.none _ _)))));intro v324 w73 ho74 hb hg_ hnew_;clear hg_ hnew_;(first|rw [← Ny323.out] at ho74|(simp only [Int.reduceToNat] at ho74;rw [← Ny323.out] at ho74));have n0_ := am (Kd.N_lower ho74 (below_size (bg HB GE317)));have n1_ := am (kb BK317 hb);have n2_ := am (below_step (bg HB GE317) hb);clear BK317 HB;have HO325 := n0_;have BK317 := n1_;have HB := n2_;clear n0_ n1_ n2_;clear hb ho74))
              have n0_ := am (Kd.N_drew HO325.out)
              have n1_ := am (blk_drew BK317.out)
              have n2_ := am (below_drew1 HB.out)
              clear HO325
              clear BK317
              clear HB
              have HO325 := n0_
              have BK317 := n1_
              have HB := n2_
              clear n0_ n1_ n2_
              refine start_ (n := 69) (S := fun w' => w'.cell? ⟨gb317,0,none⟩ = some (.int .u64 a0_0) ∧ w'.cell? ⟨gb317,1,none⟩ = some (.int .i64 a0_1) ∧ w'.cell? ⟨gb317,2,none⟩ = some (.int .i64 a0_2) ∧ w'.cell? ⟨gb317,3,none⟩ = some (.slice A0_3 l0_3.length c0_3) ∧ w'.cell? ⟨gb317,4,none⟩ = some (.slice A0_4 l0_4.length c0_4) ∧ w'.cell? ⟨gb317,5,none⟩ = some (.int .u64 a0_5)) (ds := []) (bz 69 0) (by kernel_rfl) rfl rfl ⟨(blk_cell BK317.out 0).trans rfl,(blk_cell BK317.out 1).trans rfl,(blk_cell BK317.out 2).trans rfl,(blk_cell BK317.out 3).trans rfl,(blk_cell BK317.out 4).trans rfl,(blk_cell BK317.out 5).trans rfl⟩ (fun hHeld => ?_);refine with_tabW privitylaw09_ShamirLinearOpsMatchReference.tab12 privitylaw09_ShamirLinearOpsMatchReference.bits12 (fun HT_ HW_ => ?_)
              generalize w73.drew = w75 at HO325 BK317 HB hHeld ⊢
              refine pk 0 95 (bz 69 1) HT_ ?_
              refine pk 1 96 (bz 69 3) HT_ ?_
              refine pk 3 98 (bz 69 11) HT_ ?_
              refine pk 6 101 (bz 69 75) HT_ ?_
              refine pk 7 102 (bz 69 203) HT_ ?_
              refine pk 9 104 (bz 69 715) HT_ ?_
              refine tk 2 97 (bz 69 719) HT_ HW_ hHeld ?_
              refine tk 4 99 (bz 69 735) HT_ HW_ hHeld ?_
              refine tk 8 103 (bz 69 991) HT_ HW_ hHeld ?_
              refine tk 10 105 (bz 69 2015) HT_ HW_ hHeld ?_
              refine on 5 100 (bz 69 2047) HT_ (fun K hK => ?_)
              refine goes_ Try.func11 (by kernel_rfl) rfl #[.int .u64 a0_0,.slice A0_3 l0_3.length c0_3,.slice A0_4 l0_4.length c0_4] (by rfl) rfl rfl (by (try simp only [List.map_toArray,List.map_cons,List.map_nil]);first|done|rfl|(simp only [List.length_drop,List.length_take];rfl)) ?_
              with_reducible refine (shamir_Add.calls a0_0 _ _ l0_3 _ _ l0_4 t326 _ ?side1 ?side2 ?side3 ?side4 A49.out).mono ?_
              (case side1 => exact cb HR0_3 HB)
              (case side2 => exact HC0_3.out)
              (case side3 => exact cb HR0_4 HB)
              (case side4 => exact HC0_4.out)
              rintro e w76 ⟨v327,rfl,ho0,hb⟩
              refine ⟨_,rfl,?_⟩
              have n0_ := am (Kd.N_elder' (rn HO325) (Kd.S_base ho0) hb)
              have n1_ := am (Kd.S_lower ho0 (below_size (bg HB GE317)))
              have n2_ := am (kb BK317 hb)
              have n3_ := am (below_step (bg HB GE317) hb)
              clear HO325
              clear BK317
              clear HB
              have HO325 := n0_
              have HO328 := n1_
              have BK317 := n2_
              have HB := n3_
              clear n0_ n1_ n2_ n3_
              (try clear hb)
              (try clear hb2)
              (try clear hk)
              (try clear hi)
              (try clear ho0)
              refine hK.out _ _ ⟨(blk_cell BK317.out 0).trans rfl,(blk_cell BK317.out 1).trans rfl,(blk_cell BK317.out 2).trans rfl,(blk_cell BK317.out 3).trans rfl,(blk_cell BK317.out 4).trans rfl,(blk_cell BK317.out 5).trans rfl⟩ (fun hHeld => ?_)
              clear hK K
              refine nm 100 ?_
              refine on 11 106 (bz 69 4095) HT_ (fun K hK => ?_)
              refine goes_ Try.func12 (by kernel_rfl) rfl #[.int .u64 a0_0,.slice A0_3 l0_3.length c0_3,.slice A0_4 l0_4.length c0_4] (by rfl) rfl rfl (by (try simp only [List.map_toArray,List.map_cons,List.map_nil]);first|done|rfl|(simp only [List.length_drop,List.length_take];rfl)) ?_
              with_reducible refine (privityref09_Add.calls kj10 a0_0 _ _ l0_3 _ _ l0_4 t329 _ ?side1 ?side2 ?side3 ?side4 A50.out).mono ?_
              (case side1 => exact cb HR0_3 HB)
              (case side2 => exact HC0_3.out)
              (case side3 => exact cb HR0_4 HB)
              (case side4 => exact HC0_4.out)
              rintro e w77 ⟨v330,rfl,ho0,hb⟩
              refine ⟨_,rfl,?_⟩
              have n0_ := am (Kd.N_elder' (rn HO325) (Kd.S_base ho0) hb)
              have n1_ := am (Kd.S_elder' (by (with_reducible repeat (first|apply Kd.S_alloc|apply Kd.S_drewN|apply Kd.S_drew));exact HO328.out) (Kd.S_base ho0) hb)
              have n2_ := am (Kd.S_lower (Kd.S_new' ho0 (Kd.S_lt (by (with_reducible repeat (first|apply Kd.S_alloc|apply Kd.S_drewN|apply Kd.S_drew));exact HO328.out))) (below_size (bg HB GE317)))
              have n3_ := am (kb BK317 hb)
              have n4_ := am (below_step (bg HB GE317) hb)
              clear HO325
              clear HO328
              clear BK317
              clear HB
              have HO325 := n0_
              have HO328 := n1_
              have HO331 := n2_
              have BK317 := n3_
              have HB := n4_
              clear n0_ n1_ n2_ n3_ n4_
              (try clear hb)
              (try clear hb2)
              (try clear hk)
              (try clear hi)
              (try clear ho0)
              obtain ⟨Ao78,co78,eo78⟩ := Kd.S_slice HO328.out
              (first|subst eo78|(injection eo78 with f1_ f2_ f3_;have f4_ := f1_.symm;have f5_ := f3_.symm;clear f1_ f2_ f3_;subst f4_;subst f5_))
              obtain ⟨Ao79,co79,eo79⟩ := Kd.S_slice HO331.out
              (first|subst eo79|(injection eo79 with f1_ f2_ f3_;have f4_ := f1_.symm;have f5_ := f3_.symm;clear f1_ f2_ f3_;subst f4_;subst f5_))
              refine hK.out _ _ ⟨(blk_cell BK317.out 0).trans rfl,(blk_cell BK317.out 1).trans rfl,(blk_cell BK317.out 2).trans rfl,(blk_cell BK317.out 3).trans rfl,(blk_cell BK317.out 4).trans rfl,(blk_cell BK317.out 5).trans rfl⟩ (fun hHeld => ?_)
              clear hK K
              refine nm 106 ?_
              refine on 12 107 (bz 69 8191) HT_ (fun K hK => ?_)
              refine goes_ Try.func10 (by kernel_rfl) rfl #[.slice Ao78 t326.length co78,.slice Ao79 t329.length co79] (by rfl) rfl rfl (by (try simp only [List.map_toArray,List.map_cons,List.map_nil]);first|done|rfl|(simp only [List.length_drop,List.length_take];rfl)) ?_
              with_reducible refine (privityref09_Same.calls kj10 _ _ t326 _ _ t329 true _ ?side1 ?side2 ?side3 ?side4 A51.out).mono ?_
              (case side1 => repeat (first|exact (Kd.S_reads' HO328.out).2.2|(with_reducible refine Kd.C_alloc ?_ _)|(with_reducible refine Kd.C_drewN ?_ _)|(with_reducible refine Kd.C_drew ?_)))
              (case side2 => exact (Kd.S_reads' HO328.out).2.1)
              (case side3 => repeat (first|exact (Kd.S_reads' HO331.out).2.2|(with_reducible refine Kd.C_alloc ?_ _)|(with_reducible refine Kd.C_drewN ?_ _)|(with_reducible refine Kd.C_drew ?_)))
              (case side4 => exact (Kd.S_reads' HO331.out).2.1)
              rintro e w' ⟨rfl,⟨nd,rfl⟩⟩
              refine ⟨_,rfl,?_⟩
              refine hK.out _ _ ⟨(blk_cell BK317.out 0).trans rfl,(blk_cell BK317.out 1).trans rfl,(blk_cell BK317.out 2).trans rfl,(blk_cell BK317.out 3).trans rfl,(blk_cell BK317.out 4).trans rfl,(blk_cell BK317.out 5).trans rfl⟩ (fun hHeld => ?_)
              clear hK K
              refine nm 107 ?_
              refine pk 13 108 (bz 69 16383) HT_ ?_
              refine pk 14 109 (bz 69 32767) HT_ ?_
              refine pk 15 110 (bz 69 65535) HT_ ?_
              refine pk 17 112 (bz 69 196607) HT_ ?_
              refine pk 20 115 (bz 69 1245183) HT_ ?_
              refine pk 21 116 (bz 69 3342335) HT_ ?_
              refine pk 23 118 (bz 69 11730943) HT_ ?_
              refine tk 16 111 (bz 69 11796479) HT_ HW_ hHeld ?_
              refine tk 18 113 (bz 69 12058623) HT_ HW_ hHeld ?_
              refine tk 22 117 (bz 69 16252927) HT_ HW_ hHeld ?_
              refine tk 24 119 (bz 69 33030143) HT_ HW_ hHeld ?_
              refine on 19 114 (bz 69 33554431) HT_ (fun K hK => ?_)
              refine goes_ Try.func13 (by kernel_rfl) rfl #[.int .u64 a0_0,.slice A0_3 l0_3.length c0_3,.slice A0_4 l0_4.length c0_4] (by rfl) rfl rfl (by (try simp only [List.map_toArray,List.map_cons,List.map_nil]);first|done|rfl|(simp only [List.length_drop,List.length_take];rfl)) ?_
              with_reducible refine (shamir_Sub.calls a0_0 _ _ l0_3 _ _ l0_4 t333 _ ?side1 ?side2 ?side3 ?side4 A53.out).mono ?_
              (case side1 => repeat (first|exact (Kd.C_below HR0_3.out (bg HB GE317))|(with_reducible refine Kd.C_alloc ?_ _)|(with_reducible refine Kd.C_drewN ?_ _)|(with_reducible refine Kd.C_drew ?_)))
              (case side2 => exact HC0_3.out)
              (case side3 => repeat (first|exact (Kd.C_below HR0_4.out (bg HB GE317))|(with_reducible refine Kd.C_alloc ?_ _)|(with_reducible refine Kd.C_drewN ?_ _)|(with_reducible refine Kd.C_drew ?_)))
              (case side4 => exact HC0_4.out)
              rintro e w80 ⟨v334,rfl,ho0,hb⟩
              refine ⟨_,rfl,?_⟩
              have n0_ := am (Kd.N_elder' (rn HO325) (Kd.S_base ho0) hb)
              have n1_ := am (Kd.S_elder' (by (with_reducible repeat (first|apply Kd.S_alloc|apply Kd.S_drewN|apply Kd.S_drew));exact HO328.out) (Kd.S_base ho0) hb)
              have n2_ := am (Kd.S_elder' (by (with_reducible repeat (first|apply Kd.S_alloc|apply Kd.S_drewN|apply Kd.S_drew));exact HO331.out) (Kd.S_base ho0) hb)
              have n3_ := am (Kd.S_lower (Kd.S_new' (Kd.S_new' ho0 (Kd.S_lt (by (with_reducible repeat (first|apply Kd.S_alloc|apply Kd.S_drewN|apply Kd.S_drew));exact HO328.out))) (Kd.S_lt (by (with_reducible repeat (first|apply Kd.S_alloc|apply Kd.S_drewN|apply Kd.S_drew));exact HO331.out))) (below_size (bg HB GE317)))
              have n4_ := am (kb BK317 hb)
              have n5_ := am (below_step (bg HB GE317) hb)
              clear HO325
              clear HO328
              clear HO331
              clear BK317
              clear HB
              have HO325 := n0_
              have HO328 := n1_
              have HO331 := n2_
              have HO335 := n3_
              have BK317 := n4_
              have HB := n5_
              clear n0_ n1_ n2_ n3_ n4_ n5_
              (try clear hb)
              (try clear hb2)
              (try clear hk)
              (try clear hi)
              (try clear ho0)
              refine hK.out _ _ ⟨(blk_cell BK317.out 0).trans rfl,(blk_cell BK317.out 1).trans rfl,(blk_cell BK317.out 2).trans rfl,(blk_cell BK317.out 3).trans rfl,(blk_cell BK317.out 4).trans rfl,(blk_cell BK317.out 5).trans rfl⟩ (fun hHeld => ?_)
              clear hK K
              refine nm 114 ?_
              refine on 25 120 (bz 69 67108863) HT_ (fun K hK => ?_)
              refine goes_ Try.func14 (by kernel_rfl) rfl #[.int .u64 a0_0,.slice A0_3 l0_3.length c0_3,.slice A0_4 l0_4.length c0_4] (by rfl) rfl rfl (by (try simp only [List.map_toArray,List.map_cons,List.map_nil]);first|done|rfl|(simp only [List.length_drop,List.length_take];rfl)) ?_
              with_reducible refine (privityref09_Sub.calls kj10 a0_0 _ _ l0_3 _ _ l0_4 t336 _ ?side1 ?side2 ?side3 ?side4 A54.out).mono ?_
              (case side1 => exact cb HR0_3 HB)
              (case side2 => exact HC0_3.out)
              (case side3 => exact cb HR0_4 HB)
              (case side4 => exact HC0_4.out)
              rintro e w81 ⟨v337,rfl,ho0,hb⟩
              refine ⟨_,rfl,?_⟩
              have n0_ := am (Kd.N_elder' (rn HO325) (Kd.S_base ho0) hb)
              have n1_ := am (Kd.S_elder' (by (with_reducible repeat (first|apply Kd.S_alloc|apply Kd.S_drewN|apply Kd.S_drew));exact HO328.out) (Kd.S_base ho0) hb)
              have n2_ := am (Kd.S_elder' (by (with_reducible repeat (first|apply Kd.S_alloc|apply Kd.S_drewN|apply Kd.S_drew));exact HO331.out) (Kd.S_base ho0) hb)
              have n3_ := am (Kd.S_elder' (by (with_reducible repeat (first|apply Kd.S_alloc|apply Kd.S_drewN|apply Kd.S_drew));exact HO335.out) (Kd.S_base ho0) hb)
              have n4_ := am (Kd.S_lower (Kd.S_new' (Kd.S_new' (Kd.S_new' ho0 (Kd.S_lt (by (with_reducible repeat (first|apply Kd.S_alloc|apply Kd.S_drewN|apply Kd.S_drew));exact HO328.out))) (Kd.S_lt (by (with_reducible repeat (first|apply Kd.S_alloc|apply Kd.S_drewN|apply Kd.S_drew));exact HO331.out))) (Kd.S_lt (by (with_reducible repeat (first|apply Kd.S_alloc|apply Kd.S_drewN|apply Kd.S_drew));exact HO335.out))) (below_size (bg HB GE317)))
              have n5_ := am (kb BK317 hb)
              have n6_ := am (below_step (bg HB GE317) hb)
              clear HO325
              clear HO328
              clear HO331
              clear HO335
              clear BK317
              clear HB
              have HO325 := n0_
              have HO328 := n1_
              have HO331 := n2_
              have HO335 := n3_
              have HO338 := n4_
              have BK317 := n5_
              have HB := n6_
              clear n0_ n1_ n2_ n3_ n4_ n5_ n6_
              (try clear hb)
              (try clear hb2)
              (try clear hk)
              (try clear hi)
              (try clear ho0)
              obtain ⟨Ao82,co82,eo82⟩ := Kd.S_slice HO335.out
              (first|subst eo82|(injection eo82 with f1_ f2_ f3_;have f4_ := f1_.symm;have f5_ := f3_.symm;clear f1_ f2_ f3_;subst f4_;subst f5_))
              obtain ⟨Ao83,co83,eo83⟩ := Kd.S_slice HO338.out
              (first|subst eo83|(injection eo83 with f1_ f2_ f3_;have f4_ := f1_.symm;have f5_ := f3_.symm;clear f1_ f2_ f3_;subst f4_;subst f5_))
              refine hK.out _ _ ⟨(blk_cell BK317.out 0).trans rfl,(blk_cell BK317.out 1).trans rfl,(blk_cell BK317.out 2).trans rfl,(blk_cell BK317.out 3).trans rfl,(blk_cell BK317.out 4).trans rfl,(blk_cell BK317.out 5).trans rfl⟩ (fun hHeld => ?_)
              clear hK K
              refine nm 120 ?_
              refine on 26 121 (bz 69 134217727) HT_ (fun K hK => ?_)
              refine goes_ Try.func10 (by kernel_rfl) rfl #[.slice Ao82 t333.length co82,.slice Ao83 t336.length co83] (by rfl) rfl rfl (by (try simp only [List.map_toArray,List.map_cons,List.map_nil]);first|done|rfl|(simp only [List.length_drop,List.length_take];rfl)) ?_
              with_reducible refine (privityref09_Same.calls kj10 _ _ t333 _ _ t336 true _ ?side1 ?side2 ?side3 ?side4 A55.out).mono ?_
              (case side1 => repeat (first|exact (Kd.S_reads' HO335.out).2.2|(with_reducible refine Kd.C_alloc ?_ _)|(with_reducible refine Kd.C_drewN ?_ _)|(with_reducible refine Kd.C_drew ?_)))
              (case side2 => exact (Kd.S_reads' HO335.out).2.1)
              (case side3 => repeat (first|exact (Kd.S_reads' HO338.out).2.2|(with_reducible refine Kd.C_alloc ?_ _)|(with_reducible refine Kd.C_drewN ?_ _)|(with_reducible refine Kd.C_drew ?_)))
              (case side4 => exact (Kd.S_reads' HO338.out).2.1)
              rintro e w' ⟨rfl,⟨nd,rfl⟩⟩
              refine ⟨_,rfl,?_⟩
              refine hK.out _ _ ⟨(blk_cell BK317.out 0).trans rfl,(blk_cell BK317.out 1).trans rfl,(blk_cell BK317.out 2).trans rfl,(blk_cell BK317.out 3).trans rfl,(blk_cell BK317.out 4).trans rfl,(blk_cell BK317.out 5).trans rfl⟩ (fun hHeld => ?_)
              clear hK K
              refine nm 121 ?_
              refine pk 27 122 (bz 69 268435455) HT_ ?_
              refine pk 28 123 (bz 69 536870911) HT_ ?_
              refine pk 29 124 (bz 69 1073741823) HT_ ?_
              refine pk 30 125 (bz 69 2147483647) HT_ ?_
              refine pk 32 127 (bz 69 6442450943) HT_ ?_
              refine pk 35 130 (bz 69 40802189311) HT_ ?_
              refine pk 36 131 (bz 69 109521666047) HT_ ?_
              refine pk 38 133 (bz 69 384399572991) HT_ ?_
              refine tk 31 126 (bz 69 386547056639) HT_ HW_ hHeld ?_
              refine tk 33 128 (bz 69 395136991231) HT_ HW_ hHeld ?_
              refine tk 37 132 (bz 69 532575944703) HT_ HW_ hHeld ?_
              refine tk 39 134 (bz 69 1082331758591) HT_ HW_ hHeld ?_
              refine on 34 129 (bz 69 1099511627775) HT_ (fun K hK => ?_)
              refine goes_ Try.func15 (by kernel_rfl) rfl #[.int .u64 a0_0,.int .u64 a0_5,.slice A0_3 l0_3.length c0_3] (by rfl) rfl rfl (by (try simp only [List.map_toArray,List.map_cons,List.map_nil]);first|done|rfl|(simp only [List.length_drop,List.length_take];rfl)) ?_
              with_reducible refine (shamir_Scale.calls a0_0 a0_5 _ _ l0_3 t340 _ ?side1 ?side2 A57.out).mono ?_
              (case side1 => repeat (first|exact (Kd.C_below HR0_3.out (bg HB GE317))|(with_reducible refine Kd.C_alloc ?_ _)|(with_reducible refine Kd.C_drewN ?_ _)|(with_reducible refine Kd.C_drew ?_)))
              (case side2 => exact HC0_3.out)
              rintro e w84 ⟨v341,rfl,ho0,hb⟩
              refine ⟨_,rfl,?_⟩
              have n0_ := am (Kd.N_elder' (rn HO325) (Kd.S_base ho0) hb)
              have n1_ := am (Kd.S_elder' (by (with_reducible repeat (first|apply Kd.S_alloc|apply Kd.S_drewN|apply Kd.S_drew));exact HO328.out) (Kd.S_base ho0) hb)
              have n2_ := am (Kd.S_elder' (by (with_reducible repeat (first|apply Kd.S_alloc|apply Kd.S_drewN|apply Kd.S_drew));exact HO331.out) (Kd.S_base ho0) hb)
              have n3_ := am (Kd.S_elder' (by (with_reducible repeat (first|apply Kd.S_alloc|apply Kd.S_drewN|apply Kd.S_drew));exact HO335.out) (Kd.S_base ho0) hb)
              have n4_ := am (Kd.S_elder' (by (with_reducible repeat (first|apply Kd.S_alloc|apply Kd.S_drewN|apply Kd.S_drew));exact HO338.out) (Kd.S_base ho0) hb)
              have n5_ := am (Kd.S_lower (Kd.S_new' (Kd.S_new' (Kd.S_new' (Kd.S_new' ho0 (Kd.S_lt (by (with_reducible repeat (first|apply Kd.S_alloc|apply Kd.S_drewN|apply Kd.S_drew));exact HO328.out))) (Kd.S_lt (by (with_reducible repeat (first|apply Kd.S_alloc|apply Kd.S_drewN|apply Kd.S_drew));exact HO331.out))) (Kd.S_lt (by (with_reducible repeat (first|apply Kd.S_alloc|apply Kd.S_drewN|apply Kd.S_drew));exact HO335.out))) (Kd.S_lt (by (with_reducible repeat (first|apply Kd.S_alloc|apply Kd.S_drewN|apply Kd.S_drew));exact HO338.out))) (below_size (bg HB GE317)))
              have n6_ := am (kb BK317 hb)
              have n7_ := am (below_step (bg HB GE317) hb)
              clear HO325
              clear HO328
              clear HO331
              clear HO335
              clear HO338
              clear BK317
              clear HB
              have HO325 := n0_
              have HO328 := n1_
              have HO331 := n2_
              have HO335 := n3_
              have HO338 := n4_
              have HO342 := n5_
              have BK317 := n6_
              have HB := n7_
              clear n0_ n1_ n2_ n3_ n4_ n5_ n6_ n7_
              (try clear hb)
              (try clear hb2)
              (try clear hk)
              (try clear hi)
              (try clear ho0)
              refine hK.out _ _ ⟨(blk_cell BK317.out 0).trans rfl,(blk_cell BK317.out 1).trans rfl,(blk_cell BK317.out 2).trans rfl,(blk_cell BK317.out 3).trans rfl,(blk_cell BK317.out 4).trans rfl,(blk_cell BK317.out 5).trans rfl⟩ (fun hHeld => ?_)
              clear hK K
              refine nm 129 ?_
              refine on 40 135 (bz 69 2199023255551) HT_ (fun K hK => ?_)
              refine goes_ Try.func16 (by kernel_rfl) rfl #[.int .u64 a0_0,.int .u64 a0_5,.slice A0_3 l0_3.length c0_3] (by rfl) rfl rfl (by (try simp only [List.map_toArray,List.map_cons,List.map_nil]);first|done|rfl|(simp only [List.length_drop,List.length_take];rfl)) ?_
              with_reducible refine (privityref09_Scale.calls kj10 a0_0 a0_5 _ _ l0_3 t343 _ ?side1 ?side2 A58.out).mono ?_
              (case side1 => exact cb HR0_3 HB)
              (case side2 => exact HC0_3.out)
              rintro e w85 ⟨v344,rfl,ho0,hb⟩
              refine ⟨_,rfl,?_⟩
              have n0_ := am (Kd.N_elder' (rn HO325) (Kd.S_base ho0) hb)
              have n1_ := am (Kd.S_elder' (by (with_reducible repeat (first|apply Kd.S_alloc|apply Kd.S_drewN|apply Kd.S_drew));exact HO328.out) (Kd.S_base ho0) hb)
              have n2_ := am (Kd.S_elder' (by (with_reducible repeat (first|apply Kd.S_alloc|apply Kd.S_drewN|apply Kd.S_drew));exact HO331.out) (Kd.S_base ho0) hb)
              have n3_ := am (Kd.S_elder' (by (with_reducible repeat (first|apply Kd.S_alloc|apply Kd.S_drewN|apply Kd.S_drew));exact HO335.out) (Kd.S_base ho0) hb)
              have n4_ := am (Kd.S_elder' (by (with_reducible repeat (first|apply Kd.S_alloc|apply Kd.S_drewN|apply Kd.S_drew));exact HO338.out) (Kd.S_base ho0) hb)
              have n5_ := am (Kd.S_elder' (by (with_reducible repeat (first|apply Kd.S_alloc|apply Kd.S_drewN|apply Kd.S_drew));exact HO342.out) (Kd.S_base ho0) hb)
              have n6_ := am (Kd.S_lower (Kd.S_new' (Kd.S_new' (Kd.S_new' (Kd.S_new' (Kd.S_new' ho0 (Kd.S_lt (by (with_reducible repeat (first|apply Kd.S_alloc|apply Kd.S_drewN|apply Kd.S_drew));exact HO328.out))) (Kd.S_lt (by (with_reducible repeat (first|apply Kd.S_alloc|apply Kd.S_drewN|apply Kd.S_drew));exact HO331.out))) (Kd.S_lt (by (with_reducible repeat (first|apply Kd.S_alloc|apply Kd.S_drewN|apply Kd.S_drew));exact HO335.out))) (Kd.S_lt (by (with_reducible repeat (first|apply Kd.S_alloc|apply Kd.S_drewN|apply Kd.S_drew));exact HO338.out))) (Kd.S_lt (by (with_reducible repeat (first|apply Kd.S_alloc|apply Kd.S_drewN|apply Kd.S_drew));exact HO342.out))) (below_size (bg HB GE317)))
              have n7_ := am (kb BK317 hb)
              have n8_ := am (below_step (bg HB GE317) hb)
              clear HO325
              clear HO328
              clear HO331
              clear HO335
              clear HO338
              clear HO342
              clear BK317
              clear HB
              have HO325 := n0_
              have HO328 := n1_
              have HO331 := n2_
              have HO335 := n3_
              have HO338 := n4_
              have HO342 := n5_
              have HO345 := n6_
              have BK317 := n7_
              have HB := n8_
              clear n0_ n1_ n2_ n3_ n4_ n5_ n6_ n7_ n8_
              (try clear hb)
              (try clear hb2)
              (try clear hk)
              (try clear hi)
              (try clear ho0)
              obtain ⟨Ao86,co86,eo86⟩ := Kd.S_slice HO342.out
              (first|subst eo86|(injection eo86 with f1_ f2_ f3_;have f4_ := f1_.symm;have f5_ := f3_.symm;clear f1_ f2_ f3_;subst f4_;subst f5_))
              obtain ⟨Ao87,co87,eo87⟩ := Kd.S_slice HO345.out
              (first|subst eo87|(injection eo87 with f1_ f2_ f3_;have f4_ := f1_.symm;have f5_ := f3_.symm;clear f1_ f2_ f3_;subst f4_;subst f5_))
              refine hK.out _ _ ⟨(blk_cell BK317.out 0).trans rfl,(blk_cell BK317.out 1).trans rfl,(blk_cell BK317.out 2).trans rfl,(blk_cell BK317.out 3).trans rfl,(blk_cell BK317.out 4).trans rfl,(blk_cell BK317.out 5).trans rfl⟩ (fun hHeld => ?_)
              clear hK K
              refine nm 135 ?_
              refine on 41 136 (bz 69 4398046511103) HT_ (fun K hK => ?_)
              refine goes_ Try.func10 (by kernel_rfl) rfl #[.slice Ao86 t340.length co86,.slice Ao87 t343.length co87] (by rfl) rfl rfl (by (try simp only [List.map_toArray,List.map_cons,List.map_nil]);first|done|rfl|(simp only [List.length_drop,List.length_take];rfl)) ?_
              with_reducible refine (privityref09_Same.calls kj10 _ _ t340 _ _ t343 true _ ?side1 ?side2 ?side3 ?side4 A59.out).mono ?_
              (case side1 => repeat (first|exact (Kd.S_reads' HO342.out).2.2|(with_reducible refine Kd.C_alloc ?_ _)|(with_reducible refine Kd.C_drewN ?_ _)|(with_reducible refine Kd.C_drew ?_)))
              (case side2 => exact (Kd.S_reads' HO342.out).2.1)
              (case side3 => repeat (first|exact (Kd.S_reads' HO345.out).2.2|(with_reducible refine Kd.C_alloc ?_ _)|(with_reducible refine Kd.C_drewN ?_ _)|(with_reducible refine Kd.C_drew ?_)))
              (case side4 => exact (Kd.S_reads' HO345.out).2.1)
              rintro e w' ⟨rfl,⟨nd,rfl⟩⟩
              refine ⟨_,rfl,?_⟩
              refine hK.out _ _ ⟨(blk_cell BK317.out 0).trans rfl,(blk_cell BK317.out 1).trans rfl,(blk_cell BK317.out 2).trans rfl,(blk_cell BK317.out 3).trans rfl,(blk_cell BK317.out 4).trans rfl,(blk_cell BK317.out 5).trans rfl⟩ (fun hHeld => ?_)
              clear hK K
              refine nm 136 ?_
              refine pk 42 137 (bz 69 8796093022207) HT_ ?_
              refine pk 43 138 (bz 69 17592186044415) HT_ ?_
              refine pk 44 139 (bz 69 35184372088831) HT_ ?_
              refine pk 46 141 (bz 69 105553116266495) HT_ ?_
              refine pk 49 144 (bz 69 668503069687807) HT_ ?_
              refine pk 51 146 (bz 69 2920302883373055) HT_ ?_
              refine tk 45 140 (bz 69 2955487255461887) HT_ HW_ hHeld ?_
              refine tk 47 142 (bz 69 3096224743817215) HT_ HW_ hHeld ?_
              refine tk 50 145 (bz 69 4222124650659839) HT_ HW_ hHeld ?_
              refine tk 52 147 (bz 69 8725724278030335) HT_ HW_ hHeld ?_
              refine on 48 143 (bz 69 9007199254740991) HT_ (fun K hK => ?_)
              refine goes_ Try.func17 (by kernel_rfl) rfl #[.agg #[.int .u64 a0_0,.int .i64 a0_1,.int .i64 a0_2],.int .u64 a0_5] (by rfl) rfl rfl (by (try simp only [List.map_toArray,List.map_cons,List.map_nil]);first|done|rfl|(simp only [List.length_drop,List.length_take];rfl)) ?_
              with_reducible refine (shamir_Constant.calls kj10 a0_0 a0_1 a0_2 a0_5 t347 _ A61.out).mono ?_
              rintro e w88 ⟨v348,rfl,ho0,hb⟩
              refine ⟨_,rfl,?_⟩
              have n0_ := am (Kd.N_elder' (rn HO325) (Kd.S_base ho0) hb)
              have n1_ := am (Kd.S_elder' (by (with_reducible repeat (first|apply Kd.S_alloc|apply Kd.S_drewN|apply Kd.S_drew));exact HO328.out) (Kd.S_base ho0) hb)
              have n2_ := am (Kd.S_elder' (by (with_reducible repeat (first|apply Kd.S_alloc|apply Kd.S_drewN|apply Kd.S_drew));exact HO331.out) (Kd.S_base ho0) hb)
              have n3_ := am (Kd.S_elder' (by (with_reducible repeat (first|apply Kd.S_alloc|apply Kd.S_drewN|apply Kd.S_drew));exact HO335.out) (Kd.S_base ho0) hb)
              have n4_ := am (Kd.S_elder' (by (with_reducible repeat (first|apply Kd.S_alloc|apply Kd.S_drewN|apply Kd.S_drew));exact HO338.out) (Kd.S_base ho0) hb)
              have n5_ := am (Kd.S_elder' (by (with_reducible repeat (first|apply Kd.S_alloc|apply Kd.S_drewN|apply Kd.S_drew));exact HO342.out) (Kd.S_base ho0) hb)
              have n6_ := am (Kd.S_elder' (by (with_reducible repeat (first|apply Kd.S_alloc|apply Kd.S_drewN|apply Kd.S_drew));exact HO345.out) (Kd.S_base ho0) hb)
              have n7_ := am (Kd.S_lower (Kd.S_new' (Kd.S_new' (Kd.S_new' (Kd.S_new' (Kd.S_new' (Kd.S_new' ho0 (Kd.S_lt (by (with_reducible repeat (first|apply Kd.S_alloc|apply Kd.S_drewN|apply Kd.S_drew));exact HO328.out))) (Kd.S_lt (by (with_reducible repeat (first|apply Kd.S_alloc|apply Kd.S_drewN|apply Kd.S_drew));exact HO331.out))) (Kd.S_lt (by (with_reducible repeat (first|apply Kd.S_alloc|apply Kd.S_drewN|apply Kd.S_drew));exact HO335.out))) (Kd.S_lt (by (with_reducible repeat (first|apply Kd.S_alloc|apply Kd.S_drewN|apply Kd.S_drew));exact HO338.out))) (Kd.S_lt (by (with_reducible repeat (first|apply Kd.S_alloc|apply Kd.S_drewN|apply Kd.S_drew));exact HO342.out))) (Kd.S_lt (by (with_reducible repeat (first|apply Kd.S_alloc|apply Kd.S_drewN|apply Kd.S_drew));exact HO345.out))) (below_size (bg HB GE317)))
              have n8_ := am (kb BK317 hb)
              have n9_ := am (below_step (bg HB GE317) hb)
              clear HO325
              clear HO328
              clear HO331
              clear HO335
              clear HO338
              clear HO342
              clear HO345
              clear BK317
              clear HB
              have HO325 := n0_
              have HO328 := n1_
              have HO331 := n2_
              have HO335 := n3_
              have HO338 := n4_
              have HO342 := n5_
              have HO345 := n6_
              have HO349 := n7_
              have BK317 := n8_
              have HB := n9_
              clear n0_ n1_ n2_ n3_ n4_ n5_ n6_ n7_ n8_ n9_
              (try clear hb)
              (try clear hb2)
              (try clear hk)
              (try clear hi)
              (try clear ho0)
              refine hK.out _ _ ⟨(blk_cell BK317.out 0).trans rfl,(blk_cell BK317.out 1).trans rfl,(blk_cell BK317.out 2).trans rfl,(blk_cell BK317.out 3).trans rfl,(blk_cell BK317.out 4).trans rfl,(blk_cell BK317.out 5).trans rfl⟩ (fun hHeld => ?_)
              clear hK K
              refine nm 143 ?_
              refine on 53 148 (bz 69 18014398509481983) HT_ (fun K hK => ?_)
              refine goes_ Try.func18 (by kernel_rfl) rfl #[.agg #[.int .u64 a0_0,.int .i64 a0_1,.int .i64 a0_2],.int .u64 a0_5] (by rfl) rfl rfl (by (try simp only [List.map_toArray,List.map_cons,List.map_nil]);first|done|rfl|(simp only [List.length_drop,List.length_take];rfl)) ?_
              with_reducible refine (privityref09_Constant.calls kj10 a0_0 a0_1 a0_2 a0_5 t350 _ A62.out).mono ?_
              rintro e w89 ⟨v351,rfl,ho0,hb⟩
              refine ⟨_,rfl,?_⟩
              have n0_ := am (Kd.N_elder' (rn HO325) (Kd.S_base ho0) hb)
              have n1_ := am (Kd.S_elder' (by (with_reducible repeat (first|apply Kd.S_alloc|apply Kd.S_drewN|apply Kd.S_drew));exact HO328.out) (Kd.S_base ho0) hb)
              have n2_ := am (Kd.S_elder' (by (with_reducible repeat (first|apply Kd.S_alloc|apply Kd.S_drewN|apply Kd.S_drew));exact HO331.out) (Kd.S_base ho0) hb)
              have n3_ := am (Kd.S_elder' (by (with_reducible repeat (first|apply Kd.S_alloc|apply Kd.S_drewN|apply Kd.S_drew));exact HO335.out) (Kd.S_base ho0) hb)
              have n4_ := am (Kd.S_elder' (by (with_reducible repeat (first|apply Kd.S_alloc|apply Kd.S_drewN|apply Kd.S_drew));exact HO338.out) (Kd.S_base ho0) hb)
              have n5_ := am (Kd.S_elder' (by (with_reducible repeat (first|apply Kd.S_alloc|apply Kd.S_drewN|apply Kd.S_drew));exact HO342.out) (Kd.S_base ho0) hb)
              have n6_ := am (Kd.S_elder' (by (with_reducible repeat (first|apply Kd.S_alloc|apply Kd.S_drewN|apply Kd.S_drew));exact HO345.out) (Kd.S_base ho0) hb)
              have n7_ := am (Kd.S_elder' (by (with_reducible repeat (first|apply Kd.S_alloc|apply Kd.S_drewN|apply Kd.S_drew));exact HO349.out) (Kd.S_base ho0) hb)
              have n8_ := am (Kd.S_lower (Kd.S_new' (Kd.S_new' (Kd.S_new' (Kd.S_new' (Kd.S_new' (Kd.S_new' (Kd.S_new' ho0 (Kd.S_lt (by (with_reducible repeat (first|apply Kd.S_alloc|apply Kd.S_drewN|apply Kd.S_drew));exact HO328.out))) (Kd.S_lt (by (with_reducible repeat (first|apply Kd.S_alloc|apply Kd.S_drewN|apply Kd.S_drew));exact HO331.out))) (Kd.S_lt (by (with_reducible repeat (first|apply Kd.S_alloc|apply Kd.S_drewN|apply Kd.S_drew));exact HO335.out))) (Kd.S_lt (by (with_reducible repeat (first|apply Kd.S_alloc|apply Kd.S_drewN|apply Kd.S_drew));exact HO338.out))) (Kd.S_lt (by (with_reducible repeat (first|apply Kd.S_alloc|apply Kd.S_drewN|apply Kd.S_drew));exact HO342.out))) (Kd.S_lt (by (with_reducible repeat (first|apply Kd.S_alloc|apply Kd.S_drewN|apply Kd.S_drew));exact HO345.out))) (Kd.S_lt (by (with_reducible repeat (first|apply Kd.S_alloc|apply Kd.S_drewN|apply Kd.S_drew));exact HO349.out))) (below_size (bg HB GE317)))
              have n9_ := am (kb BK317 hb)
              have n10_ := am (below_step (bg HB GE317) hb)
              clear HO325
              clear HO328
              clear HO331
              clear HO335
              clear HO338
              clear HO342
              clear HO345
              clear HO349
              clear BK317
              clear HB
              have HO325 := n0_
              have HO328 := n1_
              have HO331 := n2_
              have HO335 := n3_
              have HO338 := n4_
              have HO342 := n5_
              have HO345 := n6_
              have HO349 := n7_
              have HO352 := n8_
              have BK317 := n9_
              have HB := n10_
              clear n0_ n1_ n2_ n3_ n4_ n5_ n6_ n7_ n8_ n9_ n10_
              (try clear hb)
              (try clear hb2)
              (try clear hk)
              (try clear hi)
              (try clear ho0)
              obtain ⟨Ao90,co90,eo90⟩ := Kd.S_slice HO349.out
              (first|subst eo90|(injection eo90 with f1_ f2_ f3_;have f4_ := f1_.symm;have f5_ := f3_.symm;clear f1_ f2_ f3_;subst f4_;subst f5_))
              obtain ⟨Ao91,co91,eo91⟩ := Kd.S_slice HO352.out
              (first|subst eo91|(injection eo91 with f1_ f2_ f3_;have f4_ := f1_.symm;have f5_ := f3_.symm;clear f1_ f2_ f3_;subst f4_;subst f5_))
              refine hK.out _ _ ⟨(blk_cell BK317.out 0).trans rfl,(blk_cell BK317.out 1).trans rfl,(blk_cell BK317.out 2).trans rfl,(blk_cell BK317.out 3).trans rfl,(blk_cell BK317.out 4).trans rfl,(blk_cell BK317.out 5).trans rfl⟩ (fun hHeld => ?_)
              clear hK K
              refine nm 148 ?_
              refine on 54 149 (bz 69 36028797018963967) HT_ (fun K hK => ?_)
              refine goes_ Try.func10 (by kernel_rfl) rfl #[.slice Ao90 t347.length co90,.slice Ao91 t350.length co91] (by rfl) rfl rfl (by (try simp only [List.map_toArray,List.map_cons,List.map_nil]);first|done|rfl|(simp only [List.length_drop,List.length_take];rfl)) ?_
              with_reducible refine (privityref09_Same.calls kj10 _ _ t347 _ _ t350 true _ ?side1 ?side2 ?side3 ?side4 A63.out).mono ?_
              (case side1 => repeat (first|exact (Kd.S_reads' HO349.out).2.2|(with_reducible refine Kd.C_alloc ?_ _)|(with_reducible refine Kd.C_drewN ?_ _)|(with_reducible refine Kd.C_drew ?_)))
              (case side2 => exact (Kd.S_reads' HO349.out).2.1)
              (case side3 => repeat (first|exact (Kd.S_reads' HO352.out).2.2|(with_reducible refine Kd.C_alloc ?_ _)|(with_reducible refine Kd.C_drewN ?_ _)|(with_reducible refine Kd.C_drew ?_)))
              (case side4 => exact (Kd.S_reads' HO352.out).2.1)
              rintro e w' ⟨rfl,⟨nd,rfl⟩⟩
              refine ⟨_,rfl,?_⟩
              obtain ⟨Ao92,co92,eo92⟩ := Kd.N_slice HO325.out
              (first|subst eo92|(injection eo92 with f1_ f2_ f3_;have f4_ := f1_.symm;have f5_ := f3_.symm;clear f1_ f2_ f3_;subst f4_;subst f5_))
              refine hK.out _ _ ⟨(blk_cell BK317.out 0).trans rfl,(blk_cell BK317.out 1).trans rfl,(blk_cell BK317.out 2).trans rfl,(blk_cell BK317.out 3).trans rfl,(blk_cell BK317.out 4).trans rfl,(blk_cell BK317.out 5).trans rfl⟩ (fun hHeld => ?_)
              clear hK K
              refine nm 149 ?_
              refine pk 55 150 (bz 69 72057594037927935) HT_ ?_
              refine pk 56 151 (bz 69 144115188075855871) HT_ ?_
              refine pk 57 152 (bz 69 288230376151711743) HT_ ?_
              refine pk 59 154 (bz 69 864691128455135231) HT_ ?_
              refine on 58 153 (bz 69 1152921504606846975) HT_ (fun K hK => ?_)
              refine goes_ Try.func20 (by kernel_rfl) rfl #[.slice Ao92 y323.length co92] (by rfl) rfl rfl (by (try simp only [List.map_toArray,List.map_cons,List.map_nil]);first|done|rfl|(simp only [List.length_drop,List.length_take];rfl)) ?_
              with_reducible refine (shamir_LocalShares.calls kj10 _ _ y323 t354 _ ?side1 ?side2 A65.out).mono ?_
              (case side1 => exact cn HO325)
              (case side2 => exact (Kd.N_reads' HO325.out).2.1)
              rintro e w93 ⟨v355,rfl,ho0,hb⟩
              refine ⟨_,rfl,?_⟩
              have n0_ := am (Kd.N_elder' (rn HO325) (Kd.S_base ho0) hb)
              have n1_ := am (Kd.S_elder' (by (with_reducible repeat (first|apply Kd.S_alloc|apply Kd.S_drewN|apply Kd.S_drew));exact HO328.out) (Kd.S_base ho0) hb)
              have n2_ := am (Kd.S_elder' (by (with_reducible repeat (first|apply Kd.S_alloc|apply Kd.S_drewN|apply Kd.S_drew));exact HO331.out) (Kd.S_base ho0) hb)
              have n3_ := am (Kd.S_elder' (by (with_reducible repeat (first|apply Kd.S_alloc|apply Kd.S_drewN|apply Kd.S_drew));exact HO335.out) (Kd.S_base ho0) hb)
              have n4_ := am (Kd.S_elder' (by (with_reducible repeat (first|apply Kd.S_alloc|apply Kd.S_drewN|apply Kd.S_drew));exact HO338.out) (Kd.S_base ho0) hb)
              have n5_ := am (Kd.S_elder' (by (with_reducible repeat (first|apply Kd.S_alloc|apply Kd.S_drewN|apply Kd.S_drew));exact HO342.out) (Kd.S_base ho0) hb)
              have n6_ := am (Kd.S_elder' (by (with_reducible repeat (first|apply Kd.S_alloc|apply Kd.S_drewN|apply Kd.S_drew));exact HO345.out) (Kd.S_base ho0) hb)
              have n7_ := am (Kd.S_elder' (by (with_reducible repeat (first|apply Kd.S_alloc|apply Kd.S_drewN|apply Kd.S_drew));exact HO349.out) (Kd.S_base ho0) hb)
              have n8_ := am (Kd.S_elder' (by (with_reducible repeat (first|apply Kd.S_alloc|apply Kd.S_drewN|apply Kd.S_drew));exact HO352.out) (Kd.S_base ho0) hb)
              have n9_ := am (Kd.S_lower (Kd.S_new' (Kd.S_new' (Kd.S_new' (Kd.S_new' (Kd.S_new' (Kd.S_new' (Kd.S_new' (Kd.S_new' ho0 (Kd.S_lt (by (with_reducible repeat (first|apply Kd.S_alloc|apply Kd.S_drewN|apply Kd.S_drew));exact HO328.out))) (Kd.S_lt (by (with_reducible repeat (first|apply Kd.S_alloc|apply Kd.S_drewN|apply Kd.S_drew));exact HO331.out))) (Kd.S_lt (by (with_reducible repeat (first|apply Kd.S_alloc|apply Kd.S_drewN|apply Kd.S_drew));exact HO335.out))) (Kd.S_lt (by (with_reducible repeat (first|apply Kd.S_alloc|apply Kd.S_drewN|apply Kd.S_drew));exact HO338.out))) (Kd.S_lt (by (with_reducible repeat (first|apply Kd.S_alloc|apply Kd.S_drewN|apply Kd.S_drew));exact HO342.out))) (Kd.S_lt (by (with_reducible repeat (first|apply Kd.S_alloc|apply Kd.S_drewN|apply Kd.S_drew));exact HO345.out))) (Kd.S_lt (by (with_reducible repeat (first|apply Kd.S_alloc|apply Kd.S_drewN|apply Kd.S_drew));exact HO349.out))) (Kd.S_lt (by (with_reducible repeat (first|apply Kd.S_alloc|apply Kd.S_drewN|apply Kd.S_drew));exact HO352.out))) (below_size (bg HB GE317)))
              have n10_ := am (kb BK317 hb)
              have n11_ := am (below_step (bg HB GE317) hb)
              clear HO325
              clear HO328
              clear HO331
              clear HO335
              clear HO338
              clear HO342
              clear HO345
              clear HO349
              clear HO352
              clear BK317
              clear HB
              have HO325 := n0_
              have HO328 := n1_
              have HO331 := n2_
              have HO335 := n3_
              have HO338 := n4_
              have HO342 := n5_
              have HO345 := n6_
              have HO349 := n7_
              have HO352 := n8_
              have HO356 := n9_
              have BK317 := n10_
              have HB := n11_
              clear n0_ n1_ n2_ n3_ n4_ n5_ n6_ n7_ n8_ n9_ n10_ n11_
              (try clear hb)
              (try clear hb2)
              (try clear hk)
              (try clear hi)
              (try clear ho0)
              refine hK.out _ _ ⟨(blk_cell BK317.out 0).trans rfl,(blk_cell BK317.out 1).trans rfl,(blk_cell BK317.out 2).trans rfl,(blk_cell BK317.out 3).trans rfl,(blk_cell BK317.out 4).trans rfl,(blk_cell BK317.out 5).trans rfl⟩ (fun hHeld => ?_)
              clear hK K
              refine nm 153 ?_
              refine on 60 155 (bz 69 2305843009213693951) HT_ (fun K hK => ?_)
              refine goes_ Try.func21 (by kernel_rfl) rfl #[.slice Ao92 y323.length co92] (by rfl) rfl rfl (by (try simp only [List.map_toArray,List.map_cons,List.map_nil]);first|done|rfl|(simp only [List.length_drop,List.length_take];rfl)) ?_
              with_reducible refine (privityref09_LocalShares.calls kj10 _ _ y323 t357 _ ?side1 ?side2 A66.out).mono ?_
              (case side1 => exact cn HO325)
              (case side2 => exact (Kd.N_reads' HO325.out).2.1)
              rintro e w94 ⟨v358,rfl,ho0,hb⟩
              refine ⟨_,rfl,?_⟩
              have n0_ := am (Kd.N_elder' (rn HO325) (Kd.S_base ho0) hb)
              have n1_ := am (Kd.S_elder' (by (with_reducible repeat (first|apply Kd.S_alloc|apply Kd.S_drewN|apply Kd.S_drew));exact HO328.out) (Kd.S_base ho0) hb)
              have n2_ := am (Kd.S_elder' (by (with_reducible repeat (first|apply Kd.S_alloc|apply Kd.S_drewN|apply Kd.S_drew));exact HO331.out) (Kd.S_base ho0) hb)
              have n3_ := am (Kd.S_elder' (by (with_reducible repeat (first|apply Kd.S_alloc|apply Kd.S_drewN|apply Kd.S_drew));exact HO335.out) (Kd.S_base ho0) hb)
              have n4_ := am (Kd.S_elder' (by (with_reducible repeat (first|apply Kd.S_alloc|apply Kd.S_drewN|apply Kd.S_drew));exact HO338.out) (Kd.S_base ho0) hb)
              have n5_ := am (Kd.S_elder' (by (with_reducible repeat (first|apply Kd.S_alloc|apply Kd.S_drewN|apply Kd.S_drew));exact HO342.out) (Kd.S_base ho0) hb)
              have n6_ := am (Kd.S_elder' (by (with_reducible repeat (first|apply Kd.S_alloc|apply Kd.S_drewN|apply Kd.S_drew));exact HO345.out) (Kd.S_base ho0) hb)
              have n7_ := am (Kd.S_elder' (by (with_reducible repeat (first|apply Kd.S_alloc|apply Kd.S_drewN|apply Kd.S_drew));exact HO349.out) (Kd.S_base ho0) hb)
              have n8_ := am (Kd.S_elder' (by (with_reducible repeat (first|apply Kd.S_alloc|apply Kd.S_drewN|apply Kd.S_drew));exact HO352.out) (Kd.S_base ho0) hb)
              have n9_ := am (Kd.S_elder' (by (with_reducible repeat (first|apply Kd.S_alloc|apply Kd.S_drewN|apply Kd.S_drew));exact HO356.out) (Kd.S_base ho0) hb)
              have n10_ := am (Kd.S_lower (Kd.S_new' (Kd.S_new' (Kd.S_new' (Kd.S_new' (Kd.S_new' (Kd.S_new' (Kd.S_new' (Kd.S_new' (Kd.S_new' ho0 (Kd.S_lt (by (with_reducible repeat (first|apply Kd.S_alloc|apply Kd.S_drewN|apply Kd.S_drew));exact HO328.out))) (Kd.S_lt (by (with_reducible repeat (first|apply Kd.S_alloc|apply Kd.S_drewN|apply Kd.S_drew));exact HO331.out))) (Kd.S_lt (by (with_reducible repeat (first|apply Kd.S_alloc|apply Kd.S_drewN|apply Kd.S_drew));exact HO335.out))) (Kd.S_lt (by (with_reducible repeat (first|apply Kd.S_alloc|apply Kd.S_drewN|apply Kd.S_drew));exact HO338.out))) (Kd.S_lt (by (with_reducible repeat (first|apply Kd.S_alloc|apply Kd.S_drewN|apply Kd.S_drew));exact HO342.out))) (Kd.S_lt (by (with_reducible repeat (first|apply Kd.S_alloc|apply Kd.S_drewN|apply Kd.S_drew));exact HO345.out))) (Kd.S_lt (by (with_reducible repeat (first|apply Kd.S_alloc|apply Kd.S_drewN|apply Kd.S_drew));exact HO349.out))) (Kd.S_lt (by (with_reducible repeat (first|apply Kd.S_alloc|apply Kd.S_drewN|apply Kd.S_drew));exact HO352.out))) (Kd.S_lt (by (with_reducible repeat (first|apply Kd.S_alloc|apply Kd.S_drewN|apply Kd.S_drew));exact HO356.out))) (below_size (bg HB GE317)))
              have n11_ := am (kb BK317 hb)
              have n12_ := am (below_step (bg HB GE317) hb)
              clear HO325
              clear HO328
              clear HO331
              clear HO335
              clear HO338
              clear HO342
              clear HO345
              clear HO349
              clear HO352
              clear HO356
              clear BK317
              clear HB
              have HO325 := n0_
              have HO328 := n1_
              have HO331 := n2_
              have HO335 := n3_
              have HO338 := n4_
              have HO342 := n5_
              have HO345 := n6_
              have HO349 := n7_
              have HO352 := n8_
              have HO356 := n9_
              have HO359 := n10_
              have BK317 := n11_
              have HB := n12_
              clear n0_ n1_ n2_ n3_ n4_ n5_ n6_ n7_ n8_ n9_ n10_ n11_ n12_
              (try clear hb)
              (try clear hb2)
              (try clear hk)
              (try clear hi)
              (try clear ho0)
              obtain ⟨Ao95,co95,eo95⟩ := Kd.S_slice HO356.out
              (first|subst eo95|(injection eo95 with f1_ f2_ f3_;have f4_ := f1_.symm;have f5_ := f3_.symm;clear f1_ f2_ f3_;subst f4_;subst f5_))
              obtain ⟨Ao96,co96,eo96⟩ := Kd.S_slice HO359.out
              (first|subst eo96|(injection eo96 with f1_ f2_ f3_;have f4_ := f1_.symm;have f5_ := f3_.symm;clear f1_ f2_ f3_;subst f4_;subst f5_))
              refine hK.out _ _ ⟨(blk_cell BK317.out 0).trans rfl,(blk_cell BK317.out 1).trans rfl,(blk_cell BK317.out 2).trans rfl,(blk_cell BK317.out 3).trans rfl,(blk_cell BK317.out 4).trans rfl,(blk_cell BK317.out 5).trans rfl⟩ (fun hHeld => ?_)
              clear hK K
              refine nm 155 ?_
              refine on 61 156 (bz 69 4611686018427387903) HT_ (fun K hK => ?_)
              refine goes_ Try.func19 (by kernel_rfl) rfl #[.slice Ao95 t354.length co95,.slice Ao96 t357.length co96] (by rfl) rfl rfl (by (try simp only [List.map_toArray,List.map_cons,List.map_nil]);first|done|rfl|(simp only [List.length_drop,List.length_take];rfl)) ?_
              with_reducible refine (privityref05_SameRows.calls kj10 _ _ t354 _ _ t357 true _ ?side1 ?side2 ?side3 ?side4 A67.out).mono ?_
              (case side1 => repeat (first|exact (Kd.S_reads' HO356.out).2.2|(with_reducible refine Kd.C_alloc ?_ _)|(with_reducible refine Kd.C_drewN ?_ _)|(with_reducible refine Kd.C_drew ?_)))
              (case side2 => exact (Kd.S_reads' HO356.out).2.1)
              (case side3 => repeat (first|exact (Kd.S_reads' HO359.out).2.2|(with_reducible refine Kd.C_alloc ?_ _)|(with_reducible refine Kd.C_drewN ?_ _)|(with_reducible refine Kd.C_drew ?_)))
              (case side4 => exact (Kd.S_reads' HO359.out).2.1)
              rintro e w' ⟨rfl,⟨nd,rfl⟩⟩
              refine ⟨_,rfl,?_⟩
              refine hK.out _ _ ⟨(blk_cell BK317.out 0).trans rfl,(blk_cell BK317.out 1).trans rfl,(blk_cell BK317.out 2).trans rfl,(blk_cell BK317.out 3).trans rfl,(blk_cell BK317.out 4).trans rfl,(blk_cell BK317.out 5).trans rfl⟩ (fun hHeld => ?_)
              clear hK K
              refine nm 156 ?_
              refine pk 62 157 (bz 69 9223372036854775807) HT_ ?_
              refine pk 63 158 (bz 69 18446744073709551615) HT_ ?_
              refine on 64 159 (bz 69 36893488147419103231) HT_ (fun K hK => ?_)
              refine goes_ Try.func20 (by kernel_rfl) rfl #[.slice none 0 0] (by rfl) rfl rfl (by (try simp only [List.map_toArray,List.map_cons,List.map_nil]);first|done|rfl|(simp only [List.length_drop,List.length_take];rfl)) ?_
              refine (shamir_LocalShares.calls kj10 _ _ ([] : List (List (List Int))) t361 _ ?side1 ?side2 A69.out).mono ?_
              (case side1 => exact Kd.C_nil _ _)
              (case side2 => exact Nat.le_refl _)
              rintro e w97 ⟨v362,rfl,ho0,hb⟩
              refine ⟨_,rfl,?_⟩
              have n0_ := am (Kd.N_elder' (rn HO325) (Kd.S_base ho0) hb)
              have n1_ := am (Kd.S_elder' (by (with_reducible repeat (first|apply Kd.S_alloc|apply Kd.S_drewN|apply Kd.S_drew));exact HO328.out) (Kd.S_base ho0) hb)
              have n2_ := am (Kd.S_elder' (by (with_reducible repeat (first|apply Kd.S_alloc|apply Kd.S_drewN|apply Kd.S_drew));exact HO331.out) (Kd.S_base ho0) hb)
              have n3_ := am (Kd.S_elder' (by (with_reducible repeat (first|apply Kd.S_alloc|apply Kd.S_drewN|apply Kd.S_drew));exact HO335.out) (Kd.S_base ho0) hb)
              have n4_ := am (Kd.S_elder' (by (with_reducible repeat (first|apply Kd.S_alloc|apply Kd.S_drewN|apply Kd.S_drew));exact HO338.out) (Kd.S_base ho0) hb)
              have n5_ := am (Kd.S_elder' (by (with_reducible repeat (first|apply Kd.S_alloc|apply Kd.S_drewN|apply Kd.S_drew));exact HO342.out) (Kd.S_base ho0) hb)
              have n6_ := am (Kd.S_elder' (by (with_reducible repeat (first|apply Kd.S_alloc|apply Kd.S_drewN|apply Kd.S_drew));exact HO345.out) (Kd.S_base ho0) hb)
              have n7_ := am (Kd.S_elder' (by (with_reducible repeat (first|apply Kd.S_alloc|apply Kd.S_drewN|apply Kd.S_drew));exact HO349.out) (Kd.S_base ho0) hb)
              have n8_ := am (Kd.S_elder' (by (with_reducible repeat (first|apply Kd.S_alloc|apply Kd.S_drewN|apply Kd.S_drew));exact HO352.out) (Kd.S_base ho0) hb)
              have n9_ := am (Kd.S_elder' (by (with_reducible repeat (first|apply Kd.S_alloc|apply Kd.S_drewN|apply Kd.S_drew));exact HO356.out) (Kd.S_base ho0) hb)
              have n10_ := am (Kd.S_elder' (by (with_reducible repeat (first|apply Kd.S_alloc|apply Kd.S_drewN|apply Kd.S_drew));exact HO359.out) (Kd.S_base ho0) hb)
              have n11_ := am (Kd.S_lower (Kd.S_new' (Kd.S_new' (Kd.S_new' (Kd.S_new' (Kd.S_new' (Kd.S_new' (Kd.S_new' (Kd.S_new' (Kd.S_new' (Kd.S_new' ho0 (Kd.S_lt (by (with_reducible repeat (first|apply Kd.S_alloc|apply Kd.S_drewN|apply Kd.S_drew));exact HO328.out))) (Kd.S_lt (by (with_reducible repeat (first|apply Kd.S_alloc|apply Kd.S_drewN|apply Kd.S_drew));exact HO331.out))) (Kd.S_lt (by (with_reducible repeat (first|apply Kd.S_alloc|apply Kd.S_drewN|apply Kd.S_drew));exact HO335.out))) (Kd.S_lt (by (with_reducible repeat (first|apply Kd.S_alloc|apply Kd.S_drewN|apply Kd.S_drew));exact HO338.out))) (Kd.S_lt (by (with_reducible repeat (first|apply Kd.S_alloc|apply Kd.S_drewN|apply Kd.S_drew));exact HO342.out))) (Kd.S_lt (by (with_reducible repeat (first|apply Kd.S_alloc|apply Kd.S_drewN|apply Kd.S_drew));exact HO345.out))) (Kd.S_lt (by (with_reducible repeat (first|apply Kd.S_alloc|apply Kd.S_drewN|apply Kd.S_drew));exact HO349.out))) (Kd.S_lt (by (with_reducible repeat (first|apply Kd.S_alloc|apply Kd.S_drewN|apply Kd.S_drew));exact HO352.out))) (Kd.S_lt (by (with_reducible repeat (first|apply Kd.S_alloc|apply Kd.S_drewN|apply Kd.S_drew));exact HO356.out))) (Kd.S_lt (by (with_reducible repeat (first|apply Kd.S_alloc|apply Kd.S_drewN|apply Kd.S_drew));exact HO359.out))) (below_size (bg HB GE317)))
              have n12_ := am (kb BK317 hb)
              have n13_ := am (below_step (bg HB GE317) hb)
              clear HO325
              clear HO328
              clear HO331
              clear HO335
              clear HO338
              clear HO342
              clear HO345
              clear HO349
              clear HO352
              clear HO356
              clear HO359
              clear BK317
              clear HB
              have HO325 := n0_
              have HO328 := n1_
              have HO331 := n2_
              have HO335 := n3_
              have HO338 := n4_
              have HO342 := n5_
              have HO345 := n6_
              have HO349 := n7_
              have HO352 := n8_
              have HO356 := n9_
              have HO359 := n10_
              have HO363 := n11_
              have BK317 := n12_
              have HB := n13_
              clear n0_ n1_ n2_ n3_ n4_ n5_ n6_ n7_ n8_ n9_ n10_ n11_ n12_ n13_
              (try clear hb)
              (try clear hb2)
              (try clear hk)
              (try clear hi)
              (try clear ho0)
              obtain ⟨Ao98,co98,eo98⟩ := Kd.S_slice HO363.out
              (first|subst eo98|(injection eo98 with f1_ f2_ f3_;have f4_ := f1_.symm;have f5_ := f3_.symm;clear f1_ f2_ f3_;subst f4_;subst f5_))
              refine hK.out _ _ ⟨(blk_cell BK317.out 0).trans rfl,(blk_cell BK317.out 1).trans rfl,(blk_cell BK317.out 2).trans rfl,(blk_cell BK317.out 3).trans rfl,(blk_cell BK317.out 4).trans rfl,(blk_cell BK317.out 5).trans rfl⟩ (fun hHeld => ?_)
              clear hK K
              refine nm 159 ?_
              refine pk 65 160 (bz 69 73786976294838206463) HT_ ?_
              refine pk 66 161 (bz 69 147573952589676412927) HT_ ?_
              refine pk 67 162 (bz 69 295147905179352825855) HT_ ?_
              refine pk 68 2 (bz 69 590295810358705651711) HT_ ?_
              refine done_ (done_of HT_.out (by kernel_rfl)) ?_
              try go_wp2
              go_ret
              exact ⟨by first|rfl|(simp [errW_none,errW_some] <;> rfl)|(simp [*,errW_none,errW_some] <;> rfl),bg HB GE317⟩
             ·replace c68 := Bool.eq_false_iff.mpr c68
              subst c68
              rw [if_neg (show ¬ (false = true) by decide)] at H
              exact absurd (Option.some.inj H) (by rw [HRT_.out];simp)
            ·replace c64 := Bool.eq_false_iff.mpr c64
             subst c64
             rw [if_neg (show ¬ (false = true) by decide)] at H
             exact absurd (Option.some.inj H) (by rw [HRT_.out];simp)
           ·replace c60 := Bool.eq_false_iff.mpr c60
            subst c60
            rw [if_neg (show ¬ (false = true) by decide)] at H
            exact absurd (Option.some.inj H) (by rw [HRT_.out];simp)
          ·replace c56 := Bool.eq_false_iff.mpr c56
           subst c56
           rw [if_neg (show ¬ (false = true) by decide)] at H
           exact absurd (Option.some.inj H) (by rw [HRT_.out];simp)
         ·replace c52 := Bool.eq_false_iff.mpr c52
          subst c52
          rw [if_neg (show ¬ (false = true) by decide)] at H
          exact absurd (Option.some.inj H) (by rw [HRT_.out];simp)
        ·replace c48 := Bool.eq_false_iff.mpr c48
         subst c48
         rw [if_neg (show ¬ (false = true) by decide)] at H
         obtain rfl := Option.some.inj H
         have hcz190_0 := bc BK317 0
         have hcz190_1 := bc BK317 1
         have hcz190_2 := bc BK317 2
         have hcz190_3 := bc BK317 3
         have hcz190_4 := bc BK317 4
         have hcz190_5 := bc BK317 5
         have hfz190_0 := bf BK317 0
         have hfz190_1 := bf BK317 1
         have hfz190_2 := bf BK317 2
         have hfz190_3 := bf BK317 3
         have hfz190_4 := bf BK317 4
         have hfz190_5 := bf BK317 5
         go_wp2_with (first|((with_reducible refine gate_callee (f := 9) rfl ?_);refine goesL_ (some 83) rfl rfl Try.func9 (by kernel_rfl) rfl #[.agg #[.int .u64 a0_0,.int .i64 a0_1,.int .i64 a0_2]] rfl (by (try simp only [List.map_toArray,List.map_cons,List.map_nil]);first|done|rfl|(simp only [List.length_drop,List.length_take];rfl)) ?_;(with_reducible refine (privitylaw09_setups.calls a0_0 a0_1 a0_2 false _ A47.out).mono ?_);rintro e w191 ⟨rfl,hb⟩;refine ⟨_,rfl,?_⟩;have n0_ := am (kb BK317 hb);have n1_ := am (below_step (bg HB GE317) hb);clear BK317 HB;have BK317 := n0_;have HB := n1_;clear n0_ n1_;(try clear hb);(try clear hb2);(try clear hk);(try clear hi)))
         go_ret
         exact ⟨by first|rfl|(simp [errW_none,errW_some] <;> rfl)|(simp [*,errW_none,errW_some] <;> rfl),bg HB GE317⟩
 ·replace c3 := Bool.eq_false_iff.mpr c3
  subst c3
  rw [if_neg (show ¬ (false = true) by decide)] at H
  exact absurd (Option.some.inj H) (by rw [HRT_.out];simp)
end Go.Proofs.Ytjnkkfdlcbcelaa.Pr
end
section
namespace Go.Proofs.Ytjnkkfdlcbcelaa.E
open Go.RowKit Go.Proofs.Ytjnkkfdlcbcelaa.Pr Go.Proofs.Ytjnkkfdlcbcelaa.Hw Go.Proofs.YtjnkkfdlcbcelaaW.PrintWords Go.Proofs.YtjnkkfdlcbcelaaW.PrintLast Go.Proofs.YtjnkkfdlcbcelaaW.PrintMore
theorem wcap {n : Int} (h : 0 ≤ n) (h2 : n < 9223372036854775808) : wrap64 n = n := by unfold wrap64;omega
theorem wnat {n : Nat} (h : n < 1099511627776) : wrap64 ((n : Int) + 1) = ((n + 1 : Nat) : Int) := by rw [wcap (by omega) (by omega)];omega
theorem up {Q : Nat → Prop} {n : Nat} (hn : Q n) (hs : ∀ i,i < n → Q (i + 1) → Q i) : Q 0 := by
 have : ∀ d,d ≤ n → Q (n - d) := by
  intro d
  induction d with
  | zero => intro _;exact hn
  | succ d ih =>
   intro h
   have h1 := ih (by omega)
   refine hs (n - (d + 1)) (by omega) ?_
   rwa [show n - (d + 1) + 1 = n - d from by omega]
 have := this n (Nat.le_refl _)
 rwa [Nat.sub_self] at this
theorem exponent_eq (p : Int) : privityref01_Exponent.f 10 p = if p = 31 then some 5 else if p = 127 then some 7 else if p = 8191 then some 13 else if p = 131071 then some 17 else if p = 524287 then some 19 else if p = 2147483647 then some 31 else if p = 2305843009213693951 then some 61 else some 0 := by kernel_rfl
theorem supported_ev (p : Int) : Ev (fun k => privityref01_Supported.f k p) (supB p) := by
 refine Ev.of (fun k => privityref01_Supported.mono _ _) (k := 10) ?_
 show (privityref01_Exponent.f 10 p).bind _ = _
 rw [exponent_eq]
 unfold supB
 by_cases h1 : p = 31
 ·subst h1;rfl
 by_cases h2 : p = 127
 ·subst h2;rfl
 by_cases h3 : p = 8191
 ·subst h3;rfl
 by_cases h4 : p = 131071
 ·subst h4;rfl
 by_cases h5 : p = 524287
 ·subst h5;rfl
 by_cases h6 : p = 2147483647
 ·subst h6;rfl
 by_cases h7 : p = 2305843009213693951
 ·subst h7;rfl
 rw [if_neg h1,if_neg h2,if_neg h3,if_neg h4,if_neg h5,if_neg h6,if_neg h7]
 simp [h1,h2,h3,h4,h5,h6,h7]
theorem tmod_pos {a p : Int} (h : 0 ≤ a) : Int.tmod a p = a % p := Int.tmod_eq_emod_of_nonneg h
theorem radd_eq {p : Int} (hp : Supp p) {a b : Int} (ha : Res p a) (hb : Res p b) : privityref01_Add.f p a b = some ((a + b) % p) := by
 have := hp.bd
 obtain ⟨a0,a1⟩ := ha
 obtain ⟨b0,b1⟩ := hb
 unfold privityref01_Add.f
 rw [if_neg (by omega),wrapU_id (by omega) (by omega),tmod_pos (by omega)]
theorem rmul_l0 {p : Int} (hp : Supp p) : ∀ (n : Nat) (a out : Int),n < 18446744073709551616 → Res p a → Res p out → Ev (fun k => privityref01_Mul.l0 k p a n out) ((out + a * n) % p) := by
 intro n
 induction n using Nat.strongRecOn with
 | _ n ih =>
  intro a out hn ha ho
  have hb := hp.bd
  obtain ⟨a0,a1⟩ := ha
  obtain ⟨o0,o1⟩ := ho
  by_cases h0 : n = 0
  ·subst h0
   refine Ev.of (fun k => (privityref01_Mul.mono_l k) _ _ _ _) (k := 1) ?_
   simp only [privityref01_Mul.l0]
   rw [if_neg (by omega),Int.natCast_zero,Int.mul_zero,Int.add_zero,Int.emod_eq_of_lt o0 o1]
  ·have e1 : Int.tmod (n : Int) 2 = n % 2 := tmod_pos (by omega)
   have e2 : IntKind.u64.wrap (Int.tdiv (n : Int) 2) = ((n / 2 : Nat) : Int) := by
    rw [Int.tdiv_eq_ediv_of_nonneg (by omega),wrapU_id (by omega) (by omega)];omega
   have e3 : IntKind.u64.wrap (a + a) = a + a := wrapU_id (by omega) (by omega)
   have e4 : IntKind.u64.wrap (out + a) = out + a := wrapU_id (by omega) (by omega)
   have hN : (n : Int) = 2 * ((n / 2 : Nat) : Int) + n % 2 := by omega
   by_cases hodd : n % 2 = 1
   ·have h := ih (n / 2) (by omega) ((a + a) % p) ((out + a) % p) (by omega) (Res.mod hp _) (Res.mod hp _)
    refine Ev.step (fun k => ?_) (f := fun k => privityref01_Mul.l0 k p ((a + a) % p) ((n / 2 : Nat) : Int) ((out + a) % p)) ?_
    ·simp only [privityref01_Mul.l0]
     rw [if_pos (by omega),if_pos (by omega),if_neg (by omega),e2,e3,e4,tmod_pos (by omega),tmod_pos (by omega)]
    ·rw [show (out + a * n) % p = ((out + a) % p + (a + a) % p * ((n / 2 : Nat) : Int)) % p from ?_]
     ·exact h
     ·rw [addm (modm p (out + a)) (mulm (modm p (a + a)) rfl)]
      congr 1
      have : (n : Int) = 2 * ((n / 2 : Nat) : Int) + 1 := by omega
      generalize ((n / 2 : Nat) : Int) = m at *
      rw [this];grind
   ·have h := ih (n / 2) (by omega) ((a + a) % p) out (by omega) (Res.mod hp _) ⟨o0,o1⟩
    refine Ev.step (fun k => ?_) (f := fun k => privityref01_Mul.l0 k p ((a + a) % p) ((n / 2 : Nat) : Int) out) ?_
    ·simp only [privityref01_Mul.l0]
     rw [if_pos (by omega),if_neg (by omega),if_neg (by omega),e2,e3,tmod_pos (by omega)]
    ·rw [show (out + a * n) % p = (out + (a + a) % p * ((n / 2 : Nat) : Int)) % p from ?_]
     ·exact h
     ·rw [addm (a := out) rfl (mulm (modm p (a + a)) rfl)]
      congr 1
      have : (n : Int) = 2 * ((n / 2 : Nat) : Int) := by omega
      generalize ((n / 2 : Nat) : Int) = m at *
      rw [this];grind
theorem rmul_ev {p : Int} (hp : Supp p) {a b : Int} (ha : Res p a) (hb : Res p b) : Ev (fun k => privityref01_Mul.f k p a b) (a * b % p) := by
 have h := hp.bd
 have := rmul_l0 hp b.toNat a 0 (by have := hb.1;have := hb.2;omega) ha ⟨by omega,by omega⟩
 rw [Int.toNat_of_nonneg hb.1,Int.zero_add] at this
 exact this
end Go.Proofs.Ytjnkkfdlcbcelaa.E
end
section
namespace Go.Proofs.Ytjnkkfdlcbcelaa.E
open Go.RowKit Go.Proofs.Ytjnkkfdlcbcelaa.Pr Go.Proofs.Ytjnkkfdlcbcelaa.Hw Go.Proofs.Ytjnkkfdlcbcelaa.Pl Go.Proofs.YtjnkkfdlcbcelaaW.PrintWords Go.Proofs.YtjnkkfdlcbcelaaW.PrintLast Go.Proofs.YtjnkkfdlcbcelaaW.PrintMore
theorem wf64 {x : Int} (h : (Lit.int .u64 x).wf = true) : 0 ≤ x ∧ x < 18446744073709551616 := by
 have h1 : IntKind.u64.min ≤ x ∧ x ≤ IntKind.u64.max := by simpa [Lit.wf] using h
 have e1 : IntKind.u64.min = 0 := by decide
 have e2 : IntKind.u64.max = 18446744073709551615 := by decide
 omega
theorem ev_if {α : Type} {A : Nat → Option Bool} {b : Bool} (hA : Ev A b) {X Y : Nat → Option α} {r : α} (hx : b = true → Ev X r) (hy : b = false → Ev Y r) : Ev (fun k => (A k).bind fun t => if t = true then X k else Y k) r := by
 refine Ev.bind (f := fun k t => if t = true then X k else Y k) hA ?_
 cases b with
 | true => exact (hx rfl).congr fun k => if_pos rfl
 | false => exact (hy rfl).congr fun k => if_neg (by simp)
theorem ev_ite {α : Type} {c : Prop} [Decidable c] {X Y : Nat → Option α} {r : α} (hx : c → Ev X r) (hy : ¬ c → Ev Y r) : Ev (fun k => if c then X k else Y k) r := by
 by_cases h : c
 ·exact (hx h).congr fun k => if_pos h
 ·exact (hy h).congr fun k => if_neg h
theorem ev_now_bind {α β : Type} {x : Option α} {a : α} (hx : x = some a) {f : Nat → α → Option β} {r : β} (h : Ev (fun k => f k a) r) : Ev (fun k => x.bind (f k)) r := by subst hx;exact h
theorem awake09 : Ev (fun k => privitylaw09_awake.f k) true := Ev.of (fun k => privitylaw09_awake.mono _) (k := 40) (by kernel_rfl)
theorem getD_out (l : List Int) (j : Nat) (h : l.length ≤ j) : l.getD j 0 = 0 := by rw [List.getD_eq_getElem?_getD,List.getElem?_eq_none h];rfl
theorem res_getD {p : Int} (hp : Supp p) {l : List Int} (hl : ∀ x ∈ l,Res p x) (i : Nat) : Res p (l.getD i 0) := by
 have hb := hp.bd
 by_cases hi : i < l.length
 ·rw [Hw.getD_in _ _ hi];exact hl _ (List.getElem_mem hi)
 ·rw [getD_out l i (by omega)];exact ⟨Int.le_refl 0,by show (0 : Int) < p;omega⟩
theorem list_ext_getD {a b : List Int} (hl : a.length = b.length) (h : ∀ i,a.getD i 0 = b.getD i 0) : a = b := by
 apply List.ext_getElem hl
 intro i h1 h2
 have := h i
 rwa [Hw.getD_in _ _ h1,Hw.getD_in _ _ h2] at this
theorem allLoop {F : Nat → Int → Option Bool} {n : Nat} {Q : Nat → Prop} [DecidablePred Q] (hend : ∀ k,F (k + 1) (n : Int) = some true) (hyes : ∀ i,i < n → Q i → ∀ r,Ev (fun k => F k ((i + 1 : Nat) : Int)) r → Ev (fun k => F k (i : Int)) r)
  (hno : ∀ i,i < n → ¬ Q i → Ev (fun k => F k (i : Int)) false) (r : Bool) (hr : r = true ↔ ∀ i,i < n → Q i) : Ev (fun k => F k ((0 : Nat) : Int)) r := by
 have main : ∀ d i,i + d = n → ∀ r : Bool,(r = true ↔ ∀ j,i ≤ j → j < n → Q j) → Ev (fun k => F k (i : Int)) r := by
  intro d
  induction d with
  | zero =>
   intro i hi r hr
   have : i = n := by omega
   subst this
   have : r = true := hr.2 (fun j h1 h2 => by omega)
   subst this
   exact Ev.step (fun k => hend k) (Ev.now _)
  | succ d ih =>
   intro i hi r hr
   by_cases h : Q i
   ·refine hyes i (by omega) h r (ih (i + 1) (by omega) r ⟨fun e j h1 h2 => hr.1 e j (by omega) h2,fun e => hr.2 fun j h1 h2 => ?_⟩)
    by_cases e2 : j = i
    ·rw [e2];exact h
    ·exact e j (by omega) h2
   ·have : r = false := by
     cases r with
     | false => rfl
     | true => exact absurd (hr.1 rfl i (Nat.le_refl _) (by omega)) h
    subst this
    exact hno i (by omega) h
 exact main n 0 (by omega) r ⟨fun e j _ h2 => hr.1 e j h2,fun e => hr.2 fun j h => e j (Nat.zero_le _) h⟩
theorem same_ev (a b : List Int) (ha : a.length ≤ 1000000000) : Ev (fun k => privityref05_Same.f k a b) (decide (a = b)) := by
 by_cases hl : a.length = b.length
 ·have h := allLoop (F := fun k i => privityref05_Same.l0 k a b i) (n := a.length) (Q := fun i => a.getD i 0 = b.getD i 0) (fun k => ?_) (fun i hi hq r h => ?_) (fun i hi hq => ?_) (decide (a = b)) ?_
  ·refine h.congr fun k => ?_
   unfold privityref05_Same.f
   rw [if_pos (by omega)];rfl
  ·simp only [privityref05_Same.l0]
   rw [if_neg (by omega)]
  ·refine Ev.step (fun k => ?_) h
   simp only [privityref05_Same.l0]
   rw [if_pos (by omega),if_pos (by omega),if_pos (by omega),rd_nat,rd_nat,if_pos hq,wnat (by omega)]
  ·refine Ev.step (fun k => ?_) (Ev.now _)
   simp only [privityref05_Same.l0]
   rw [if_pos (by omega),if_pos (by omega),if_pos (by omega),rd_nat,rd_nat,if_neg hq]
  ·rw [decide_eq_true_iff]
   refine ⟨fun e i _ => by rw [e],fun h => list_ext_getD hl fun i => ?_⟩
   by_cases hi : i < a.length
   ·exact h i hi
   ·rw [getD_out a i (by omega),getD_out b i (by omega)]
 ·have : decide (a = b) = false := decide_eq_false fun e => hl (by rw [e])
  rw [this]
  refine Ev.congr (fun k => ?_) (Ev.now _)
  unfold privityref05_Same.f
  rw [if_neg (by omega)]
theorem rdL_nat (l : List (List Int)) (i : Nat) : rd_L1 l (i : Int) = l.getD i [] := by unfold rd_L1;rw [Int.toNat_natCast]
theorem sameRows_ev (a b : List (List Int)) (ha : a.length ≤ 1000000000) (hr : ∀ x ∈ a,x.length ≤ 1000000000) : Ev (fun k => privityref05_SameRows.f k a b) (decide (a = b)) := by
 by_cases hl : a.length = b.length
 ·have hs : ∀ i,i < a.length → Ev (fun k => privityref05_Same.f k (rd_L1 a (i : Int)) (rd_L1 b (i : Int))) (decide (a.getD i [] = b.getD i [])) := by
   intro i hi
   rw [rdL_nat,rdL_nat]
   refine same_ev _ _ (hr _ ?_)
   rw [List.getD_eq_getElem?_getD,List.getElem?_eq_getElem hi];exact List.getElem_mem hi
  have h := allLoop (F := fun k i => privityref05_SameRows.l0 k a b i) (n := a.length) (Q := fun i => a.getD i [] = b.getD i []) (fun k => ?_) (fun i hi hq r h => ?_) (fun i hi hq => ?_) (decide (a = b)) ?_
  ·refine h.congr fun k => ?_
   unfold privityref05_SameRows.f
   rw [if_pos (by omega)];rfl
  ·simp only [privityref05_SameRows.l0]
   rw [if_neg (by omega)]
  ·have h1 := hs i hi
   rw [decide_eq_true hq] at h1
   refine Ev.step (f := fun k => (privityref05_Same.f k (rd_L1 a (i : Int)) (rd_L1 b (i : Int))).bind fun t176 => (if t176 = true then (privityref05_SameRows.l0 k a b ((i + 1 : Nat) : Int)) else (some false))) (fun k => ?_) (Ev.bind h1 ?_)
   ·simp only [privityref05_SameRows.l0]
    rw [if_pos (by omega),if_pos (by omega),if_pos (by omega),wnat (by omega)]
   ·exact h.congr fun k => if_pos rfl
  ·have h1 := hs i hi
   rw [decide_eq_false hq] at h1
   refine Ev.step (f := fun k => (privityref05_Same.f k (rd_L1 a (i : Int)) (rd_L1 b (i : Int))).bind fun t176 => (if t176 = true then (privityref05_SameRows.l0 k a b ((i + 1 : Nat) : Int)) else (some false))) (fun k => ?_) (Ev.bind h1 ?_)
   ·simp only [privityref05_SameRows.l0]
    rw [if_pos (by omega),if_pos (by omega),if_pos (by omega),wnat (by omega)]
   ·exact (Ev.now false).congr fun k => if_neg (by simp)
  ·rw [decide_eq_true_iff]
   refine ⟨fun e i _ => by rw [e],fun h => List.ext_getElem hl fun i h1 h2 => ?_⟩
   have := h i h1
   rw [List.getD_eq_getElem?_getD,List.getD_eq_getElem?_getD,List.getElem?_eq_getElem h1,List.getElem?_eq_getElem h2] at this
   exact this
 ·have : decide (a = b) = false := decide_eq_false fun e => hl (by rw [e])
  rw [this]
  refine Ev.congr (fun k => ?_) (Ev.now _)
  unfold privityref05_SameRows.f
  rw [if_neg (by omega)]
def belowB (p : Int) (l : List Int) : Bool := l.all fun x => decide (x < p)
theorem below_ev (p : Int) (l : List Int) (hl : l.length ≤ 1000000000) : Ev (fun k => privityref05_Below.f k p l) (belowB p l) := by
 have h := allLoop (F := fun k i => privityref05_Below.l0 k p l i) (n := l.length) (Q := fun i => l.getD i 0 < p) (fun k => ?_) (fun i hi hq r h => ?_) (fun i hi hq => ?_) (belowB p l) ?_
 ·exact h
 ·simp only [privityref05_Below.l0]
  rw [if_neg (by omega)]
 ·refine Ev.step (fun k => ?_) h
  simp only [privityref05_Below.l0]
  rw [if_pos (by omega),if_pos (by omega),rd_nat,if_neg (by omega),wnat (by omega)]
 ·refine Ev.step (fun k => ?_) (Ev.now _)
  simp only [privityref05_Below.l0]
  rw [if_pos (by omega),if_pos (by omega),rd_nat,if_pos (by omega)]
 ·unfold belowB
  rw [List.all_eq_true]
  refine ⟨fun h i hi => ?_,fun h x hx => ?_⟩
  ·rw [Hw.getD_in _ _ hi];exact of_decide_eq_true (h _ (List.getElem_mem hi))
  ·obtain ⟨i,hi,rfl⟩ := List.getElem_of_mem hx
   have := h i hi
   rw [Hw.getD_in _ _ hi] at this
   exact decide_eq_true this
theorem below_res {p : Int} {l : List Int} (h : belowB p l = true) (hw : ∀ x ∈ l,0 ≤ x) : ∀ x ∈ l,Res p x := fun x hx => ⟨hw x hx,of_decide_eq_true (List.all_eq_true.1 h x hx)⟩
def Shr (p : Int) (l : List (List Int)) (n m : Nat) : Prop := l.length = n ∧ ∀ x ∈ l,x.length = m ∧ ∀ y ∈ x,Res p y
theorem getD_memR {l : List (List Int)} {i : Nat} (h : i < l.length) : l.getD i [] ∈ l := by
 rw [List.getD_eq_getElem?_getD,List.getElem?_eq_getElem h];exact List.getElem_mem _
theorem Shr.row {p : Int} {l : List (List Int)} {n m : Nat} (h : Shr p l n m) {i : Nat} (hi : i < n) : (l.getD i []).length = m ∧ ∀ y ∈ l.getD i [],Res p y := h.2 _ (getD_memR (by rw [h.1];exact hi))
theorem rdN (l : List Int) (i : Nat) : rd l (i : Int) = l.getD i 0 := by unfold rd;rw [Int.toNat_natCast]
theorem zip_next (op : Int → Int → Int) {a b : List Int} (hl : a.length ≤ b.length) {j : Nat} (hj : j < a.length) : (List.zipWith op a b).take j ++ [op (a.getD j 0) (b.getD j 0)] = (List.zipWith op a b).take (j + 1) := by
 have hz : j < (List.zipWith op a b).length := by simp;omega
 rw [List.take_succ_eq_append_getElem hz,List.getElem_zipWith,List.getD_eq_getElem?_getD,List.getElem?_eq_getElem hj,List.getD_eq_getElem?_getD,List.getElem?_eq_getElem (by omega)];rfl
theorem rz_length (op : Int → Int → Int) {l1 l2 : List (List Int)} (hl : l1.length ≤ l2.length) : (rowsZ op l1 l2).length = l1.length := by unfold rowsZ;simp;omega
theorem rz_getElem (op : Int → Int → Int) {l1 l2 : List (List Int)} {i : Nat} (h : i < (rowsZ op l1 l2).length) (h1 : i < l1.length) (h2 : i < l2.length) : (rowsZ op l1 l2)[i] = List.zipWith op l1[i] l2[i] := by simp [rowsZ]
theorem rz_len2 {op : Int → Int → Int} {l1 l2 : List (List Int)} {i : Nat} (h : i < (rowsZ op l1 l2).length) : i < l1.length ∧ i < l2.length := by
 unfold rowsZ at h;rw [List.length_zipWith] at h;omega
theorem zip_len (op : Int → Int → Int) {a b : List Int} {m : Nat} (ha : a.length = m) (hb : b.length = m) : (List.zipWith op a b).length = m := by rw [List.length_zipWith];omega
theorem rd_zero (l : List Int) : rd l 0 = l.getD 0 0 := rfl
theorem rz_next (op : Int → Int → Int) {l1 l2 : List (List Int)} (hl : l1.length ≤ l2.length) {i : Nat} (hi : i < l1.length) : (rowsZ op l1 l2).take i ++ [List.zipWith op (l1.getD i []) (l2.getD i [])] = (rowsZ op l1 l2).take (i + 1) := by
 have hz : i < (rowsZ op l1 l2).length := by rw [rz_length op hl];exact hi
 rw [List.take_succ_eq_append_getElem hz,rz_getElem op hz hi (by omega),List.getD_eq_getElem?_getD,List.getElem?_eq_getElem hi,List.getD_eq_getElem?_getD,List.getElem?_eq_getElem (by omega)];rfl
theorem rz_shr {p : Int} {op : Int → Int → Int} (hop : ∀ x y,Res p (op x y)) {l1 l2 : List (List Int)} {n m : Nat} (h1 : Shr p l1 n m) (h2 : Shr p l2 n m) : Shr p (rowsZ op l1 l2) n m := by
 refine ⟨by rw [rz_length op (by rw [h1.1,h2.1];exact Nat.le_refl _)];exact h1.1,fun x hx => ?_⟩
 obtain ⟨i,hi,rfl⟩ := List.getElem_of_mem hx
 have hi' := rz_len2 hi
 rw [rz_getElem op hi hi'.1 hi'.2]
 have a1 := h1.2 _ (List.getElem_mem hi'.1)
 have a2 := h2.2 _ (List.getElem_mem hi'.2)
 refine ⟨by rw [List.length_zipWith,a1.1,a2.1,Nat.min_self],fun y hy => ?_⟩
 obtain ⟨j,hj,rfl⟩ := List.getElem_of_mem hy
 rw [List.getElem_zipWith]
 exact hop _ _
theorem fits_shr {p : Int} {l1 l2 : List (List Int)} {n m : Nat} (h1 : Shr p l1 n m) (h2 : Shr p l2 n m) (hn : n ≤ 1000) (hm : m ≤ 1000) : fitsB p l1 l2 = true := by
 refine fitsB_iff.2 ⟨by rw [h1.1,h2.1];exact Nat.le_refl _,by rw [h1.1];omega,fun i hi => ?_⟩
 rw [rdL_nat,rdL_nat]
 have a1 := h1.row (i := i) (by rw [← h1.1];exact hi)
 have a2 := h2.row (i := i) (by rw [← h1.1];exact hi)
 exact ⟨by rw [a1.1,a2.1];exact Nat.le_refl _,by rw [a1.1];omega,a1.2,a2.2⟩
theorem sadd_eq {p : Int} (hp : Supp p) {l1 l2 : List (List Int)} {n m : Nat} (h1 : Shr p l1 n m) (h2 : Shr p l2 n m) (hn : n ≤ 1000) (hm : m ≤ 1000) : shamir_Add.f p l1 l2 = some (rowsZ (fun x y => (x + y) % p) l1 l2) := by
 unfold shamir_Add.f
 rw [if_pos (supB_iff.2 hp),if_pos (fits_shr h1 h2 hn hm)]
theorem ssub_eq {p : Int} (hp : Supp p) {l1 l2 : List (List Int)} {n m : Nat} (h1 : Shr p l1 n m) (h2 : Shr p l2 n m) (hn : n ≤ 1000) (hm : m ≤ 1000) : shamir_Sub.f p l1 l2 = some (rowsZ (fun x y => (x - y) % p) l1 l2) := by
 unfold shamir_Sub.f
 rw [if_pos (supB_iff.2 hp),if_pos (fits_shr h1 h2 hn hm)]
theorem sscale_eq {p c : Int} (hp : Supp p) (hc : Res p c) {l2 : List (List Int)} {n m : Nat} (h2 : Shr p l2 n m) (hn : n ≤ 1000) (hm : m ≤ 1000) : shamir_Scale.f p c l2 = some (rowsZ (fun x y => (c * x) % p) l2 l2) := by
 unfold shamir_Scale.f
 rw [if_pos (supB_iff.2 hp),if_pos (resB_iff.2 hc),if_pos (fits_shr h2 h2 hn hm)]
theorem raddS_ev {p : Int} (hp : Supp p) {l1 l2 : List (List Int)} {n m : Nat} (h1 : Shr p l1 n m) (h2 : Shr p l2 n m) (hn : n ≤ 1000) (hm : m ≤ 1000) : Ev (fun k => privityref09_Add.f k p l1 l2) (rowsZ (fun x y => (x + y) % p) l1 l2) := by
 have e1 := h1.1
 have e2 := h2.1
 have hle : l1.length ≤ l2.length := by omega
 have h := up (Q := fun i => Ev (fun k => privityref09_Add.l0 k p l1 l2 ((rowsZ (fun x y => (x + y) % p) l1 l2).take i) (i : Int)) (rowsZ (fun x y => (x + y) % p) l1 l2)) (n := n) ?_ fun i hi h => ?_
 ·unfold privityref09_Add.f;exact h
 ·refine Ev.step (fun k => ?_) (Ev.now _)
  simp only [privityref09_Add.l0]
  rw [if_neg (by omega),List.take_of_length_le (by rw [rz_length _ hle];omega)]
 ·obtain ⟨a1,r1⟩ := h1.row hi
  obtain ⟨a2,r2⟩ := h2.row hi
  rw [← rz_next _ hle (by omega)] at h
  have hzl := rz_length (fun x y => (x + y) % p) hle
  have h' := up (Q := fun j => Ev (fun k => privityref09_Add.l1 k p l1 l2 ((rowsZ (fun x y => (x + y) % p) l1 l2).take i) (i : Int) ((List.zipWith (fun x y => (x + y) % p) (l1.getD i []) (l2.getD i [])).take j) (j : Int)) (rowsZ (fun x y => (x + y) % p) l1 l2)) (n := m) ?_ fun j hj h' => ?_
  ·refine Ev.step (fun k => ?_) h'
   simp only [privityref09_Add.l0]
   rw [if_pos (by omega)];rfl
  ·refine Ev.step (fun k => ?_) h
   simp only [privityref09_Add.l1,rdL_nat]
   rw [if_pos (by omega),if_pos (by omega),if_neg (by omega),if_pos (by rw [List.length_take];omega),wnat (by omega),List.take_of_length_le (Nat.le_of_eq (zip_len _ (by assumption) (by assumption)))]
  ·rw [← zip_next _ (by omega) (by omega)] at h'
   refine Ev.step (fun k => ?_) h'
   simp only [privityref09_Add.l1,rdL_nat]
   rw [if_pos (by omega),if_pos (by omega),if_pos (by omega),if_pos (by omega),if_pos (by omega),if_pos (by omega),rdN,rdN,radd_eq hp (res_getD hp r1 j) (res_getD hp r2 j),Option.bind_some,if_pos (by rw [List.length_take];omega),wnat (by omega)]
theorem rscaleS_ev {p c : Int} (hp : Supp p) (hc : Res p c) {l2 : List (List Int)} {n m : Nat} (h2 : Shr p l2 n m) (hn : n ≤ 1000) (hm : m ≤ 1000) : Ev (fun k => privityref09_Scale.f k p c l2) (rowsZ (fun x y => (c * x) % p) l2 l2) := by
 have e2 := h2.1
 have hle : l2.length ≤ l2.length := Nat.le_refl _
 have h := up (Q := fun i => Ev (fun k => privityref09_Scale.l0 k p c l2 ((rowsZ (fun x y => (c * x) % p) l2 l2).take i) (i : Int)) (rowsZ (fun x y => (c * x) % p) l2 l2)) (n := n) ?_ fun i hi h => ?_
 ·unfold privityref09_Scale.f;exact h
 ·refine Ev.step (fun k => ?_) (Ev.now _)
  simp only [privityref09_Scale.l0]
  rw [if_neg (by omega),List.take_of_length_le (by rw [rz_length _ hle];omega)]
 ·obtain ⟨a2,r2⟩ := h2.row hi
  rw [← rz_next _ hle (by omega)] at h
  have hzl := rz_length (fun x y => (c * x) % p) hle
  have h' := up (Q := fun j => Ev (fun k => privityref09_Scale.l1 k p c l2 ((rowsZ (fun x y => (c * x) % p) l2 l2).take i) (i : Int) ((List.zipWith (fun x y => (c * x) % p) (l2.getD i []) (l2.getD i [])).take j) (j : Int)) (rowsZ (fun x y => (c * x) % p) l2 l2)) (n := m) ?_ fun j hj h' => ?_
  ·refine Ev.step (fun k => ?_) h'
   simp only [privityref09_Scale.l0]
   rw [if_pos (by omega)];rfl
  ·refine Ev.step (fun k => ?_) h
   simp only [privityref09_Scale.l1,rdL_nat]
   rw [if_pos (by omega),if_pos (by omega),if_neg (by omega),if_pos (by rw [List.length_take];omega),wnat (by omega),List.take_of_length_le (Nat.le_of_eq (zip_len _ (by assumption) (by assumption)))]
  ·rw [← zip_next _ (by omega) (by omega)] at h'
   refine Ev.step (f := fun k => (privityref01_Mul.f k p c ((l2.getD i []).getD j 0)).bind fun t => privityref09_Scale.l1 k p c l2 ((rowsZ (fun x y => (c * x) % p) l2 l2).take i) (i : Int) ((List.zipWith (fun x y => (c * x) % p) (l2.getD i []) (l2.getD i [])).take j ++ [t]) ((j + 1 : Nat) : Int)) (fun k => ?_) (Ev.bind (rmul_ev hp hc (res_getD hp r2 j)) h')
   simp only [privityref09_Scale.l1,rdL_nat]
   rw [if_pos (by omega),if_pos (by omega),if_pos (by omega),if_pos (by omega),rdN,wnat (by omega)]
   congr 1
   funext t
   rw [if_pos (by rw [List.length_take];omega)]
theorem sub_as_add {p : Int} (hp : Supp p) {x y : Int} (hx : Res p x) (hy : Res p y) : (x + (p - 1) * y % p) % p = (x - y) % p := by
 haveI := nz hp
 refine T_inj hp (Res.mod hp _) (Res.mod hp _) ?_
 have e : T p (p - 1) = -1 := by
  rw [T_sub,T_one]
  have : T p p = 0 := by rw [← T_mod hp,Int.emod_self];exact T_zero
  rw [this];grind
 simp only [T_mod hp,T_add,T_mul,T_sub,e]
 grind
theorem rz_sub {p : Int} (hp : Supp p) {l1 l2 : List (List Int)} {n m : Nat} (h1 : Shr p l1 n m) (h2 : Shr p l2 n m) :
  rowsZ (fun x y => (x + y) % p) l1 (rowsZ (fun x y => ((p - 1) * x) % p) l2 l2) = rowsZ (fun x y => (x - y) % p) l1 l2 := by
 have e1 := h1.1
 have e2 := h2.1
 refine List.ext_getElem (by simp [rowsZ]) fun i hi hi2 => ?_
 have hi' := rz_len2 hi2
 have a1 := h1.2 _ (List.getElem_mem hi'.1)
 have a2 := h2.2 _ (List.getElem_mem hi'.2)
 rw [rz_getElem _ hi hi'.1 (rz_len2 hi).2,rz_getElem _ _ hi'.2 hi'.2,rz_getElem _ hi2 hi'.1 hi'.2]
 refine List.ext_getElem (by simp) fun j hj hj2 => ?_
 have hj' : j < l1[i].length ∧ j < l2[i].length := by rw [List.length_zipWith] at hj2;omega
 simp only [List.getElem_zipWith]
 exact sub_as_add hp (a1.2 _ (List.getElem_mem hj'.1)) (a2.2 _ (List.getElem_mem hj'.2))
theorem rsubS_ev {p : Int} (hp : Supp p) {l1 l2 : List (List Int)} {n m : Nat} (h1 : Shr p l1 n m) (h2 : Shr p l2 n m) (hn : n ≤ 1000) (hm : m ≤ 1000) : Ev (fun k => privityref09_Sub.f k p l1 l2) (rowsZ (fun x y => (x - y) % p) l1 l2) := by
 have hb := hp.bd
 have hp1 : Res p (p - 1) := ⟨by omega,by omega⟩
 unfold privityref09_Sub.f
 rw [wrapU_id (by omega) (by omega)]
 refine Ev.bind (rscaleS_ev hp hp1 h2 hn hm) (Ev.bind (raddS_ev hp h1 (rz_shr (fun _ _ => Res.mod hp _) h2 h2) hn hm) ?_)
 rw [rz_sub hp h1 h2]
 exact Ev.now _
def constL (c : Int) (n m : Nat) : List (List Int) := List.replicate n ((List.replicate m 0).set 0 c)
theorem constL_next (c : Int) (n m : Nat) : constL c n m ++ [(List.replicate m 0).set 0 c] = constL c (n + 1) m := by unfold constL;rw [List.replicate_succ']
theorem constL_length (c : Int) (n m : Nat) : (constL c n m).length = n := by simp [constL]
theorem constL_shr {p c : Int} (hp : Supp p) (hc : Res p c) (n m : Nat) : Shr p (constL c n m) n m := by
 refine ⟨constL_length _ _ _,fun x hx => ?_⟩
 have := (List.mem_replicate.1 hx).2
 subst this
 refine ⟨by simp,fun y hy => ?_⟩
 rcases List.mem_or_eq_of_mem_set hy with h|h
 ·rw [(List.mem_replicate.1 h).2];have := hp.bd;exact ⟨by omega,by omega⟩
 ·rw [h];exact hc
theorem sconst_ev {P N T c : Int} (h0 : 0 ≤ N) (hN : N ≤ 1000) (hT : 0 ≤ T) (hT2 : T ≤ 1000) : Ev (fun k => shamir_Constant.f k P N T c) (constL c N.toNat (T.toNat + 1)) := by
 have hw : wrap64 (T + 1) = ((T.toNat + 1 : Nat) : Int) := by rw [wcap (by omega) (by omega)];omega
 have h := up (Q := fun i => Ev (fun k => shamir_Constant.l0 k c (constL c i (T.toNat + 1)) N (i : Int) P N T) (constL c N.toNat (T.toNat + 1))) (n := N.toNat) ?_ fun i hi h => ?_
 ·unfold shamir_Constant.f;exact h
 ·refine Ev.step (fun k => ?_) (Ev.now _)
  simp only [shamir_Constant.l0]
  rw [if_neg (by omega)]
 ·rw [← constL_next] at h
  refine Ev.step (fun k => ?_) h
  simp only [shamir_Constant.l0]
  rw [hw,if_pos (by omega),if_pos (by omega),if_pos (by omega),Option.bind_some,if_pos (by rw [List.length_replicate];omega),if_pos (by rw [constL_length];omega),wnat (by omega)]
  rfl
theorem rconst_ev {P N T c : Int} (h0 : 0 ≤ N) (hN : N ≤ 1000) (hT : 0 ≤ T) (hT2 : T ≤ 1000) : Ev (fun k => privityref09_Constant.f k P N T c) (constL c N.toNat (T.toNat + 1)) := by
 have hw : wrap64 (T + 1) = ((T.toNat + 1 : Nat) : Int) := by rw [wcap (by omega) (by omega)];omega
 have h := up (Q := fun i => Ev (fun k => privityref09_Constant.l0 k c (constL c i (T.toNat + 1)) (i : Int) P N T) (constL c N.toNat (T.toNat + 1))) (n := N.toNat) ?_ fun i hi h => ?_
 ·unfold privityref09_Constant.f;exact h
 ·refine Ev.step (fun k => ?_) (Ev.now _)
  simp only [privityref09_Constant.l0]
  rw [if_neg (by omega)]
 ·rw [← constL_next] at h
  refine Ev.step (fun k => ?_) h
  simp only [privityref09_Constant.l0]
  rw [hw,if_pos (by omega),if_pos (by omega),if_pos (by omega),Option.bind_some,if_pos (by rw [List.length_replicate];omega),if_pos (by rw [constL_length];omega),wnat (by omega)]
  rfl
def lsR (l : List (List (List Int))) (i : Nat) : List Int := l.map fun a => (a.getD i []).getD 0 0
def lsL (l : List (List (List Int))) (n : Nat) : List (List Int) := (List.range n).map (lsR l)
def Shs (l : List (List (List Int))) (n : Nat) : Prop := ∀ a ∈ l,a.length = n ∧ ∀ x ∈ a,0 < x.length
theorem getD_memS {l : List (List (List Int))} {i : Nat} (h : i < l.length) : l.getD i [] ∈ l := by
 rw [List.getD_eq_getElem?_getD,List.getElem?_eq_getElem h];exact List.getElem_mem _
theorem rdS_nat (l : List (List (List Int))) (i : Nat) : rd_L5 l (i : Int) = l.getD i [] := by unfold rd_L5;rw [Int.toNat_natCast]
theorem lsR_take (l : List (List (List Int))) (i q : Nat) (hq : q < l.length) : lsR (l.take q) i ++ [((l.getD q []).getD i []).getD 0 0] = lsR (l.take (q + 1)) i := by
 unfold lsR
 rw [List.take_succ_eq_append_getElem hq,List.map_append,List.getD_eq_getElem?_getD (l := l),List.getElem?_eq_getElem hq];rfl
theorem lsR_length (l : List (List (List Int))) (i : Nat) : (lsR l i).length = l.length := by simp [lsR]
theorem lsL_next (l : List (List (List Int))) (i : Nat) : lsL l i ++ [lsR l i] = lsL l (i + 1) := by unfold lsL;rw [List.range_succ,List.map_append];rfl
theorem lsL_length (l : List (List (List Int))) (n : Nat) : (lsL l n).length = n := by simp [lsL]
theorem rlocal_ev {l : List (List (List Int))} {n : Nat} (hl : 0 < l.length) (hl2 : l.length ≤ 1000) (hs : Shs l n) (hn : n ≤ 1000) : Ev (fun k => privityref09_LocalShares.f k l) (lsL l n) := by
 have h00 := hs _ (getD_memS hl)
 have hz : (rd_L5 l 0).length = n := by rw [show (0 : Int) = ((0 : Nat) : Int) from rfl,rdS_nat];exact h00.1
 have h := up (Q := fun i => Ev (fun k => privityref09_LocalShares.l0 k l (lsL l i) (i : Int)) (lsL l n)) (n := n) ?_ fun i hi h => ?_
 ·unfold privityref09_LocalShares.f
  exact Ev.congr (fun k => if_neg (by omega)) h
 ·refine Ev.step (fun k => ?_) (Ev.now _)
  simp only [privityref09_LocalShares.l0]
  rw [if_pos (by omega),if_neg (by rw [hz];omega)]
 ·rw [← lsL_next] at h
  have h' := up (Q := fun j => Ev (fun k => privityref09_LocalShares.l1 k l (lsL l i) (i : Int) (lsR (l.take j) i) (j : Int)) (lsL l n)) (n := l.length) ?_ fun j hj h' => ?_
  ·refine Ev.step (fun k => ?_) h'
   simp only [privityref09_LocalShares.l0]
   rw [if_pos (by omega),if_pos (by rw [hz];omega)];rfl
  ·refine Ev.step (fun k => ?_) h
   simp only [privityref09_LocalShares.l1]
   rw [if_neg (by omega),if_pos (by rw [lsL_length];omega),wnat (by omega),List.take_length]
  ·have hj2 := hs _ (getD_memS hj)
   have hrow := hj2.2 _ (getD_memR (show i < (l.getD j []).length by omega))
   rw [← lsR_take l i j hj] at h'
   refine Ev.step (fun k => ?_) h'
   simp only [privityref09_LocalShares.l1,rdS_nat,rdL_nat]
   rw [if_pos (by omega),if_pos (by omega),if_pos (by omega),if_pos (by omega),if_pos (by omega),if_pos (by rw [lsR_length,List.length_take];omega),wnat (by omega)]
   rw [rd_zero]
def lsS (l : List (List (List Int))) (n q i : Nat) : List (List Int) := (List.range n).map fun r => lsR (l.take (if r < i then q + 1 else q)) r
theorem lsS_length (l : List (List (List Int))) (n q i : Nat) : (lsS l n q i).length = n := by simp [lsS]
theorem lsS_getD (l : List (List (List Int))) (n q i r : Nat) (h : r < n) : (lsS l n q i).getD r [] = lsR (l.take (if r < i then q + 1 else q)) r := by
 unfold lsS;rw [List.getD_eq_getElem?_getD,List.getElem?_map,List.getElem?_range h];rfl
theorem lsS_zero (l : List (List (List Int))) (n : Nat) : lsS l n 0 0 = List.replicate n [] := by
 refine List.ext_getElem (by simp [lsS]) fun i h1 h2 => by simp [lsS,lsR]
theorem lsS_row (l : List (List (List Int))) (n q : Nat) : lsS l n q n = lsS l n (q + 1) 0 := by
 unfold lsS
 refine List.map_congr_left fun r hr => ?_
 rw [if_pos (List.mem_range.1 hr),if_neg (by omega)]
theorem lsS_all (l : List (List (List Int))) (n : Nat) : lsS l n l.length 0 = lsL l n := by
 unfold lsS lsL
 refine List.map_congr_left fun r _ => ?_
 rw [if_neg (by omega),List.take_length]
theorem lsS_next (l : List (List (List Int))) (n q i : Nat) (hi : i < n) (hq : q < l.length) : (lsS l n q i).set i ((lsS l n q i).getD i [] ++ [((l.getD q []).getD i []).getD 0 0]) = lsS l n q (i + 1) := by
 rw [lsS_getD l n q i i hi,if_neg (by omega),lsR_take l i q hq]
 refine List.ext_getElem (by simp [lsS]) fun r h1 h2 => ?_
 rw [lsS_length] at h2
 rw [List.getElem_set]
 by_cases e : i = r
 ·subst e
  rw [if_pos rfl]
  simp [lsS]
 ·rw [if_neg e]
  simp only [lsS,List.getElem_map,List.getElem_range]
  by_cases h3 : r < i
  ·rw [if_pos h3,if_pos (by omega)]
  ·rw [if_neg h3,if_neg (by omega)]
theorem slocal_ev {l : List (List (List Int))} {n : Nat} (hl : 0 < l.length) (hl2 : l.length ≤ 1000) (hs : Shs l n) (hn : n ≤ 1000) : Ev (fun k => shamir_LocalShares.f k l) (lsL l n) := by
 have h00 := hs _ (getD_memS hl)
 have hz : (rd_L5 l 0).length = n := by rw [show (0 : Int) = ((0 : Nat) : Int) from rfl,rdS_nat];exact h00.1
 have h := up (Q := fun q => Ev (fun k => shamir_LocalShares.l0 k (lsS l n q 0) l (l.length : Int) (q : Int)) (lsL l n)) (n := l.length) ?_ fun q hq h => ?_
 ·unfold shamir_LocalShares.f
  refine Ev.congr (fun k => ?_) h
  rw [if_neg (by omega),if_pos (by omega),hz,if_pos (by omega),if_pos (by omega),lsS_zero];rfl
 ·refine Ev.step (fun k => ?_) (Ev.now _)
  simp only [shamir_LocalShares.l0]
  rw [if_neg (by omega),lsS_all]
 ·rw [← lsS_row] at h
  have hq2 := hs _ (getD_memS hq)
  have h' := up (Q := fun i => Ev (fun k => shamir_LocalShares.l1 k (lsS l n q i) l (l.length : Int) (q : Int) (l.getD q []) (n : Int) (i : Int)) (lsL l n)) (n := n) ?_ fun i hi h' => ?_
  ·refine Ev.step (fun k => ?_) h'
   simp only [shamir_LocalShares.l0,rdS_nat]
   rw [if_pos (by omega),if_pos (by omega),if_pos (by omega),hq2.1];rfl
  ·refine Ev.step (fun k => ?_) h
   simp only [shamir_LocalShares.l1]
   rw [if_neg (by omega),wnat (by omega)]
  ·have hrow := hq2.2 _ (getD_memR (show i < (l.getD q []).length by omega))
   rw [← lsS_next l n q i hi hq] at h'
   refine Ev.step (fun k => ?_) h'
   simp only [shamir_LocalShares.l1,rdL_nat]
   rw [if_pos (by omega),if_pos (by omega),if_pos (by omega),if_pos (by rw [lsS_length];omega),if_pos (by omega),if_pos (by rw [lsS_getD l n q i i hi,lsR_length,List.length_take];omega),wnat (by omega),Int.toNat_natCast]
   rw [rd_zero]
def rowsB (p : Int) (l : List (List Int)) (n m : Int) : Bool := decide ((l.length : Int) = n) && l.all fun x => decide ((x.length : Int) = m) && belowB p x
theorem rows_ev (p : Int) (l : List (List Int)) (n m : Int) (hn : n ≤ 1000) (hm : m ≤ 1000) : Ev (fun k => privityref09_Rows.f k p l n m) (rowsB p l n m) := by
 unfold rowsB
 by_cases hl : (l.length : Int) = n
 ·rw [decide_eq_true hl,Bool.true_and]
  have h := up (Q := fun i => Ev (fun k => privityref09_Rows.l0 k p l n m (i : Int)) ((l.drop i).all fun x => decide ((x.length : Int) = m) && belowB p x)) (n := l.length) ?_ fun i hi h => ?_
  ·unfold privityref09_Rows.f
   exact Ev.congr (fun k => if_pos hl) h
  ·refine Ev.step (f := fun k => some true) (fun k => ?_) ?_
   ·simp only [privityref09_Rows.l0]
    rw [if_neg (by omega)]
   ·rw [List.drop_length];exact Ev.now _
  ·have hg : l.getD i [] = l[i] := by rw [List.getD_eq_getElem?_getD,List.getElem?_eq_getElem hi];rfl
   rw [List.drop_eq_getElem_cons hi,List.all_cons,← hg]
   by_cases hm' : ((l.getD i []).length : Int) = m
   ·rw [decide_eq_true hm',Bool.true_and]
    have hbe := below_ev p (l.getD i []) (by omega)
    refine Ev.step (f := fun k => (privityref05_Below.f k p (l.getD i [])).bind fun t => if t = true then privityref09_Rows.l0 k p l n m ((i + 1 : Nat) : Int) else some false) (fun k => ?_) ?_
    ·simp only [privityref09_Rows.l0,rdL_nat]
     rw [if_pos (by omega),if_pos (by omega),if_pos (by omega),if_pos hm',wnat (by omega)]
    ·refine ev_if hbe (fun hb => ?_) fun hb => ?_
     ·rw [hb,Bool.true_and];exact h
     ·rw [hb,Bool.false_and];exact Ev.now _
   ·rw [decide_eq_false hm',Bool.false_and,Bool.false_and]
    refine Ev.step (f := fun k => some false) (fun k => ?_) (Ev.now _)
    simp only [privityref09_Rows.l0,rdL_nat]
    rw [if_pos (by omega),if_pos (by omega),if_pos (by omega),if_neg hm']
 ·rw [decide_eq_false hl,Bool.false_and]
  unfold privityref09_Rows.f
  exact Ev.congr (fun k => if_neg hl) (Ev.now _)
theorem rowsB_shr {p : Int} {l : List (List Int)} {n m : Int} (h : rowsB p l n m = true) (hw : ∀ x ∈ l,∀ y ∈ x,0 ≤ y) : Shr p l n.toNat m.toNat := by
 unfold rowsB at h
 simp only [Bool.and_eq_true,decide_eq_true_eq,List.all_eq_true] at h
 refine ⟨by omega,fun x hx => ⟨by have := (h.2 x hx).1;omega,fun y hy => below_res (h.2 x hx).2 (hw x hx) y hy⟩⟩
def setB (P N T : Int) : Bool := decide (4 ≤ N) && (decide (N ≤ 13) && (decide (N < P) && (decide (1 ≤ T) && (decide (T < N) && decide (3 * T < N)))))
theorem setups_eq {P N T : Int} (hP : 0 ≤ P) : privitylaw09_setups.f P N T = some (setB P N T) := by
 unfold privitylaw09_setups.f setB
 by_cases h1 : N ≥ 4
 ·rw [if_pos h1,decide_eq_true (show 4 ≤ N from h1),Bool.true_and]
  by_cases h2 : N ≤ 13
  ·rw [if_pos h2,decide_eq_true h2,Bool.true_and,wrapU_id (by omega) (by omega)]
   by_cases h3 : N < P
   ·rw [if_pos h3,decide_eq_true h3,Bool.true_and]
    by_cases h4 : T ≥ 1
    ·rw [if_pos h4,decide_eq_true (show 1 ≤ T from h4),Bool.true_and]
     by_cases h5 : T < N
     ·rw [if_pos h5,decide_eq_true h5,Bool.true_and,wcap (by omega) (by omega)]
     ·rw [if_neg h5,decide_eq_false h5,Bool.false_and]
    ·rw [if_neg h4,decide_eq_false (show ¬ 1 ≤ T from h4),Bool.false_and]
   ·rw [if_neg h3,decide_eq_false h3,Bool.false_and]
  ·rw [if_neg h2,decide_eq_false h2,Bool.false_and]
 ·rw [if_neg h1,decide_eq_false (show ¬ 4 ≤ N from h1),Bool.false_and]
end Go.Proofs.Ytjnkkfdlcbcelaa.E
end
section
namespace Go.Proofs.Ytjnkkfdlcbcelaa.Pure
open Go.RowKit Go.Proofs.Ytjnkkfdlcbcelaa.Pr Go.Proofs.Ytjnkkfdlcbcelaa.Hw Go.Proofs.Ytjnkkfdlcbcelaa.E Go.Proofs.Ytjnkkfdlcbcelaa.Pl Go.Proofs.YtjnkkfdlcbcelaaW.PrintWords Go.Proofs.YtjnkkfdlcbcelaaW.PrintLast Go.Proofs.YtjnkkfdlcbcelaaW.PrintMore
theorem same9 (a : List (List Int)) {p : Int} {n m : Nat} (h : Shr p a n m) (hn : n ≤ 1000) (hm : m ≤ 1000) : Ev (fun k => privityref09_Same.f k a a) true := by
 unfold privityref09_Same.f
 have hs := sameRows_ev a a (by rw [h.1];omega) (fun x hx => by rw [(h.2 x hx).1];omega)
 rw [decide_eq_true rfl] at hs
 exact Ev.bind hs (Ev.now _)
theorem linj1_skip (p N T : Int) (a b : List (List Int)) (c : Int) : Ev (fun k => privitylaw09_ShamirLinearOpsMatchReference.j1 k true p N T a b c) true :=
 Ev.step (f := fun _ => some true) (fun k => by simp only [privitylaw09_ShamirLinearOpsMatchReference.j1];rw [if_pos trivial]) (Ev.now _)
theorem linj0_skip (p N T : Int) (a b : List (List Int)) (c : Int) : Ev (fun k => privitylaw09_ShamirLinearOpsMatchReference.j0 k true p N T a b c) true :=
 Ev.step (f := fun _ => some true) (fun k => by simp only [privitylaw09_ShamirLinearOpsMatchReference.j0];rw [if_pos trivial]) (Ev.now _)
theorem lin_main {p N T c : Int} (hp : Supp p) (hN : 1 ≤ N) (hN2 : N ≤ 13) (hT : 0 ≤ T) (hT2 : T ≤ 13) {a b : List (List Int)} (ha : Shr p a N.toNat (T + 1).toNat) (hb : Shr p b N.toNat (T + 1).toNat) (hc : Res p c) :
  Ev (fun k => privitylaw09_ShamirLinearOpsMatchReference.j1 k false p N T a b c) true := by
 have hbd := hp.bd
 have n1 : N.toNat ≤ 1000 := by omega
 have m1 : (T + 1).toNat ≤ 1000 := by omega
 have et : T.toNat + 1 = (T + 1).toNat := by omega
 refine Ev.step (fun k => by simp only [privitylaw09_ShamirLinearOpsMatchReference.j1];rw [if_neg (by simp)]) ?_
 refine ev_now_bind (setups_eq (P := p) (N := N) (T := T) (by omega)) ?_
 refine ev_ite (fun _ => ?_) fun _ => Ev.now _
 refine ev_now_bind rfl ?_
 have z1 := rz_shr (op := fun x y => (x + y) % p) (fun _ _ => Res.mod hp _) ha hb
 have z2 := rz_shr (op := fun x y => (x - y) % p) (fun _ _ => Res.mod hp _) ha hb
 have z3 := rz_shr (op := fun x y => (c * x) % p) (fun _ _ => Res.mod hp _) ha ha
 have z4 := constL_shr hp hc N.toNat (T.toNat + 1)
 have hs : Shs [a,b,a] N.toNat := by
  intro x hx
  have h1 : Shr p x N.toNat (T + 1).toNat := by
   simp only [List.mem_cons,List.not_mem_nil,or_false] at hx
   rcases hx with rfl|rfl|rfl
   ·exact ha
   ·exact hb
   ·exact ha
  exact ⟨h1.1,fun y hy => by rw [(h1.2 y hy).1];omega⟩
 refine ev_now_bind (sadd_eq hp ha hb n1 m1) (Ev.bind (raddS_ev hp ha hb n1 m1) (ev_if (same9 _ z1 n1 m1) (fun _ => ?_) fun h => by cases h))
 refine ev_now_bind (ssub_eq hp ha hb n1 m1) (Ev.bind (rsubS_ev hp ha hb n1 m1) (ev_if (same9 _ z2 n1 m1) (fun _ => ?_) fun h => by cases h))
 refine ev_now_bind (sscale_eq hp hc ha n1 m1) (Ev.bind (rscaleS_ev hp hc ha n1 m1) (ev_if (same9 _ z3 n1 m1) (fun _ => ?_) fun h => by cases h))
 refine Ev.bind (sconst_ev (P := p) (c := c) (by omega) (by omega) hT (by omega)) (Ev.bind (rconst_ev (by omega) (by omega) hT (by omega)) (ev_if (same9 _ z4 n1 (by omega)) (fun _ => ?_) fun h => by cases h))
 have hl := lsL_length [a,b,a] N.toNat
 have hsm := sameRows_ev (lsL [a,b,a] N.toNat) (lsL [a,b,a] N.toNat) (by omega) (fun x hx => by
  obtain ⟨i,_,rfl⟩ := List.mem_map.1 hx
  rw [lsR_length];simp)
 rw [decide_eq_true rfl] at hsm
 refine Ev.bind (slocal_ev (by simp) (by simp) hs n1) (Ev.bind (rlocal_ev (by simp) (by simp) hs n1) (ev_if hsm (fun _ => ?_) fun h => by cases h))
 exact Ev.of (fun k => LeO.bind (shamir_LocalShares.mono _ _) fun _ => LeO.refl _) (k := 1) rfl
theorem ShamirLinearOpsMatchReference (p N T : Int) (a b : List (List Int)) (c : Int) (wp : (Lit.int .u64 p).wf = true) (wN : (Lit.int .i64 N).wf = true) (wT : (Lit.int .i64 T).wf = true) (wa : ∀ x_ ∈ a,∀ y_ ∈ x_,(Lit.int .u64 y_).wf = true) (wb : ∀ x_ ∈ b,∀ y_ ∈ x_,(Lit.int .u64 y_).wf = true) (wc : (Lit.int .u64 c).wf = true) : ∃ k,privitylaw09_ShamirLinearOpsMatchReference.f k p N T a b c = some true := by
 refine Ev.rounds (r := true) ?_
 have sk1 := linj1_skip p N T a b c
 have sk0 := linj0_skip p N T a b c
 refine ev_if awake09 (fun _ => ev_ite (fun _ => sk0) fun hT0 => ?_) fun h => by cases h
 by_cases hT13 : T > 13
 ·rw [decide_eq_true hT13];exact sk0
 rw [decide_eq_false hT13]
 have hw : wrap64 (T + 1) = T + 1 := wcap (by omega) (by omega)
 refine Ev.step (fun k => by simp only [privitylaw09_ShamirLinearOpsMatchReference.j0];rw [if_neg (by simp),hw]) ?_
 refine ev_if (supported_ev p) (fun hs => ?_) fun _ => sk1
 refine ev_ite (fun _ => sk1) fun h1 => ev_ite (fun _ => sk1) fun h2 => ev_ite (fun _ => sk1) fun h3 => ev_ite (fun _ => sk1) fun h4 => ?_
 refine ev_if (rows_ev p a N (T + 1) (by omega) (by omega)) (fun ra => ?_) fun _ => sk1
 refine ev_if (rows_ev p b N (T + 1) (by omega) (by omega)) (fun rb => ?_) fun _ => sk1
 by_cases hc : c ≥ p
 ·rw [decide_eq_true hc];exact sk1
 rw [decide_eq_false hc]
 exact lin_main (supB_of hs) (by omega) (by omega) (by omega) (by omega) (rowsB_shr ra fun x hx y hy => (wf64 (wa x hx y hy)).1) (rowsB_shr rb fun x hx y hy => (wf64 (wb x hx y hy)).1) ⟨(wf64 wc).1,by omega⟩
end Go.Proofs.Ytjnkkfdlcbcelaa.Pure
end
section
namespace Go.Proofs.Ytjnkkfdlcbcelaa.Op
open Go.RowKit Go.Proofs.YtjnkkfdlcbcelaaW.PrintWords
def OpenK {α : Type} (P : Program) (t : TypeId) (d : Kd α) (Q : α → Prop) : Prop :=
 ∀ {H : Type} {enc : TypeId × Value → H} {w : World} {base : Nat} {sp : Nat → Bool} {hd : Bool} {fuel : Nat} {cs : List Value} {x : DataW H × List MemPlace},DataW.trod enc P w base sp hd fuel t cs = some x → ∃ v : α,d.K w v cs ∧ Q v
theorem openInt {P : Program} {t : TypeId} {k : IntKind} (ht : P.underlying t = some (.int k)) : OpenK P t (Kd.int k) (fun n => (Lit.int k n).wf = true) := by
 intro H enc w base sp hd fuel cs x h
 obtain ⟨n,rfl,_,hw⟩ := DataW.trod_int ht h
 exact ⟨n,rfl,hw⟩
theorem exists_list {α : Type} {R : Nat → α → Prop} : ∀ (n : Nat),(∀ i,i < n → ∃ v,R i v) → ∃ l : List α,l.length = n ∧ ∀ i v,l[i]? = some v → R i v
 | 0,_ => ⟨[],rfl,fun i v h => by simp at h⟩
 | n + 1,h => by
  obtain ⟨l,hl,hr⟩ := exists_list n (fun i hi => h i (by omega))
  obtain ⟨v,hv⟩ := h n (by omega)
  refine ⟨l ++ [v],by simp [hl],fun i u hu => ?_⟩
  by_cases hi : i < n
  ·rw [List.getElem?_append_left (by omega)] at hu
   exact hr i u hu
  ·rw [List.getElem?_append_right (by omega)] at hu
   by_cases h0 : i - l.length = 0
   ·rw [h0] at hu
    simp only [List.getElem?_cons_zero,Option.some.injEq] at hu
    rw [← hu,show i = n from by omega];exact hv
   ·rw [List.getElem?_eq_none (by simp;omega)] at hu;cases hu
theorem openSlice {α : Type} {P : Program} {t e : TypeId} {d : Kd α} {Q : α → Prop} (ht : P.underlying t = some (.slice e)) (hc : P.cellsOf e = d.sz) (he : OpenK P e d Q) : OpenK P t (Kd.slice e d) (fun l => ∀ x ∈ l,Q x) := by
 intro H enc w base sp hd fuel cs x h
 rcases DataW.trod_slice ht h with ⟨rfl,_⟩|⟨a,len,cap,elems,rest,n,_,rfl,_,_,hlc,hm,hlen,hel,_,_⟩
 ·exact ⟨[],⟨none,0,rfl,Nat.le_refl _,rfl,Nat.zero_le _,fun h => absurd h (Nat.lt_irrefl 0)⟩,fun x hx => by cases hx⟩
 ·have each : ∀ i,i < len → ∃ v,(∃ c,c.length = d.sz ∧ d.K w v c ∧ ∀ j u,c[j]? = some u → w.cell? (a.add (i * d.sz + j)) = some u) ∧ Q v := by
   intro i hi
   have h1 := hel i hi
   rw [List.getElem?_eq_getElem (by omega),hc] at h1
   obtain ⟨c,hcs,htr⟩ := Option.bind_eq_some_iff.1 h1
   obtain ⟨v,hk,hq⟩ := he htr
   refine ⟨v,⟨c,d.K_len hk,hk,fun j u hu => ?_⟩,hq⟩
   have h2 := World.cells?_some hcs
   have hj := (List.getElem?_eq_some_iff.1 hu).1
   have h3 := h2.2.2 j (by rw [← d.K_len hk];exact hj)
   rw [hu] at h3
   rw [← h3,← Addr.add_add]
  obtain ⟨l,hl,hr⟩ := exists_list len each
  refine ⟨l,⟨some a,cap,by rw [hl],by omega,rfl,by rw [hl];simp only [maxLen] at hm;omega,fun _ => ⟨a,rfl,fun j p hj => (hr j p hj).1⟩⟩,fun x hx => ?_⟩
  obtain ⟨i,hi,rfl⟩ := List.getElem_of_mem hx
  exact (hr i _ (List.getElem?_eq_getElem hi)).2
theorem openFields {P : Program} {H : Type} {enc : TypeId × Value → H} {w : World} {base : Nat} {sp : Nat → Bool} {hd : Bool} {fuel : Nat} {t : TypeId} {cs : List Value} {x : DataW H × List MemPlace} {fs : Array Field} (ht : P.underlying t = some (.struct fs))
  (h : DataW.trod enc P w base sp hd fuel t cs = some x) : cs.length = P.cellsOf t ∧ ∀ (i : Nat) (f : Field),fs[i]? = some f → ∃ n y,DataW.trod enc P w base sp hd n f.type ((cs.drop f.offset).take (P.cellsOf f.type)) = some y := by
 obtain ⟨xs,n,_,_,hl,hlen,hf⟩ := DataW.trod_struct ht h
 refine ⟨hl,fun i f hi => ?_⟩
 have h1 := hf i f hi
 have h2 : i < fs.size := (Array.getElem?_eq_some_iff.1 hi).1
 rw [List.getElem?_eq_getElem (by omega)] at h1
 exact ⟨n,_,h1⟩
end Go.Proofs.Ytjnkkfdlcbcelaa.Op
end
section
/- The row of the law ShamirLinearOpsMatchReference, out of its plain law and the walk. -/
namespace Go.Proofs.Ytjnkkfdlcbcelaa.shamirLinearOpsMatchReference
open Go.ChangeShapes Go.WideShapes Go.ChangeAt Go.RowKit Go.Proofs.Ytjnkkfdlcbcelaa.Pr Go.Proofs.YtjnkkfdlcbcelaaW.PrintWords
theorem own : ownKnob Try.prog.godebug = none := by kernel_rfl
theorem laidOut : laidOutB Try.prog = true := by kernel_rfl
set_option maxRecDepth 100000 in
theorem arr6 (cs : Array Value) (h : cs.size = 6) : ∃ c0_ c1_ c2_ c3_ c4_ c5_, cs = #[c0_, c1_, c2_, c3_, c4_, c5_] := by
  obtain ⟨l_⟩ := cs
  match l_, h with
  | [c0_, c1_, c2_, c3_, c4_, c5_], _ => exact ⟨_, _, _, _, _, _, rfl⟩
set_option maxHeartbeats 4000000 in
set_option maxRecDepth 100000 in
theorem lifted (os : Os) (started : os.Started) (H : Type) (enc : TypeId × Value → H) :
    ReturnsInHanded {} Try.checked os 3 .any (Rows.shamirLinearOpsMatchReferenceSpec.pre6 enc Try.prog Try.f3 Rows.shamirLinearOpsMatchReferenceRow.domain false) (Rows.shamirLinearOpsMatchReferenceSpec.post enc Try.prog Try.f3 false true false false) := by
  refine returnsInHanded_of_change_sized (C := Try.checked) own started (by kernel_rfl) Try.func3
    (ChangeSpec.witness6 (enc := enc) (C := Try.checked) false ⟨#[], #[.agg #[.int .u64 0, .int .i64 0, .int .i64 0, .slice none 0 0, .slice none 0 0, .int .u64 0]], []⟩ 8 (by kernel_rfl) (by kernel_rfl) (by kernel_rfl) (by kernel_rfl)) ?_
  intro W base args ds gs before hval0 hW hcnd hsz0 _
  have hval : ∀ (j : Nat) t v, Try.f3.params[j]? = some t → args[j]? = some v → Value.okWide Try.prog W .any base t v := hval0
  have hW' := hW
  obtain ⟨p, q, hA0, hV, rfl, hfz, hnd⟩ := hW
  have hA : DataW.TrodAll enc Try.prog W 0 (fun _ => true) true Try.f3.params.toList args.toList ds p := hA0
  rw [Try.params3] at hA hval
  obtain ⟨v0, vs0, d0, ds0, p0, q0, hargs, rfl, rfl, h0, r0⟩ := trodAll_cons hA
  obtain ⟨rfl, rfl, rfl⟩ := trodAll_nil r0
  obtain rfl : args = #[v0] := by cases args; simp_all
  obtain ⟨rfl, rfl⟩ := trodVars_none hV
  have k0 := h0
  have lt0 : ∀ x ∈ p0, x.block < W.heap.size := by obtain ⟨m, hm⟩ := k0; exact DataW.trod_lt m _ _ _ hm
  obtain ⟨cs0, rfl, hs0⟩ := okWide_struct Try.underlying28 (hval 0 28 v0 rfl rfl)
  have hN0 : Try.prog.cellsOf 28 = 6 := by kernel_rfl
  rw [hN0] at hs0
  obtain ⟨x0_0, x0_1, x0_2, x0_3, x0_4, x0_5, rfl⟩ := arr6 cs0 hs0
  obtain ⟨fu0, hf0⟩ := h0
  have hg0 : DataW.trod enc Try.prog W 0 (fun _ => true) true fu0 28 [x0_0, x0_1, x0_2, x0_3, x0_4, x0_5] = some (d0, p0) := hf0
  have f0 := (Op.openFields Try.underlying28 hg0).2
  obtain ⟨n0_0, y0_0, e0_0⟩ := f0 0 _ rfl
  have b0_0 : DataW.trod enc Try.prog W 0 (fun _ => true) true n0_0 24 [x0_0, x0_1, x0_2] = some y0_0 := e0_0
  have f0_0 := (Op.openFields Try.underlying24 b0_0).2
  obtain ⟨n0_0_0, y0_0_0, e0_0_0⟩ := f0_0 0 _ rfl
  have b0_0_0 : DataW.trod enc Try.prog W 0 (fun _ => true) true n0_0_0 22 [x0_0] = some y0_0_0 := e0_0_0
  obtain ⟨a0_0_0, e0_0_0, w0_0_0⟩ := (Op.openInt (k := .u64) Try.underlying22) b0_0_0
  cases e0_0_0
  obtain ⟨n0_0_1, y0_0_1, e0_0_1⟩ := f0_0 1 _ rfl
  have b0_0_1 : DataW.trod enc Try.prog W 0 (fun _ => true) true n0_0_1 3 [x0_1] = some y0_0_1 := e0_0_1
  obtain ⟨a0_0_1, e0_0_1, w0_0_1⟩ := (Op.openInt (k := .i64) Try.underlying3) b0_0_1
  cases e0_0_1
  obtain ⟨n0_0_2, y0_0_2, e0_0_2⟩ := f0_0 2 _ rfl
  have b0_0_2 : DataW.trod enc Try.prog W 0 (fun _ => true) true n0_0_2 3 [x0_2] = some y0_0_2 := e0_0_2
  obtain ⟨a0_0_2, e0_0_2, w0_0_2⟩ := (Op.openInt (k := .i64) Try.underlying3) b0_0_2
  cases e0_0_2
  obtain ⟨n0_1, y0_1, e0_1⟩ := f0 1 _ rfl
  have b0_1 : DataW.trod enc Try.prog W 0 (fun _ => true) true n0_1 26 [x0_3] = some y0_1 := e0_1
  obtain ⟨z0_1, ⟨A0_1, c0_1, e0_1, hc0_1, g0_1⟩, w0_1⟩ := (Op.openSlice (d := (Kd.slice 22 (Kd.int .u64))) Try.underlying26 (by kernel_rfl) (Op.openSlice (d := (Kd.int .u64)) Try.underlying41 (by kernel_rfl) (Op.openInt (k := .u64) Try.underlying22))) b0_1
  cases e0_1
  obtain ⟨n0_2, y0_2, e0_2⟩ := f0 2 _ rfl
  have b0_2 : DataW.trod enc Try.prog W 0 (fun _ => true) true n0_2 26 [x0_4] = some y0_2 := e0_2
  obtain ⟨z0_2, ⟨A0_2, c0_2, e0_2, hc0_2, g0_2⟩, w0_2⟩ := (Op.openSlice (d := (Kd.slice 22 (Kd.int .u64))) Try.underlying26 (by kernel_rfl) (Op.openSlice (d := (Kd.int .u64)) Try.underlying41 (by kernel_rfl) (Op.openInt (k := .u64) Try.underlying22))) b0_2
  cases e0_2
  obtain ⟨n0_3, y0_3, e0_3⟩ := f0 3 _ rfl
  have b0_3 : DataW.trod enc Try.prog W 0 (fun _ => true) true n0_3 22 [x0_5] = some y0_3 := e0_3
  obtain ⟨a0_3, e0_3, w0_3⟩ := (Op.openInt (k := .u64) Try.underlying22) b0_3
  cases e0_3
  clear hA0 hval0 hsz0
  obtain ⟨kk, hk⟩ := Pure.ShamirLinearOpsMatchReference a0_0_0 a0_0_1 a0_0_2 z0_1 z0_2 a0_3 w0_0_0 w0_0_1 w0_0_2 w0_1 w0_2 w0_3
  refine (privitylaw09_ShamirLinearOpsMatchReference.calls kk a0_0_0 a0_0_1 a0_0_2 _ _ z0_1 _ _ z0_2 a0_3 true W g0_1 hc0_1 g0_2 hc0_2 rfl hk).mono fun e W' ⟨he, bel⟩ => ?_
  subst he
  exact ⟨_, rfl, _, _, _, [], _, [], hW', trodAll_mk1 (shut_bool Try.underlying4 _), (trodAll_cons_mk (Below.trod laidOut (by kernel_rfl) (of_decide_eq_true (by kernel_rfl)) k0 bel lt0) trodAll_mk0), rfl, bel.frame _, fun h => by cases h⟩
theorem over : Rows.shamirLinearOpsMatchReferenceRow.holds Try.pinned (OpenSpec.ofChange Rows.shamirLinearOpsMatchReferenceSpec) :=
  OpenClaim.holds_of_wide 3 Try.f3 rfl rfl rfl rfl rfl rfl rfl ⟨rfl, rfl, rfl, rfl, rfl⟩ rfl rfl rfl rfl rfl (by kernel_rfl) Try.func3 (by kernel_rfl)
    (of_decide_eq_true (by kernel_rfl)) (by unfold Func.isWrapper; first | (rw [if_pos (by decide +kernel)]; kernel_rfl) | (rw [if_neg (by decide +kernel)]; exact ⟨rfl, rfl⟩))
    (fun os started H enc _ => lifted os started H enc)
theorem proved : Rows.ShamirLinearOpsMatchReferenceSaid := over
#print axioms proved
end Go.Proofs.Ytjnkkfdlcbcelaa.shamirLinearOpsMatchReference
namespace Go.Proofs.Ytjnkkfdlcbcelaa
/-- The row, under a short name, for the claim. -/
theorem shamirLinearOpsMatchReference_holds : Rows.ShamirLinearOpsMatchReferenceSaid := shamirLinearOpsMatchReference.proved
end Go.Proofs.Ytjnkkfdlcbcelaa
end
