/- The row of the law HyperinvertibleSubmatrixMatchesReference, out of its plain law and the walk. -/
import Derived.Test.YtmdoaijkaaaglaaZB712
import Derived.Test.YtmdoaijkaaaglaaZB77
import Derived.Test.YtmdoaijkaaaglaaProg
import Derived.ChangeArms
import Derived.DataReads
import Derived.DataElems
import Derived.ShutString
import Derived.ChangeSame
import Derived.OpenShut
import Derived.Test.YtmdoaijkaaaglaaZB70
import Derived.Test.YtmdoaijkaaaglaaRows
import Derived.WalkKit
import Derived.ProofKit
import Derived.ChangeOld
import Derived.Below
import Derived.SizedLaws
set_option linter.unusedVariables false
set_option linter.unusedSimpArgs false
section
namespace Go.Proofs.Ytmdoaijkaaaglaa.Pure
open Go.RowKit Go.Proofs.Ytmdoaijkaaaglaa.Pr Go.Proofs.Ytmdoaijkaaaglaa.Hw Go.Proofs.Ytmdoaijkaaaglaa.E Go.Proofs.YtmdoaijkaaaglaaW.PrintWords Go.Proofs.YtmdoaijkaaaglaaW.PrintLast Go.Proofs.YtmdoaijkaaaglaaW.PrintMore
theorem rsubm_ev (m : List (List Int)) (rows cols : List Int) (hr : rows.length ≤ 1000000) (hc : cols.length ≤ 1000000) : Ev (fun k => privityref07_Submatrix.f k m rows cols) (subR m rows cols) := by
 have bad : ∀ i,i < rows.length → ¬ goodI m cols (rd rows (i : Int)) → subR m rows cols = ([],1) := fun i hi h => by
  unfold subR;rw [if_neg fun h2 => h (subOk_iff.1 h2 _ (rd_mem hi))]
 have main := up (Q := fun i => (∀ q,q < i → goodI m cols (rd rows (q : Int))) → Ev (fun k => privityref07_Submatrix.l0 k m rows cols (subM m (rows.take i) cols) (i : Int)) (subR m rows cols)) (n := rows.length) ?_ (fun i hi h2 => ?_) (fun q hq => by omega)
 ·exact main.congr fun k => rfl
 ·intro hall
  refine Ev.step (fun k => ?_) (Ev.now _)
  simp only [privityref07_Submatrix.l0]
  rw [if_neg (by omega),List.take_length]
  unfold subR
  rw [if_pos (subOk_iff.2 fun x hx => ?_)]
  obtain ⟨j,hj,rfl⟩ := List.getElem_of_mem hx
  have := hall j hj
  rwa [show rd rows (j : Int) = rows[j] from by rw [rd_nat,List.getD_eq_getElem?_getD,List.getElem?_eq_getElem hj];rfl] at this
 ·intro hall
  have hsl : (subM m (rows.take i) cols).length ≤ rows.length := by unfold subM;rw [List.length_map,List.length_take];omega
  obtain ⟨x,hx⟩ : ∃ x,x = rd rows (i : Int) := ⟨_,rfl⟩
  have hj1 : ∀ b,(b = true → Ev (fun k => some (([] : List (List Int)),(1 : Int))) (subR m rows cols)) → (b = false → Ev (fun k => privityref07_Submatrix.l1 k m rows cols (subM m (rows.take i) cols) (i : Int) ([] : List Int) ((0 : Nat) : Int)) (subR m rows cols)) → Ev (fun k => privityref07_Submatrix.j1 k m rows cols (subM m (rows.take i) cols) (i : Int) b) (subR m rows cols) := by
   intro b h1 h0
   cases b with
   | true => exact Ev.step (f := fun k => some (([] : List (List Int)),(1 : Int))) (fun k => by simp only [privityref07_Submatrix.j1];rw [if_pos trivial]) (h1 rfl)
   | false => exact Ev.step (f := fun k => privityref07_Submatrix.l1 k m rows cols (subM m (rows.take i) cols) (i : Int) ([] : List Int) ((0 : Nat) : Int)) (fun k => by simp only [privityref07_Submatrix.j1];rw [if_neg (by simp)];rfl) (h0 rfl)
  have hfull : (0 ≤ x ∧ x < (m.length : Int)) → Ev (fun k => privityref07_Submatrix.l1 k m rows cols (subM m (rows.take i) cols) (i : Int) ([] : List Int) ((0 : Nat) : Int)) (subR m rows cols) := by
   intro hxr
   refine up (Q := fun j => (∀ q,q < j → 0 ≤ rd cols (q : Int) ∧ rd cols (q : Int) < ((rd_L2 m x).length : Int)) → Ev (fun k => privityref07_Submatrix.l1 k m rows cols (subM m (rows.take i) cols) (i : Int) ((cols.take j).map fun c => rd (rd_L2 m x) c) (j : Int)) (subR m rows cols)) (n := cols.length) ?_ (fun j hj h3 => ?_) (fun q hq => by omega)
   ·intro hgood
    have hg : goodI m cols x := ⟨hxr.1,hxr.2,fun c hc => by
     obtain ⟨j,hj,rfl⟩ := List.getElem_of_mem hc
     have := hgood j hj
     rwa [show rd cols (j : Int) = cols[j] from by rw [rd_nat,List.getD_eq_getElem?_getD,List.getElem?_eq_getElem hj];rfl] at this⟩
    refine Ev.step (f := fun k => privityref07_Submatrix.l0 k m rows cols (subM m (rows.take (i + 1)) cols) ((i + 1 : Nat) : Int)) (fun k => ?_) (h2 fun q hq => ?_)
    ·simp only [privityref07_Submatrix.l1]
     rw [if_neg (by omega),List.take_length,wnat (by omega),← subM_next m rows cols i hi,← hx,if_pos (by omega)]
    ·by_cases e : q = i
     ·subst e;rw [← hx];exact hg
     ·exact hall q (by omega)
   ·intro hgood
    by_cases hcj : 0 ≤ rd cols (j : Int) ∧ rd cols (j : Int) < ((rd_L2 m x).length : Int)
    ·have hn := h3 fun q hq => by
      by_cases e : q = j
      ·subst e;exact hcj
      ·exact hgood q (by omega)
     refine Ev.step (f := fun k => privityref07_Submatrix.l1 k m rows cols (subM m (rows.take i) cols) (i : Int) ((cols.take (j + 1)).map fun c => rd (rd_L2 m x) c) ((j + 1 : Nat) : Int)) (fun k => ?_) hn
     simp only [privityref07_Submatrix.l1]
     rw [← hx,if_pos (by omega),if_pos (by omega),if_neg (by omega),if_pos (by omega),if_pos (by omega),if_pos hxr.1,if_pos hxr.2,if_neg (by omega),if_pos hcj.1,if_pos hcj.2,if_pos (by rw [List.length_map,List.length_take];omega),wnat (by omega),← map_next (fun c => rd (rd_L2 m x) c) cols j hj]
    ·rw [bad i hi fun hg => hcj (by rw [← hx] at hg;exact hg.2.2 _ (rd_mem hj))]
     refine Ev.step (fun k => ?_) (Ev.now _)
     simp only [privityref07_Submatrix.l1]
     rw [← hx,if_pos (by omega),if_pos (by omega)]
     by_cases hneg : rd cols (j : Int) < 0
     ·rw [if_pos hneg]
     ·rw [if_neg hneg,if_pos (by omega),if_pos (by omega),if_pos hxr.1,if_pos hxr.2,if_pos (by omega)]
  by_cases hneg : x < 0
  ·refine Ev.step (f := fun k => privityref07_Submatrix.j1 k m rows cols (subM m (rows.take i) cols) (i : Int) true) (fun k => ?_) (hj1 true (fun _ => ?_) (fun h => by cases h))
   ·simp only [privityref07_Submatrix.l0]
    rw [if_pos (by omega),if_pos (by omega),← hx,if_pos hneg]
   ·rw [bad i hi fun hg => by rw [← hx] at hg;have := hg.1;omega]
    exact Ev.now _
  ·refine Ev.step (f := fun k => privityref07_Submatrix.j1 k m rows cols (subM m (rows.take i) cols) (i : Int) (decide (x ≥ (m.length : Int)))) (fun k => ?_) (hj1 _ (fun h => ?_) (fun h => ?_))
   ·simp only [privityref07_Submatrix.l0]
    rw [if_pos (by omega),if_pos (by omega),← hx,if_neg hneg]
   ·have := of_decide_eq_true h
    rw [bad i hi fun hg => by rw [← hx] at hg;have := hg.2.1;omega]
    exact Ev.now _
   ·have := of_decide_eq_false h
    exact hfull ⟨by omega,by omega⟩
theorem small_ev (m : List (List Int)) (a b : Nat) (ha : a ≤ 1000) : Ev (fun k => privityref07_Small.f k m (a : Int) (b : Int)) (decide (m.length ≤ a ∧ ∀ i,i < m.length → (m.getD i []).length ≤ b)) := by
 by_cases hl : m.length ≤ a
 ·have hst : ∀ i,i < m.length → ∀ k,privityref07_Small.l0 (k + 1) m (b : Int) (i : Int) = if ((m.getD i []).length : Int) > (b : Int) then some false else privityref07_Small.l0 k m (b : Int) ((i + 1 : Nat) : Int) := fun i hi k => by
   simp only [privityref07_Small.l0]
   rw [if_pos (by omega),if_pos (by omega),rdM_nat,wnat (by omega)]
  have h := allL (F := fun k i => privityref07_Small.l0 k m (b : Int) i) (n := m.length) (Q := fun i => (m.getD i []).length ≤ b) (e := true) ?_ (fun i hi hq r h => ?_) (fun i hi hq => ?_) (decide (m.length ≤ a ∧ ∀ i,i < m.length → (m.getD i []).length ≤ b)) ?_
  ·refine h.congr fun k => ?_
   unfold privityref07_Small.f
   rw [if_neg (by omega)];rfl
  ·refine Ev.step (fun k => ?_) (Ev.now _)
   simp only [privityref07_Small.l0]
   rw [if_neg (by omega)]
  ·exact Ev.step (hst i hi) (h.congr fun k => if_neg (by omega))
  ·exact Ev.step (hst i hi) ((Ev.now false).congr fun k => if_pos (by omega))
  ·rw [decide_eq_true_iff]
   exact ⟨fun h => ⟨h.2,rfl⟩,fun h => ⟨hl,h.1⟩⟩
 ·rw [decide_eq_false fun h => hl h.1]
  refine Ev.congr (fun k => ?_) (Ev.now _)
  unfold privityref07_Small.f
  rw [if_pos (by omega)]
theorem subm_skip (m : List (List Int)) (rows cols : List Int) : Ev (fun k => privitylaw07_HyperinvertibleSubmatrixMatchesReference.j0 k m rows cols true) true :=
 Ev.step (f := fun _ => some true) (fun k => by simp only [privitylaw07_HyperinvertibleSubmatrixMatchesReference.j0];rw [if_pos trivial]) (Ev.now _)
theorem subm_main (m : List (List Int)) (rows cols : List Int) (hr : rows.length ≤ 10) (hc : cols.length ≤ 10) : Ev (fun k => privitylaw07_HyperinvertibleSubmatrixMatchesReference.j0 k m rows cols false) true := by
 refine Ev.step (f := fun k => (hyperinvertible_Submatrix.f k m rows cols).bind fun bt503 => ((privityref07_Submatrix.f k m rows cols).bind fun bt507 => (if bt503.2 = bt507.2 then ((privityref05_SameRows.f k bt503.1 bt507.1).bind fun t511 => (some t511)) else (some false)))) (fun k => ?_) (Ev.bind (subm_ev m rows cols (by omega) (by omega)) (Ev.bind (rsubm_ev m rows cols (by omega) (by omega)) (Ev.congr (fun k => if_pos rfl) (Ev.bind (sameRows_ev _ _ ?_ ?_) ?_))))
 ·simp only [privitylaw07_HyperinvertibleSubmatrixMatchesReference.j0]
  rw [if_neg (by simp)]
 ·unfold subR;split
  ·simp [subM];omega
  ·simp
 ·unfold subR;split
  ·intro x hx
   obtain ⟨i,_,rfl⟩ := List.mem_map.1 hx
   rw [List.length_map];omega
  ·simp
 ·rw [decide_eq_true rfl];exact Ev.now _
theorem HyperinvertibleSubmatrixMatchesReference {Q0 Q1 Q2 : Prop} (m : List (List Int)) (rows cols : List Int) (wm : Q0) (wr : Q1) (wc : Q2) : ∃ k,privitylaw07_HyperinvertibleSubmatrixMatchesReference.f k m rows cols = some true := by
 refine Ev.rounds (r := true) ?_
 refine ev_if awake07 (fun _ => ev_if (small_ev m 10 10 (by omega)) (fun _ => ev_ite (fun _ => subm_skip m rows cols) fun h1 => ?_) fun _ => subm_skip m rows cols) (fun h => by cases h)
 by_cases h2 : (cols.length : Int) > 10
 ·rw [decide_eq_true h2];exact subm_skip m rows cols
 ·rw [decide_eq_false h2];exact subm_main m rows cols (by omega) (by omega)
end Go.Proofs.Ytmdoaijkaaaglaa.Pure
end
section
namespace Go.Proofs.Ytmdoaijkaaaglaa.Op
open Go.RowKit Go.Proofs.YtmdoaijkaaaglaaW.PrintWords
def OpenK {α : Type} (P : Program) (t : TypeId) (d : Kd α) (Q : α → Prop) : Prop :=
 ∀ {H : Type} {enc : TypeId × Value → H} {w : World} {base : Nat} {sp : Nat → Bool} {hd : Bool} {fuel : Nat} {cs : List Value} {x : DataW H × List MemPlace},DataW.trod enc P w base sp hd fuel t cs = some x → ∃ v : α,d.K w v cs ∧ Q v
theorem openInt {P : Program} {t : TypeId} {k : IntKind} (ht : P.underlying t = some (.int k)) : OpenK P t (Kd.int k) (fun n => (Lit.int k n).wf = true) := by
 intro H enc w base sp hd fuel cs x h
 obtain ⟨n,rfl,_,hw⟩ := DataW.trod_int ht h
 exact ⟨n,rfl,hw⟩
theorem exists_list {α : Type} {R : Nat → α → Prop} : ∀ (n : Nat),(∀ i,i < n → ∃ v,R i v) → ∃ l : List α,l.length = n ∧ ∀ i v,l[i]? = some v → R i v
 | 0,_ => ⟨[],rfl,fun i v h => by simp at h⟩
 | n + 1,h => by
  obtain ⟨l,hl,hr⟩ := exists_list n (fun i hi => h i (by omega))
  obtain ⟨v,hv⟩ := h n (by omega)
  refine ⟨l ++ [v],by simp [hl],fun i u hu => ?_⟩
  by_cases hi : i < n
  ·rw [List.getElem?_append_left (by omega)] at hu
   exact hr i u hu
  ·rw [List.getElem?_append_right (by omega)] at hu
   by_cases h0 : i - l.length = 0
   ·rw [h0] at hu
    simp only [List.getElem?_cons_zero,Option.some.injEq] at hu
    rw [← hu,show i = n from by omega];exact hv
   ·rw [List.getElem?_eq_none (by simp;omega)] at hu;cases hu
theorem openSlice {α : Type} {P : Program} {t e : TypeId} {d : Kd α} {Q : α → Prop} (ht : P.underlying t = some (.slice e)) (hc : P.cellsOf e = d.sz) (he : OpenK P e d Q) : OpenK P t (Kd.slice e d) (fun l => ∀ x ∈ l,Q x) := by
 intro H enc w base sp hd fuel cs x h
 rcases DataW.trod_slice ht h with ⟨rfl,_⟩|⟨a,len,cap,elems,rest,n,_,rfl,_,_,hlc,hm,hlen,hel,_,_⟩
 ·exact ⟨[],⟨none,0,rfl,Nat.le_refl _,rfl,Nat.zero_le _,fun h => absurd h (Nat.lt_irrefl 0)⟩,fun x hx => by cases hx⟩
 ·have each : ∀ i,i < len → ∃ v,(∃ c,c.length = d.sz ∧ d.K w v c ∧ ∀ j u,c[j]? = some u → w.cell? (a.add (i * d.sz + j)) = some u) ∧ Q v := by
   intro i hi
   have h1 := hel i hi
   rw [List.getElem?_eq_getElem (by omega),hc] at h1
   obtain ⟨c,hcs,htr⟩ := Option.bind_eq_some_iff.1 h1
   obtain ⟨v,hk,hq⟩ := he htr
   refine ⟨v,⟨c,d.K_len hk,hk,fun j u hu => ?_⟩,hq⟩
   have h2 := World.cells?_some hcs
   have hj := (List.getElem?_eq_some_iff.1 hu).1
   have h3 := h2.2.2 j (by rw [← d.K_len hk];exact hj)
   rw [hu] at h3
   rw [← h3,← Addr.add_add]
  obtain ⟨l,hl,hr⟩ := exists_list len each
  refine ⟨l,⟨some a,cap,by rw [hl],by omega,rfl,by rw [hl];simp only [maxLen] at hm;omega,fun _ => ⟨a,rfl,fun j p hj => (hr j p hj).1⟩⟩,fun x hx => ?_⟩
  obtain ⟨i,hi,rfl⟩ := List.getElem_of_mem hx
  exact (hr i _ (List.getElem?_eq_getElem hi)).2
end Go.Proofs.Ytmdoaijkaaaglaa.Op
end
section
/- The row of the law HyperinvertibleSubmatrixMatchesReference, out of its plain law and the walk. -/
namespace Go.Proofs.Ytmdoaijkaaaglaa.hyperinvertibleSubmatrixMatchesReference
open Go.ChangeShapes Go.WideShapes Go.ChangeAt Go.RowKit Go.Proofs.Ytmdoaijkaaaglaa.Pr Go.Proofs.YtmdoaijkaaaglaaW.PrintWords
theorem own : ownKnob Try.prog.godebug = none := by kernel_rfl
theorem laidOut : laidOutB Try.prog = true := by kernel_rfl
set_option maxHeartbeats 4000000 in
set_option maxRecDepth 100000 in
theorem lifted (os : Os) (started : os.Started) (H : Type) (enc : TypeId × Value → H) :
    ReturnsInHanded {} Try.checked os 4 .any (Rows.hyperinvertibleSubmatrixMatchesReferenceSpec.pre6 enc Try.prog Try.f4 Rows.hyperinvertibleSubmatrixMatchesReferenceRow.domain false) (Rows.hyperinvertibleSubmatrixMatchesReferenceSpec.post enc Try.prog Try.f4 false true false false) := by
  refine returnsInHanded_of_change_sized (C := Try.checked) own started (by kernel_rfl) Try.func4
    (ChangeSpec.witness6 (enc := enc) (C := Try.checked) false ⟨#[], #[.slice none 0 0, .slice none 0 0, .slice none 0 0], []⟩ 8 (by kernel_rfl) (by kernel_rfl) (by kernel_rfl) (by kernel_rfl)) ?_
  intro W base args ds gs before hval0 hW hcnd hsz0 _
  have hval : ∀ (j : Nat) t v, Try.f4.params[j]? = some t → args[j]? = some v → Value.okWide Try.prog W .any base t v := hval0
  have hW' := hW
  obtain ⟨p, q, hA0, hV, rfl, hfz, hnd⟩ := hW
  have hA : DataW.TrodAll enc Try.prog W 0 (fun _ => true) true Try.f4.params.toList args.toList ds p := hA0
  rw [Try.params4] at hA hval
  obtain ⟨v0, vs0, d0, ds0, p0, q0, hargs, rfl, rfl, h0, r0⟩ := trodAll_cons hA
  obtain ⟨v1, vs1, d1, ds1, p1, q1, rfl, rfl, rfl, h1, r1⟩ := trodAll_cons r0
  obtain ⟨v2, vs2, d2, ds2, p2, q2, rfl, rfl, rfl, h2, r2⟩ := trodAll_cons r1
  obtain ⟨rfl, rfl, rfl⟩ := trodAll_nil r2
  obtain rfl : args = #[v0, v1, v2] := by cases args; simp_all
  obtain ⟨rfl, rfl⟩ := trodVars_none hV
  have k0 := h0
  have lt0 : ∀ x ∈ p0, x.block < W.heap.size := by obtain ⟨m, hm⟩ := k0; exact DataW.trod_lt m _ _ _ hm
  obtain ⟨a0, len0, cap0, rfl⟩ := okWide_slice Try.underlying25 (hval 0 25 v0 rfl rfl)
  obtain ⟨fu0, hf0⟩ := h0
  obtain ⟨z0, ⟨A0, c0, e0, hc0, g0⟩, w0⟩ := (Op.openSlice (d := (Kd.slice 22 (Kd.int .u64))) Try.underlying25 (by kernel_rfl) (Op.openSlice (d := (Kd.int .u64)) Try.underlying40 (by kernel_rfl) (Op.openInt (k := .u64) Try.underlying22))) hf0
  cases e0
  have k1 := h1
  have lt1 : ∀ x ∈ p1, x.block < W.heap.size := by obtain ⟨m, hm⟩ := k1; exact DataW.trod_lt m _ _ _ hm
  obtain ⟨a1, len1, cap1, rfl⟩ := okWide_slice Try.underlying31 (hval 1 31 v1 rfl rfl)
  obtain ⟨fu1, hf1⟩ := h1
  obtain ⟨z1, ⟨A1, c1, e1, hc1, g1⟩, w1⟩ := (Op.openSlice (d := (Kd.int .i64)) Try.underlying31 (by kernel_rfl) (Op.openInt (k := .i64) Try.underlying3)) hf1
  cases e1
  have k2 := h2
  have lt2 : ∀ x ∈ p2, x.block < W.heap.size := by obtain ⟨m, hm⟩ := k2; exact DataW.trod_lt m _ _ _ hm
  obtain ⟨a2, len2, cap2, rfl⟩ := okWide_slice Try.underlying31 (hval 2 31 v2 rfl rfl)
  obtain ⟨fu2, hf2⟩ := h2
  obtain ⟨z2, ⟨A2, c2, e2, hc2, g2⟩, w2⟩ := (Op.openSlice (d := (Kd.int .i64)) Try.underlying31 (by kernel_rfl) (Op.openInt (k := .i64) Try.underlying3)) hf2
  cases e2
  clear hA0 hval0 hsz0
  obtain ⟨kk, hk⟩ := Pure.HyperinvertibleSubmatrixMatchesReference z0 z1 z2 w0 w1 w2
  refine (privitylaw07_HyperinvertibleSubmatrixMatchesReference.calls kk _ _ z0 _ _ z1 _ _ z2 true W g0 hc0 g1 hc1 g2 hc2 rfl hk).mono fun e W' ⟨he, bel⟩ => ?_
  subst he
  exact ⟨_, rfl, _, _, _, [], _, [], hW', trodAll_mk1 (shut_bool Try.underlying4 _), (trodAll_cons_mk (Below.trod laidOut (by kernel_rfl) (of_decide_eq_true (by kernel_rfl)) k0 bel lt0) (trodAll_cons_mk (Below.trod laidOut (by kernel_rfl) (of_decide_eq_true (by kernel_rfl)) k1 bel lt1) (trodAll_cons_mk (Below.trod laidOut (by kernel_rfl) (of_decide_eq_true (by kernel_rfl)) k2 bel lt2) trodAll_mk0))), rfl, bel.frame _, fun h => by cases h⟩
theorem over : Rows.hyperinvertibleSubmatrixMatchesReferenceRow.holds Try.pinned (OpenSpec.ofChange Rows.hyperinvertibleSubmatrixMatchesReferenceSpec) :=
  OpenClaim.holds_of_wide 4 Try.f4 rfl rfl rfl rfl rfl rfl rfl ⟨rfl, rfl, rfl, rfl, rfl⟩ rfl rfl rfl rfl rfl (by kernel_rfl) Try.func4 (by kernel_rfl)
    (of_decide_eq_true (by kernel_rfl)) (by unfold Func.isWrapper; first | (rw [if_pos (by decide +kernel)]; kernel_rfl) | (rw [if_neg (by decide +kernel)]; exact ⟨rfl, rfl⟩))
    (fun os started H enc _ => lifted os started H enc)
theorem proved : Rows.HyperinvertibleSubmatrixMatchesReferenceSaid := over
#print axioms proved
end Go.Proofs.Ytmdoaijkaaaglaa.hyperinvertibleSubmatrixMatchesReference
namespace Go.Proofs.Ytmdoaijkaaaglaa
/-- The row, under a short name, for the claim. -/
theorem hyperinvertibleSubmatrixMatchesReference_holds : Rows.HyperinvertibleSubmatrixMatchesReferenceSaid := hyperinvertibleSubmatrixMatchesReference.proved
end Go.Proofs.Ytmdoaijkaaaglaa
end
