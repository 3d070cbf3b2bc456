/- The row of the law TapeshiftIdentity, out of its plain law and the walk. -/
import Derived.Test.YtejeelpnmdfibaaZTId7
import Derived.Test.YtejeelpnmdfibaaZTId5
import Derived.Test.YtejeelpnmdfibaaZTId8
import Derived.Test.YtejeelpnmdfibaaProg
import Derived.ChangeArms
import Derived.DataReads
import Derived.DataElems
import Derived.ShutString
import Derived.ChangeSame
import Derived.OpenShut
import Derived.Test.YtejeelpnmdfibaaZTId0
import Derived.Test.YtejeelpnmdfibaaRows
import Derived.WalkKit
import Derived.ProofKit
import Derived.ChangeOld
import Derived.Below
import Derived.SizedLaws
section
/-
  The words of a triple, and the shift by zero.
-/
namespace Go.Proofs.Ytejeelpnmdfibaa.E
open Go.RowKit Go.Proofs.Ytejeelpnmdfibaa.Pr Go.Proofs.Ytejeelpnmdfibaa.Hw Go.Proofs.Ytejeelpnmdfibaa.Pl Go.Proofs.YtejeelpnmdfibaaW.PrintWords Go.Proofs.YtejeelpnmdfibaaW.PrintLast Go.Proofs.YtejeelpnmdfibaaW.PrintMore
set_option linter.unusedVariables false
set_option linter.unusedSimpArgs false

def hL (p T : Int) (w : List Int) : List Int := cutL p w 0 (2 * (T.toNat + 1) + T.toNat * T.toNat)
def lL (p T : Int) (w : List Int) : List Int := cutL p w (2 * (T.toNat + 1) + T.toNat * T.toNat) ((T.toNat + 3) * (T.toNat * (T.toNat + 1) / 2))
theorem triple_ev {p : Int} (hp : Supp p) (N : Int) {T : Int} (hT : T = 1 ∨ T = 2) (bad : List Int) (da db : Int) {w : List Int} (hw : ∀ x ∈ w, 0 ≤ x) : Ev (fun k => privitylaw43_triple.f k p N T bad da db w) (hL p T w, lL p T w) := by
  unfold privitylaw43_triple.f
  rcases hT with rfl | rfl
  · have h1 := cut_ev hp N 1 bad da db hw 0 5 (by omega) (by omega)
    have h2 := cut_ev hp N 1 bad da db hw 5 4 (by omega) (by omega)
    have a1 : wrap64 (wrap64 (2 * wrap64 ((1 : Int) + 1)) + wrap64 (1 * 1)) = 5 := by kernel_rfl
    have a2 : wrap64 (Int.tdiv (wrap64 (wrap64 (wrap64 ((1 : Int) + 3) * 1) * wrap64 (1 + 1))) 2) = 4 := by kernel_rfl
    rw [a1, a2]
    exact Ev.bind h1 (Ev.bind h2 (Ev.now _))
  · have h1 := cut_ev hp N 2 bad da db hw 0 10 (by omega) (by omega)
    have h2 := cut_ev hp N 2 bad da db hw 10 15 (by omega) (by omega)
    have a1 : wrap64 (wrap64 (2 * wrap64 ((2 : Int) + 1)) + wrap64 (2 * 2)) = 10 := by kernel_rfl
    have a2 : wrap64 (Int.tdiv (wrap64 (wrap64 (wrap64 ((2 : Int) + 3) * 2) * wrap64 (2 + 1))) 2) = 15 := by kernel_rfl
    rw [a1, a2]
    exact Ev.bind h1 (Ev.bind h2 (Ev.now _))
theorem hL_length (p T : Int) (w : List Int) : (hL p T w).length = 2 * (T.toNat + 1) + T.toNat * T.toNat := cutL_length _ _ _ _
theorem lL_length (p T : Int) (w : List Int) : (lL p T w).length = (T.toNat + 3) * (T.toNat * (T.toNat + 1) / 2) := cutL_length _ _ _ _
theorem tri_eq {p N T : Int} {bad : List Int} (h : mayB p N T bad = true) {da db : Int} (rda : Res p da) (rdb : Res p db) {head rests : List Int} (rh : ∀ x ∈ head, Res p x) (rr : ∀ x ∈ rests, Res p x) (lh : head.length = 2 * (T.toNat + 1) + T.toNat * T.toNat) (lr : rests.length = (T.toNat + 3) * (T.toNat * (T.toNat + 1) / 2)) :
    tapeshift_Triple.f p N T bad da db head rests = some (triH p N T bad da db head, triR p N T bad da db head rests) := by
  unfold tapeshift_Triple.f
  rw [if_pos h, if_pos (resB_iff.2 rda), if_pos (resB_iff.2 rdb), if_pos (ressB_iff.2 rh), if_pos (ressB_iff.2 rr), if_pos lh, if_pos lr]
/-- A shift by zero. -/
theorem by_zero {p : Int} (z : List Int) {l : List Int} (hl : ∀ x ∈ l, Res p x) : byL p z 0 l = l := by
  unfold byL
  refine (tabL_congr fun j hj => ?_).trans (tabL_of l)
  rw [Int.zero_mul, Int.zero_emod, Int.add_zero]
  exact (hl _ (by rw [Hw.getD_in _ _ hj]; exact List.getElem_mem hj)).eq
/-- A shift that changes nothing is one by zero. -/
theorem by_same {p : Int} (hp : Supp p) {z l : List Int} (z0 : z.getD 0 0 = 1) {d : Int} (hd : Res p d) (hn : 0 < l.length) (h : byL p z d l = l) : d = 0 := by
  haveI := nz hp
  have hb := hp.bd
  have h0 : (byL p z d l).getD 0 0 = l.getD 0 0 := by rw [h]
  unfold byL at h0
  rw [tabL_getD, if_pos hn, z0] at h0
  refine T_inj hp hd ⟨Int.le_refl 0, by omega⟩ ?_
  have h1 : T p ((l.getD 0 0 + d * 1 % p) % p) = T p (l.getD 0 0) := by rw [h0]
  rw [T_mod hp, T_add, T_mod hp, T_mul, T_one] at h1
  rw [T_zero]
  grind
theorem vanZ0 {p N U : Int} {bad : List Int} (h : Ok12 p N U bad) : (vanZ p N U bad).getD 0 0 = 1 := by
  have hr : ∀ x ∈ vanZ p N U bad, Res p x := van_res h.hp h.van
  rw [← evI_zero' h.hp hr]
  exact van_zero h.hp h.van
theorem cat_take (l : List Int) (s t : Nat) (f : Nat → List Int) : ∀ n, (∀ m, m < n → f (m + 1) = (l.drop (s + m * t)).take t) → l.take s ++ catF f n = l.take (s + n * t)
  | 0, _ => by rw [catF, List.append_nil, Nat.zero_mul, Nat.add_zero]
  | n + 1, h => by
    rw [catF, ← List.append_assoc, cat_take l s t f n (fun m hm => h m (by omega)), h n (Nat.lt_succ_self n), Nat.succ_mul, ← Nat.add_assoc, List.take_add (i := s + n * t)]
theorem wq_zero (p : Int) (z a b : List Int) (j : Nat) : (wqL p z 0 0 a b).getD j 0 = 0 := by
  unfold wqL
  rw [tabL_getD]
  split
  · simp
  · rfl
theorem tri_zero {p N T : Int} (bad : List Int) {head rests : List Int} (rh : ∀ x ∈ head, Res p x) (rr : ∀ x ∈ rests, Res p x) (lh : head.length = 2 * (T.toNat + 1) + T.toNat * T.toNat) (lr : rests.length = (T.toNat + 3) * (T.toNat * (T.toNat + 1) / 2)) :
    triH p N T bad 0 0 head = head ∧ triR p N T bad 0 0 head rests = rests := by
  have hw : ∀ j, (triW p N T bad 0 0 head).getD j 0 = 0 := fun j => wq_zero p _ _ _ j
  constructor
  · unfold triH
    rw [by_zero _ (res_take rh _), by_zero _ (res_take (res_drop rh _) _), ← List.take_add]
    refine (cat_take head (T.toNat + 1 + (T.toNat + 1)) T.toNat _ T.toNat fun m hm => ?_).trans (List.take_of_length_le (by omega))
    unfold triD
    rw [hw, by_zero _ (res_take (res_drop rh _) _), Nat.add_sub_cancel, show 2 * (T.toNat + 1) = T.toNat + 1 + (T.toNat + 1) by omega]
  · obtain ⟨O, hO⟩ : ∃ O, O = T.toNat * (T.toNat + 1) / 2 := ⟨_, rfl⟩
    have hE : ∀ m, triE p N T bad 0 0 head rests m = (rests.drop ((if m = 0 then T.toNat + 2 else m + 1) * O)).take O := fun m => by
      unfold triE
      rw [hw, by_zero _ (res_take (res_drop rr _) _), ← hO]
    unfold triR
    rw [← hO] at lr ⊢
    rw [by_zero _ (res_take rr _), by_zero _ (res_take (res_drop rr _) _), ← List.take_add]
    rw [cat_take rests (O + O) O _ T.toNat fun m hm => by
      rw [hE, if_neg (by omega)]
      have := Nat.add_mul m 2 O
      rw [show (m + 1 + 1) * O = O + O + m * O by rw [show m + 1 + 1 = m + 2 by omega]; omega]]
    rw [hE, if_pos rfl, show (T.toNat + 2) * O = O + O + T.toNat * O by have := Nat.add_mul T.toNat 2 O; omega, ← List.take_add]
    exact List.take_of_length_le (by have := Nat.add_mul T.toNat 3 O; omega)
theorem triH_len (p N : Int) {T : Int} (bad : List Int) (da db : Int) (hT : T = 1 ∨ T = 2) {head : List Int} (lh : head.length = 2 * (T.toNat + 1) + T.toNat * T.toNat) : (triH p N T bad da db head).length = head.length := by
  have hD : ∀ m, (triD p N T bad da db head m).length = ((head.drop (2 * (T.toNat + 1) + (m - 1) * T.toNat)).take T.toNat).length := fun m => byL_length _ _ _ _
  unfold triH
  rw [List.length_append, List.length_append, byL_length, byL_length]
  rcases hT with rfl | rfl
  · have h1 := hD 1
    have h5 : head.length = 5 := lh
    rw [List.length_take, List.length_drop, h5] at h1
    rw [show Int.toNat 1 = 1 from rfl] at h1 ⊢
    simp only [catF, List.length_append, List.length_nil, h1, List.length_take, List.length_drop, h5]
    decide
  · have h1 := hD 1
    have h2 := hD 2
    have h5 : head.length = 10 := lh
    rw [List.length_take, List.length_drop, h5] at h1 h2
    rw [show Int.toNat 2 = 2 from rfl] at h1 h2 ⊢
    simp only [catF, List.length_append, List.length_nil, h1, h2, List.length_take, List.length_drop, h5]
    decide
theorem triR_len (p N : Int) {T : Int} (bad : List Int) (da db : Int) (hT : T = 1 ∨ T = 2) (head : List Int) {rests : List Int} (lr : rests.length = (T.toNat + 3) * (T.toNat * (T.toNat + 1) / 2)) : (triR p N T bad da db head rests).length = rests.length := by
  have hE : ∀ m, (triE p N T bad da db head rests m).length = ((rests.drop ((if m = 0 then T.toNat + 2 else m + 1) * (T.toNat * (T.toNat + 1) / 2))).take (T.toNat * (T.toNat + 1) / 2)).length := fun m => byL_length _ _ _ _
  unfold triR
  rw [List.length_append, List.length_append, List.length_append, byL_length, byL_length]
  rcases hT with rfl | rfl
  · have h0 := hE 0
    have h1 := hE 1
    have h5 : rests.length = 4 := lr
    rw [List.length_take, List.length_drop, h5] at h0 h1
    rw [show Int.toNat 1 = 1 from rfl] at h0 h1 ⊢
    simp only [catF, List.length_append, List.length_nil, h0, h1, List.length_take, List.length_drop, h5]
    decide
  · have h0 := hE 0
    have h1 := hE 1
    have h2 := hE 2
    have h5 : rests.length = 15 := lr
    rw [List.length_take, List.length_drop, h5] at h0 h1 h2
    rw [show Int.toNat 2 = 2 from rfl] at h0 h1 h2 ⊢
    simp only [catF, List.length_append, List.length_nil, h0, h1, h2, List.length_take, List.length_drop, h5]
    decide
theorem tri_moves {p N T : Int} {bad : List Int} (h : OkM p N T bad) {da db : Int} (rda : Res p da) (rdb : Res p db) {head : List Int} (lh : head.length = 2 * (T.toNat + 1) + T.toNat * T.toNat) (e : triH p N T bad da db head = head) : da = 0 ∧ db = 0 := by
  have hp := h.ok.hp
  have z0 := vanZ0 h.ok
  have la : (head.take (T.toNat + 1)).length = T.toNat + 1 := by rw [List.length_take]; omega
  have lb : ((head.drop (T.toNat + 1)).take (T.toNat + 1)).length = T.toNat + 1 := by rw [List.length_take, List.length_drop]; omega
  have lA : (byL p (vanZ p N T bad) da (head.take (T.toNat + 1))).length = T.toNat + 1 := by rw [byL_length, la]
  have lB : (byL p (vanZ p N T bad) db ((head.drop (T.toNat + 1)).take (T.toNat + 1))).length = T.toNat + 1 := by rw [byL_length, lb]
  unfold triH at e
  rw [List.append_assoc] at e
  have e1 := congrArg (List.take (T.toNat + 1)) e
  rw [List.take_append_of_le_length (by omega), List.take_of_length_le (by omega)] at e1
  have e2 := congrArg (fun l => List.take (T.toNat + 1) (List.drop (T.toNat + 1) l)) e
  rw [List.drop_append_of_le_length (by omega), List.drop_of_length_le (by omega), List.nil_append, List.take_append_of_le_length (by omega), List.take_of_length_le (Nat.le_of_eq lB)] at e2
  exact ⟨by_same hp z0 rda (by omega) e1, by_same hp z0 rdb (by omega) e2⟩
end Go.Proofs.Ytejeelpnmdfibaa.E
end
section
/-
  A sharing or a triple is unchanged if and only if it is shifted by zero.
-/
namespace Go.Proofs.Ytejeelpnmdfibaa.Pure
open Go.RowKit Go.Proofs.Ytejeelpnmdfibaa.Pr Go.Proofs.Ytejeelpnmdfibaa.Hw Go.Proofs.Ytejeelpnmdfibaa.E Go.Proofs.Ytejeelpnmdfibaa.Pl Go.Proofs.YtejeelpnmdfibaaW.PrintWords Go.Proofs.YtejeelpnmdfibaaW.PrintLast Go.Proofs.YtejeelpnmdfibaaW.PrintMore
set_option linter.unusedVariables false
set_option linter.unusedSimpArgs false

/-- What a run of some rounds answers is what it answers at last. -/
theorem ev_uniq {α : Type} {g : Nat → Option α} {r v : α} (hm : ∀ k, LeO (g k) (g (k + 1))) (h : Ev g r) {k : Nat} (e : g k = some v) : v = r := by
  obtain ⟨K, hK⟩ := h
  have hs : ∀ d, g (k + d) = some v := fun d => by
    induction d with
    | zero => exact e
    | succ d ih => exact hm (k + d) _ ih
  exact Option.some.inj ((hs K).symm.trans (hK (k + K) (Nat.le_add_left K k)))
theorem triH_small (p N : Int) {T : Int} (bad : List Int) (da db : Int) (w : List Int) (hT : T = 1 ∨ T = 2) : (triH p N T bad da db (hL p T w)).length ≤ 10 := by
  rw [triH_len p N bad da db hT (hL_length p T w), hL_length]
  rcases hT with rfl | rfl <;> decide
theorem triR_small (p N : Int) {T : Int} (bad : List Int) (da db : Int) (w : List Int) (hT : T = 1 ∨ T = 2) : (triR p N T bad da db (hL p T w) (lL p T w)).length ≤ 15 := by
  rw [triR_len p N bad da db hT _ (lL_length p T w), lL_length]
  rcases hT with rfl | rfl <;> decide
/-- A sharing that a shift leaves as it was is shifted by zero. -/
theorem sameSharing (p N T : Int) (bad : List Int) (da db : Int) (w : List Int) (wda : (Lit.int .u64 da).wf = true) (ww : ∀ x_ ∈ w, (Lit.int .u64 x_).wf = true) (k : Nat) : ∀ x1 x2 y1 y2, privitylaw43_may.f k p N T bad da db w = some true → privitylaw43_one.f k p N T bad da db w = some (x1, x2) → tapeshift_Sharing.f k p N T bad (Int.tmod da p) x1 x2 = some (y1, y2) → privityref14_Words.f k y1 x1 = some true → Int.tmod da p = 0 := by
  intro x1 x2 y1 y2 e0 e1 e2 e3
  have h : mayB p N T bad = true := (ev_uniq (privitylaw43_may.mono _ _ _ _ _ _ _) (may_ev p N T bad da db w) e0).symm
  have hm := okM h
  have hp := hm.ok.hp
  have hT := hm.t
  have hw : ∀ x ∈ w, 0 ≤ x := fun x hx => (wf64 (ww x hx)).1
  have rda := Res.mod hp da
  have lq : (qL p T w).length = T.toNat + 1 := cutL_length _ _ _ _
  have lr : (rL p T w).length = T.toNat * (T.toNat + 1) / 2 := cutL_length _ _ _ _
  have rq : ∀ x ∈ qL p T w, Res p x := cutL_res hp _ _ _
  have rr : ∀ x ∈ rL p T w, Res p x := cutL_res hp _ _ _
  have o := ev_uniq (privitylaw43_one.mono _ _ _ _ _ _ _) (one_ev hp N hT bad da db hw) e1
  cases o
  rw [tmod_pos (wf64 wda).1] at e2 ⊢
  have s := ev_uniq (tapeshift_Sharing.mono _ _ _ _ _ _ _) (sharing_ev hm rda rq rr lq lr) e2
  cases s
  have w1 := ev_uniq (privityref14_Words.mono _ _) (words_ev (byL p (vanZ p N T bad) (da % p) (qL p T w)) (qL p T w) (by rw [byL_length]; omega)) e3
  exact by_same hp (vanZ0 hm.ok) rda (by omega) (of_decide_eq_true w1.symm)
/-- A triple whose first words a shift leaves as they were is shifted by zero at first. -/
theorem sameTriple (p N T : Int) (bad : List Int) (da db : Int) (w : List Int) (wda : (Lit.int .u64 da).wf = true) (wdb : (Lit.int .u64 db).wf = true) (ww : ∀ x_ ∈ w, (Lit.int .u64 x_).wf = true) (k : Nat) : ∀ x1 x2 y1 y2, privitylaw43_may.f k p N T bad da db w = some true → privitylaw43_triple.f k p N T bad da db w = some (x1, x2) → tapeshift_Triple.f p N T bad (Int.tmod da p) (Int.tmod db p) x1 x2 = some (y1, y2) → privityref14_Words.f k y1 x1 = some true → Int.tmod da p = 0 := by
  intro x1 x2 y1 y2 e0 e1 e2 e3
  have h : mayB p N T bad = true := (ev_uniq (privitylaw43_may.mono _ _ _ _ _ _ _) (may_ev p N T bad da db w) e0).symm
  have hm := okM h
  have hp := hm.ok.hp
  have hT := hm.t
  have hw : ∀ x ∈ w, 0 ≤ x := fun x hx => (wf64 (ww x hx)).1
  have rda := Res.mod hp da
  have rdb := Res.mod hp db
  have lh := hL_length p T w
  have ll := lL_length p T w
  have rh : ∀ x ∈ hL p T w, Res p x := cutL_res hp _ _ _
  have rl : ∀ x ∈ lL p T w, Res p x := cutL_res hp _ _ _
  have o := ev_uniq (privitylaw43_triple.mono _ _ _ _ _ _ _) (triple_ev hp N hT bad da db hw) e1
  cases o
  rw [tmod_pos (wf64 wda).1, tmod_pos (wf64 wdb).1, tri_eq h rda rdb rh rl lh ll] at e2
  cases e2
  rw [tmod_pos (wf64 wda).1]
  have w1 := ev_uniq (privityref14_Words.mono _ _) (words_ev (triH p N T bad (da % p) (db % p) (hL p T w)) (hL p T w) (by have := triH_small p N bad (da % p) (db % p) w hT; omega)) e3
  exact (tri_moves hm rda rdb lh (of_decide_eq_true w1.symm)).1
theorem TapeshiftIdentity (p N T : Int) (bad : List Int) (da db : Int) (w : List Int) (wp : (Lit.int .u64 p).wf = true) (wN : (Lit.int .i64 N).wf = true) (wT : (Lit.int .i64 T).wf = true) (wb : ∀ x_ ∈ bad, (Lit.int .i64 x_).wf = true) (wda : (Lit.int .u64 da).wf = true) (wdb : (Lit.int .u64 db).wf = true) (ww : ∀ x_ ∈ w, (Lit.int .u64 x_).wf = true) : ∃ k, privitylaw43_TapeshiftIdentity.f k p N T bad da db w = some true := by
  refine Ev.rounds (r := true) ?_
  unfold privitylaw43_TapeshiftIdentity.f
  refine ev_if (may_ev p N T bad da db w) (fun h => ?_) (fun _ => awake43')
  have hm := okM h
  have hp := hm.ok.hp
  have hb := hp.bd
  have hT := hm.t
  have hw : ∀ x ∈ w, 0 ≤ x := fun x hx => (wf64 (ww x hx)).1
  have rda := Res.mod hp da
  have rdb := Res.mod hp db
  have hone := one_ev hp N hT bad da db hw
  have htri := triple_ev hp N hT bad da db hw
  have lq : (qL p T w).length = T.toNat + 1 := cutL_length _ _ _ _
  have lr : (rL p T w).length = T.toNat * (T.toNat + 1) / 2 := cutL_length _ _ _ _
  have lh := hL_length p T w
  have ll := lL_length p T w
  have rq : ∀ x ∈ qL p T w, Res p x := cutL_res hp _ _ _
  have rr : ∀ x ∈ rL p T w, Res p x := cutL_res hp _ _ _
  have rh : ∀ x ∈ hL p T w, Res p x := cutL_res hp _ _ _
  have rl : ∀ x ∈ lL p T w, Res p x := cutL_res hp _ _ _
  have small : T.toNat + 1 ≤ 3 ∧ T.toNat * (T.toNat + 1) / 2 ≤ 3 ∧ (triH p N T bad (da % p) (db % p) (hL p T w)).length ≤ 1000 ∧ (triR p N T bad (da % p) (db % p) (hL p T w) (lL p T w)).length ≤ 1000 := by
    refine ⟨by omega, by rcases hT with rfl | rfl <;> decide, ?_, ?_⟩
    · have := triH_small p N bad (da % p) (db % p) w hT; omega
    · have := triR_small p N bad (da % p) (db % p) w hT; omega
  have hs := sharing_ev hm rda rq rr lq lr
  have ht := tri_eq h rda rdb rh rl lh ll
  have w1 := words_ev (byL p (vanZ p N T bad) (da % p) (qL p T w)) (qL p T w) (by rw [byL_length]; omega)
  have w2 := words_ev (byL p (wL p T (vanZ p N T bad)) (da % p) (rL p T w)) (rL p T w) (by rw [byL_length]; omega)
  have w3 := words_ev (triH p N T bad (da % p) (db % p) (hL p T w)) (hL p T w) (by omega)
  have w4 := words_ev (triR p N T bad (da % p) (db % p) (hL p T w) (lL p T w)) (lL p T w) (by omega)
  rw [tmod_pos (wf64 wda).1, tmod_pos (wf64 wdb).1]
  refine Ev.bind hone ?_
  refine Ev.congr (fun k => if_neg (by omega)) ?_
  refine Ev.bind hs (Ev.bind htri (ev_now_bind ht (Ev.bind w1 ?_)))
  by_cases d0 : da % p = 0
  · rw [d0] at w1 w2 w3 w4 ⊢
    rw [by_zero _ rq, decide_eq_true rfl]
    refine Ev.congr (fun k => if_pos rfl) ?_
    have e2 : decide (byL p (wL p T (vanZ p N T bad)) 0 (rL p T w) = rL p T w) = true := decide_eq_true (by_zero _ rr)
    rw [e2] at w2
    refine Ev.bind w2 (Ev.bind w3 ?_)
    by_cases e0 : db % p = 0
    · rw [e0] at w3 w4 ⊢
      obtain ⟨z1, z2⟩ := tri_zero (N := N) (T := T) bad rh rl lh ll
      rw [decide_eq_true z1]
      rw [decide_eq_true z2] at w4
      refine Ev.congr (fun k => if_pos rfl) ?_
      refine Ev.bind w4 (ev_if awake43 (fun _ => ?_) fun h => by cases h)
      exact Ev.now _
    · have hne : decide (triH p N T bad 0 (db % p) (hL p T w) = hL p T w) = false := decide_eq_false fun e => e0 (tri_moves hm (by rw [← d0]; exact rda) rdb lh e).2
      rw [hne]
      refine Ev.congr (fun k => if_neg (by simp)) ?_
      refine ev_if awake43 (fun _ => ?_) fun h => by cases h
      refine Ev.congr (fun k => if_pos (by simp)) (Ev.congr (fun k => if_pos rfl) ?_)
      have hd : (db % p == 0) = false := beq_eq_false_iff_ne.2 e0
      rw [hd]
      exact Ev.now _
  · have hne : decide (byL p (vanZ p N T bad) (da % p) (qL p T w) = qL p T w) = false := decide_eq_false fun e => d0 (by_same hp (vanZ0 hm.ok) rda (by omega) e)
    rw [hne]
    refine Ev.congr (fun k => if_neg (by simp)) ?_
    have hne2 : decide (triH p N T bad (da % p) (db % p) (hL p T w) = hL p T w) = false := decide_eq_false fun e => d0 (tri_moves hm rda rdb lh e).1
    rw [hne2] at w3
    refine Ev.bind w3 ?_
    refine Ev.congr (fun k => if_neg (by simp)) ?_
    refine ev_if awake43 (fun _ => ?_) fun h => by cases h
    have hd : (da % p == 0) = false := beq_eq_false_iff_ne.2 d0
    rw [hd]
    exact Ev.congr (fun k => if_pos rfl) (Ev.congr (fun k => if_neg d0) (Ev.now _))
end Go.Proofs.Ytejeelpnmdfibaa.Pure
end
section
/-
  What came in, opened: numbers, bools, rows and structs of them, to any depth.
-/
namespace Go.Proofs.Ytejeelpnmdfibaa.Op
open Go.RowKit Go.Proofs.YtejeelpnmdfibaaW.PrintWords
set_option linter.unusedVariables false

/-- What is read of a type's value is a value of d, and Q holds of it. -/
def OpenK {α : Type} (P : Program) (t : TypeId) (d : Kd α) (Q : α → Prop) : Prop :=
  ∀ {H : Type} {enc : TypeId × Value → H} {w : World} {base : Nat} {sp : Nat → Bool} {hd : Bool} {fuel : Nat} {cs : List Value} {x : DataW H × List MemPlace}, DataW.trod enc P w base sp hd fuel t cs = some x → ∃ v : α, d.K w v cs ∧ Q v
theorem openInt {P : Program} {t : TypeId} {k : IntKind} (ht : P.underlying t = some (.int k)) : OpenK P t (Kd.int k) (fun n => (Lit.int k n).wf = true) := by
  intro H enc w base sp hd fuel cs x h
  obtain ⟨n, rfl, _, hw⟩ := DataW.trod_int ht h
  exact ⟨n, rfl, hw⟩
theorem exists_list {α : Type} {R : Nat → α → Prop} : ∀ (n : Nat), (∀ i, i < n → ∃ v, R i v) → ∃ l : List α, l.length = n ∧ ∀ i v, l[i]? = some v → R i v
  | 0, _ => ⟨[], rfl, fun i v h => by simp at h⟩
  | n + 1, h => by
    obtain ⟨l, hl, hr⟩ := exists_list n (fun i hi => h i (by omega))
    obtain ⟨v, hv⟩ := h n (by omega)
    refine ⟨l ++ [v], by simp [hl], fun i u hu => ?_⟩
    by_cases hi : i < n
    · rw [List.getElem?_append_left (by omega)] at hu
      exact hr i u hu
    · rw [List.getElem?_append_right (by omega)] at hu
      by_cases h0 : i - l.length = 0
      · rw [h0] at hu
        simp only [List.getElem?_cons_zero, Option.some.injEq] at hu
        rw [← hu, show i = n from by omega]; exact hv
      · rw [List.getElem?_eq_none (by simp; omega)] at hu; cases hu
theorem openSlice {α : Type} {P : Program} {t e : TypeId} {d : Kd α} {Q : α → Prop} (ht : P.underlying t = some (.slice e)) (hc : P.cellsOf e = d.sz) (he : OpenK P e d Q) : OpenK P t (Kd.slice e d) (fun l => ∀ x ∈ l, Q x) := by
  intro H enc w base sp hd fuel cs x h
  rcases DataW.trod_slice ht h with ⟨rfl, _⟩ | ⟨a, len, cap, elems, rest, n, _, rfl, _, _, hlc, hm, hlen, hel, _, _⟩
  · exact ⟨[], ⟨none, 0, rfl, Nat.le_refl _, rfl, Nat.zero_le _, fun h => absurd h (Nat.lt_irrefl 0)⟩, fun x hx => by cases hx⟩
  · have each : ∀ i, i < len → ∃ v, (∃ c, c.length = d.sz ∧ d.K w v c ∧ ∀ j u, c[j]? = some u → w.cell? (a.add (i * d.sz + j)) = some u) ∧ Q v := by
      intro i hi
      have h1 := hel i hi
      rw [List.getElem?_eq_getElem (by omega), hc] at h1
      obtain ⟨c, hcs, htr⟩ := Option.bind_eq_some_iff.1 h1
      obtain ⟨v, hk, hq⟩ := he htr
      refine ⟨v, ⟨c, d.K_len hk, hk, fun j u hu => ?_⟩, hq⟩
      have h2 := World.cells?_some hcs
      have hj := (List.getElem?_eq_some_iff.1 hu).1
      have h3 := h2.2.2 j (by rw [← d.K_len hk]; exact hj)
      rw [hu] at h3
      rw [← h3, ← Addr.add_add]
    obtain ⟨l, hl, hr⟩ := exists_list len each
    refine ⟨l, ⟨some a, cap, by rw [hl], by omega, rfl, by rw [hl]; simp only [maxLen] at hm; omega, fun _ => ⟨a, rfl, fun j p hj => (hr j p hj).1⟩⟩, fun x hx => ?_⟩
    obtain ⟨i, hi, rfl⟩ := List.getElem_of_mem hx
    exact (hr i _ (List.getElem?_eq_getElem hi)).2
/-- A struct's fields. -/
theorem openFields {P : Program} {H : Type} {enc : TypeId × Value → H} {w : World} {base : Nat} {sp : Nat → Bool} {hd : Bool} {fuel : Nat} {t : TypeId} {cs : List Value} {x : DataW H × List MemPlace} {fs : Array Field} (ht : P.underlying t = some (.struct fs))
    (h : DataW.trod enc P w base sp hd fuel t cs = some x) : cs.length = P.cellsOf t ∧ ∀ (i : Nat) (f : Field), fs[i]? = some f → ∃ n y, DataW.trod enc P w base sp hd n f.type ((cs.drop f.offset).take (P.cellsOf f.type)) = some y := by
  obtain ⟨xs, n, _, _, hl, hlen, hf⟩ := DataW.trod_struct ht h
  refine ⟨hl, fun i f hi => ?_⟩
  have h1 := hf i f hi
  have h2 : i < fs.size := (Array.getElem?_eq_some_iff.1 hi).1
  rw [List.getElem?_eq_getElem (by omega)] at h1
  exact ⟨n, _, h1⟩
end Go.Proofs.Ytejeelpnmdfibaa.Op
end
section
/- The row of the law TapeshiftIdentity, out of its plain law and the walk. -/
namespace Go.Proofs.Ytejeelpnmdfibaa.tapeshiftIdentity
open Go.ChangeShapes Go.WideShapes Go.ChangeAt Go.RowKit Go.Proofs.Ytejeelpnmdfibaa.Pr Go.Proofs.YtejeelpnmdfibaaW.PrintWords
set_option linter.unusedVariables false
theorem own : ownKnob Try.prog.godebug = none := by kernel_rfl
theorem laidOut : laidOutB Try.prog = true := by kernel_rfl
set_option maxRecDepth 100000 in
theorem arr7 (cs : Array Value) (h : cs.size = 7) : ∃ c0_ c1_ c2_ c3_ c4_ c5_ c6_, cs = #[c0_, c1_, c2_, c3_, c4_, c5_, c6_] := by
  obtain ⟨l_⟩ := cs
  match l_, h with
  | [c0_, c1_, c2_, c3_, c4_, c5_, c6_], _ => exact ⟨_, _, _, _, _, _, _, rfl⟩
set_option maxHeartbeats 4000000 in
set_option maxRecDepth 100000 in
theorem lifted (os : Os) (started : os.Started) (H : Type) (enc : TypeId × Value → H) :
    ReturnsInHanded {} Try.checked os 9 .any (Rows.tapeshiftIdentitySpec.pre6 enc Try.prog Try.f9 Rows.tapeshiftIdentityRow.domain false) (Rows.tapeshiftIdentitySpec.post enc Try.prog Try.f9 false true false false) := by
  refine returnsInHanded_of_change_sized (C := Try.checked) own started (by kernel_rfl) Try.func9
    (ChangeSpec.witness6 (enc := enc) (C := Try.checked) false ⟨#[], #[.agg #[.int .u64 0, .int .i64 0, .int .i64 0, .slice none 0 0, .int .u64 0, .int .u64 0, .slice none 0 0]], []⟩ 8 (by kernel_rfl) (by kernel_rfl) (by kernel_rfl) (by kernel_rfl)) ?_
  intro W base args ds gs before hval0 hW hcnd hsz0 _
  have hval : ∀ (j : Nat) t v, Try.f9.params[j]? = some t → args[j]? = some v → Value.okWide Try.prog W .any base t v := hval0
  have hW' := hW
  obtain ⟨p, q, hA0, hV, rfl, hfz, hnd⟩ := hW
  have hA : DataW.TrodAll enc Try.prog W 0 (fun _ => true) true Try.f9.params.toList args.toList ds p := hA0
  rw [Try.params9] at hA hval
  obtain ⟨v0, vs0, d0, ds0, p0, q0, hargs, rfl, rfl, h0, r0⟩ := trodAll_cons hA
  obtain ⟨rfl, rfl, rfl⟩ := trodAll_nil r0
  obtain rfl : args = #[v0] := by cases args; simp_all
  obtain ⟨rfl, rfl⟩ := trodVars_none hV
  have k0 := h0
  have lt0 : ∀ x ∈ p0, x.block < W.heap.size := by obtain ⟨m, hm⟩ := k0; exact DataW.trod_lt m _ _ _ hm
  obtain ⟨cs0, rfl, hs0⟩ := okWide_struct Try.underlying28 (hval 0 28 v0 rfl rfl)
  have hN0 : Try.prog.cellsOf 28 = 7 := by kernel_rfl
  rw [hN0] at hs0
  obtain ⟨x0_0, x0_1, x0_2, x0_3, x0_4, x0_5, x0_6, rfl⟩ := arr7 cs0 hs0
  obtain ⟨fu0, hf0⟩ := h0
  have hg0 : DataW.trod enc Try.prog W 0 (fun _ => true) true fu0 28 [x0_0, x0_1, x0_2, x0_3, x0_4, x0_5, x0_6] = some (d0, p0) := hf0
  have f0 := (Op.openFields Try.underlying28 hg0).2
  obtain ⟨n0_0, y0_0, e0_0⟩ := f0 0 _ rfl
  have b0_0 : DataW.trod enc Try.prog W 0 (fun _ => true) true n0_0 24 [x0_0, x0_1, x0_2] = some y0_0 := e0_0
  have f0_0 := (Op.openFields Try.underlying24 b0_0).2
  obtain ⟨n0_0_0, y0_0_0, e0_0_0⟩ := f0_0 0 _ rfl
  have b0_0_0 : DataW.trod enc Try.prog W 0 (fun _ => true) true n0_0_0 22 [x0_0] = some y0_0_0 := e0_0_0
  obtain ⟨a0_0_0, e0_0_0, w0_0_0⟩ := (Op.openInt (k := .u64) Try.underlying22) b0_0_0
  cases e0_0_0
  obtain ⟨n0_0_1, y0_0_1, e0_0_1⟩ := f0_0 1 _ rfl
  have b0_0_1 : DataW.trod enc Try.prog W 0 (fun _ => true) true n0_0_1 3 [x0_1] = some y0_0_1 := e0_0_1
  obtain ⟨a0_0_1, e0_0_1, w0_0_1⟩ := (Op.openInt (k := .i64) Try.underlying3) b0_0_1
  cases e0_0_1
  obtain ⟨n0_0_2, y0_0_2, e0_0_2⟩ := f0_0 2 _ rfl
  have b0_0_2 : DataW.trod enc Try.prog W 0 (fun _ => true) true n0_0_2 3 [x0_2] = some y0_0_2 := e0_0_2
  obtain ⟨a0_0_2, e0_0_2, w0_0_2⟩ := (Op.openInt (k := .i64) Try.underlying3) b0_0_2
  cases e0_0_2
  obtain ⟨n0_1, y0_1, e0_1⟩ := f0 1 _ rfl
  have b0_1 : DataW.trod enc Try.prog W 0 (fun _ => true) true n0_1 25 [x0_3] = some y0_1 := e0_1
  obtain ⟨z0_1, ⟨A0_1, c0_1, e0_1, hc0_1, g0_1⟩, w0_1⟩ := (Op.openSlice (d := (Kd.int .i64)) Try.underlying25 (by kernel_rfl) (Op.openInt (k := .i64) Try.underlying3)) b0_1
  cases e0_1
  obtain ⟨n0_2, y0_2, e0_2⟩ := f0 2 _ rfl
  have b0_2 : DataW.trod enc Try.prog W 0 (fun _ => true) true n0_2 22 [x0_4] = some y0_2 := e0_2
  obtain ⟨a0_2, e0_2, w0_2⟩ := (Op.openInt (k := .u64) Try.underlying22) b0_2
  cases e0_2
  obtain ⟨n0_3, y0_3, e0_3⟩ := f0 3 _ rfl
  have b0_3 : DataW.trod enc Try.prog W 0 (fun _ => true) true n0_3 22 [x0_5] = some y0_3 := e0_3
  obtain ⟨a0_3, e0_3, w0_3⟩ := (Op.openInt (k := .u64) Try.underlying22) b0_3
  cases e0_3
  obtain ⟨n0_4, y0_4, e0_4⟩ := f0 4 _ rfl
  have b0_4 : DataW.trod enc Try.prog W 0 (fun _ => true) true n0_4 26 [x0_6] = some y0_4 := e0_4
  obtain ⟨z0_4, ⟨A0_4, c0_4, e0_4, hc0_4, g0_4⟩, w0_4⟩ := (Op.openSlice (d := (Kd.int .u64)) Try.underlying26 (by kernel_rfl) (Op.openInt (k := .u64) Try.underlying22)) b0_4
  cases e0_4
  clear hA0 hval0 hsz0
  obtain ⟨kk, hk⟩ := Pure.TapeshiftIdentity a0_0_0 a0_0_1 a0_0_2 z0_1 a0_2 a0_3 z0_4 w0_0_0 w0_0_1 w0_0_2 w0_1 w0_2 w0_3 w0_4
  refine (privitylaw43_TapeshiftIdentity.calls kk a0_0_0 a0_0_1 a0_0_2 _ _ z0_1 a0_2 a0_3 _ _ z0_4 true W g0_1 hc0_1 g0_4 hc0_4 rfl (Pure.sameSharing a0_0_0 a0_0_1 a0_0_2 z0_1 a0_2 a0_3 z0_4 w0_2 w0_4 kk) (Pure.sameTriple a0_0_0 a0_0_1 a0_0_2 z0_1 a0_2 a0_3 z0_4 w0_2 w0_3 w0_4 kk) hk).mono fun e W' ⟨he, bel⟩ => ?_
  subst he
  exact ⟨_, rfl, _, _, _, [], _, [], hW', trodAll_mk1 (shut_bool Try.underlying4 _), (trodAll_cons_mk (Below.trod laidOut (by kernel_rfl) (of_decide_eq_true (by kernel_rfl)) k0 bel lt0) trodAll_mk0), rfl, bel.frame _, fun h => by cases h⟩
theorem over : Rows.tapeshiftIdentityRow.holds Try.pinned (OpenSpec.ofChange Rows.tapeshiftIdentitySpec) :=
  OpenClaim.holds_of_wide 9 Try.f9 rfl rfl rfl rfl rfl rfl rfl ⟨rfl, rfl, rfl, rfl, rfl⟩ rfl rfl rfl rfl rfl (by kernel_rfl) Try.func9 (by kernel_rfl)
    (of_decide_eq_true (by kernel_rfl)) (by unfold Func.isWrapper; first | (rw [if_pos (by decide +kernel)]; kernel_rfl) | (rw [if_neg (by decide +kernel)]; exact ⟨rfl, rfl⟩))
    (fun os started H enc _ => lifted os started H enc)
theorem proved : Rows.TapeshiftIdentitySaid := over
#print axioms proved
end Go.Proofs.Ytejeelpnmdfibaa.tapeshiftIdentity
namespace Go.Proofs.Ytejeelpnmdfibaa
/-- The row, under a short name, for the claim. -/
theorem tapeshiftIdentity_holds : Rows.TapeshiftIdentitySaid := tapeshiftIdentity.proved
end Go.Proofs.Ytejeelpnmdfibaa
end
