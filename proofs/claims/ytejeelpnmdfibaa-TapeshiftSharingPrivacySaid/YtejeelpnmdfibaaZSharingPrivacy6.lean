/- The row of the law TapeshiftSharingPrivacy, out of its plain law and the walk. -/
import Derived.Test.YtejeelpnmdfibaaZSharingPrivacy3
import Derived.Test.YtejeelpnmdfibaaZSharingPrivacy4
import Derived.Test.YtejeelpnmdfibaaZSharingPrivacy1
import Derived.Test.YtejeelpnmdfibaaZSharingPrivacy5
import Derived.Test.YtejeelpnmdfibaaProg
import Derived.ChangeArms
import Derived.DataReads
import Derived.DataElems
import Derived.ShutString
import Derived.ChangeSame
import Derived.Test.YtejeelpnmdfibaaZSharingPrivacy0
import Derived.Test.YtejeelpnmdfibaaRows
import Derived.WalkKit
import Derived.ProofKit
import Derived.OpenShut
import Derived.ChangeOld
import Derived.Below
import Derived.SizedLaws
section
/-
  What the statements of chapter 43 share: valid coalitions, the words of a sharing, the vanishing polynomial, the shift of a sharing.
-/
namespace Go.Proofs.Ytejeelpnmdfibaa.E
open Go.RowKit Go.Proofs.Ytejeelpnmdfibaa.Pr Go.Proofs.Ytejeelpnmdfibaa.Hw Go.Proofs.Ytejeelpnmdfibaa.Pl Go.Proofs.YtejeelpnmdfibaaW.PrintWords Go.Proofs.YtejeelpnmdfibaaW.PrintLast Go.Proofs.YtejeelpnmdfibaaW.PrintMore
set_option linter.unusedVariables false
set_option linter.unusedSimpArgs false

/-- A loop that asks one thing of each index. -/
theorem allQ {F : Nat → Int → Option Bool} {n : Nat} {Q : Nat → Prop} [DecidablePred Q] {e : Bool} (hend : Ev (fun k => F k (n : Int)) e) (hyes : ∀ i, i < n → Q i → ∀ r, Ev (fun k => F k ((i + 1 : Nat) : Int)) r → Ev (fun k => F k (i : Int)) r)
    (hno : ∀ i, i < n → ¬ Q i → Ev (fun k => F k (i : Int)) false) (r : Bool) (hr : r = true ↔ ((∀ i, i < n → Q i) ∧ e = true)) : Ev (fun k => F k ((0 : Nat) : Int)) r := by
  by_cases hall : ∀ i, i < n → Q i
  · have : r = e := by
      cases e with
      | true => exact hr.2 ⟨hall, rfl⟩
      | false => exact Bool.eq_false_iff.mpr fun h => by have := (hr.1 h).2; cases this
    rw [this]
    exact up (Q := fun i => Ev (fun k => F k (i : Int)) e) (n := n) hend fun i hi h => hyes i hi (hall i hi) e h
  · have hf : r = false := Bool.eq_false_iff.mpr fun h => hall (hr.1 h).1
    rw [hf]
    obtain ⟨i, hi, hq⟩ : ∃ i, i < n ∧ ¬ Q i := Classical.byContradiction fun h => hall fun i hi => Classical.byContradiction fun hq => h ⟨i, hi, hq⟩
    refine up (Q := fun i => Ev (fun k => F k (i : Int)) false) (n := i) (hno i hi hq) fun j hj h => ?_
    by_cases hqj : Q j
    · exact hyes j (by omega) hqj false h
    · exact hno j (by omega) hqj
theorem words_ev (a b : List Int) (ha : a.length ≤ 1000000000) : Ev (fun k => privityref14_Words.f k a b) (decide (a = b)) := by
  by_cases hl : a.length = b.length
  · have h := allQ (F := fun k i => privityref14_Words.l0 k a b i) (n := a.length) (Q := fun i => a.getD i 0 = b.getD i 0) (e := true) ?_ (fun i hi hq r h => ?_) (fun i hi hq => ?_) (decide (a = b)) ?_
    · refine h.congr fun k => ?_
      unfold privityref14_Words.f
      rw [if_pos (by omega)]; rfl
    · refine Ev.step (fun k => ?_) (Ev.now _)
      simp only [privityref14_Words.l0]
      rw [if_neg (by omega)]
    · refine Ev.step (fun k => ?_) h
      simp only [privityref14_Words.l0]
      rw [if_pos (by omega), if_pos (by omega), if_pos (by omega), rd_nat, rd_nat, if_pos hq, wnat (by omega)]
    · refine Ev.step (fun k => ?_) (Ev.now _)
      simp only [privityref14_Words.l0]
      rw [if_pos (by omega), if_pos (by omega), if_pos (by omega), rd_nat, rd_nat, if_neg hq]
    · rw [decide_eq_true_iff]
      refine ⟨fun e => ⟨fun i _ => by rw [e], rfl⟩, fun h => list_ext_getD hl fun i => ?_⟩
      by_cases hi : i < a.length
      · exact h.1 i hi
      · rw [getD_out a i (by omega), getD_out b i (by omega)]
  · have : decide (a = b) = false := decide_eq_false fun e => hl (by rw [e])
    rw [this]
    refine Ev.congr (fun k => ?_) (Ev.now _)
    unfold privityref14_Words.f
    rw [if_neg (by omega)]
/-! Valid parameters and coalitions. -/
def val12B (p N T : Int) : Bool := supB p && decide (4 ≤ N ∧ N ≤ 13 ∧ N < p ∧ 1 ≤ T ∧ T < N ∧ 3 * T < N)
theorem val12_ev (p N T : Int) : Ev (fun k => privityref12_Valid.f k p N T) (val12B p N T) := by
  unfold privityref12_Valid.f
  refine ev_if (supported_ev p) (fun h => ?_) (fun h => ?_)
  · unfold val12B
    rw [h, Bool.true_and]
    refine Ev.congr (fun k => ?_) (Ev.now _)
    by_cases h1 : 4 ≤ N
    · rw [if_pos h1]
      by_cases h2 : N ≤ 13
      · rw [if_pos h2, wrapU_id (by omega) (by omega)]
        by_cases h3 : N < p
        · rw [if_pos h3]
          by_cases h4 : 1 ≤ T
          · rw [if_pos h4]
            by_cases h5 : T < N
            · rw [if_pos h5, w64' (by omega) (by omega)]
              by_cases h6 : 3 * T < N
              · rw [decide_eq_true h6, decide_eq_true ⟨h1, h2, h3, h4, h5, h6⟩]
              · rw [decide_eq_false h6, decide_eq_false fun h => h6 h.2.2.2.2.2]
            · rw [if_neg h5, decide_eq_false fun h => h5 h.2.2.2.2.1]
          · rw [if_neg h4, decide_eq_false fun h => h4 h.2.2.2.1]
        · rw [if_neg h3, decide_eq_false fun h => h3 h.2.2.1]
      · rw [if_neg h2, decide_eq_false fun h => h2 h.2.1]
    · rw [if_neg h1, decide_eq_false fun h => h1 h.1]
  · have : val12B p N T = false := by unfold val12B; rw [h]; rfl
    rw [this]; exact Ev.now _
/-- Increasing numbers of parties. -/
def IncAt (N : Int) (l : List Int) (i : Nat) : Prop := 1 ≤ l.getD i 0 ∧ l.getD i 0 ≤ N ∧ (i = 0 ∨ l.getD (i - 1) 0 < l.getD i 0)
instance (N : Int) (l : List Int) : DecidablePred (IncAt N l) := fun i => by unfold IncAt; infer_instance
def incB (N : Int) (l : List Int) : Bool := decide (∀ i, i < l.length → IncAt N l i)
def coaB (p N T : Int) (l : List Int) : Bool := val12B p N T && (decide ((l.length : Int) ≤ T) && incB N l)
theorem coa12_ev (p N T : Int) (l : List Int) : Ev (fun k => privityref12_ValidCoalition.f k p N T l) (coaB p N T l) := by
  unfold privityref12_ValidCoalition.f
  have hno : ∀ r, r = false → Ev (fun k => privityref12_ValidCoalition.j0 k l true p N T) r := fun r hr => by
    subst hr
    refine Ev.step (fun k => ?_) (Ev.now _)
    simp only [privityref12_ValidCoalition.j0]
    rw [if_pos trivial]
  refine ev_if (val12_ev p N T) (fun h => ?_) (fun h => hno _ (by unfold coaB; rw [h]; rfl))
  unfold coaB
  rw [h, Bool.true_and]
  unfold val12B at h
  rw [Bool.and_eq_true, decide_eq_true_eq] at h
  obtain ⟨_, a1, a2, a3, a4, a5, a6⟩ := h
  by_cases hl : (l.length : Int) > T
  · rw [decide_eq_true hl]
    exact hno _ (by rw [decide_eq_false (by omega)]; rfl)
  · rw [decide_eq_false hl, decide_eq_true (by omega), Bool.true_and]
    refine Ev.step (f := fun k => privityref12_ValidCoalition.l0 k l ((0 : Nat) : Int) p N T) (fun k => ?_) ?_
    · simp only [privityref12_ValidCoalition.j0]
      rw [if_neg (by simp)]; rfl
    · refine allQ (F := fun k i => privityref12_ValidCoalition.l0 k l i p N T) (n := l.length) (Q := IncAt N l) (e := true) ?_ (fun i hi hq r h => ?_) (fun i hi hq => ?_) (incB N l) (by unfold incB; rw [decide_eq_true_iff]; exact ⟨fun h => ⟨h, rfl⟩, fun h => h.1⟩)
      · refine Ev.step (fun k => ?_) (Ev.now _)
        simp only [privityref12_ValidCoalition.l0]
        rw [if_neg (by omega)]
      · obtain ⟨q1, q2, q3⟩ := hq
        refine Ev.step (fun k => ?_) h
        simp only [privityref12_ValidCoalition.l0]
        rw [if_pos (by omega), if_pos (by omega), rd_nat, if_neg (by omega), if_neg (by omega), wnat (by omega)]
        by_cases h0 : i = 0
        · rw [if_neg (by omega)]
        · rw [if_pos (by omega), w64' (n := (i : Int) - 1) (by omega) (by omega), if_pos (by omega), if_pos (by omega), show (i : Int) - 1 = ((i - 1 : Nat) : Int) from by omega, rd_nat, if_neg (by have := q3.resolve_left h0; omega)]
      · refine Ev.step (fun k => ?_) (Ev.now _)
        simp only [privityref12_ValidCoalition.l0]
        rw [if_pos (by omega), if_pos (by omega), rd_nat]
        by_cases q1 : l.getD i 0 < 1
        · rw [if_pos q1]
        · rw [if_neg q1]
          by_cases q2 : l.getD i 0 > N
          · rw [if_pos q2]
          · have h0 : i ≠ 0 := fun e => hq ⟨by omega, by omega, .inl e⟩
            rw [if_neg q2, if_pos (by omega), w64' (n := (i : Int) - 1) (by omega) (by omega), if_pos (by omega), if_pos (by omega), show (i : Int) - 1 = ((i - 1 : Nat) : Int) from by omega, rd_nat, if_pos (Int.not_lt.1 fun h => hq ⟨by omega, by omega, .inr h⟩)]
def mayB (p N T : Int) (l : List Int) : Bool := val12B p N T && (decide (N ≤ 7) && coaB p N T l)
theorem may_ev (p N T : Int) (l : List Int) (da db : Int) (w : List Int) : Ev (fun k => privitylaw43_may.f k p N T l da db w) (mayB p N T l) := by
  unfold privitylaw43_may.f
  refine ev_if (val12_ev p N T) (fun h => ?_) (fun h => by unfold mayB; rw [h]; exact Ev.now _)
  unfold mayB
  rw [h, Bool.true_and]
  refine ev_ite (fun h7 => ?_) (fun h7 => by rw [decide_eq_false h7]; exact Ev.now _)
  rw [decide_eq_true h7, Bool.true_and]
  exact Ev.bind (coa12_ev p N T l) (Ev.now _)
theorem inc_lt {N : Int} {l : List Int} (h : ∀ i, i < l.length → IncAt N l i) (i : Nat) : ∀ d, i + d + 1 < l.length → l.getD i 0 < l.getD (i + d + 1) 0
  | 0, hd => by
    have := (h (i + 1) hd).2.2.resolve_left (by omega)
    rwa [Nat.add_sub_cancel] at this
  | d + 1, hd => by
    have h1 := inc_lt h i d (by omega)
    have h2 := (h (i + d + 1 + 1) hd).2.2.resolve_left (by omega)
    rw [Nat.add_sub_cancel] at h2
    have : i + (d + 1) + 1 = i + d + 1 + 1 := by omega
    rw [this]; omega
/-- Valid parameters and a valid coalition. -/
structure Ok12 (p N T : Int) (bad : List Int) : Prop where
  hp : Supp p
  np : N < p
  coa : CoaB N T bad
theorem ok12 {p N T : Int} {l : List Int} (h : coaB p N T l = true) : Ok12 p N T l := by
  unfold coaB val12B incB at h
  rw [Bool.and_eq_true, Bool.and_eq_true, Bool.and_eq_true, decide_eq_true_eq, decide_eq_true_eq, decide_eq_true_eq] at h
  obtain ⟨⟨h1, a1, a2, a3, a4, a5, a6⟩, h2, h3⟩ := h
  have hin : ∀ x ∈ l, ∃ i, i < l.length ∧ l.getD i 0 = x := fun x hx => by
    obtain ⟨i, hi, rfl⟩ := List.getElem_of_mem hx
    exact ⟨i, hi, Hw.getD_in _ _ hi⟩
  refine ⟨supB_of h1, a3, ⟨a1, a2, a4, a6, h2, ?_, fun x hx => ?_⟩⟩
  · rw [List.nodup_iff_pairwise_ne]
    refine List.pairwise_iff_getElem.2 fun i j hi hj hij e => ?_
    have := inc_lt h3 i (j - i - 1) (by omega)
    rw [show i + (j - i - 1) + 1 = j from by omega, Hw.getD_in _ _ hi, Hw.getD_in _ _ hj, e] at this
    omega
  · obtain ⟨i, hi, rfl⟩ := hin x hx
    have := h3 i hi
    exact ⟨this.1, this.2.1⟩
structure OkM (p N T : Int) (bad : List Int) : Prop where
  ok : Ok12 p N T bad
  n7 : N ≤ 7
theorem okM {p N T : Int} {l : List Int} (h : mayB p N T l = true) : OkM p N T l := by
  unfold mayB at h
  rw [Bool.and_eq_true, Bool.and_eq_true, decide_eq_true_eq] at h
  exact ⟨ok12 h.2.2, h.2.1⟩
theorem OkM.t {p N T : Int} {bad : List Int} (h : OkM p N T bad) : T = 1 ∨ T = 2 := by
  have h1 := h.ok.coa.t0
  have h2 := h.ok.coa.t1
  have h3 := h.n7
  omega
/-! The words. -/
def cutL (p : Int) (w : List Int) (m n : Nat) : List Int := tabL n fun i => if m + i < w.length then w.getD (m + i) 0 % p else 0
theorem cutL_length (p : Int) (w : List Int) (m n : Nat) : (cutL p w m n).length = n := tabL_length _ _
theorem cutL_res {p : Int} (hp : Supp p) (w : List Int) (m n : Nat) : ∀ x ∈ cutL p w m n, Res p x := tabL_res fun i _ => by
  split
  · exact Res.mod hp _
  · have := hp.bd; exact ⟨Int.le_refl 0, by omega⟩
theorem cut_ev {p : Int} (hp : Supp p) (N T : Int) (bad : List Int) (da db : Int) {w : List Int} (hw : ∀ x ∈ w, 0 ≤ x) (m n : Nat) (hm : m ≤ 1000) (hn : n ≤ 1000) : Ev (fun k => privitylaw43_cut.f k p N T bad da db w (m : Int) (n : Int)) (cutL p w m n) := by
  have hb := hp.bd
  unfold privitylaw43_cut.f
  have hs : wrap64 ((m : Int) + (n : Int)) = ((m + n : Nat) : Int) := by rw [w64' (by omega) (by omega)]; omega
  have h := up (Q := fun i => Ev (fun k => privitylaw43_cut.l0 k (m : Int) (n : Int) (cutL p w m i) ((m + i : Nat) : Int) p N T bad da db w) (cutL p w m n)) (n := n) ?_ fun i hi h => ?_
  · exact h
  · refine Ev.step (fun k => ?_) (Ev.now _)
    simp only [privitylaw43_cut.l0]
    rw [hs, if_neg (by omega)]
  · have e : cutL p w m (i + 1) = cutL p w m i ++ [if m + i < w.length then w.getD (m + i) 0 % p else 0] := tabL_succ _ _
    rw [e] at h
    refine Ev.step (fun k => ?_) h
    simp only [privitylaw43_cut.l0]
    rw [hs, if_pos (by omega), wnat (by omega), cutL_length]
    by_cases hlt : m + i < w.length
    · have h0 : 0 ≤ w.getD (m + i) 0 := by rw [Hw.getD_in _ _ hlt]; exact hw _ (List.getElem_mem _)
      rw [if_pos hlt, if_pos (by omega), if_pos (by omega), if_neg (by omega), if_pos (by omega), rd_nat, tmod_pos h0]; rfl
    · rw [if_neg hlt, if_neg (by omega), if_pos (by omega)]; rfl
def qL (p T : Int) (w : List Int) : List Int := cutL p w 0 (T.toNat + 1)
def rL (p T : Int) (w : List Int) : List Int := cutL p w (T.toNat + 1) (T.toNat * (T.toNat + 1) / 2)
theorem one_ev {p : Int} (hp : Supp p) (N : Int) {T : Int} (hT : T = 1 ∨ T = 2) (bad : List Int) (da db : Int) {w : List Int} (hw : ∀ x ∈ w, 0 ≤ x) : Ev (fun k => privitylaw43_one.f k p N T bad da db w) (qL p T w, rL p T w) := by
  unfold privitylaw43_one.f
  rcases hT with rfl | rfl
  · have h1 := cut_ev hp N 1 bad da db hw 0 2 (by omega) (by omega)
    have h2 := cut_ev hp N 1 bad da db hw 2 1 (by omega) (by omega)
    have a1 : wrap64 ((1 : Int) + 1) = 2 := by unfold wrap64; omega
    have a2 : wrap64 ((1 : Int) * 2) = 2 := by unfold wrap64; omega
    have a3 : wrap64 (Int.tdiv 2 2) = 1 := by kernel_rfl
    rw [a1, a2, a3]
    exact Ev.bind h1 (Ev.bind h2 (Ev.now _))
  · have h1 := cut_ev hp N 2 bad da db hw 0 3 (by omega) (by omega)
    have h2 := cut_ev hp N 2 bad da db hw 3 3 (by omega) (by omega)
    have a1 : wrap64 ((2 : Int) + 1) = 3 := by unfold wrap64; omega
    have a2 : wrap64 ((2 : Int) * 3) = 6 := by unfold wrap64; omega
    have a3 : wrap64 (Int.tdiv 6 2) = 3 := by kernel_rfl
    rw [a1, a2, a3]
    exact Ev.bind h1 (Ev.bind h2 (Ev.now _))
/-! The vanishing polynomial. -/
theorem Ok12.van {p N T : Int} {bad : List Int} (h : Ok12 p N T bad) : VanOk p (extB N T bad) :=
  ⟨fun x hx => by have := extB_range h.coa x hx; have := h.np; exact ⟨by omega, by omega⟩, fun x hx => by have := extB_range h.coa x hx; omega, extB_nodup h.coa⟩
def vanZ (p N T : Int) (bad : List Int) : List Int := polL p (vanP (extB N T bad))
theorem vanZ_length {p N T : Int} {bad : List Int} (h : Ok12 p N T bad) : ((vanZ p N T bad).length : Int) = T + 1 := by
  unfold vanZ
  rw [van_len h.hp h.van]
  have := extB_length h.coa
  omega
theorem vanpol_ev {p N T : Int} {bad : List Int} (h : Ok12 p N T bad) : Ev (fun k => params_VanishingPolynomial.f k p N T bad) (vanZ p N T bad) := by
  have hp := h.hp
  have hc := h.coa
  have hn0 := hc.n0
  have hn1 := hc.n1
  have hlen := hc.len
  have ht := hc.t1
  have hel := extB_length hc
  have hext : params_ExtendCoalition.f p N T bad = some (extB N T bad) := by
    unfold params_ExtendCoalition.f
    rw [if_pos (by omega), if_pos (by omega), if_pos (by omega), if_pos]
    · rfl
    · refine List.all_eq_true.2 fun x hx => ?_
      have := hc.rng x hx
      rw [Bool.and_eq_true, decide_eq_true_eq, decide_eq_true_eq]; omega
  unfold params_VanishingPolynomial.f
  obtain ⟨e, he⟩ : ∃ e, e = extB N T bad := ⟨_, rfl⟩
  have hv := h.van
  have hr := extB_range hc
  unfold vanZ
  rw [← he] at hext hel hv hr ⊢
  refine ev_now_bind hext ?_
  have hmain := up (Q := fun i => Ev (fun k => params_VanishingPolynomial.l0 k (vanP (e.take i)) e (e.length : Int) (i : Int) p N T) (polL p (vanP e))) (n := e.length) ?_ fun i hi h => ?_
  · exact hmain
  · rw [List.take_length]
    refine Ev.step (f := fun k => (interpolate_Polynomial.f p (vanP e)).bind fun bt => some bt.1) (fun k => ?_) ?_
    · simp only [params_VanishingPolynomial.l0]
      rw [if_neg (by omega)]
    · refine ev_now_bind (ipol_eq hp (vanP_ok hp hv) (by rw [vanP_length]; omega)) ?_
      rw [if_pos (vanP_nd hp hv)]
      exact Ev.now _
  · have e1 : vanP (e.take (i + 1)) = vanP (e.take i) ++ [⟨e.getD i 0, 0⟩] := by
      have e2 : e.take (i + 1) = e.take i ++ [e.getD i 0] := by
        rw [List.take_add_one, List.getElem?_eq_getElem hi, Hw.getD_in _ _ hi]; rfl
      unfold vanP
      rw [e2, List.map_append]; rfl
    rw [e1] at h
    have hx := hr (e.getD i 0) (by rw [Hw.getD_in _ _ hi]; exact List.getElem_mem _)
    refine Ev.step (fun k => ?_) h
    simp only [params_VanishingPolynomial.l0]
    rw [if_pos (by omega), if_pos (by omega), if_pos (by omega), if_pos (by rw [vanP_length, List.length_take]; omega), rd_nat, wrapU_id (by omega) (by omega), wnat (by omega)]
/-! The shift. -/
def byL (p : Int) (z : List Int) (d : Int) (l : List Int) : List Int := tabL l.length fun j => (l.getD j 0 + d * z.getD j 0 % p) % p
theorem byL_length (p : Int) (z : List Int) (d : Int) (l : List Int) : (byL p z d l).length = l.length := tabL_length _ _
theorem byL_res {p : Int} (hp : Supp p) (z : List Int) (d : Int) (l : List Int) : ∀ x ∈ byL p z d l, Res p x := tabL_res fun _ _ => Res.mod hp _
def byS (p : Int) (z : List Int) (d : Int) (l : List Int) (i : Nat) : List Int := tabL l.length fun j => if j < i then (l.getD j 0 + d * z.getD j 0 % p) % p else l.getD j 0
theorem byS_next (p : Int) (z : List Int) (d : Int) (l : List Int) (i : Nat) (hi : i < l.length) : (byS p z d l i).set i ((l.getD i 0 + d * z.getD i 0 % p) % p) = byS p z d l (i + 1) := by
  refine list_ext_getD (by rw [List.length_set]; unfold byS; rw [tabL_length, tabL_length]) fun j => ?_
  have hl : (byS p z d l i).length = l.length := tabL_length _ _
  by_cases e : j = i
  · subst e
    unfold byS
    rw [List.getD_eq_getElem?_getD, List.getElem?_set_self (by rw [tabL_length]; exact hi), tabL_getD, if_pos hi, if_pos (Nat.lt_succ_self _)]
    rfl
  · rw [List.getD_eq_getElem?_getD, List.getElem?_set_ne (Ne.symm e), ← List.getD_eq_getElem?_getD]
    unfold byS
    rw [tabL_getD, tabL_getD]
    by_cases hj : j < l.length
    · rw [if_pos hj, if_pos hj]
      by_cases h1 : j < i
      · rw [if_pos h1, if_pos (by omega)]
      · rw [if_neg h1, if_neg (by omega)]
    · rw [if_neg hj, if_neg hj]
theorem by_ev {p : Int} (hp : Supp p) (T : Int) {z l : List Int} (hz : ∀ x ∈ z, Res p x) (hl : ∀ x ∈ l, Res p x) (hzl : l.length ≤ z.length) (hll : l.length ≤ 1000) {d : Int} (hd : Res p d) : Ev (fun k => tapeshift_mover_by.f k p T z d l) (byL p z d l) := by
  unfold tapeshift_mover_by.f
  have hcl : slices_Clone_uint64_uint64.f l = some l := by unfold slices_Clone_uint64_uint64.f; rw [if_pos (by omega)]
  refine ev_now_bind hcl ?_
  have e0 : byS p z d l 0 = l := by
    unfold byS
    refine (tabL_congr fun j hj => ?_).trans (tabL_of l)
    rw [if_neg (by omega)]
  have e1 : byS p z d l l.length = byL p z d l := tabL_congr fun j hj => by rw [if_pos hj]
  have h := up (Q := fun i => Ev (fun k => tapeshift_mover_by.l0 k d (byS p z d l i) (l.length : Int) (i : Int) p T z) (byL p z d l)) (n := l.length) ?_ fun i hi h => ?_
  · rw [e0] at h; exact h
  · rw [e1]
    refine Ev.step (fun k => ?_) (Ev.now _)
    simp only [tapeshift_mover_by.l0]
    rw [if_neg (by omega)]
  · have hbl : (byS p z d l i).length = l.length := tabL_length _ _
    have hbi : (byS p z d l i).getD i 0 = l.getD i 0 := by unfold byS; rw [tabL_getD, if_pos hi, if_neg (Nat.lt_irrefl _)]
    rw [← byS_next p z d l i hi] at h
    refine Ev.step (f := fun k => (field_Mul.f k p d (z.getD i 0)).bind fun t => (field_Add.f k p (l.getD i 0) t).bind fun t2 => tapeshift_mover_by.l0 k d ((byS p z d l i).set i t2) (l.length : Int) ((i + 1 : Nat) : Int) p T z) (fun k => ?_) (Ev.bind (mul_ev hp hd (res_getD hp hz i)) (Ev.bind (add_ev hp (res_getD hp hl i) (Res.mod hp _)) h))
    simp only [tapeshift_mover_by.l0]
    rw [if_pos (by omega), if_pos (by omega), if_pos (by omega), if_pos (by omega), rd_nat, rd_nat, hbi, wnat (by omega), Int.toNat_natCast]
/-- The products z i * z j, 1 ≤ i ≤ j, in the order of the words. -/
def wL (p T : Int) (z : List Int) : List Int := if T = 1 then [z.getD 1 0 * z.getD 1 0 % p] else [z.getD 1 0 * z.getD 1 0 % p, z.getD 1 0 * z.getD 2 0 % p, z.getD 2 0 * z.getD 2 0 % p]
theorem wL1 (p : Int) (z : List Int) : wL p 1 z = [z.getD 1 0 * z.getD 1 0 % p] := if_pos rfl
theorem wL2 (p : Int) (z : List Int) : wL p 2 z = [z.getD 1 0 * z.getD 1 0 % p, z.getD 1 0 * z.getD 2 0 % p, z.getD 2 0 * z.getD 2 0 % p] := if_neg (by omega)
theorem mul3 (p d a b : Int) : d * a % p * b % p = d * (a * b % p) % p := by
  rw [mulm (a := d * a % p) (a' := d * a) (b := b) (b' := b) (Int.emod_emod_of_dvd _ (Int.dvd_refl _)) rfl, mulm (a := d) (a' := d) (b := a * b % p) (b' := a * b) rfl (Int.emod_emod_of_dvd _ (Int.dvd_refl _)), Int.mul_assoc]
theorem mov_by {p T d : Int} {z r : List Int} (hT : T = 1 ∨ T = 2) (hr : r.length = T.toNat * (T.toNat + 1) / 2) : movI p d T.toNat z r T.toNat 1 0 = byL p (wL p T z) d r := by
  rcases hT with rfl | rfl
  · have h1 : r.length = 1 := hr
    have e : byL p (wL p 1 z) d r = [(r.getD 0 0 + d * (z.getD 1 0 * z.getD 1 0 % p) % p) % p] := by
      unfold byL; rw [h1, wL1]; rfl
    rw [e, ← mul3]; rfl
  · have h1 : r.length = 3 := hr
    have e : byL p (wL p 2 z) d r = [(r.getD 0 0 + d * (z.getD 1 0 * z.getD 1 0 % p) % p) % p, (r.getD 1 0 + d * (z.getD 1 0 * z.getD 2 0 % p) % p) % p, (r.getD 2 0 + d * (z.getD 2 0 * z.getD 2 0 % p) % p) % p] := by
      unfold byL; rw [h1, wL2]; rfl
    rw [e, ← mul3, ← mul3, ← mul3]; rfl
theorem sharing_ev {p N T : Int} {bad : List Int} (h : OkM p N T bad) {d : Int} (hd : Res p d) {q r : List Int} (hq : ∀ x ∈ q, Res p x) (hr : ∀ x ∈ r, Res p x) (lq : q.length = T.toNat + 1) (lr : r.length = T.toNat * (T.toNat + 1) / 2) :
    Ev (fun k => tapeshift_Sharing.f k p N T bad d q r) (byL p (vanZ p N T bad) d q, byL p (wL p T (vanZ p N T bad)) d r) := by
  have hp := h.ok.hp
  have hT := h.t
  have hzl := vanZ_length h.ok
  have hzr : ∀ x ∈ vanZ p N T bad, Res p x := van_res hp h.ok.van
  have hm := mov_by (p := p) (d := d) (z := vanZ p N T bad) hT lr
  have hml : (movI p d T.toNat (vanZ p N T bad) r T.toNat 1 0).length = r.length := by rw [hm, byL_length]
  have h3 : r.length ≤ 3 := by rw [lr]; rcases hT with rfl | rfl <;> decide
  have hrest : tapeshift_mover_rest.f p T (vanZ p N T bad) d r = some (byL p (wL p T (vanZ p N T bad)) d r) := by
    unfold tapeshift_mover_rest.f
    rw [if_pos (supB_iff.2 hp), if_pos (by omega), if_pos (by omega), if_pos (resB_iff.2 hd), if_pos (ressB_iff.2 hzr), if_pos (by omega), if_pos (ressB_iff.2 hr), if_pos (by rw [hml]; exact Nat.le_refl _), if_pos (by omega), hm]
  unfold tapeshift_Sharing.f tapeshift_of.f
  refine Ev.bind (a := (p, T, vanZ p N T bad)) (f := fun k bt => (tapeshift_mover_by.f k bt.1 bt.2.1 bt.2.2 d q).bind fun t220 => ((tapeshift_mover_rest.f bt.1 bt.2.1 bt.2.2 d r).bind fun t223 => (some (t220, t223)))) (Ev.bind (f := fun _ t => some (p, T, t)) (vanpol_ev h.ok) (Ev.now _)) ?_
  exact Ev.bind (by_ev hp T hzr hq (by omega) (by omega) hd) (ev_now_bind hrest (Ev.now _))
theorem awake43 : Ev (fun k => privitylaw43_awake.f k) true := Ev.of (fun k => privitylaw43_awake.mono _) (k := 60) privitylaw43_awake.is
theorem awake43' : Ev (fun k => (privitylaw43_awake.f k).bind fun t => some t) true := Ev.bind awake43 (Ev.now _)
end Go.Proofs.Ytejeelpnmdfibaa.E
end
section
/-
  Chapter 43: the matrix of a sharing's words, its rows at a point, the shift as a translation.
-/
namespace Go.Proofs.Ytejeelpnmdfibaa.E
open Go.RowKit Go.Proofs.Ytejeelpnmdfibaa.Pr Go.Proofs.Ytejeelpnmdfibaa.Hw Go.Proofs.Ytejeelpnmdfibaa.Pl Go.Proofs.YtejeelpnmdfibaaW.PrintWords Go.Proofs.YtejeelpnmdfibaaW.PrintLast Go.Proofs.YtejeelpnmdfibaaW.PrintMore
set_option linter.unusedVariables false
set_option linter.unusedSimpArgs false

theorem value43 {p : Int} (hp : Supp p) {l : List Int} (hl : ∀ x ∈ l, Res p x) (hll : l.length ≤ 1000000) {x : Int} (hx : Res p x) : Ev (fun k => privityref10_Value.f k p l x) (evI p x l) := by
  have hb := hp.bd
  have main : ∀ m, m ≤ l.length → Ev (fun k => privityref10_Value.l0 k p l x (evI p x (l.drop m)) ((m : Int) - 1)) (evI p x l) := by
    intro m
    induction m with
    | zero =>
      intro _
      refine Ev.step (f := fun _ => some (evI p x l)) (fun k => ?_) (Ev.now _)
      simp only [privityref10_Value.l0]
      rw [if_neg (by omega)]; rfl
    | succ m ih =>
      intro hm
      have ih := ih (by omega)
      have e : l.drop m = l.getD m 0 :: l.drop (m + 1) := by
        rw [Hw.getD_in _ _ (show m < l.length by omega)]
        exact List.drop_eq_getElem_cons (by omega)
      rw [e] at ih
      refine Ev.step (f := fun k => (privityref01_Mul.f k p (evI p x (l.drop (m + 1))) x).bind fun t => ((privityref01_Add.f p t (l.getD m 0)).bind fun t2 => privityref10_Value.l0 k p l x t2 ((m : Int) - 1))) (fun k => ?_) (Ev.bind (rmul_ev hp (evI_res hp _ _) hx) (ev_now_bind (radd_eq hp (Res.mod hp _) (res_getD hp hl m)) ih))
      have e2 : ((m + 1 : Nat) : Int) - 1 = (m : Int) := by omega
      simp only [privityref10_Value.l0]
      rw [e2, if_pos (by omega)]
      refine congrArg (Option.bind _) (funext fun t => ?_)
      rw [if_pos (by omega), if_pos (by omega), rd_nat, w64' (by omega) (by omega)]
  refine (main l.length (Nat.le_refl _)).congr fun k => ?_
  unfold privityref10_Value.f
  rw [List.drop_length, w64' (by omega) (by omega)]; rfl
theorem rdR_nat (l : List (List Int)) (i : Nat) : rd_L4 l (i : Int) = l.getD i [] := by unfold rd_L4; rw [Int.toNat_natCast]
theorem rrow_ev {p : Int} (hp : Supp p) {n : Nat} (hn : n ≤ 1000) {g : Nat → Nat → Int} (hg : ∀ i j, Res p (g i j)) {x : Int} (hx : Res p x) : Ev (fun k => privityref10_Row.f k p (matL n g) x) (rowX p n g x) := by
  have hml : (matL n g).length = n := (matL_sq n g).len
  have hrow : ∀ j : Nat, j < n → rd_L4 (matL n g) (j : Int) = tabL n (g j) := fun j hj => by rw [rdR_nat]; exact matP_getD _ _ _ _ hj
  unfold privityref10_Row.f
  have h := up (Q := fun i => Ev (fun k => privityref10_Row.l0 k p (matL n g) x (tabL i fun j => evI p x (tabL n fun a => g a j)) (i : Int)) (rowX p n g x)) (n := n) ?_ fun i hi h => ?_
  · exact h
  · refine Ev.step (fun k => ?_) (Ev.now _)
    simp only [privityref10_Row.l0]
    rw [if_neg (by omega)]; rfl
  · refine Ev.step (f := fun k => privityref10_Row.l1 k p (matL n g) x (tabL i fun j => evI p x (tabL n fun a => g a j)) (i : Int) [] 0) (fun k => by simp only [privityref10_Row.l0]; rw [if_pos (by omega)]) ?_
    have h1 := up (Q := fun j => Ev (fun k => privityref10_Row.l1 k p (matL n g) x (tabL i fun j => evI p x (tabL n fun a => g a j)) (i : Int) (tabL j fun a => g a i) (j : Int)) (rowX p n g x)) (n := n) ?_ fun j hj h1 => ?_
    · exact h1
    · rw [tabL_succ] at h
      refine Ev.step (f := fun k => (privityref10_Value.f k p (tabL n fun a => g a i) x).bind fun t => privityref10_Row.l0 k p (matL n g) x ((tabL i fun j => evI p x (tabL n fun a => g a j)) ++ [t]) ((i + 1 : Nat) : Int)) (fun k => ?_) (Ev.bind (value43 hp (tabL_res fun a _ => hg a i) (by rw [tabL_length]; omega) hx) h)
      simp only [privityref10_Row.l1]
      rw [if_neg (by omega), tabL_length]
      refine congrArg (Option.bind _) (funext fun t => ?_)
      rw [if_pos (by omega), wnat (by omega)]
    · rw [tabL_succ] at h1
      refine Ev.step (fun k => ?_) h1
      simp only [privityref10_Row.l1]
      rw [if_pos (by omega), if_pos (by omega), if_pos (by omega), hrow j hj, tabL_length, if_pos (by omega), tabL_length, if_pos (by omega), rd_nat, tabL_getD, if_pos hi, wnat (by omega)]
/-! The matrix of the words. -/
theorem offs_T {T : Int} (hT : T = 1 ∨ T = 2) : offs (T.toNat + 1) (T.toNat + 1) = T.toNat * (T.toNat + 1) / 2 := by
  rcases hT with rfl | rfl <;> decide
theorem rnew_eq {T : Int} (hT : T = 1 ∨ T = 2) {q r : List Int} (lq : q.length = T.toNat + 1) (lr : r.length = T.toNat * (T.toNat + 1) / 2) : privityref10_New.f q r = some (matL (T.toNat + 1) (newG (T.toNat + 1) q r), 0) := by
  have h3 : T.toNat + 1 ≤ 3 ∧ T.toNat * (T.toNat + 1) / 2 ≤ 3 := by rcases hT with rfl | rfl <;> decide
  unfold privityref10_New.f
  rw [if_pos (by omega), if_pos (by omega), if_neg, lq]
  intro h
  rcases newBad_iff.1 h with h | h
  · omega
  · rw [lq, offs_T hT] at h; exact h lr
theorem newG_res {p : Int} (hp : Supp p) {q r : List Int} (hq : ∀ x ∈ q, Res p x) (hr : ∀ x ∈ r, Res p x) (n i j : Nat) : Res p (newG n q r i j) := by
  unfold newG
  split
  · exact res_getD hp hq _
  · exact res_getD hp hr _
theorem by_getD {p : Int} {z : List Int} {d : Int} {l : List Int} {j : Nat} (hj : j < l.length) : (byL p z d l).getD j 0 = (l.getD j 0 + d * z.getD j 0 % p) % p := by unfold byL; rw [tabL_getD, if_pos hj]
theorem newG_shift {p : Int} (hp : Supp p) {T : Int} (hT : T = 1 ∨ T = 2) {z : List Int} (hz : ∀ x ∈ z, Res p x) (z0 : z.getD 0 0 = 1) (d : Int) {q r : List Int} (lq : q.length = T.toNat + 1) (lr : r.length = T.toNat * (T.toNat + 1) / 2) :
    ∀ i, i < T.toNat + 1 → ∀ j, j < T.toNat + 1 → newG (T.toNat + 1) (byL p z d q) (byL p (wL p T z) d r) i j = trG p d (fun a => z.getD a 0) (newG (T.toNat + 1) q r) i j := by
  intro i hi j hj
  unfold trG
  by_cases h0 : min i j = 0
  · unfold newG
    rw [if_pos h0, if_pos h0, by_getD (by omega)]
    have e : z.getD i 0 * z.getD j 0 = z.getD (max i j) 0 := by
      rcases Nat.eq_zero_or_pos i with rfl | h
      · rw [z0, Int.one_mul, Nat.zero_max]
      · have : j = 0 := by omega
        subst this
        rw [z0, Int.mul_one, Nat.max_zero]
    rw [e, (res_getD hp hz (max i j)).eq]
  · unfold newG
    rw [if_neg h0, if_neg h0]
    have key : ∀ m : Nat, m < r.length → (wL p T z).getD m 0 = z.getD i 0 * z.getD j 0 % p → offs (T.toNat + 1) (min i j) + (max i j - min i j) = m → (byL p (wL p T z) d r).getD (offs (T.toNat + 1) (min i j) + (max i j - min i j)) 0 = (r.getD (offs (T.toNat + 1) (min i j) + (max i j - min i j)) 0 + d * (z.getD i 0 * z.getD j 0 % p) % p) % p := fun m hm hw e => by
      rw [e, by_getD hm, hw]
    rcases hT with rfl | rfl
    · have hi1 : i = 1 := by have : i < 2 := hi; omega
      have hj1 : j = 1 := by have : j < 2 := hj; omega
      subst hi1; subst hj1
      exact key 0 (by rw [lr]; decide) (by rw [wL1]; rfl) rfl
    · have hi3 : i < 3 := hi
      have hj3 : j < 3 := hj
      have ci : i = 1 ∨ i = 2 := by omega
      have cj : j = 1 ∨ j = 2 := by omega
      rcases ci with rfl | rfl
      · rcases cj with rfl | rfl
        · exact key 0 (by rw [lr]; decide) (by rw [wL2]; rfl) rfl
        · exact key 1 (by rw [lr]; decide) (by rw [wL2]; rfl) rfl
      · rcases cj with rfl | rfl
        · exact key 1 (by rw [lr]; decide) (by rw [wL2]; show z.getD 1 0 * z.getD 2 0 % p = _; rw [Int.mul_comm]) rfl
        · exact key 2 (by rw [lr]; decide) (by rw [wL2]; rfl) rfl
/-- What is known of the vanishing polynomial of a valid coalition. -/
structure Zs (p N T : Int) (bad z : List Int) : Prop where
  res : ∀ x ∈ z, Res p x
  len : z.length = T.toNat + 1
  z0 : z.getD 0 0 = 1
  root : ∀ x ∈ extB N T bad, evI p x z = 0
theorem vanZs {p N T : Int} {bad : List Int} (h : Ok12 p N T bad) : Zs p N T bad (vanZ p N T bad) := by
  have hr : ∀ x ∈ vanZ p N T bad, Res p x := van_res h.hp h.van
  have hl := vanZ_length h
  have ht := h.coa.t0
  refine ⟨hr, by omega, ?_, fun x hx => van_root h.hp h.van x hx⟩
  rw [← evI_zero' h.hp hr]
  exact van_zero h.hp h.van
theorem Zs.tab {p N T : Int} {bad z : List Int} (h : Zs p N T bad z) : tabL (T.toNat + 1) (fun a => z.getD a 0) = z := by
  rw [← h.len]; exact tabL_of z
end Go.Proofs.Ytejeelpnmdfibaa.E
end
section
/-
  A shifted sharing has a greater secret and the same rows at the coalition's points.
-/
namespace Go.Proofs.Ytejeelpnmdfibaa.Pure
open Go.RowKit Go.Proofs.Ytejeelpnmdfibaa.Pr Go.Proofs.Ytejeelpnmdfibaa.Hw Go.Proofs.Ytejeelpnmdfibaa.E Go.Proofs.Ytejeelpnmdfibaa.Pl Go.Proofs.YtejeelpnmdfibaaW.PrintWords Go.Proofs.YtejeelpnmdfibaaW.PrintLast Go.Proofs.YtejeelpnmdfibaaW.PrintMore
set_option linter.unusedVariables false
set_option linter.unusedSimpArgs false

theorem TapeshiftSharingPrivacy (p N T : Int) (bad : List Int) (da db : Int) (w : List Int) (wp : (Lit.int .u64 p).wf = true) (wN : (Lit.int .i64 N).wf = true) (wT : (Lit.int .i64 T).wf = true) (wb : ∀ x_ ∈ bad, (Lit.int .i64 x_).wf = true) (wda : (Lit.int .u64 da).wf = true) (wdb : (Lit.int .u64 db).wf = true) (ww : ∀ x_ ∈ w, (Lit.int .u64 x_).wf = true) : ∃ k, privitylaw43_TapeshiftSharingPrivacy.f k p N T bad da db w = some true := by
  refine Ev.rounds (r := true) ?_
  unfold privitylaw43_TapeshiftSharingPrivacy.f
  refine ev_if (may_ev p N T bad da db w) (fun h => ?_) (fun _ => awake43')
  have hm := okM h
  have hp := hm.ok.hp
  have hb := hp.bd
  have hT := hm.t
  have hw : ∀ x ∈ w, 0 ≤ x := fun x hx => (wf64 (ww x hx)).1
  have rda := Res.mod hp da
  have hq : ∀ x ∈ qL p T w, Res p x := cutL_res hp _ _ _
  have hr : ∀ x ∈ rL p T w, Res p x := cutL_res hp _ _ _
  have lq : (qL p T w).length = T.toNat + 1 := cutL_length _ _ _ _
  have lr : (rL p T w).length = T.toNat * (T.toNat + 1) / 2 := cutL_length _ _ _ _
  have l3 : T.toNat + 1 ≤ 3 := by rcases hT with rfl | rfl <;> decide
  have hone := one_ev hp N hT bad da db hw
  obtain ⟨q, eq⟩ : ∃ q, q = qL p T w := ⟨_, rfl⟩
  obtain ⟨r, er⟩ : ∃ r, r = rL p T w := ⟨_, rfl⟩
  rw [← eq, ← er] at hone
  rw [← eq] at hq lq
  rw [← er] at hr lr
  have hz := vanZs hm.ok
  have s1 := sharing_ev hm rda hq hr lq lr
  obtain ⟨z, ez⟩ : ∃ z, z = vanZ p N T bad := ⟨_, rfl⟩
  rw [← ez] at hz s1
  obtain ⟨d, ed⟩ : ∃ d, d = da % p := ⟨_, rfl⟩
  rw [← ed] at rda s1
  rw [tmod_pos (wf64 wda).1, ← ed]
  obtain ⟨n, en⟩ : ∃ n, n = T.toNat + 1 := ⟨_, rfl⟩
  have n1 := rnew_eq hT lq lr
  have n2 := rnew_eq hT (q := byL p z d q) (r := byL p (wL p T z) d r) (by rw [byL_length]; exact lq) (by rw [byL_length]; exact lr)
  have hsh := newG_shift hp hT hz.res hz.z0 d lq lr
  have g1 := newG_res hp hq hr (T.toNat + 1)
  have g2 := newG_res hp (byL_res hp z d q) (byL_res hp (wL p T z) d r) (T.toNat + 1)
  rw [← en] at n1 n2 hsh g1 g2
  obtain ⟨g, eg⟩ : ∃ g, g = newG n q r := ⟨_, rfl⟩
  obtain ⟨o, eo⟩ : ∃ o, o = newG n (byL p z d q) (byL p (wL p T z) d r) := ⟨_, rfl⟩
  rw [← eg] at n1 hsh g1
  rw [← eo] at n2 hsh g2
  have h00 : ∀ f : Nat → Nat → Int, rd (rd_L4 (matL n f) 0) 0 = f 0 0 := fun f => by
    have := rdR_nat (matL n f) 0
    rw [show ((0 : Nat) : Int) = 0 from rfl] at this
    rw [this]
    unfold matL
    rw [matP_getD _ _ _ _ (by omega)]
    have := rd_nat (tabL n (f 0)) 0
    rw [show ((0 : Nat) : Int) = 0 from rfl] at this
    rw [this, tabL_getD, if_pos (by omega)]
  have hlen : ∀ f : Nat → Nat → Int, 0 < ((matL n f).length : Int) := fun f => by rw [(matL_sq n f).len]; omega
  have hrl : ∀ f : Nat → Nat → Int, 0 < ((rd_L4 (matL n f) 0).length : Int) := fun f => by
    have := rdR_nat (matL n f) 0
    rw [show ((0 : Nat) : Int) = 0 from rfl] at this
    rw [this]
    unfold matL
    rw [matP_getD _ _ _ _ (by omega), tabL_length]; omega
  have hsec : o 0 0 = (g 0 0 + d) % p := by
    rw [hsh 0 (by omega) 0 (by omega)]
    unfold trG
    show (g 0 0 + d * (z.getD 0 0 * z.getD 0 0 % p) % p) % p = _
    rw [hz.z0, Int.one_mul, Int.emod_eq_of_lt (a := 1) (by omega) (by omega), Int.mul_one, rda.eq]
  have hpost : Ev (fun k => privitylaw43_TapeshiftSharingPrivacy.l0 k p (matL n g) (matL n o) ((0 : Nat) : Int) p N T bad da db w) true := by
    refine up (Q := fun i => Ev (fun k => privitylaw43_TapeshiftSharingPrivacy.l0 k p (matL n g) (matL n o) (i : Int) p N T bad da db w) true) (n := bad.length) ?_ fun i hi h => ?_
    · refine Ev.step (f := fun k => (privitylaw43_awake.f k).bind fun t => some t) (fun k => ?_) awake43'
      simp only [privitylaw43_TapeshiftSharingPrivacy.l0]
      rw [if_neg (by omega)]
    · have hx := hm.ok.coa.rng (bad.getD i 0) (by rw [Hw.getD_in _ _ hi]; exact List.getElem_mem _)
      have hmem : bad.getD i 0 ∈ extB N T bad := extB_has hm.ok.coa _ (by rw [Hw.getD_in _ _ hi]; exact List.getElem_mem _)
      have hnp := hm.ok.np
      have h7 := hm.n7
      have hlb := hm.ok.coa.len
      have hxr : Res p (bad.getD i 0) := ⟨by omega, by omega⟩
      have e1 := rrow_ev hp (n := n) (by omega) g1 hxr
      have e2 := rrow_ev hp (n := n) (by omega) g2 hxr
      have he : rowX p n o (bad.getD i 0) = rowX p n g (bad.getD i 0) := by
        rw [rowX_congr hsh, rowX_tr hp]
        rw [en, hz.tab]; exact hz.root _ hmem
      rw [he] at e2
      have e3 := words_ev (rowX p n g (bad.getD i 0)) (rowX p n g (bad.getD i 0)) (by rw [rowX_length]; omega)
      rw [decide_eq_true rfl] at e3
      refine Ev.step (f := fun k => (privityref10_Row.f k p (matL n g) (bad.getD i 0)).bind fun t338 => ((privityref10_Row.f k p (matL n o) (bad.getD i 0)).bind fun t342 => ((privityref14_Words.f k t338 t342).bind fun t345 => (if t345 = true then (privitylaw43_TapeshiftSharingPrivacy.l0 k p (matL n g) (matL n o) ((i + 1 : Nat) : Int) p N T bad da db w) else (some false))))) (fun k => ?_) ?_
      · simp only [privitylaw43_TapeshiftSharingPrivacy.l0]
        have ht := hm.ok.coa.t1
        rw [if_pos (by omega), if_pos (by omega), rd_nat, wrapU_id (by omega) (by omega), wnat (by omega)]
      · exact Ev.bind e1 (Ev.bind e2 (ev_if e3 (fun _ => h) (fun h => by cases h)))
  refine Ev.bind hone ?_
  refine ev_ite (fun h0 => absurd h0 (by omega)) fun _ => ?_
  refine Ev.bind s1 (ev_now_bind n1 (ev_now_bind n2 ?_))
  refine ev_ite (fun _ => ?_) (fun h => absurd rfl h)
  refine ev_ite (fun _ => ?_) (fun h => absurd rfl h)
  refine ev_ite (fun _ => ?_) (fun h => absurd (hlen o) h)
  refine ev_ite (fun _ => ?_) (fun h => absurd (hrl o) h)
  refine ev_ite (fun _ => ?_) (fun h => absurd (hlen g) h)
  refine ev_ite (fun _ => ?_) (fun h => absurd (hrl g) h)
  rw [h00, h00]
  refine ev_now_bind (radd_eq hp (g1 0 0) rda) ?_
  rw [hsec]
  refine Ev.step (fun k => ?_) hpost
  simp only [privitylaw43_TapeshiftSharingPrivacy.j0]
  rw [if_neg (by simp)]; rfl
end Go.Proofs.Ytejeelpnmdfibaa.Pure
end
section
/-
  What came in, opened: numbers, bools, rows and structs of them, to any depth.
-/
namespace Go.Proofs.Ytejeelpnmdfibaa.Op
open Go.RowKit Go.Proofs.YtejeelpnmdfibaaW.PrintWords
set_option linter.unusedVariables false

/-- What is read of a type's value is a value of d, and Q holds of it. -/
def OpenK {α : Type} (P : Program) (t : TypeId) (d : Kd α) (Q : α → Prop) : Prop :=
  ∀ {H : Type} {enc : TypeId × Value → H} {w : World} {base : Nat} {sp : Nat → Bool} {hd : Bool} {fuel : Nat} {cs : List Value} {x : DataW H × List MemPlace}, DataW.trod enc P w base sp hd fuel t cs = some x → ∃ v : α, d.K w v cs ∧ Q v
theorem openInt {P : Program} {t : TypeId} {k : IntKind} (ht : P.underlying t = some (.int k)) : OpenK P t (Kd.int k) (fun n => (Lit.int k n).wf = true) := by
  intro H enc w base sp hd fuel cs x h
  obtain ⟨n, rfl, _, hw⟩ := DataW.trod_int ht h
  exact ⟨n, rfl, hw⟩
theorem exists_list {α : Type} {R : Nat → α → Prop} : ∀ (n : Nat), (∀ i, i < n → ∃ v, R i v) → ∃ l : List α, l.length = n ∧ ∀ i v, l[i]? = some v → R i v
  | 0, _ => ⟨[], rfl, fun i v h => by simp at h⟩
  | n + 1, h => by
    obtain ⟨l, hl, hr⟩ := exists_list n (fun i hi => h i (by omega))
    obtain ⟨v, hv⟩ := h n (by omega)
    refine ⟨l ++ [v], by simp [hl], fun i u hu => ?_⟩
    by_cases hi : i < n
    · rw [List.getElem?_append_left (by omega)] at hu
      exact hr i u hu
    · rw [List.getElem?_append_right (by omega)] at hu
      by_cases h0 : i - l.length = 0
      · rw [h0] at hu
        simp only [List.getElem?_cons_zero, Option.some.injEq] at hu
        rw [← hu, show i = n from by omega]; exact hv
      · rw [List.getElem?_eq_none (by simp; omega)] at hu; cases hu
theorem openSlice {α : Type} {P : Program} {t e : TypeId} {d : Kd α} {Q : α → Prop} (ht : P.underlying t = some (.slice e)) (hc : P.cellsOf e = d.sz) (he : OpenK P e d Q) : OpenK P t (Kd.slice e d) (fun l => ∀ x ∈ l, Q x) := by
  intro H enc w base sp hd fuel cs x h
  rcases DataW.trod_slice ht h with ⟨rfl, _⟩ | ⟨a, len, cap, elems, rest, n, _, rfl, _, _, hlc, hm, hlen, hel, _, _⟩
  · exact ⟨[], ⟨none, 0, rfl, Nat.le_refl _, rfl, Nat.zero_le _, fun h => absurd h (Nat.lt_irrefl 0)⟩, fun x hx => by cases hx⟩
  · have each : ∀ i, i < len → ∃ v, (∃ c, c.length = d.sz ∧ d.K w v c ∧ ∀ j u, c[j]? = some u → w.cell? (a.add (i * d.sz + j)) = some u) ∧ Q v := by
      intro i hi
      have h1 := hel i hi
      rw [List.getElem?_eq_getElem (by omega), hc] at h1
      obtain ⟨c, hcs, htr⟩ := Option.bind_eq_some_iff.1 h1
      obtain ⟨v, hk, hq⟩ := he htr
      refine ⟨v, ⟨c, d.K_len hk, hk, fun j u hu => ?_⟩, hq⟩
      have h2 := World.cells?_some hcs
      have hj := (List.getElem?_eq_some_iff.1 hu).1
      have h3 := h2.2.2 j (by rw [← d.K_len hk]; exact hj)
      rw [hu] at h3
      rw [← h3, ← Addr.add_add]
    obtain ⟨l, hl, hr⟩ := exists_list len each
    refine ⟨l, ⟨some a, cap, by rw [hl], by omega, rfl, by rw [hl]; simp only [maxLen] at hm; omega, fun _ => ⟨a, rfl, fun j p hj => (hr j p hj).1⟩⟩, fun x hx => ?_⟩
    obtain ⟨i, hi, rfl⟩ := List.getElem_of_mem hx
    exact (hr i _ (List.getElem?_eq_getElem hi)).2
/-- A struct's fields. -/
theorem openFields {P : Program} {H : Type} {enc : TypeId × Value → H} {w : World} {base : Nat} {sp : Nat → Bool} {hd : Bool} {fuel : Nat} {t : TypeId} {cs : List Value} {x : DataW H × List MemPlace} {fs : Array Field} (ht : P.underlying t = some (.struct fs))
    (h : DataW.trod enc P w base sp hd fuel t cs = some x) : cs.length = P.cellsOf t ∧ ∀ (i : Nat) (f : Field), fs[i]? = some f → ∃ n y, DataW.trod enc P w base sp hd n f.type ((cs.drop f.offset).take (P.cellsOf f.type)) = some y := by
  obtain ⟨xs, n, _, _, hl, hlen, hf⟩ := DataW.trod_struct ht h
  refine ⟨hl, fun i f hi => ?_⟩
  have h1 := hf i f hi
  have h2 : i < fs.size := (Array.getElem?_eq_some_iff.1 hi).1
  rw [List.getElem?_eq_getElem (by omega)] at h1
  exact ⟨n, _, h1⟩
end Go.Proofs.Ytejeelpnmdfibaa.Op
end
section
/- The row of the law TapeshiftSharingPrivacy, out of its plain law and the walk. -/
namespace Go.Proofs.Ytejeelpnmdfibaa.tapeshiftSharingPrivacy
open Go.ChangeShapes Go.WideShapes Go.ChangeAt Go.RowKit Go.Proofs.Ytejeelpnmdfibaa.Pr Go.Proofs.YtejeelpnmdfibaaW.PrintWords
set_option linter.unusedVariables false
theorem own : ownKnob Try.prog.godebug = none := by kernel_rfl
theorem laidOut : laidOutB Try.prog = true := by kernel_rfl
theorem arr7 (cs : Array Value) (h : cs.size = 7) : ∃ c0_ c1_ c2_ c3_ c4_ c5_ c6_, cs = #[c0_, c1_, c2_, c3_, c4_, c5_, c6_] := by
  obtain ⟨l_⟩ := cs
  match l_, h with
  | [c0_, c1_, c2_, c3_, c4_, c5_, c6_], _ => exact ⟨_, _, _, _, _, _, _, rfl⟩
set_option maxHeartbeats 4000000 in
set_option maxRecDepth 100000 in
theorem lifted (os : Os) (started : os.Started) (H : Type) (enc : TypeId × Value → H) :
    ReturnsInHanded {} Try.checked os 3 .any (Rows.tapeshiftSharingPrivacySpec.pre6 enc Try.prog Try.f3 Rows.tapeshiftSharingPrivacyRow.domain false) (Rows.tapeshiftSharingPrivacySpec.post enc Try.prog Try.f3 false true false false) := by
  refine returnsInHanded_of_change_sized (C := Try.checked) own started (by kernel_rfl) Try.func3
    (ChangeSpec.witness6 (enc := enc) (C := Try.checked) false ⟨#[], #[.agg #[.int .u64 0, .int .i64 0, .int .i64 0, .slice none 0 0, .int .u64 0, .int .u64 0, .slice none 0 0]], []⟩ 8 (by kernel_rfl) (by kernel_rfl) (by kernel_rfl) (by kernel_rfl)) ?_
  intro W base args ds gs before hval0 hW hcnd hsz0 _
  have hval : ∀ (j : Nat) t v, Try.f3.params[j]? = some t → args[j]? = some v → Value.okWide Try.prog W .any base t v := hval0
  have hW' := hW
  obtain ⟨p, q, hA0, hV, rfl, hfz, hnd⟩ := hW
  have hA : DataW.TrodAll enc Try.prog W 0 (fun _ => true) true Try.f3.params.toList args.toList ds p := hA0
  rw [Try.params3] at hA hval
  obtain ⟨v0, vs0, d0, ds0, p0, q0, hargs, rfl, rfl, h0, r0⟩ := trodAll_cons hA
  obtain ⟨rfl, rfl, rfl⟩ := trodAll_nil r0
  obtain rfl : args = #[v0] := by cases args; simp_all
  obtain ⟨rfl, rfl⟩ := trodVars_none hV
  have k0 := h0
  have lt0 : ∀ x ∈ p0, x.block < W.heap.size := by obtain ⟨m, hm⟩ := k0; exact DataW.trod_lt m _ _ _ hm
  obtain ⟨cs0, rfl, hs0⟩ := okWide_struct Try.underlying28 (hval 0 28 v0 rfl rfl)
  have hN0 : Try.prog.cellsOf 28 = 7 := by kernel_rfl
  rw [hN0] at hs0
  obtain ⟨x0_0, x0_1, x0_2, x0_3, x0_4, x0_5, x0_6, rfl⟩ := arr7 cs0 hs0
  obtain ⟨fu0, hf0⟩ := h0
  have hg0 : DataW.trod enc Try.prog W 0 (fun _ => true) true fu0 28 [x0_0, x0_1, x0_2, x0_3, x0_4, x0_5, x0_6] = some (d0, p0) := hf0
  have f0 := (Op.openFields Try.underlying28 hg0).2
  obtain ⟨n0_0, y0_0, e0_0⟩ := f0 0 _ rfl
  have b0_0 : DataW.trod enc Try.prog W 0 (fun _ => true) true n0_0 24 [x0_0, x0_1, x0_2] = some y0_0 := e0_0
  have f0_0 := (Op.openFields Try.underlying24 b0_0).2
  obtain ⟨n0_0_0, y0_0_0, e0_0_0⟩ := f0_0 0 _ rfl
  have b0_0_0 : DataW.trod enc Try.prog W 0 (fun _ => true) true n0_0_0 22 [x0_0] = some y0_0_0 := e0_0_0
  obtain ⟨a0_0_0, e0_0_0, w0_0_0⟩ := (Op.openInt (k := .u64) Try.underlying22) b0_0_0
  cases e0_0_0
  obtain ⟨n0_0_1, y0_0_1, e0_0_1⟩ := f0_0 1 _ rfl
  have b0_0_1 : DataW.trod enc Try.prog W 0 (fun _ => true) true n0_0_1 3 [x0_1] = some y0_0_1 := e0_0_1
  obtain ⟨a0_0_1, e0_0_1, w0_0_1⟩ := (Op.openInt (k := .i64) Try.underlying3) b0_0_1
  cases e0_0_1
  obtain ⟨n0_0_2, y0_0_2, e0_0_2⟩ := f0_0 2 _ rfl
  have b0_0_2 : DataW.trod enc Try.prog W 0 (fun _ => true) true n0_0_2 3 [x0_2] = some y0_0_2 := e0_0_2
  obtain ⟨a0_0_2, e0_0_2, w0_0_2⟩ := (Op.openInt (k := .i64) Try.underlying3) b0_0_2
  cases e0_0_2
  obtain ⟨n0_1, y0_1, e0_1⟩ := f0 1 _ rfl
  have b0_1 : DataW.trod enc Try.prog W 0 (fun _ => true) true n0_1 25 [x0_3] = some y0_1 := e0_1
  obtain ⟨z0_1, ⟨A0_1, c0_1, e0_1, hc0_1, g0_1⟩, w0_1⟩ := (Op.openSlice (d := (Kd.int .i64)) Try.underlying25 (by kernel_rfl) (Op.openInt (k := .i64) Try.underlying3)) b0_1
  cases e0_1
  obtain ⟨n0_2, y0_2, e0_2⟩ := f0 2 _ rfl
  have b0_2 : DataW.trod enc Try.prog W 0 (fun _ => true) true n0_2 22 [x0_4] = some y0_2 := e0_2
  obtain ⟨a0_2, e0_2, w0_2⟩ := (Op.openInt (k := .u64) Try.underlying22) b0_2
  cases e0_2
  obtain ⟨n0_3, y0_3, e0_3⟩ := f0 3 _ rfl
  have b0_3 : DataW.trod enc Try.prog W 0 (fun _ => true) true n0_3 22 [x0_5] = some y0_3 := e0_3
  obtain ⟨a0_3, e0_3, w0_3⟩ := (Op.openInt (k := .u64) Try.underlying22) b0_3
  cases e0_3
  obtain ⟨n0_4, y0_4, e0_4⟩ := f0 4 _ rfl
  have b0_4 : DataW.trod enc Try.prog W 0 (fun _ => true) true n0_4 26 [x0_6] = some y0_4 := e0_4
  obtain ⟨z0_4, ⟨A0_4, c0_4, e0_4, hc0_4, g0_4⟩, w0_4⟩ := (Op.openSlice (d := (Kd.int .u64)) Try.underlying26 (by kernel_rfl) (Op.openInt (k := .u64) Try.underlying22)) b0_4
  cases e0_4
  clear hA0 hval0 hsz0
  obtain ⟨kk, hk⟩ := Pure.TapeshiftSharingPrivacy a0_0_0 a0_0_1 a0_0_2 z0_1 a0_2 a0_3 z0_4 w0_0_0 w0_0_1 w0_0_2 w0_1 w0_2 w0_3 w0_4
  refine (privitylaw43_TapeshiftSharingPrivacy.calls kk a0_0_0 a0_0_1 a0_0_2 _ _ z0_1 a0_2 a0_3 _ _ z0_4 true W g0_1 hc0_1 g0_4 hc0_4 rfl hk).mono fun e W' ⟨he, bel⟩ => ?_
  subst he
  exact ⟨_, rfl, _, _, _, [], _, [], hW', trodAll_mk1 (shut_bool Try.underlying4 _), (trodAll_cons_mk (Below.trod laidOut (by kernel_rfl) (of_decide_eq_true (by kernel_rfl)) k0 bel lt0) trodAll_mk0), rfl, bel.frame _, fun h => by cases h⟩
theorem over : Rows.tapeshiftSharingPrivacyRow.holds Try.pinned (OpenSpec.ofChange Rows.tapeshiftSharingPrivacySpec) :=
  OpenClaim.holds_of_wide 3 Try.f3 rfl rfl rfl rfl rfl rfl rfl ⟨rfl, rfl, rfl, rfl, rfl⟩ rfl rfl rfl rfl rfl (by kernel_rfl) Try.func3 (by kernel_rfl)
    (of_decide_eq_true (by kernel_rfl)) (by unfold Func.isWrapper; first | (rw [if_pos (by decide +kernel)]; kernel_rfl) | (rw [if_neg (by decide +kernel)]; exact ⟨rfl, rfl⟩))
    (fun os started H enc _ => lifted os started H enc)
theorem proved : Rows.TapeshiftSharingPrivacySaid := over
#print axioms proved
end Go.Proofs.Ytejeelpnmdfibaa.tapeshiftSharingPrivacy
namespace Go.Proofs.Ytejeelpnmdfibaa
/-- The row, under a short name, for the claim. -/
theorem tapeshiftSharingPrivacy_holds : Rows.TapeshiftSharingPrivacySaid := tapeshiftSharingPrivacy.proved
end Go.Proofs.Ytejeelpnmdfibaa
end
