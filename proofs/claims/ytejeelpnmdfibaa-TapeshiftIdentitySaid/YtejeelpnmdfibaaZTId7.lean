/- Part 7 of the proof's texts, joined in build order. -/
import Derived.Test.YtejeelpnmdfibaaZTId4
import Derived.Test.YtejeelpnmdfibaaZTId5
import Derived.Test.YtejeelpnmdfibaaZTId2
import Derived.Test.YtejeelpnmdfibaaZTId6
section
/-
  What the statements of chapter 43 share: valid coalitions, the words of a sharing, the vanishing polynomial, the shift of a sharing.
-/
namespace Go.Proofs.Ytejeelpnmdfibaa.E
open Go.RowKit Go.Proofs.Ytejeelpnmdfibaa.Pr Go.Proofs.Ytejeelpnmdfibaa.Hw Go.Proofs.Ytejeelpnmdfibaa.Pl Go.Proofs.YtejeelpnmdfibaaW.PrintWords Go.Proofs.YtejeelpnmdfibaaW.PrintLast Go.Proofs.YtejeelpnmdfibaaW.PrintMore
set_option linter.unusedVariables false
set_option linter.unusedSimpArgs false

/-- A loop that asks one thing of each index. -/
theorem allQ {F : Nat → Int → Option Bool} {n : Nat} {Q : Nat → Prop} [DecidablePred Q] {e : Bool} (hend : Ev (fun k => F k (n : Int)) e) (hyes : ∀ i, i < n → Q i → ∀ r, Ev (fun k => F k ((i + 1 : Nat) : Int)) r → Ev (fun k => F k (i : Int)) r)
    (hno : ∀ i, i < n → ¬ Q i → Ev (fun k => F k (i : Int)) false) (r : Bool) (hr : r = true ↔ ((∀ i, i < n → Q i) ∧ e = true)) : Ev (fun k => F k ((0 : Nat) : Int)) r := by
  by_cases hall : ∀ i, i < n → Q i
  · have : r = e := by
      cases e with
      | true => exact hr.2 ⟨hall, rfl⟩
      | false => exact Bool.eq_false_iff.mpr fun h => by have := (hr.1 h).2; cases this
    rw [this]
    exact up (Q := fun i => Ev (fun k => F k (i : Int)) e) (n := n) hend fun i hi h => hyes i hi (hall i hi) e h
  · have hf : r = false := Bool.eq_false_iff.mpr fun h => hall (hr.1 h).1
    rw [hf]
    obtain ⟨i, hi, hq⟩ : ∃ i, i < n ∧ ¬ Q i := Classical.byContradiction fun h => hall fun i hi => Classical.byContradiction fun hq => h ⟨i, hi, hq⟩
    refine up (Q := fun i => Ev (fun k => F k (i : Int)) false) (n := i) (hno i hi hq) fun j hj h => ?_
    by_cases hqj : Q j
    · exact hyes j (by omega) hqj false h
    · exact hno j (by omega) hqj
theorem words_ev (a b : List Int) (ha : a.length ≤ 1000000000) : Ev (fun k => privityref14_Words.f k a b) (decide (a = b)) := by
  by_cases hl : a.length = b.length
  · have h := allQ (F := fun k i => privityref14_Words.l0 k a b i) (n := a.length) (Q := fun i => a.getD i 0 = b.getD i 0) (e := true) ?_ (fun i hi hq r h => ?_) (fun i hi hq => ?_) (decide (a = b)) ?_
    · refine h.congr fun k => ?_
      unfold privityref14_Words.f
      rw [if_pos (by omega)]; rfl
    · refine Ev.step (fun k => ?_) (Ev.now _)
      simp only [privityref14_Words.l0]
      rw [if_neg (by omega)]
    · refine Ev.step (fun k => ?_) h
      simp only [privityref14_Words.l0]
      rw [if_pos (by omega), if_pos (by omega), if_pos (by omega), rd_nat, rd_nat, if_pos hq, wnat (by omega)]
    · refine Ev.step (fun k => ?_) (Ev.now _)
      simp only [privityref14_Words.l0]
      rw [if_pos (by omega), if_pos (by omega), if_pos (by omega), rd_nat, rd_nat, if_neg hq]
    · rw [decide_eq_true_iff]
      refine ⟨fun e => ⟨fun i _ => by rw [e], rfl⟩, fun h => list_ext_getD hl fun i => ?_⟩
      by_cases hi : i < a.length
      · exact h.1 i hi
      · rw [getD_out a i (by omega), getD_out b i (by omega)]
  · have : decide (a = b) = false := decide_eq_false fun e => hl (by rw [e])
    rw [this]
    refine Ev.congr (fun k => ?_) (Ev.now _)
    unfold privityref14_Words.f
    rw [if_neg (by omega)]
/-! Valid parameters and coalitions. -/
def val12B (p N T : Int) : Bool := supB p && decide (4 ≤ N ∧ N ≤ 13 ∧ N < p ∧ 1 ≤ T ∧ T < N ∧ 3 * T < N)
theorem val12_ev (p N T : Int) : Ev (fun k => privityref12_Valid.f k p N T) (val12B p N T) := by
  unfold privityref12_Valid.f
  refine ev_if (supported_ev p) (fun h => ?_) (fun h => ?_)
  · unfold val12B
    rw [h, Bool.true_and]
    refine Ev.congr (fun k => ?_) (Ev.now _)
    by_cases h1 : 4 ≤ N
    · rw [if_pos h1]
      by_cases h2 : N ≤ 13
      · rw [if_pos h2, wrapU_id (by omega) (by omega)]
        by_cases h3 : N < p
        · rw [if_pos h3]
          by_cases h4 : 1 ≤ T
          · rw [if_pos h4]
            by_cases h5 : T < N
            · rw [if_pos h5, w64' (by omega) (by omega)]
              by_cases h6 : 3 * T < N
              · rw [decide_eq_true h6, decide_eq_true ⟨h1, h2, h3, h4, h5, h6⟩]
              · rw [decide_eq_false h6, decide_eq_false fun h => h6 h.2.2.2.2.2]
            · rw [if_neg h5, decide_eq_false fun h => h5 h.2.2.2.2.1]
          · rw [if_neg h4, decide_eq_false fun h => h4 h.2.2.2.1]
        · rw [if_neg h3, decide_eq_false fun h => h3 h.2.2.1]
      · rw [if_neg h2, decide_eq_false fun h => h2 h.2.1]
    · rw [if_neg h1, decide_eq_false fun h => h1 h.1]
  · have : val12B p N T = false := by unfold val12B; rw [h]; rfl
    rw [this]; exact Ev.now _
/-- Increasing numbers of parties. -/
def IncAt (N : Int) (l : List Int) (i : Nat) : Prop := 1 ≤ l.getD i 0 ∧ l.getD i 0 ≤ N ∧ (i = 0 ∨ l.getD (i - 1) 0 < l.getD i 0)
instance (N : Int) (l : List Int) : DecidablePred (IncAt N l) := fun i => by unfold IncAt; infer_instance
def incB (N : Int) (l : List Int) : Bool := decide (∀ i, i < l.length → IncAt N l i)
def coaB (p N T : Int) (l : List Int) : Bool := val12B p N T && (decide ((l.length : Int) ≤ T) && incB N l)
theorem coa12_ev (p N T : Int) (l : List Int) : Ev (fun k => privityref12_ValidCoalition.f k p N T l) (coaB p N T l) := by
  unfold privityref12_ValidCoalition.f
  have hno : ∀ r, r = false → Ev (fun k => privityref12_ValidCoalition.j0 k l true p N T) r := fun r hr => by
    subst hr
    refine Ev.step (fun k => ?_) (Ev.now _)
    simp only [privityref12_ValidCoalition.j0]
    rw [if_pos trivial]
  refine ev_if (val12_ev p N T) (fun h => ?_) (fun h => hno _ (by unfold coaB; rw [h]; rfl))
  unfold coaB
  rw [h, Bool.true_and]
  unfold val12B at h
  rw [Bool.and_eq_true, decide_eq_true_eq] at h
  obtain ⟨_, a1, a2, a3, a4, a5, a6⟩ := h
  by_cases hl : (l.length : Int) > T
  · rw [decide_eq_true hl]
    exact hno _ (by rw [decide_eq_false (by omega)]; rfl)
  · rw [decide_eq_false hl, decide_eq_true (by omega), Bool.true_and]
    refine Ev.step (f := fun k => privityref12_ValidCoalition.l0 k l ((0 : Nat) : Int) p N T) (fun k => ?_) ?_
    · simp only [privityref12_ValidCoalition.j0]
      rw [if_neg (by simp)]; rfl
    · refine allQ (F := fun k i => privityref12_ValidCoalition.l0 k l i p N T) (n := l.length) (Q := IncAt N l) (e := true) ?_ (fun i hi hq r h => ?_) (fun i hi hq => ?_) (incB N l) (by unfold incB; rw [decide_eq_true_iff]; exact ⟨fun h => ⟨h, rfl⟩, fun h => h.1⟩)
      · refine Ev.step (fun k => ?_) (Ev.now _)
        simp only [privityref12_ValidCoalition.l0]
        rw [if_neg (by omega)]
      · obtain ⟨q1, q2, q3⟩ := hq
        refine Ev.step (fun k => ?_) h
        simp only [privityref12_ValidCoalition.l0]
        rw [if_pos (by omega), if_pos (by omega), rd_nat, if_neg (by omega), if_neg (by omega), wnat (by omega)]
        by_cases h0 : i = 0
        · rw [if_neg (by omega)]
        · rw [if_pos (by omega), w64' (n := (i : Int) - 1) (by omega) (by omega), if_pos (by omega), if_pos (by omega), show (i : Int) - 1 = ((i - 1 : Nat) : Int) from by omega, rd_nat, if_neg (by have := q3.resolve_left h0; omega)]
      · refine Ev.step (fun k => ?_) (Ev.now _)
        simp only [privityref12_ValidCoalition.l0]
        rw [if_pos (by omega), if_pos (by omega), rd_nat]
        by_cases q1 : l.getD i 0 < 1
        · rw [if_pos q1]
        · rw [if_neg q1]
          by_cases q2 : l.getD i 0 > N
          · rw [if_pos q2]
          · have h0 : i ≠ 0 := fun e => hq ⟨by omega, by omega, .inl e⟩
            rw [if_neg q2, if_pos (by omega), w64' (n := (i : Int) - 1) (by omega) (by omega), if_pos (by omega), if_pos (by omega), show (i : Int) - 1 = ((i - 1 : Nat) : Int) from by omega, rd_nat, if_pos (Int.not_lt.1 fun h => hq ⟨by omega, by omega, .inr h⟩)]
def mayB (p N T : Int) (l : List Int) : Bool := val12B p N T && (decide (N ≤ 7) && coaB p N T l)
theorem may_ev (p N T : Int) (l : List Int) (da db : Int) (w : List Int) : Ev (fun k => privitylaw43_may.f k p N T l da db w) (mayB p N T l) := by
  unfold privitylaw43_may.f
  refine ev_if (val12_ev p N T) (fun h => ?_) (fun h => by unfold mayB; rw [h]; exact Ev.now _)
  unfold mayB
  rw [h, Bool.true_and]
  refine ev_ite (fun h7 => ?_) (fun h7 => by rw [decide_eq_false h7]; exact Ev.now _)
  rw [decide_eq_true h7, Bool.true_and]
  exact Ev.bind (coa12_ev p N T l) (Ev.now _)
theorem inc_lt {N : Int} {l : List Int} (h : ∀ i, i < l.length → IncAt N l i) (i : Nat) : ∀ d, i + d + 1 < l.length → l.getD i 0 < l.getD (i + d + 1) 0
  | 0, hd => by
    have := (h (i + 1) hd).2.2.resolve_left (by omega)
    rwa [Nat.add_sub_cancel] at this
  | d + 1, hd => by
    have h1 := inc_lt h i d (by omega)
    have h2 := (h (i + d + 1 + 1) hd).2.2.resolve_left (by omega)
    rw [Nat.add_sub_cancel] at h2
    have : i + (d + 1) + 1 = i + d + 1 + 1 := by omega
    rw [this]; omega
/-- Valid parameters and a valid coalition. -/
structure Ok12 (p N T : Int) (bad : List Int) : Prop where
  hp : Supp p
  np : N < p
  coa : CoaB N T bad
theorem ok12 {p N T : Int} {l : List Int} (h : coaB p N T l = true) : Ok12 p N T l := by
  unfold coaB val12B incB at h
  rw [Bool.and_eq_true, Bool.and_eq_true, Bool.and_eq_true, decide_eq_true_eq, decide_eq_true_eq, decide_eq_true_eq] at h
  obtain ⟨⟨h1, a1, a2, a3, a4, a5, a6⟩, h2, h3⟩ := h
  have hin : ∀ x ∈ l, ∃ i, i < l.length ∧ l.getD i 0 = x := fun x hx => by
    obtain ⟨i, hi, rfl⟩ := List.getElem_of_mem hx
    exact ⟨i, hi, Hw.getD_in _ _ hi⟩
  refine ⟨supB_of h1, a3, ⟨a1, a2, a4, a6, h2, ?_, fun x hx => ?_⟩⟩
  · rw [List.nodup_iff_pairwise_ne]
    refine List.pairwise_iff_getElem.2 fun i j hi hj hij e => ?_
    have := inc_lt h3 i (j - i - 1) (by omega)
    rw [show i + (j - i - 1) + 1 = j from by omega, Hw.getD_in _ _ hi, Hw.getD_in _ _ hj, e] at this
    omega
  · obtain ⟨i, hi, rfl⟩ := hin x hx
    have := h3 i hi
    exact ⟨this.1, this.2.1⟩
structure OkM (p N T : Int) (bad : List Int) : Prop where
  ok : Ok12 p N T bad
  n7 : N ≤ 7
theorem okM {p N T : Int} {l : List Int} (h : mayB p N T l = true) : OkM p N T l := by
  unfold mayB at h
  rw [Bool.and_eq_true, Bool.and_eq_true, decide_eq_true_eq] at h
  exact ⟨ok12 h.2.2, h.2.1⟩
theorem OkM.t {p N T : Int} {bad : List Int} (h : OkM p N T bad) : T = 1 ∨ T = 2 := by
  have h1 := h.ok.coa.t0
  have h2 := h.ok.coa.t1
  have h3 := h.n7
  omega
/-! The words. -/
def cutL (p : Int) (w : List Int) (m n : Nat) : List Int := tabL n fun i => if m + i < w.length then w.getD (m + i) 0 % p else 0
theorem cutL_length (p : Int) (w : List Int) (m n : Nat) : (cutL p w m n).length = n := tabL_length _ _
theorem cutL_res {p : Int} (hp : Supp p) (w : List Int) (m n : Nat) : ∀ x ∈ cutL p w m n, Res p x := tabL_res fun i _ => by
  split
  · exact Res.mod hp _
  · have := hp.bd; exact ⟨Int.le_refl 0, by omega⟩
theorem cut_ev {p : Int} (hp : Supp p) (N T : Int) (bad : List Int) (da db : Int) {w : List Int} (hw : ∀ x ∈ w, 0 ≤ x) (m n : Nat) (hm : m ≤ 1000) (hn : n ≤ 1000) : Ev (fun k => privitylaw43_cut.f k p N T bad da db w (m : Int) (n : Int)) (cutL p w m n) := by
  have hb := hp.bd
  unfold privitylaw43_cut.f
  have hs : wrap64 ((m : Int) + (n : Int)) = ((m + n : Nat) : Int) := by rw [w64' (by omega) (by omega)]; omega
  have h := up (Q := fun i => Ev (fun k => privitylaw43_cut.l0 k (m : Int) (n : Int) (cutL p w m i) ((m + i : Nat) : Int) p N T bad da db w) (cutL p w m n)) (n := n) ?_ fun i hi h => ?_
  · exact h
  · refine Ev.step (fun k => ?_) (Ev.now _)
    simp only [privitylaw43_cut.l0]
    rw [hs, if_neg (by omega)]
  · have e : cutL p w m (i + 1) = cutL p w m i ++ [if m + i < w.length then w.getD (m + i) 0 % p else 0] := tabL_succ _ _
    rw [e] at h
    refine Ev.step (fun k => ?_) h
    simp only [privitylaw43_cut.l0]
    rw [hs, if_pos (by omega), wnat (by omega), cutL_length]
    by_cases hlt : m + i < w.length
    · have h0 : 0 ≤ w.getD (m + i) 0 := by rw [Hw.getD_in _ _ hlt]; exact hw _ (List.getElem_mem _)
      rw [if_pos hlt, if_pos (by omega), if_pos (by omega), if_neg (by omega), if_pos (by omega), rd_nat, tmod_pos h0]; rfl
    · rw [if_neg hlt, if_neg (by omega), if_pos (by omega)]; rfl
def qL (p T : Int) (w : List Int) : List Int := cutL p w 0 (T.toNat + 1)
def rL (p T : Int) (w : List Int) : List Int := cutL p w (T.toNat + 1) (T.toNat * (T.toNat + 1) / 2)
theorem one_ev {p : Int} (hp : Supp p) (N : Int) {T : Int} (hT : T = 1 ∨ T = 2) (bad : List Int) (da db : Int) {w : List Int} (hw : ∀ x ∈ w, 0 ≤ x) : Ev (fun k => privitylaw43_one.f k p N T bad da db w) (qL p T w, rL p T w) := by
  unfold privitylaw43_one.f
  rcases hT with rfl | rfl
  · have h1 := cut_ev hp N 1 bad da db hw 0 2 (by omega) (by omega)
    have h2 := cut_ev hp N 1 bad da db hw 2 1 (by omega) (by omega)
    have a1 : wrap64 ((1 : Int) + 1) = 2 := by unfold wrap64; omega
    have a2 : wrap64 ((1 : Int) * 2) = 2 := by unfold wrap64; omega
    have a3 : wrap64 (Int.tdiv 2 2) = 1 := by kernel_rfl
    rw [a1, a2, a3]
    exact Ev.bind h1 (Ev.bind h2 (Ev.now _))
  · have h1 := cut_ev hp N 2 bad da db hw 0 3 (by omega) (by omega)
    have h2 := cut_ev hp N 2 bad da db hw 3 3 (by omega) (by omega)
    have a1 : wrap64 ((2 : Int) + 1) = 3 := by unfold wrap64; omega
    have a2 : wrap64 ((2 : Int) * 3) = 6 := by unfold wrap64; omega
    have a3 : wrap64 (Int.tdiv 6 2) = 3 := by kernel_rfl
    rw [a1, a2, a3]
    exact Ev.bind h1 (Ev.bind h2 (Ev.now _))
/-! The vanishing polynomial. -/
theorem Ok12.van {p N T : Int} {bad : List Int} (h : Ok12 p N T bad) : VanOk p (extB N T bad) :=
  ⟨fun x hx => by have := extB_range h.coa x hx; have := h.np; exact ⟨by omega, by omega⟩, fun x hx => by have := extB_range h.coa x hx; omega, extB_nodup h.coa⟩
def vanZ (p N T : Int) (bad : List Int) : List Int := polL p (vanP (extB N T bad))
theorem vanZ_length {p N T : Int} {bad : List Int} (h : Ok12 p N T bad) : ((vanZ p N T bad).length : Int) = T + 1 := by
  unfold vanZ
  rw [van_len h.hp h.van]
  have := extB_length h.coa
  omega
theorem vanpol_ev {p N T : Int} {bad : List Int} (h : Ok12 p N T bad) : Ev (fun k => params_VanishingPolynomial.f k p N T bad) (vanZ p N T bad) := by
  have hp := h.hp
  have hc := h.coa
  have hn0 := hc.n0
  have hn1 := hc.n1
  have hlen := hc.len
  have ht := hc.t1
  have hel := extB_length hc
  have hext : params_ExtendCoalition.f p N T bad = some (extB N T bad) := by
    unfold params_ExtendCoalition.f
    rw [if_pos (by omega), if_pos (by omega), if_pos (by omega), if_pos]
    · rfl
    · refine List.all_eq_true.2 fun x hx => ?_
      have := hc.rng x hx
      rw [Bool.and_eq_true, decide_eq_true_eq, decide_eq_true_eq]; omega
  unfold params_VanishingPolynomial.f
  obtain ⟨e, he⟩ : ∃ e, e = extB N T bad := ⟨_, rfl⟩
  have hv := h.van
  have hr := extB_range hc
  unfold vanZ
  rw [← he] at hext hel hv hr ⊢
  refine ev_now_bind hext ?_
  have hmain := up (Q := fun i => Ev (fun k => params_VanishingPolynomial.l0 k (vanP (e.take i)) e (e.length : Int) (i : Int) p N T) (polL p (vanP e))) (n := e.length) ?_ fun i hi h => ?_
  · exact hmain
  · rw [List.take_length]
    refine Ev.step (f := fun k => (interpolate_Polynomial.f p (vanP e)).bind fun bt => some bt.1) (fun k => ?_) ?_
    · simp only [params_VanishingPolynomial.l0]
      rw [if_neg (by omega)]
    · refine ev_now_bind (ipol_eq hp (vanP_ok hp hv) (by rw [vanP_length]; omega)) ?_
      rw [if_pos (vanP_nd hp hv)]
      exact Ev.now _
  · have e1 : vanP (e.take (i + 1)) = vanP (e.take i) ++ [⟨e.getD i 0, 0⟩] := by
      have e2 : e.take (i + 1) = e.take i ++ [e.getD i 0] := by
        rw [List.take_add_one, List.getElem?_eq_getElem hi, Hw.getD_in _ _ hi]; rfl
      unfold vanP
      rw [e2, List.map_append]; rfl
    rw [e1] at h
    have hx := hr (e.getD i 0) (by rw [Hw.getD_in _ _ hi]; exact List.getElem_mem _)
    refine Ev.step (fun k => ?_) h
    simp only [params_VanishingPolynomial.l0]
    rw [if_pos (by omega), if_pos (by omega), if_pos (by omega), if_pos (by rw [vanP_length, List.length_take]; omega), rd_nat, wrapU_id (by omega) (by omega), wnat (by omega)]
/-! The shift. -/
def byL (p : Int) (z : List Int) (d : Int) (l : List Int) : List Int := tabL l.length fun j => (l.getD j 0 + d * z.getD j 0 % p) % p
theorem byL_length (p : Int) (z : List Int) (d : Int) (l : List Int) : (byL p z d l).length = l.length := tabL_length _ _
theorem byL_res {p : Int} (hp : Supp p) (z : List Int) (d : Int) (l : List Int) : ∀ x ∈ byL p z d l, Res p x := tabL_res fun _ _ => Res.mod hp _
def byS (p : Int) (z : List Int) (d : Int) (l : List Int) (i : Nat) : List Int := tabL l.length fun j => if j < i then (l.getD j 0 + d * z.getD j 0 % p) % p else l.getD j 0
theorem byS_next (p : Int) (z : List Int) (d : Int) (l : List Int) (i : Nat) (hi : i < l.length) : (byS p z d l i).set i ((l.getD i 0 + d * z.getD i 0 % p) % p) = byS p z d l (i + 1) := by
  refine list_ext_getD (by rw [List.length_set]; unfold byS; rw [tabL_length, tabL_length]) fun j => ?_
  have hl : (byS p z d l i).length = l.length := tabL_length _ _
  by_cases e : j = i
  · subst e
    unfold byS
    rw [List.getD_eq_getElem?_getD, List.getElem?_set_self (by rw [tabL_length]; exact hi), tabL_getD, if_pos hi, if_pos (Nat.lt_succ_self _)]
    rfl
  · rw [List.getD_eq_getElem?_getD, List.getElem?_set_ne (Ne.symm e), ← List.getD_eq_getElem?_getD]
    unfold byS
    rw [tabL_getD, tabL_getD]
    by_cases hj : j < l.length
    · rw [if_pos hj, if_pos hj]
      by_cases h1 : j < i
      · rw [if_pos h1, if_pos (by omega)]
      · rw [if_neg h1, if_neg (by omega)]
    · rw [if_neg hj, if_neg hj]
theorem by_ev {p : Int} (hp : Supp p) (T : Int) {z l : List Int} (hz : ∀ x ∈ z, Res p x) (hl : ∀ x ∈ l, Res p x) (hzl : l.length ≤ z.length) (hll : l.length ≤ 1000) {d : Int} (hd : Res p d) : Ev (fun k => tapeshift_mover_by.f k p T z d l) (byL p z d l) := by
  unfold tapeshift_mover_by.f
  have hcl : slices_Clone_uint64_uint64.f l = some l := by unfold slices_Clone_uint64_uint64.f; rw [if_pos (by omega)]
  refine ev_now_bind hcl ?_
  have e0 : byS p z d l 0 = l := by
    unfold byS
    refine (tabL_congr fun j hj => ?_).trans (tabL_of l)
    rw [if_neg (by omega)]
  have e1 : byS p z d l l.length = byL p z d l := tabL_congr fun j hj => by rw [if_pos hj]
  have h := up (Q := fun i => Ev (fun k => tapeshift_mover_by.l0 k d (byS p z d l i) (l.length : Int) (i : Int) p T z) (byL p z d l)) (n := l.length) ?_ fun i hi h => ?_
  · rw [e0] at h; exact h
  · rw [e1]
    refine Ev.step (fun k => ?_) (Ev.now _)
    simp only [tapeshift_mover_by.l0]
    rw [if_neg (by omega)]
  · have hbl : (byS p z d l i).length = l.length := tabL_length _ _
    have hbi : (byS p z d l i).getD i 0 = l.getD i 0 := by unfold byS; rw [tabL_getD, if_pos hi, if_neg (Nat.lt_irrefl _)]
    rw [← byS_next p z d l i hi] at h
    refine Ev.step (f := fun k => (field_Mul.f k p d (z.getD i 0)).bind fun t => (field_Add.f k p (l.getD i 0) t).bind fun t2 => tapeshift_mover_by.l0 k d ((byS p z d l i).set i t2) (l.length : Int) ((i + 1 : Nat) : Int) p T z) (fun k => ?_) (Ev.bind (mul_ev hp hd (res_getD hp hz i)) (Ev.bind (add_ev hp (res_getD hp hl i) (Res.mod hp _)) h))
    simp only [tapeshift_mover_by.l0]
    rw [if_pos (by omega), if_pos (by omega), if_pos (by omega), if_pos (by omega), rd_nat, rd_nat, hbi, wnat (by omega), Int.toNat_natCast]
/-- The products z i * z j, 1 ≤ i ≤ j, in the order of the words. -/
def wL (p T : Int) (z : List Int) : List Int := if T = 1 then [z.getD 1 0 * z.getD 1 0 % p] else [z.getD 1 0 * z.getD 1 0 % p, z.getD 1 0 * z.getD 2 0 % p, z.getD 2 0 * z.getD 2 0 % p]
theorem wL1 (p : Int) (z : List Int) : wL p 1 z = [z.getD 1 0 * z.getD 1 0 % p] := if_pos rfl
theorem wL2 (p : Int) (z : List Int) : wL p 2 z = [z.getD 1 0 * z.getD 1 0 % p, z.getD 1 0 * z.getD 2 0 % p, z.getD 2 0 * z.getD 2 0 % p] := if_neg (by omega)
theorem mul3 (p d a b : Int) : d * a % p * b % p = d * (a * b % p) % p := by
  rw [mulm (a := d * a % p) (a' := d * a) (b := b) (b' := b) (Int.emod_emod_of_dvd _ (Int.dvd_refl _)) rfl, mulm (a := d) (a' := d) (b := a * b % p) (b' := a * b) rfl (Int.emod_emod_of_dvd _ (Int.dvd_refl _)), Int.mul_assoc]
theorem mov_by {p T d : Int} {z r : List Int} (hT : T = 1 ∨ T = 2) (hr : r.length = T.toNat * (T.toNat + 1) / 2) : movI p d T.toNat z r T.toNat 1 0 = byL p (wL p T z) d r := by
  rcases hT with rfl | rfl
  · have h1 : r.length = 1 := hr
    have e : byL p (wL p 1 z) d r = [(r.getD 0 0 + d * (z.getD 1 0 * z.getD 1 0 % p) % p) % p] := by
      unfold byL; rw [h1, wL1]; rfl
    rw [e, ← mul3]; rfl
  · have h1 : r.length = 3 := hr
    have e : byL p (wL p 2 z) d r = [(r.getD 0 0 + d * (z.getD 1 0 * z.getD 1 0 % p) % p) % p, (r.getD 1 0 + d * (z.getD 1 0 * z.getD 2 0 % p) % p) % p, (r.getD 2 0 + d * (z.getD 2 0 * z.getD 2 0 % p) % p) % p] := by
      unfold byL; rw [h1, wL2]; rfl
    rw [e, ← mul3, ← mul3, ← mul3]; rfl
theorem sharing_ev {p N T : Int} {bad : List Int} (h : OkM p N T bad) {d : Int} (hd : Res p d) {q r : List Int} (hq : ∀ x ∈ q, Res p x) (hr : ∀ x ∈ r, Res p x) (lq : q.length = T.toNat + 1) (lr : r.length = T.toNat * (T.toNat + 1) / 2) :
    Ev (fun k => tapeshift_Sharing.f k p N T bad d q r) (byL p (vanZ p N T bad) d q, byL p (wL p T (vanZ p N T bad)) d r) := by
  have hp := h.ok.hp
  have hT := h.t
  have hzl := vanZ_length h.ok
  have hzr : ∀ x ∈ vanZ p N T bad, Res p x := van_res hp h.ok.van
  have hm := mov_by (p := p) (d := d) (z := vanZ p N T bad) hT lr
  have hml : (movI p d T.toNat (vanZ p N T bad) r T.toNat 1 0).length = r.length := by rw [hm, byL_length]
  have h3 : r.length ≤ 3 := by rw [lr]; rcases hT with rfl | rfl <;> decide
  have hrest : tapeshift_mover_rest.f p T (vanZ p N T bad) d r = some (byL p (wL p T (vanZ p N T bad)) d r) := by
    unfold tapeshift_mover_rest.f
    rw [if_pos (supB_iff.2 hp), if_pos (by omega), if_pos (by omega), if_pos (resB_iff.2 hd), if_pos (ressB_iff.2 hzr), if_pos (by omega), if_pos (ressB_iff.2 hr), if_pos (by rw [hml]; exact Nat.le_refl _), if_pos (by omega), hm]
  unfold tapeshift_Sharing.f tapeshift_of.f
  refine Ev.bind (a := (p, T, vanZ p N T bad)) (f := fun k bt => (tapeshift_mover_by.f k bt.1 bt.2.1 bt.2.2 d q).bind fun t220 => ((tapeshift_mover_rest.f bt.1 bt.2.1 bt.2.2 d r).bind fun t223 => (some (t220, t223)))) (Ev.bind (f := fun _ t => some (p, T, t)) (vanpol_ev h.ok) (Ev.now _)) ?_
  exact Ev.bind (by_ev hp T hzr hq (by omega) (by omega) hd) (ev_now_bind hrest (Ev.now _))
theorem awake43 : Ev (fun k => privitylaw43_awake.f k) true := Ev.of (fun k => privitylaw43_awake.mono _) (k := 60) privitylaw43_awake.is
theorem awake43' : Ev (fun k => (privitylaw43_awake.f k).bind fun t => some t) true := Ev.bind awake43 (Ev.now _)
end Go.Proofs.Ytejeelpnmdfibaa.E
end
section
/-
  Division of polynomials with remainder (poly.DivMod): what it ends with.
-/
namespace Go.Proofs.Ytejeelpnmdfibaa.E
open Go.RowKit Go.Proofs.Ytejeelpnmdfibaa.Pr Go.Proofs.Ytejeelpnmdfibaa.Hw Go.Proofs.Ytejeelpnmdfibaa.Pl Go.Proofs.YtejeelpnmdfibaaW.PrintWords Go.Proofs.YtejeelpnmdfibaaW.PrintLast Go.Proofs.YtejeelpnmdfibaaW.PrintMore
set_option linter.unusedVariables false
set_option linter.unusedSimpArgs false

/-- k times b, from place s on, is taken away, the first n words of b. -/
def subN (p k : Int) (b : List Int) (s : Nat) (r : List Int) : Nat → List Int
  | 0 => r
  | n + 1 => (subN p k b s r n).set (s + n) (((subN p k b s r n).getD (s + n) 0 - k * b.getD n 0 % p) % p)
theorem subN_length (p k : Int) (b : List Int) (s : Nat) (r : List Int) : ∀ n, (subN p k b s r n).length = r.length
  | 0 => rfl
  | n + 1 => by rw [subN, List.length_set]; exact subN_length p k b s r n
theorem res_set {p : Int} {l : List Int} (hl : ∀ x ∈ l, Res p x) (i : Nat) {v : Int} (hv : Res p v) : ∀ x ∈ l.set i v, Res p x := fun x hx => by
  rcases List.mem_or_eq_of_mem_set hx with h | h
  · exact hl x h
  · exact h ▸ hv
theorem subN_res {p : Int} (hp : Supp p) (k : Int) (b : List Int) (s : Nat) {r : List Int} (hr : ∀ x ∈ r, Res p x) : ∀ n, ∀ x ∈ subN p k b s r n, Res p x
  | 0 => hr
  | n + 1 => by rw [subN]; exact res_set (subN_res hp k b s hr n) _ (Res.mod hp _)
theorem subN_far (p k : Int) (b : List Int) (s : Nat) (r : List Int) : ∀ n j, s + n ≤ j → (subN p k b s r n).getD j 0 = r.getD j 0
  | 0, _, _ => rfl
  | n + 1, j, h => by
    rw [subN, List.getD_eq_getElem?_getD, List.getElem?_set_ne (by omega), ← List.getD_eq_getElem?_getD]
    exact subN_far p k b s r n j (by omega)
theorem subN_ev {p : Int} (hp : Supp p) [NeZero p.toNat] (k : Int) (b : List Int) (s : Nat) (r : List Int) (x : Fin p.toNat) : ∀ n, s + n ≤ r.length → ev x (M p (subN p k b s r n)) = ev x (M p r) - T p k * mono x s * ev x ((M p b).take n)
  | 0, _ => by rw [subN, List.take_zero, ev]; grind
  | n + 1, h => by
    have ih := subN_ev hp k b s r x n (by omega)
    have hm : M p (subN p k b s r (n + 1)) = (M p (subN p k b s r n)).set (s + n) (T p ((subN p k b s r n).getD (s + n) 0 - k * b.getD n 0)) := by
      rw [subN]
      unfold M
      rw [List.map_set]
      refine congrArg _ ?_
      rw [T_mod hp, T_sub, T_sub, T_mod hp]
    rw [hm, ev_set _ _ _ _ (by rw [M_length, subN_length]; omega), ev_take_succ, ih, M_getD, M_getD, mono_add, T_sub, T_mul]
    grind
theorem dm_inner {p : Int} (hp : Supp p) {b : List Int} (hb : ∀ x ∈ b, Res p x) (hb1 : b.length ≤ 1000) (u : Int) {c : Int} (rc : Res p c) {r : List Int} (hr : ∀ x ∈ r, Res p x) (q : List Int) (s : Nat) (hs : s + b.length ≤ r.length) (h1 : r.length ≤ 1000) {X : List Int × List Int × Int}
    (hev : Ev (fun k => poly_DivMod.l0 k p b u (trimL (subN p c b s r b.length)) (q.set s c)) X) : Ev (fun k => poly_DivMod.l1 k p b u r (q.set s c) (s : Int) c b (b.length : Int) 0) X := by
  refine up (Q := fun j => Ev (fun k => poly_DivMod.l1 k p b u (subN p c b s r j) (q.set s c) (s : Int) c b (b.length : Int) ((j : Nat) : Int)) X) (n := b.length) ?_ fun j hj h => ?_
  · refine Ev.step (f := fun k => (poly_Trim.f k (subN p c b s r b.length)).bind fun t => poly_DivMod.l0 k p b u t (q.set s c)) (fun k => ?_) (Ev.bind (trim_ev _ (by rw [subN_length]; omega)) hev)
    simp only [poly_DivMod.l1]
    rw [if_neg (by omega)]
  · have hg := subN_res hp c b s hr j
    have c1 : (j : Int) < (b.length : Int) := by omega
    have c2 : (0 : Int) ≤ (j : Int) := by omega
    have c3 : (0 : Int) ≤ ((s + j : Nat) : Int) := by omega
    have c4 : ((s + j : Nat) : Int) < ((subN p c b s r j).length : Int) := by rw [subN_length]; omega
    have hj1 : wrap64 ((j : Int) + 1) = ((j + 1 : Nat) : Int) := wnat (by omega)
    have hsi : wrap64 ((s : Int) + (j : Int)) = ((s + j : Nat) : Int) := by rw [w64' (by omega) (by omega)]; omega
    refine Ev.step (f := fun k => (field_Mul.f k p c (b.getD j 0)).bind fun t => (field_Sub.f k p ((subN p c b s r j).getD (s + j) 0) t).bind fun t2 => poly_DivMod.l1 k p b u ((subN p c b s r j).set (s + j) t2) (q.set s c) (s : Int) c b (b.length : Int) ((j + 1 : Nat) : Int)) (fun k => ?_) (Ev.bind (mul_ev hp rc (res_getD hp hb j)) (Ev.bind (sub_ev hp (res_getD hp hg _) (Res.mod hp _)) h))
    simp only [poly_DivMod.l1]
    rw [hsi, hj1, if_pos c1, if_pos c2, if_pos c1, if_pos c3, if_pos c4, rd_nat, rd_nat, Int.toNat_natCast]
set_option maxHeartbeats 8000000 in
/-- The division, from the rest and the quotient so far. -/
theorem dm_l0 {p : Int} (hp : Supp p) [NeZero p.toNat] {b : List Int} (hb : ∀ x ∈ b, Res p x) (hb0 : 0 < b.length) (hb1 : b.length ≤ 1000) {u : Int} (hu : Res p u) (hi : b.getD (b.length - 1) 0 * u % p = 1) : ∀ (n : Nat) (r q : List Int), r.length ≤ n → r.length ≤ 1000 → q.length ≤ 1000 → (∀ x ∈ r, Res p x) → (∀ x ∈ q, Res p x) → r.length + 1 ≤ q.length + b.length → (∀ i, i + b.length ≤ r.length → q.getD i 0 = 0) →
    ∃ q' r' : List Int, Ev (fun k => poly_DivMod.l0 k p b u r q) (trimL q', r', 0) ∧ (∀ x ∈ q', Res p x) ∧ (∀ x ∈ r', Res p x) ∧ q'.length = q.length ∧ r'.length < b.length ∧ ∀ x : Fin p.toNat, ev x (M p q') * ev x (M p b) + ev x (M p r') = ev x (M p q) * ev x (M p b) + ev x (M p r) := by
  intro n
  induction n with
  | zero =>
    intro r q h0 h1 h2 hr hq hl hz
    refine ⟨q, r, ?_, hq, hr, rfl, by omega, fun x => rfl⟩
    refine Ev.step (f := fun k => (poly_Trim.f k q).bind fun t => some (t, r, 0)) (fun k => ?_) (Ev.bind (trim_ev q (by omega)) (Ev.now _))
    simp only [poly_DivMod.l0]
    rw [if_neg (by omega)]
  | succ n ih =>
    intro r q h0 h1 h2 hr hq hl hz
    by_cases hlt : r.length < b.length
    · refine ⟨q, r, ?_, hq, hr, rfl, hlt, fun x => rfl⟩
      refine Ev.step (f := fun k => (poly_Trim.f k q).bind fun t => some (t, r, 0)) (fun k => ?_) (Ev.bind (trim_ev q (by omega)) (Ev.now _))
      simp only [poly_DivMod.l0]
      rw [if_neg (by omega)]
    · obtain ⟨s, hs⟩ : ∃ s, s = r.length - b.length := ⟨_, rfl⟩
      obtain ⟨c, hc⟩ : ∃ c, c = r.getD (r.length - 1) 0 * u % p := ⟨_, rfl⟩
      have rc : Res p c := by rw [hc]; exact Res.mod hp _
      obtain ⟨r1, hr1⟩ : ∃ l, l = subN p c b s r b.length := ⟨_, rfl⟩
      have l1 : r1.length = r.length := by rw [hr1, subN_length]
      have res1 : ∀ x ∈ r1, Res p x := by rw [hr1]; exact subN_res hp c b s hr b.length
      -- the head is gone
      have top : r1.getD (r.length - 1) 0 = 0 := by
        rw [hr1]
        obtain ⟨m, hm⟩ : ∃ m, b.length = m + 1 := ⟨b.length - 1, by omega⟩
        rw [hm, subN, List.getD_eq_getElem?_getD, show r.length - 1 = s + m by omega, List.getElem?_set_self (by rw [subN_length]; omega)]
        show ((subN p c b s r m).getD (s + m) 0 - c * b.getD m 0 % p) % p = 0
        rw [subN_far p c b s r m (s + m) (Nat.le_refl _)]
        have hbm : b.getD m 0 * u % p = 1 := by have := hi; rwa [hm, Nat.add_sub_cancel] at this
        have hcr : c = r.getD (s + m) 0 * u % p := by rw [hc, show r.length - 1 = s + m by omega]
        have rr := res_getD hp hr (s + m)
        refine T_inj hp (Res.mod hp _) (by have := hp.bd; exact ⟨Int.le_refl 0, by omega⟩) ?_
        have e1 : T p (b.getD m 0) * T p u = 1 := by rw [← T_mul, ← T_mod hp, hbm, T_one]
        rw [T_mod hp, T_sub, T_mod hp, T_mul, hcr, T_mod hp, T_mul, T_zero]
        grind
      have less : (trimL r1).length < r.length := by
        have hle := trimL_length r1
        by_cases he : (trimL r1).length = r.length
        · exfalso
          have hne : trimL r1 ≠ [] := fun h => by rw [h] at he; simp at he; omega
          have := trimL_last r1 hne
          rw [he, trimL_getD] at this
          exact this top
        · omega
      have short : (trimL r1).length ≤ n := by omega
      have hq1 : ∀ x ∈ q.set s c, Res p x := res_set hq _ rc
      obtain ⟨q', r', hev, a1, a2, a3, a4, a5⟩ := ih (trimL r1) (q.set s c) short (by have := trimL_length r1; omega) (by rw [List.length_set]; exact h2) (fun x hx => res1 x (trimL_mem hx)) hq1 (by rw [List.length_set]; have := trimL_length r1; omega) (fun i hi => by
        have hle := trimL_length r1
        rw [List.getD_eq_getElem?_getD, List.getElem?_set_ne (by omega), ← List.getD_eq_getElem?_getD]
        exact hz i (by omega))
      have hin := dm_inner hp hb hb1 u rc hr q s (by omega) h1 (by rw [← hr1]; exact hev)
      refine ⟨q', r', ?_, a1, a2, by rw [a3, List.length_set], a4, fun x => ?_⟩
      · have hw1 : wrap64 ((r.length : Int) - 1) = ((r.length - 1 : Nat) : Int) := by rw [w64' (by omega) (by omega)]; omega
        have hw2 : wrap64 ((r.length : Int) - (b.length : Int)) = (s : Int) := by rw [w64' (by omega) (by omega)]; omega
        refine Ev.step (f := fun k => (field_Mul.f k p (r.getD (r.length - 1) 0) u).bind fun t => poly_DivMod.l1 k p b u r (q.set s t) (s : Int) t b (b.length : Int) 0) (fun k => ?_) (Ev.bind (a := c) (by rw [hc]; exact mul_ev hp (res_getD hp hr _) hu) hin)
        simp only [poly_DivMod.l0]
        rw [hw1, hw2, if_pos (by omega), if_pos (by omega), if_pos (by omega), rd_nat]
        refine congrArg _ (funext fun t => ?_)
        rw [if_pos (by omega), if_pos (by omega), Int.toNat_natCast]
      · rw [a5 x, ev_trimL x, hr1, subN_ev hp c b s r x b.length (by omega)]
        have hqs : ev x (M p (q.set s c)) = ev x (M p q) + T p c * mono x s := by
          have hm : M p (q.set s c) = (M p q).set s (T p c) := by unfold M; rw [List.map_set]
          rw [hm, ev_set _ _ _ _ (by rw [M_length]; omega), M_getD, hz s (by omega), T_zero]
          grind
        have hbt : (M p b).take b.length = M p b := M_take_all b
        rw [hqs, hbt]
        grind
theorem trim_full {b : List Int} (h0 : 0 < b.length) (hl : b.getD (b.length - 1) 0 ≠ 0) : trimL b = b := by
  have hle := trimL_length b
  refine list_ext_getD ?_ fun i => trimL_getD b i
  rcases Nat.lt_or_ge (trimL b).length b.length with h | h
  · exact absurd ((trimL_getD b (b.length - 1)).symm.trans (getD_out _ _ (by omega))) hl
  · omega
theorem dm_ev {p : Int} (hp : Supp p) [NeZero p.toNat] {a b : List Int} (ha : ∀ x ∈ a, Res p x) (hb : ∀ x ∈ b, Res p x) (la : a.length ≤ 1000) (lb : b.length ≤ 1000) (hb0 : 0 < b.length) (hl : b.getD (b.length - 1) 0 ≠ 0) :
    ∃ q r : List Int, Ev (fun k => poly_DivMod.f k p a b) (q, r, 0) ∧ (∀ x ∈ q, Res p x) ∧ (∀ x ∈ r, Res p x) ∧ q.length ≤ a.length + 1 ∧ r.length < b.length ∧ ∀ x : Fin p.toNat, ev x (M p a) = ev x (M p q) * ev x (M p b) + ev x (M p r) := by
  have htb : trimL b = b := trim_full hb0 hl
  have hrb := res_getD hp hb (b.length - 1)
  have hta := trimL_length a
  obtain ⟨u, hu⟩ : ∃ u, u = invp p (b.getD (b.length - 1) 0) := ⟨_, rfl⟩
  obtain ⟨m, hm⟩ : ∃ m : Nat, m = (trimL a).length + 1 - b.length := ⟨_, rfl⟩
  have hw1 : wrap64 ((b.length : Int) - 1) = ((b.length - 1 : Nat) : Int) := by rw [w64' (by omega) (by omega)]; omega
  have hmx : mx 0 (wrap64 (wrap64 (((trimL a).length : Int) - (b.length : Int)) + 1)) = (m : Int) := by
    rw [w64' (n := ((trimL a).length : Int) - (b.length : Int)) (by omega) (by omega), w64' (by omega) (by omega)]
    unfold mx
    split <;> omega
  obtain ⟨q, r, hev, a1, a2, a3, a4, a5⟩ := dm_l0 hp hb hb0 lb (u := u) (by rw [hu]; exact inv_res hp _) (by rw [hu]; exact inv_spec hp hrb hl) (trimL a).length (trimL a) (List.replicate m 0) (Nat.le_refl _) (by omega) (by rw [List.length_replicate]; omega) (fun x hx => ha x (trimL_mem hx)) (fun x hx => by
    rw [List.eq_of_mem_replicate hx]; have := hp.bd; exact ⟨Int.le_refl 0, by omega⟩) (by rw [List.length_replicate]; omega) (fun i _ => by
    rw [List.getD_eq_getElem?_getD, List.getElem?_replicate]; split <;> rfl)
  refine ⟨trimL q, r, ?_, fun x hx => a1 x (trimL_mem hx), a2, ?_, a4, fun x => ?_⟩
  · unfold poly_DivMod.f
    have h := trim_ev b (by omega)
    rw [htb] at h
    refine Ev.bind h ?_
    refine Ev.congr (fun k => if_neg (by omega)) ?_
    rw [hw1]
    refine Ev.congr (fun k => if_pos (by omega)) (Ev.congr (fun k => if_pos (by omega)) ?_)
    rw [rd_nat]
    refine Ev.bind (inv_ev hp hrb hl) (Ev.bind (trim_ev a (by omega)) ?_)
    rw [hmx]
    refine Ev.congr (fun k => if_pos (by omega)) (Ev.congr (fun k => if_pos (by rw [Int.toNat_natCast]; omega)) ?_)
    rw [Int.toNat_natCast, ← hu]
    exact hev
  · have := trimL_length q
    rw [a3, List.length_replicate] at this
    omega
  · rw [ev_trimL x, a5 x, ev_trimL x]
    have hz : ev x (M p (List.replicate m 0)) = 0 := by
      have : M p (List.replicate m 0) = List.replicate m 0 := by unfold M; rw [List.map_replicate, T_zero]
      rw [this, ev_zeros]
    rw [hz]
    grind
end Go.Proofs.Ytejeelpnmdfibaa.E
end
section
/-
  The shift of a triple: the quotient, in plain numbers.
-/
namespace Go.Proofs.Ytejeelpnmdfibaa.E
open Go.RowKit Go.Proofs.Ytejeelpnmdfibaa.Pr Go.Proofs.Ytejeelpnmdfibaa.Hw Go.Proofs.Ytejeelpnmdfibaa.Pl Go.Proofs.YtejeelpnmdfibaaW.PrintWords Go.Proofs.YtejeelpnmdfibaaW.PrintLast Go.Proofs.YtejeelpnmdfibaaW.PrintMore
set_option linter.unusedVariables false
set_option linter.unusedSimpArgs false

theorem coef_eq (l : List Int) (i : Nat) : poly_Coefficient.f l (i : Int) = some (l.getD i 0) := by
  unfold poly_Coefficient.f
  rw [if_neg (by omega)]
  by_cases h : l.length ≤ i
  · rw [if_pos (by omega), getD_out _ _ h]
  · rw [if_neg (by omega), if_pos (by omega), if_pos (by omega), rd_nat]
/-- A factor of a multiple of Z is known from the multiple. -/
theorem quot_uniq {p N U : Int} {bad : List Int} (h : OkM p N U bad) [NeZero p.toNat] {q r v : List Int} (hq : ∀ x ∈ q, Res p x) (hr : ∀ x ∈ r, Res p x) (hv : ∀ x ∈ v, Res p x) (lq : q.length ≤ 20) (lr : r.length ≤ U.toNat) (lv : v.length ≤ 20)
    (e : ∀ x : Fin p.toNat, ev x (M p q) * ev x (M p (vanZ p N U bad)) + ev x (M p r) = ev x (M p v) * ev x (M p (vanZ p N U bad))) : trimL q = trimL v := by
  have hp := h.ok.hp
  have hb := hp.bd
  have hvan := h.ok.van
  have hlen := extB_length h.ok.coa
  have ht := h.t
  have hnil : ∀ x : Fin p.toNat, ev x (M p []) = 0 := fun x => rfl
  have hr0 : trimL r = trimL [] := uniq hp hvan.res hvan.nd hr (fun _ hx => by cases hx) (by omega) (Nat.zero_le _) (fun x hx => by
    refine T_inj hp (evI_res hp _ _) (evI_res hp _ _) ?_
    have e1 := e (T p x)
    have e2 : ev (T p x) (M p (vanZ p N U bad)) = 0 := by rw [← ev_evI hp, show evI p x (vanZ p N U bad) = 0 from van_root hp hvan x hx, T_zero]
    rw [e2] at e1
    rw [ev_evI hp, ev_evI hp, hnil]
    grind)
  have hrz : ∀ x : Fin p.toNat, ev x (M p r) = 0 := fun x => by
    rw [← ev_trimL x r, hr0, ev_trimL x, hnil]
  have hcount := filter_split (extB N U bad) (runL 31 0)
  rw [runL_count hvan.nd (fun x hx => by have := extB_range h.ok.coa x hx; have := h.n7; omega), runL_length] at hcount
  have hres : ∀ x ∈ (runL 31 0).filter (fun x => decide (x ∉ extB N U bad)), Res p x ∧ x ∉ extB N U bad := fun x hx => by
    obtain ⟨h1, h2⟩ := List.mem_filter.1 hx
    have := (runL_mem 31 0 x).1 h1
    exact ⟨⟨by omega, by omega⟩, of_decide_eq_true h2⟩
  refine uniq hp (xs := (runL 31 0).filter fun x => decide (x ∉ extB N U bad)) (fun x hx => (hres x hx).1) ((runL_nodup 31 0).filter _) hq hv (by omega) (by omega) (fun x hx => ?_)
  obtain ⟨h1, h2⟩ := hres x hx
  have hz : evI p x (vanZ p N U bad) ≠ 0 := fun hz => by
    by_cases h0 : x = 0
    · subst h0
      have := van_zero hp hvan
      rw [show evI p 0 (polL p (vanP (extB N U bad))) = 0 from hz] at this
      omega
    · exact h2 (van_only hp hvan h1 h0 hz)
  refine T_inj hp (evI_res hp _ _) (evI_res hp _ _) ?_
  have e1 := e (T p x)
  rw [hrz] at e1
  have hne : ev (T p x) (M p (vanZ p N U bad)) ≠ 0 := fun h0 => hz (T_inj hp (evI_res hp _ _) ⟨Int.le_refl 0, by omega⟩ (by rw [ev_evI hp, h0, T_zero]))
  rw [ev_evI hp, ev_evI hp]
  have e2 : (ev (T p x) (M p q) - ev (T p x) (M p v)) * ev (T p x) (M p (vanZ p N U bad)) = 0 := by grind
  rcases dom hp _ _ e2 with h3 | h3
  · grind
  · exact absurd h3 hne
section
variable {p : Int} [NeZero p.toNat]
theorem ev_list (x : Fin p.toNat) (l : List Int) {n : Nat} (hl : l.length = n) : ev x (M p l) = sumF (fun i => T p (l.getD i 0) * mono x i) n := by
  have h := ev_tab x (fun i => l.getD i 0) n
  rw [← h, ← hl, tabL_of]
variable (hp : Supp p)
include hp
theorem ev_by (x : Fin p.toNat) {z a : List Int} (d : Int) (hl : z.length = a.length) : ev x (M p (byL p z d a)) = ev x (M p a) + T p d * ev x (M p z) := by
  rw [ev_list x a rfl, ev_list x z hl, ← sumF_mul, ← sumF_add]
  unfold byL
  rw [ev_tab]
  refine sumF_congr _ fun i hi => ?_
  rw [T_mod hp, T_add, T_mod hp, T_mul]
  grind
end
/-- The quotient of a shifted triple: da B + db A + da db Z. -/
def wqL (p : Int) (z : List Int) (da db : Int) (a b : List Int) : List Int := tabL z.length fun j => (da * b.getD j 0 + db * a.getD j 0 + da * db * z.getD j 0) % p
theorem wqL_length (p : Int) (z : List Int) (da db : Int) (a b : List Int) : (wqL p z da db a b).length = z.length := tabL_length _ _
theorem wqL_res {p : Int} (hp : Supp p) (z : List Int) (da db : Int) (a b : List Int) : ∀ x ∈ wqL p z da db a b, Res p x := tabL_res fun _ _ => Res.mod hp _
theorem ev_wq {p : Int} (hp : Supp p) [NeZero p.toNat] (x : Fin p.toNat) {z a b : List Int} (da db : Int) (la : a.length = z.length) (lb : b.length = z.length) : ev x (M p (wqL p z da db a b)) = T p da * ev x (M p b) + T p db * ev x (M p a) + T p da * T p db * ev x (M p z) := by
  rw [ev_list x a la, ev_list x b lb, ev_list x z rfl, ← sumF_mul, ← sumF_mul, ← sumF_mul, ← sumF_add, ← sumF_add]
  unfold wqL
  rw [ev_tab]
  refine sumF_congr _ fun i hi => ?_
  rw [T_mod hp, T_add, T_add, T_mul, T_mul, T_mul, T_mul]
  grind
/-- The difference of two products. -/
def moreL (p : Int) (x y a b : List Int) : List Int := trimL (addP p (trimL (mulsL p x y x.length)) (trimL ((trimL (mulsL p a b a.length)).map fun v => (p - 1) * v % p)))
theorem moreL_res {p : Int} (hp : Supp p) (x y a b : List Int) : ∀ v ∈ moreL p x y a b, Res p v := fun v hv => by
  exact addP_res hp _ _ v (trimL_mem hv)
theorem more_ev {p : Int} (hp : Supp p) [NeZero p.toNat] (x : Fin p.toNat) (f g a b : List Int) : ev x (M p (moreL p f g a b)) = ev x (M p f) * ev x (M p g) - ev x (M p a) * ev x (M p b) := by
  unfold moreL
  have hm : ∀ l m : List Int, ev x (M p (mulsL p l m l.length)) = ev x (M p l) * ev x (M p m) := fun l m => by rw [ev_muls hp, M_take_all]
  have hn : T p (p - 1) = -1 := by
    rw [T_sub, T_one, ← T_mod hp p, Int.emod_self, T_zero]; grind
  rw [ev_trimL x, ev_addP hp, ev_trimL x, ev_trimL x, hm, ev_scaleL hp, ev_trimL x, hm, hn]
  grind
theorem more_len (p : Int) (x y a b : List Int) : (moreL p x y a b).length ≤ x.length + y.length + (a.length + b.length) := by
  unfold moreL
  have h1 := trimL_length (addP p (trimL (mulsL p x y x.length)) (trimL ((trimL (mulsL p a b a.length)).map fun v => (p - 1) * v % p)))
  have h2 := trimL_length (mulsL p x y x.length)
  have h3 := trimL_length ((trimL (mulsL p a b a.length)).map fun v => (p - 1) * v % p)
  have h4 := trimL_length (mulsL p a b a.length)
  have h5 := mulsL_length p x y x.length
  have h6 := mulsL_length p a b a.length
  rw [List.length_map] at h3
  have h7 := addP_length p (trimL (mulsL p x y x.length)) (trimL ((trimL (mulsL p a b a.length)).map fun v => (p - 1) * v % p))
  omega
/-- The quotient that the division ends with. -/
theorem tri_div {p N U : Int} {bad : List Int} (h : OkM p N U bad) {da db : Int} {a b : List Int} (ha : ∀ x ∈ a, Res p x) (hb : ∀ x ∈ b, Res p x) (la : a.length = U.toNat + 1) (lb : b.length = U.toNat + 1) :
    ∃ q r : List Int, Ev (fun k => poly_DivMod.f k p (moreL p (byL p (vanZ p N U bad) da a) (byL p (vanZ p N U bad) db b) a b) (vanZ p N U bad)) (q, r, 0) ∧ (∀ x ∈ q, Res p x) ∧ q.length ≤ 1000 ∧ ∀ j, q.getD j 0 = (wqL p (vanZ p N U bad) da db a b).getD j 0 := by
  have hp := h.ok.hp
  haveI := nz hp
  have ht := h.t
  have hzl := vanZ_length h.ok
  have hzr : ∀ x ∈ vanZ p N U bad, Res p x := van_res hp h.ok.van
  have hlast : (vanZ p N U bad).getD ((vanZ p N U bad).length - 1) 0 ≠ 0 := by
    have h1 := van_last hp h.ok.van
    have h2 := extB_length h.ok.coa
    rwa [show (vanZ p N U bad).length - 1 = (extB N U bad).length by omega]
  have hml := more_len p (byL p (vanZ p N U bad) da a) (byL p (vanZ p N U bad) db b) a b
  rw [byL_length, byL_length] at hml
  obtain ⟨q, r, hev, hq, hr, lq, lr, e⟩ := dm_ev hp (a := moreL p (byL p (vanZ p N U bad) da a) (byL p (vanZ p N U bad) db b) a b) (b := vanZ p N U bad) (moreL_res hp _ _ _ _) hzr (by omega) (by omega) (by omega) hlast
  refine ⟨q, r, hev, hq, by omega, fun j => ?_⟩
  have hu := quot_uniq h hq hr (wqL_res hp (vanZ p N U bad) da db a b) (by omega) (by omega) (by rw [wqL_length]; omega) (fun x => by
    rw [← e x, more_ev hp, ev_by hp x da (by omega), ev_by hp x db (by omega), ev_wq hp x da db (by omega) (by omega)]
    grind)
  rw [← trimL_getD q j, hu, trimL_getD]
end Go.Proofs.Ytejeelpnmdfibaa.E
end
section
/-
  Triple of package tapeshift: what it returns, in plain numbers.
-/
namespace Go.Proofs.Ytejeelpnmdfibaa.Hw
open Go.RowKit Go.Proofs.Ytejeelpnmdfibaa.Pr Go.Proofs.Ytejeelpnmdfibaa.Pl Go.Proofs.YtejeelpnmdfibaaW.PrintWords Go.Proofs.YtejeelpnmdfibaaW.PrintLast Go.Proofs.YtejeelpnmdfibaaW.PrintMore Go.Proofs.Ytejeelpnmdfibaa.E
set_option linter.unusedVariables false
set_option linter.unusedSimpArgs false

/-- The quotient of the shift, from the words of A and B. -/
def triW (p N T : Int) (bad : List Int) (da db : Int) (head : List Int) : List Int := wqL p (vanZ p N T bad) da db (head.take (T.toNat + 1)) ((head.drop (T.toNat + 1)).take (T.toNat + 1))
/-- The words of D m, shifted. -/
def triD (p N T : Int) (bad : List Int) (da db : Int) (head : List Int) (m : Nat) : List Int := byL p (vanZ p N T bad) ((triW p N T bad da db head).getD m 0) ((head.drop (2 * (T.toNat + 1) + (m - 1) * T.toNat)).take T.toNat)
/-- The other coefficients of D m, shifted; at m = 0: those of C. -/
def triE (p N T : Int) (bad : List Int) (da db : Int) (head rests : List Int) (m : Nat) : List Int := byL p (wL p T (vanZ p N T bad)) ((triW p N T bad da db head).getD m 0) ((rests.drop ((if m = 0 then T.toNat + 2 else m + 1) * (T.toNat * (T.toNat + 1) / 2))).take (T.toNat * (T.toNat + 1) / 2))
def triH (p N T : Int) (bad : List Int) (da db : Int) (head : List Int) : List Int := byL p (vanZ p N T bad) da (head.take (T.toNat + 1)) ++ byL p (vanZ p N T bad) db ((head.drop (T.toNat + 1)).take (T.toNat + 1)) ++ catF (triD p N T bad da db head) T.toNat
def triR (p N T : Int) (bad : List Int) (da db : Int) (head rests : List Int) : List Int := byL p (wL p T (vanZ p N T bad)) da (rests.take (T.toNat * (T.toNat + 1) / 2)) ++ byL p (wL p T (vanZ p N T bad)) db ((rests.drop (T.toNat * (T.toNat + 1) / 2)).take (T.toNat * (T.toNat + 1) / 2)) ++ catF (triE p N T bad da db head rests) T.toNat ++ triE p N T bad da db head rests 0
def tapeshift_Triple.f (p N T : Int) (bad : List Int) (da db : Int) (head rests : List Int) : Option (List Int × List Int) :=
  if mayB p N T bad = true then (if resB p da = true then (if resB p db = true then (if ressB p head = true then (if ressB p rests = true then (if head.length = 2 * (T.toNat + 1) + T.toNat * T.toNat then (if rests.length = (T.toNat + 3) * (T.toNat * (T.toNat + 1) / 2) then some (triH p N T bad da db head, triR p N T bad da db head rests) else none) else none) else none) else none) else none) else none) else none
theorem res_take {p : Int} {l : List Int} (h : ∀ x ∈ l, Res p x) (n : Nat) : ∀ x ∈ l.take n, Res p x := fun x hx => h x (List.mem_of_mem_take hx)
theorem res_drop {p : Int} {l : List Int} (h : ∀ x ∈ l, Res p x) (n : Nat) : ∀ x ∈ l.drop n, Res p x := fun x hx => h x (List.mem_of_mem_drop hx)
theorem rest_eq {p N T : Int} {bad : List Int} (h : OkM p N T bad) {d : Int} (hd : Res p d) {r : List Int} (hr : ∀ x ∈ r, Res p x) (lr : r.length = T.toNat * (T.toNat + 1) / 2) : tapeshift_mover_rest.f p T (vanZ p N T bad) d r = some (byL p (wL p T (vanZ p N T bad)) d r) := by
  have hp := h.ok.hp
  have hT := h.t
  have hzl := vanZ_length h.ok
  have hzr : ∀ x ∈ vanZ p N T bad, Res p x := van_res hp h.ok.van
  have hm := mov_by (p := p) (d := d) (z := vanZ p N T bad) hT lr
  have hml : (movI p d T.toNat (vanZ p N T bad) r T.toNat 1 0).length = r.length := by rw [hm, byL_length]
  have h3 : r.length ≤ 3 := by rw [lr]; rcases hT with rfl | rfl <;> decide
  unfold tapeshift_mover_rest.f
  rw [if_pos (supB_iff.2 hp), if_pos (by omega), if_pos (by omega), if_pos (resB_iff.2 hd), if_pos (ressB_iff.2 hzr), if_pos (by omega), if_pos (ressB_iff.2 hr), if_pos (by rw [hml]; exact Nat.le_refl _), if_pos (by omega), hm]
theorem mul_eq {p : Int} (hp : Supp p) {a b : List Int} (ha : ∀ x ∈ a, Res p x) (hb : ∀ x ∈ b, Res p x) (la : a.length ≤ 1000) (lb : b.length ≤ 1000) : poly_Mul.f p a b = some (trimL (mulsL p a b a.length)) := by
  unfold poly_Mul.f
  rw [if_pos (supB_iff.2 hp), if_pos (ressB_iff.2 ha), if_pos (ressB_iff.2 hb), if_pos (by omega), if_pos (by omega)]
theorem psub_ev {p : Int} (hp : Supp p) {a b : List Int} (ha : ∀ x ∈ a, Res p x) (hb : ∀ x ∈ b, Res p x) (la : a.length ≤ 1000) (lb : b.length ≤ 1000) : Ev (fun k => poly_Sub.f k p a b) (trimL (addP p a (trimL (b.map fun v => (p - 1) * v % p)))) := by
  have hb31 := hp.bd
  have hw : IntKind.u64.wrap (p - 1) = p - 1 := wrapU_id (by omega) (by omega)
  have hr : ∀ x ∈ trimL (b.map fun v => (p - 1) * v % p), Res p x := fun x hx => by
    obtain ⟨y, _, rfl⟩ := List.mem_map.1 (trimL_mem hx)
    exact Res.mod hp _
  have hl := trimL_length (b.map fun v => (p - 1) * v % p)
  rw [List.length_map] at hl
  unfold poly_Sub.f
  rw [hw]
  exact Ev.bind (scale_ev hp ⟨by omega, by omega⟩ b hb (by omega)) (ev_now_bind (padd_eq hp ha hr (by omega) (by omega)) (Ev.now _))
theorem of_ev {p N T : Int} {bad : List Int} (h : Ok12 p N T bad) : Ev (fun k => tapeshift_of.f k p N T bad) (p, T, vanZ p N T bad) := by
  unfold tapeshift_of.f
  exact Ev.bind (f := fun _ t => some (p, T, t)) (vanpol_ev h) (Ev.now _)
theorem tapeshift_Triple.calls (p N T : Int) (Ab : Option Addr) (cb : Nat) (bad : List Int) (da db : Int) (Ah : Option Addr) (ch : Nat) (head : List Int) (Ar : Option Addr) (cr : Nat) (rests r1 r2 : List Int) (w : World)
    (hrb : Kd.C (Kd.int .i64) w Ab bad.length bad) (hcb : bad.length ≤ cb) (hrh : Kd.C (Kd.int .u64) w Ah head.length head) (hch : head.length ≤ ch) (hrr : Kd.C (Kd.int .u64) w Ar rests.length rests) (hcr : rests.length ≤ cr)
    (h : tapeshift_Triple.f p N T bad da db head rests = some (r1, r2)) :
    Calls Try.prog 25 #[.agg #[.int .u64 p, .int .i64 N, .int .i64 T], .slice Ab bad.length cb, .int .u64 da, .int .u64 db, .slice Ah head.length ch, .slice Ar rests.length cr] w fun e w' => ∃ v0_ v1_ : Value, e = .returned (.tuple #[v0_, v1_]) ∧ Kd.R (Kd.int .u64) 22 w' w.heap.size (fun k_ => some k_ ≠ (v1_ : Value).ownBlock) v0_ r1 ∧ Kd.R (Kd.int .u64) 22 w' w.heap.size (fun k_ => some k_ ≠ (v0_ : Value).ownBlock) v1_ r2 ∧ Below w.heap.size w w' := by
  unfold tapeshift_Triple.f at h
  obtain ⟨h1, h⟩ := ifs h
  obtain ⟨h2, h⟩ := ifs h
  obtain ⟨h3, h⟩ := ifs h
  obtain ⟨h4, h⟩ := ifs h
  obtain ⟨h5, h⟩ := ifs h
  obtain ⟨h6, h⟩ := ifs h
  obtain ⟨h7, h⟩ := ifs h
  simp only [Option.some.injEq, Prod.mk.injEq] at h
  obtain ⟨rfl, rfl⟩ := h
  have hm := okM h1
  have hp := hm.ok.hp
  have hT := hm.t
  have rda := resB_iff.1 h2
  have rdb := resB_iff.1 h3
  have rh := ressB_iff.1 h4
  have rr := ressB_iff.1 h5
  have hzl := vanZ_length hm.ok
  have hzr : ∀ x ∈ vanZ p N T bad, Res p x := van_res hp hm.ok.van
  obtain ⟨t, ht⟩ : ∃ t : Nat, T = (t : Int) := ⟨T.toNat, by omega⟩
  subst ht
  have hT2 : t = 1 ∨ t = 2 := by omega
  simp only [Int.toNat_natCast] at h6 h7
  obtain ⟨O, hO⟩ : ∃ O, O = t * (t + 1) / 2 := ⟨_, rfl⟩
  rw [← hO] at h7
  have hO3 : (t = 1 ∧ O = 1) ∨ (t = 2 ∧ O = 3) := by
    rcases hT2 with e | e
    · rw [e] at hO; exact Or.inl ⟨e, hO⟩
    · rw [e] at hO; exact Or.inr ⟨e, hO⟩
  have hl6 : (t = 1 ∧ head.length = 5) ∨ (t = 2 ∧ head.length = 10) := by
    rcases hT2 with e | e
    · rw [e] at h6; exact Or.inl ⟨e, h6⟩
    · rw [e] at h6; exact Or.inr ⟨e, h6⟩
  have hl7 : (t = 1 ∧ rests.length = 4) ∨ (t = 2 ∧ rests.length = 15) := by
    rcases hO3 with ⟨e, e'⟩ | ⟨e, e'⟩
    · rw [e, e'] at h7; exact Or.inl ⟨e, h7⟩
    · rw [e, e'] at h7; exact Or.inr ⟨e, h7⟩
  have la : (head.take (t + 1)).length = t + 1 := by rw [List.length_take]; omega
  have lb : ((head.drop (t + 1)).take (t + 1)).length = t + 1 := by rw [List.length_take, List.length_drop]; omega
  have ra := res_take rh (t + 1)
  have rb := res_take (res_drop rh (t + 1)) (t + 1)
  have rW : ∀ x ∈ triW p N t bad da db head, Res p x := wqL_res hp _ _ _ _ _
  obtain ⟨kz, ez⟩ := (of_ev hm.ok).rounds
  obtain ⟨ka, ea⟩ := (by_ev hp t hzr ra (by omega) (by omega) rda).rounds
  obtain ⟨kb, eb⟩ := (by_ev hp t hzr rb (by omega) (by omega) rdb).rounds
  have hna := byL_res hp (vanZ p N t bad) da (head.take (t + 1))
  have hnb := byL_res hp (vanZ p N t bad) db ((head.drop (t + 1)).take (t + 1))
  have e1 := mul_eq hp hna hnb (by rw [byL_length]; omega) (by rw [byL_length]; omega)
  have e2 := mul_eq hp ra rb (by omega) (by omega)
  have l1 := trimL_length (mulsL p (byL p (vanZ p N t bad) da (head.take (t + 1))) (byL p (vanZ p N t bad) db ((head.drop (t + 1)).take (t + 1))) (byL p (vanZ p N t bad) da (head.take (t + 1))).length)
  have l1' := mulsL_length p (byL p (vanZ p N t bad) da (head.take (t + 1))) (byL p (vanZ p N t bad) db ((head.drop (t + 1)).take (t + 1))) (byL p (vanZ p N t bad) da (head.take (t + 1))).length
  have l2 := trimL_length (mulsL p (head.take (t + 1)) ((head.drop (t + 1)).take (t + 1)) (head.take (t + 1)).length)
  have l2' := mulsL_length p (head.take (t + 1)) ((head.drop (t + 1)).take (t + 1)) (head.take (t + 1)).length
  rw [byL_length, byL_length] at l1'
  rw [byL_length] at l1
  obtain ⟨ks, es⟩ := (psub_ev hp (a := trimL (mulsL p (byL p (vanZ p N t bad) da (head.take (t + 1))) (byL p (vanZ p N t bad) db ((head.drop (t + 1)).take (t + 1))) (byL p (vanZ p N t bad) da (head.take (t + 1))).length)) (b := trimL (mulsL p (head.take (t + 1)) ((head.drop (t + 1)).take (t + 1)) (head.take (t + 1)).length)) (fun x hx => mulsL_res hp _ _ _ x (trimL_mem hx)) (fun x hx => mulsL_res hp _ _ _ x (trimL_mem hx)) (by rw [byL_length]; omega) (by omega)).rounds
  obtain ⟨q, r, ed, rq, lq, hq⟩ := tri_div hm (da := da) (db := db) ra rb (by rw [la]; omega) (by rw [lb]; omega)
  obtain ⟨kd, ed⟩ := ed.rounds
  have hcf : ∀ j, q.getD j 0 = (triW p N t bad da db head).getD j 0 := fun j => by
    rw [hq j]; unfold triW; rw [Int.toNat_natCast]
  have hby : ∀ j, ∃ k, j < t → tapeshift_mover_by.f k p (t : Int) (vanZ p N t bad) ((triW p N t bad da db head).getD (j + 1) 0) ((head.drop (2 * (t + 1) + j * t)).take t) = some (triD p N t bad da db head (j + 1)) := fun j => by
    by_cases hj : j < t
    · obtain ⟨k, ek⟩ := (by_ev hp t hzr (res_take (res_drop rh (2 * (t + 1) + j * t)) t) (by have := List.length_take_le t (head.drop (2 * (t + 1) + j * t)); omega) (by have := List.length_take_le t (head.drop (2 * (t + 1) + j * t)); omega) (res_getD hp rW (j + 1))).rounds
      refine ⟨k, fun _ => ek.trans ?_⟩
      unfold triD
      rw [Int.toNat_natCast, Nat.add_sub_cancel]
    · exact ⟨0, fun h => absurd h hj⟩
  have hRl : ∀ m, m + O ≤ rests.length → ((rests.drop m).take O).length = (t : Int).toNat * ((t : Int).toNat + 1) / 2 := fun m hm => by
    rw [List.length_take, List.length_drop, Int.toNat_natCast, ← hO]; omega
  have hmt : ∀ j, j < t → (j + 2) * O + O ≤ (t + 3) * O := fun j hj => by
    have := Nat.mul_le_mul_right O (show j + 2 + 1 ≤ t + 3 by omega)
    rwa [Nat.succ_mul] at this
  have hmt2 : (t + 2) * O + O ≤ (t + 3) * O := by
    exact Nat.le_of_eq (Nat.succ_mul (t + 2) O).symm
  have hw := triple_walk p N t hT2 Ab cb bad da db Ah ch head Ar cr rests (vanZ p N t bad) (byL p (vanZ p N t bad) da (head.take (t + 1))) (byL p (vanZ p N t bad) db ((head.drop (t + 1)).take (t + 1))) _ _ _ q r 0 kz ka kb ks kd (fun j => (hby j).choose) (fun j => q.getD j 0) (triD p N t bad da db head) (triE p N t bad da db head rests)
    (byL p (wL p t (vanZ p N t bad)) da (rests.take O)) (byL p (wL p t (vanZ p N t bad)) db ((rests.drop O).take O)) w hrb hcb hrh hch hrr hcr h6 (by rw [← hO]; exact h7) ez ea eb e1 e2 es ed (fun j _ => coef_eq q j)
    (fun j hj => by rw [hcf]; exact (hby j).choose_spec hj)
    (by rw [← hO]; exact rest_eq hm rda (res_take rr O) (by have := hRl 0 (by omega); rwa [List.drop_zero] at this))
    (by rw [← hO]; exact rest_eq hm rdb (res_take (res_drop rr O) O) (hRl O (by omega)))
    (fun j hj => by
      rw [← hO, hcf]
      refine (rest_eq hm (res_getD hp rW (j + 1)) (res_take (res_drop rr ((j + 2) * O)) O) (hRl _ (by have := hmt j hj; omega))).trans ?_
      unfold triE
      rw [Int.toNat_natCast, ← hO, if_neg (by omega)])
    (by
      rw [← hO]
      show tapeshift_mover_rest.f p t (vanZ p N t bad) (q.getD 0 0) _ = _
      rw [hcf]
      refine (rest_eq hm (res_getD hp rW 0) (res_take (res_drop rr ((t + 2) * O)) O) (hRl _ (by omega))).trans ?_
      unfold triE
      rw [Int.toNat_natCast, ← hO, if_pos rfl])
    (by rw [byL_length, la]) (by rw [byL_length, lb]) lq
    (fun j _ => by unfold triD; rw [byL_length, Int.toNat_natCast]; have := List.length_take_le t (head.drop (2 * (t + 1) + (j - 1) * t)); omega)
    (fun j _ => by unfold triE; rw [byL_length, Int.toNat_natCast, ← hO]; have := List.length_take_le O (rests.drop ((if j = 0 then t + 2 else j + 1) * O)); omega)
    (by rw [byL_length]; have := List.length_take_le O rests; omega)
    (by rw [byL_length]; have := List.length_take_le O (rests.drop O); omega)
  refine hw.mono ?_
  rintro e w' ⟨v0, v1, rfl, a1, a2, a3⟩
  refine ⟨v0, v1, rfl, ?_, ?_, a3⟩
  · unfold triH
    rw [Int.toNat_natCast]
    exact a1
  · unfold triR
    rw [Int.toNat_natCast, ← hO]
    exact a2
end Go.Proofs.Ytejeelpnmdfibaa.Hw
end
