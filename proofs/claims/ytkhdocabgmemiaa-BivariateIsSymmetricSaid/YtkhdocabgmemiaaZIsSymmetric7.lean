/- The row of the law BivariateIsSymmetric, out of its plain law and the walk. -/
import Derived.Test.YtkhdocabgmemiaaZIsSymmetric2
import Derived.Test.YtkhdocabgmemiaaZIsSymmetric6
import Derived.Test.YtkhdocabgmemiaaZIsSymmetric3
import Derived.Test.YtkhdocabgmemiaaZIsSymmetric4
import Derived.Test.YtkhdocabgmemiaaZIsSymmetric5
import Derived.Test.YtkhdocabgmemiaaProg
import Derived.ChangeArms
import Derived.DataReads
import Derived.DataElems
import Derived.ShutString
import Derived.ChangeSame
import Derived.Test.YtkhdocabgmemiaaZIsSymmetric0
import Derived.Test.YtkhdocabgmemiaaRows
import Derived.WalkKit
import Derived.ProofKit
import Derived.OpenShut
import Derived.ChangeOld
import Derived.Below
import Derived.SizedLaws
section
/- Printed by a program of this seat (the kit's printer, with the functions that were proved by hand given to it). What stands here: the functions that the statements reach, as plain functions, and that the Go code computes them. -/
namespace Go.Proofs.Ytkhdocabgmemiaa.Pr
open Go.RowKit Go.Proofs.YtkhdocabgmemiaaW.PrintWords Go.Proofs.YtkhdocabgmemiaaW.PrintLast Go.Proofs.YtkhdocabgmemiaaW.PrintMore
attribute [local go_sem] max2_int min2_int max_two min_two max_three min_three max_four min_four   -- for this text's walks alone
set_option linter.unusedVariables false
set_option linter.unusedSimpArgs false

open Go.Proofs.Ytkhdocabgmemiaa.Hw
/-! ### privityref01_Sub: function 46 -/
/-! ### privityref01_Pow: function 68 -/
/-! ### privityref01_Inverse: function 54 -/
end Go.Proofs.Ytkhdocabgmemiaa.Pr
end
section
/-
  The reference of layer 1: what its printed functions answer.
-/
namespace Go.Proofs.Ytkhdocabgmemiaa.E
open Go.RowKit Go.Proofs.Ytkhdocabgmemiaa.Pr Go.Proofs.Ytkhdocabgmemiaa.Hw Go.Proofs.YtkhdocabgmemiaaW.PrintWords Go.Proofs.YtkhdocabgmemiaaW.PrintLast Go.Proofs.YtkhdocabgmemiaaW.PrintMore
set_option linter.unusedVariables false
set_option linter.unusedSimpArgs false

theorem wcap {n : Int} (h : 0 ≤ n) (h2 : n < 9223372036854775808) : wrap64 n = n := by unfold wrap64; omega
theorem wnat {n : Nat} (h : n < 1099511627776) : wrap64 ((n : Int) + 1) = ((n + 1 : Nat) : Int) := by rw [wcap (by omega) (by omega)]; omega
/-- From the end back to the start. -/
theorem up {Q : Nat → Prop} {n : Nat} (hn : Q n) (hs : ∀ i, i < n → Q (i + 1) → Q i) : Q 0 := by
  have : ∀ d, d ≤ n → Q (n - d) := by
    intro d
    induction d with
    | zero => intro _; exact hn
    | succ d ih =>
      intro h
      have h1 := ih (by omega)
      refine hs (n - (d + 1)) (by omega) ?_
      rwa [show n - (d + 1) + 1 = n - d from by omega]
  have := this n (Nat.le_refl _)
  rwa [Nat.sub_self] at this
end Go.Proofs.Ytkhdocabgmemiaa.E
end
section
/-
  Guards, sums, and the hand-proved functions' answers, for the statements.
-/
namespace Go.Proofs.Ytkhdocabgmemiaa.E
open Go.RowKit Go.Proofs.Ytkhdocabgmemiaa.Pr Go.Proofs.Ytkhdocabgmemiaa.Hw Go.Proofs.Ytkhdocabgmemiaa.Pl Go.Proofs.YtkhdocabgmemiaaW.PrintWords Go.Proofs.YtkhdocabgmemiaaW.PrintLast Go.Proofs.YtkhdocabgmemiaaW.PrintMore
set_option linter.unusedVariables false
set_option linter.unusedSimpArgs false

/-- A check, and both ways on. -/
theorem ev_if {α : Type} {A : Nat → Option Bool} {b : Bool} (hA : Ev A b) {X Y : Nat → Option α} {r : α} (hx : b = true → Ev X r) (hy : b = false → Ev Y r) : Ev (fun k => (A k).bind fun t => if t = true then X k else Y k) r := by
  refine Ev.bind (f := fun k t => if t = true then X k else Y k) hA ?_
  cases b with
  | true => exact (hx rfl).congr fun k => if_pos rfl
  | false => exact (hy rfl).congr fun k => if_neg (by simp)
theorem ev_ite {α : Type} {c : Prop} [Decidable c] {X Y : Nat → Option α} {r : α} (hx : c → Ev X r) (hy : ¬ c → Ev Y r) : Ev (fun k => if c then X k else Y k) r := by
  by_cases h : c
  · exact (hx h).congr fun k => if_pos h
  · exact (hy h).congr fun k => if_neg h
end Go.Proofs.Ytkhdocabgmemiaa.E
end
section
/- Printed by a program of this seat (the kit's printer, with the functions that were proved by hand given to it). What stands here: the functions that the statements reach, as plain functions, and that the Go code computes them. -/
namespace Go.Proofs.Ytkhdocabgmemiaa.Pr
open Go.RowKit Go.Proofs.YtkhdocabgmemiaaW.PrintWords Go.Proofs.YtkhdocabgmemiaaW.PrintLast Go.Proofs.YtkhdocabgmemiaaW.PrintMore
attribute [local go_sem] max2_int min2_int max_two min_two max_three min_three max_four min_four   -- for this text's walks alone
set_option linter.unusedVariables false
set_option linter.unusedSimpArgs false

open Go.Proofs.Ytkhdocabgmemiaa.Hw
/-! ### privityref10_Fair: function 31 -/
/-! ### privityref10_Unlike: function 34 -/
end Go.Proofs.Ytkhdocabgmemiaa.Pr
end
section
/-
  Chapter 10: what the printed functions on matrices answer.
-/
namespace Go.Proofs.Ytkhdocabgmemiaa.E
open Go.RowKit Go.Proofs.Ytkhdocabgmemiaa.Pr Go.Proofs.Ytkhdocabgmemiaa.Hw Go.Proofs.Ytkhdocabgmemiaa.Pl Go.Proofs.YtkhdocabgmemiaaW.PrintWords Go.Proofs.YtkhdocabgmemiaaW.PrintLast Go.Proofs.YtkhdocabgmemiaaW.PrintMore
set_option linter.unusedVariables false
set_option linter.unusedSimpArgs false

theorem rdM_nat (l : List (List Int)) (i : Nat) : rd_L1 l (i : Int) = l.getD i [] := by unfold rd_L1; rw [Int.toNat_natCast]
theorem rd_at2 (s : List (List Int)) (i j : Nat) : rd (rd_L1 s (i : Int)) (j : Int) = at2 s i j := by rw [rdM_nat]; exact rd_nat _ j
/-- A loop that answers false at the first i that Q does not hold of, and goes on with e behind it. -/
theorem allL {F : Nat → Int → Option Bool} {n : Nat} {Q : Nat → Prop} [DecidablePred Q] {e : Bool} (hend : Ev (fun k => F k (n : Int)) e) (hyes : ∀ i, i < n → Q i → ∀ r, Ev (fun k => F k ((i + 1 : Nat) : Int)) r → Ev (fun k => F k (i : Int)) r)
    (hno : ∀ i, i < n → ¬ Q i → Ev (fun k => F k (i : Int)) false) (r : Bool) (hr : r = true ↔ ((∀ i, i < n → Q i) ∧ e = true)) : Ev (fun k => F k ((0 : Nat) : Int)) r := by
  by_cases hall : ∀ i, i < n → Q i
  · have : r = e := by
      cases e with
      | true => exact hr.2 ⟨hall, rfl⟩
      | false => exact Bool.eq_false_iff.mpr fun h => by have := (hr.1 h).2; cases this
    rw [this]
    exact up (Q := fun i => Ev (fun k => F k (i : Int)) e) (n := n) hend fun i hi h => hyes i hi (hall i hi) e h
  · have hf : r = false := Bool.eq_false_iff.mpr fun h => hall (hr.1 h).1
    rw [hf]
    obtain ⟨i, hi, hq⟩ : ∃ i, i < n ∧ ¬ Q i := Classical.byContradiction fun h => hall fun i hi => Classical.byContradiction fun hq => h ⟨i, hi, hq⟩
    refine up (Q := fun i => Ev (fun k => F k (i : Int)) false) (n := i) (hno i hi hq) fun j hj h => ?_
    by_cases hqj : Q j
    · exact hyes j (by omega) hqj false h
    · exact hno j (by omega) hqj
def sqB (s : List (List Int)) : Bool := (s.all fun r => decide (r.length = s.length)) && decide (0 < s.length)
theorem sqB_iff {s : List (List Int)} : sqB s = true ↔ (Sq s.length s ∧ 0 < s.length) := by
  unfold sqB
  rw [Bool.and_eq_true, decide_eq_true_iff, List.all_eq_true]
  exact ⟨fun h => ⟨⟨rfl, fun r hr => of_decide_eq_true (h.1 r hr)⟩, h.2⟩, fun h => ⟨fun r hr => decide_eq_true (h.1.row r hr), h.2⟩⟩
theorem sq_iff {s : List (List Int)} : (∀ i, i < s.length → (s.getD i []).length = s.length) ↔ Sq s.length s := by
  refine ⟨fun h => ⟨rfl, fun r hr => ?_⟩, fun h i hi => h.getD i hi⟩
  obtain ⟨i, hi, rfl⟩ := List.getElem_of_mem hr
  have := h i hi
  rwa [List.getD_eq_getElem?_getD, List.getElem?_eq_getElem hi] at this
theorem square_ev (s : List (List Int)) (hl : s.length ≤ 1000000000) : Ev (fun k => privityref10_Square.f k s) (sqB s) := by
  have h := allL (F := fun k i => privityref10_Square.l0 k s i) (n := s.length) (Q := fun i => (s.getD i []).length = s.length) (e := decide (0 < s.length)) ?_ (fun i hi hq r h => ?_) (fun i hi hq => ?_) (sqB s) ?_
  · exact h.congr fun k => rfl
  · refine Ev.step (fun k => ?_) (Ev.now _)
    simp only [privityref10_Square.l0]
    rw [if_neg (by omega)]
    exact congrArg some (decide_eq_decide.2 (by omega))
  · refine Ev.step (fun k => ?_) h
    simp only [privityref10_Square.l0]
    rw [if_pos (by omega), if_pos (by omega), rdM_nat, if_pos (by omega), wnat (by omega)]
  · refine Ev.step (fun k => ?_) (Ev.now _)
    simp only [privityref10_Square.l0]
    rw [if_pos (by omega), if_pos (by omega), rdM_nat, if_neg (by omega)]
  · rw [sqB_iff, sq_iff, decide_eq_true_iff]
/-- Square, not empty, symmetric. -/
def SymP (s : List (List Int)) (i : Nat) : Prop := ∀ a, i ≤ a → a < s.length → ∀ b, b < a → at2 s a b = at2 s b a
def symPB (s : List (List Int)) (i : Nat) : Bool := (List.range s.length).all fun a => decide (a < i) || (List.range a).all fun b => decide (at2 s a b = at2 s b a)
theorem symPB_iff {s : List (List Int)} {i : Nat} : symPB s i = true ↔ SymP s i := by
  unfold symPB SymP
  simp only [List.all_eq_true, List.mem_range, Bool.or_eq_true, decide_eq_true_eq]
  exact ⟨fun h a h1 h2 b hb => (h a h2).elim (fun h3 => by omega) fun h3 => h3 b hb, fun h a h2 => (Nat.lt_or_ge a i).elim Or.inl fun h1 => Or.inr fun b hb => h a h1 h2 b hb⟩
def symB (s : List (List Int)) : Bool := sqB s && symPB s 0
theorem symB_iff {s : List (List Int)} : symB s = true ↔ (Sq s.length s ∧ 0 < s.length ∧ ∀ i, i < s.length → ∀ j, j < s.length → at2 s i j = at2 s j i) := by
  unfold symB
  rw [Bool.and_eq_true, symPB_iff, sqB_iff]
  constructor
  · rintro ⟨⟨h1, h2⟩, h3⟩
    refine ⟨h1, h2, fun i hi j hj => ?_⟩
    rcases Nat.lt_trichotomy i j with h | h | h
    · exact (h3 j (Nat.zero_le _) hj i h).symm
    · rw [h]
    · exact h3 i (Nat.zero_le _) hi j h
  · rintro ⟨h1, h2, h3⟩
    exact ⟨⟨h1, h2⟩, fun a _ ha b hb => h3 a ha b (by omega)⟩
theorem SymP.next {s : List (List Int)} {i : Nat} (hi : i < s.length) : SymP s i ↔ ((∀ j, j < i → at2 s i j = at2 s j i) ∧ SymP s (i + 1)) := by
  constructor
  · exact fun h => ⟨fun j hj => h i (Nat.le_refl _) hi j hj, fun a h1 h2 b hb => h a (by omega) h2 b hb⟩
  · rintro ⟨h1, h2⟩ a ha hl b hb
    by_cases e : a = i
    · subst e; exact h1 b hb
    · exact h2 a (by omega) hl b hb
theorem SymP.last (s : List (List Int)) : SymP s s.length := fun a h1 h2 => by omega
theorem rsym_ev (s : List (List Int)) (hl : s.length ≤ 1000000000) : Ev (fun k => privityref10_IsSymmetric.f k s) (symB s) := by
  unfold symB
  refine ev_if (square_ev s hl) (fun hs => ?_) (fun hs => by rw [hs]; exact Ev.now _)
  rw [hs, Bool.true_and]
  have hq := (sqB_iff.1 hs).1
  refine up (Q := fun i => Ev (fun k => privityref10_IsSymmetric.l0 k s (i : Int)) (symPB s i)) (n := s.length) ?_ (fun i hi h => ?_)
  · rw [symPB_iff.2 (SymP.last s)]
    refine Ev.step (fun k => ?_) (Ev.now _)
    simp only [privityref10_IsSymmetric.l0]
    rw [if_neg (by omega)]
  · have h2 := allL (F := fun k j => privityref10_IsSymmetric.l1 k s (i : Int) j) (n := i) (Q := fun j => at2 s i j = at2 s j i) (e := symPB s (i + 1)) ?_ (fun j hj hqj r h => ?_) (fun j hj hqj => ?_) (symPB s i) (by rw [symPB_iff, symPB_iff]; exact SymP.next hi)
    · refine Ev.step (fun k => ?_) h2
      simp only [privityref10_IsSymmetric.l0]
      rw [if_pos (by omega)]; rfl
    · refine Ev.step (fun k => ?_) h
      simp only [privityref10_IsSymmetric.l1]
      rw [if_neg (by omega), wnat (by omega)]
    · refine Ev.step (fun k => ?_) h
      simp only [privityref10_IsSymmetric.l1]
      have l1 := hq.getD i hi
      have l2 := hq.getD j (by omega)
      rw [if_pos (by omega), if_pos (by omega), if_pos (by omega), if_pos (by omega), if_pos (by rw [rdM_nat, l1]; omega), if_pos (by omega), if_pos (by rw [rdM_nat, l2]; omega), rd_at2, rd_at2, if_pos hqj, wnat (by omega)]
    · refine Ev.step (fun k => ?_) (Ev.now _)
      simp only [privityref10_IsSymmetric.l1]
      have l1 := hq.getD i hi
      have l2 := hq.getD j (by omega)
      rw [if_pos (by omega), if_pos (by omega), if_pos (by omega), if_pos (by omega), if_pos (by rw [rdM_nat, l1]; omega), if_pos (by omega), if_pos (by rw [rdM_nat, l2]; omega), rd_at2, rd_at2, if_neg hqj]
theorem bsym_ev (s : List (List Int)) (hl : s.length ≤ 1000000000) : Ev (fun k => bivariate_IsSymmetric.f k s) (symB s) := by
  by_cases hsq : Sq s.length s
  · have htri : Ev (fun k => bivariate_IsSymmetric.l1 k s s (s.length : Int) ((0 : Nat) : Int)) (symB s) := by
      by_cases hz : 0 < s.length
      · have hsb : sqB s = true := sqB_iff.2 ⟨hsq, hz⟩
        unfold symB
        rw [hsb, Bool.true_and]
        refine up (Q := fun i => Ev (fun k => bivariate_IsSymmetric.l1 k s s (s.length : Int) (i : Int)) (symPB s i)) (n := s.length) ?_ (fun i hi h => ?_)
        · rw [symPB_iff.2 (SymP.last s)]
          refine Ev.step (fun k => ?_) (Ev.now _)
          simp only [bivariate_IsSymmetric.l1]
          rw [if_neg (by omega), decide_eq_true (by omega)]
        · have l1 := hsq.getD i hi
          have h2 := allL (F := fun k j => bivariate_IsSymmetric.l2 k s (i : Int) (rd_L1 s (i : Int)) s (s.length : Int) (i : Int) (i : Int) j) (n := i) (Q := fun j => at2 s i j = at2 s j i) (e := symPB s (i + 1)) ?_ (fun j hj hqj r h => ?_) (fun j hj hqj => ?_) (symPB s i) (by rw [symPB_iff, symPB_iff]; exact SymP.next hi)
          · refine Ev.step (fun k => ?_) h2
            simp only [bivariate_IsSymmetric.l1]
            rw [if_pos (by omega), if_pos (by omega), if_pos (by omega)]; rfl
          · refine Ev.step (fun k => ?_) h
            simp only [bivariate_IsSymmetric.l2]
            rw [if_neg (by omega), wnat (by omega)]
          · refine Ev.step (fun k => ?_) h
            simp only [bivariate_IsSymmetric.l2]
            have l2 := hsq.getD j (by omega)
            rw [if_pos (by omega), if_pos (by omega), if_pos (by rw [rdM_nat, l1]; omega), if_pos (by omega), if_pos (by omega), if_pos (by rw [rdM_nat, l2]; omega), rd_at2, rd_at2, if_pos hqj, wnat (by omega)]
          · refine Ev.step (fun k => ?_) (Ev.now _)
            simp only [bivariate_IsSymmetric.l2]
            have l2 := hsq.getD j (by omega)
            rw [if_pos (by omega), if_pos (by omega), if_pos (by rw [rdM_nat, l1]; omega), if_pos (by omega), if_pos (by omega), if_pos (by rw [rdM_nat, l2]; omega), rd_at2, rd_at2, if_neg hqj]
      · have hsb : symB s = false := Bool.eq_false_iff.mpr fun h => hz (symB_iff.1 h).2.1
        rw [hsb]
        refine Ev.step (fun k => ?_) (Ev.now _)
        simp only [bivariate_IsSymmetric.l1]
        rw [if_neg (by omega), decide_eq_false (by omega)]
    have h := allL (F := fun k i => bivariate_IsSymmetric.l0 k s s (s.length : Int) i) (n := s.length) (Q := fun i => (s.getD i []).length = s.length) (e := symB s) ?_ (fun i hi hq r h => ?_) (fun i hi hq => ?_) (symB s) ?_
    · exact h.congr fun k => rfl
    · refine Ev.step (fun k => ?_) htri
      simp only [bivariate_IsSymmetric.l0]
      rw [if_neg (by omega)]; rfl
    · refine Ev.step (fun k => ?_) h
      simp only [bivariate_IsSymmetric.l0]
      rw [if_pos (by omega), if_pos (by omega), if_pos (by omega), rdM_nat, if_pos (by omega), wnat (by omega)]
    · exact absurd (sq_iff.2 hsq i hi) hq
    · exact ⟨fun h => ⟨sq_iff.2 hsq, h⟩, fun h => h.2⟩
  · have hsb : symB s = false := Bool.eq_false_iff.mpr fun h => hsq (symB_iff.1 h).1
    rw [hsb]
    obtain ⟨i, hi, hq⟩ : ∃ i, i < s.length ∧ ¬ (s.getD i []).length = s.length := Classical.byContradiction fun h => hsq (sq_iff.1 fun i hi => Classical.byContradiction fun hq => h ⟨i, hi, hq⟩)
    have hno : ∀ j, j < s.length → ¬ (s.getD j []).length = s.length → Ev (fun k => bivariate_IsSymmetric.l0 k s s (s.length : Int) (j : Int)) false := fun j hj hq => by
      refine Ev.step (fun k => ?_) (Ev.now _)
      simp only [bivariate_IsSymmetric.l0]
      rw [if_pos (by omega), if_pos (by omega), if_pos (by omega), rdM_nat, if_neg (by omega)]
    refine (up (Q := fun j => Ev (fun k => bivariate_IsSymmetric.l0 k s s (s.length : Int) (j : Int)) false) (n := i) (hno i hi hq) fun j hj h => ?_).congr fun k => rfl
    by_cases hqj : (s.getD j []).length = s.length
    · refine Ev.step (fun k => ?_) h
      simp only [bivariate_IsSymmetric.l0]
      rw [if_pos (by omega), if_pos (by omega), if_pos (by omega), rdM_nat, if_pos (by omega), wnat (by omega)]
    · exact hno j (by omega) hqj
end Go.Proofs.Ytkhdocabgmemiaa.E
end
section
/- Printed by a program of this seat (the kit's printer, with the functions that were proved by hand given to it). What stands here: the functions that the statements reach, as plain functions, and that the Go code computes them. -/
namespace Go.Proofs.Ytkhdocabgmemiaa.Pr
open Go.RowKit Go.Proofs.YtkhdocabgmemiaaW.PrintWords Go.Proofs.YtkhdocabgmemiaaW.PrintLast Go.Proofs.YtkhdocabgmemiaaW.PrintMore
attribute [local go_sem] max2_int min2_int max_two min_two max_three min_three max_four min_four   -- for this text's walks alone
set_option linter.unusedVariables false
set_option linter.unusedSimpArgs false

open Go.Proofs.Ytkhdocabgmemiaa.Hw
/-! ### privitylaw10_validTranslation: function 24 -/
end Go.Proofs.Ytkhdocabgmemiaa.Pr
end
section
/- Printed by a program of this seat (the kit's printer, with the functions that were proved by hand given to it). What stands here: the functions that the statements reach, as plain functions, and that the Go code computes them. -/
namespace Go.Proofs.Ytkhdocabgmemiaa.Pr
open Go.RowKit Go.Proofs.YtkhdocabgmemiaaW.PrintWords Go.Proofs.YtkhdocabgmemiaaW.PrintLast Go.Proofs.YtkhdocabgmemiaaW.PrintMore
attribute [local go_sem] max2_int min2_int max_two min_two max_three min_three max_four min_four   -- for this text's walks alone
set_option linter.unusedVariables false
set_option linter.unusedSimpArgs false

open Go.Proofs.Ytkhdocabgmemiaa.Hw
/-! ### privityref10_Vanish: function 25 -/
end Go.Proofs.Ytkhdocabgmemiaa.Pr
end
section
/- Printed by a program of this seat (the kit's printer, with the functions that were proved by hand given to it). What stands here: the functions that the statements reach, as plain functions, and that the Go code computes them. -/
namespace Go.Proofs.Ytkhdocabgmemiaa.Pr
open Go.RowKit Go.Proofs.YtkhdocabgmemiaaW.PrintWords Go.Proofs.YtkhdocabgmemiaaW.PrintLast Go.Proofs.YtkhdocabgmemiaaW.PrintMore
attribute [local go_sem] max2_int min2_int max_two min_two max_three min_three max_four min_four   -- for this text's walks alone
set_option linter.unusedVariables false
set_option linter.unusedSimpArgs false

open Go.Proofs.Ytkhdocabgmemiaa.Hw
/-! ### privityref10_Translate: function 27 -/
end Go.Proofs.Ytkhdocabgmemiaa.Pr
end
section
/-
  Chapter 10: rows, values, translations, vanishing polynomials.
-/
namespace Go.Proofs.Ytkhdocabgmemiaa.E
open Go.RowKit Go.Proofs.Ytkhdocabgmemiaa.Pr Go.Proofs.Ytkhdocabgmemiaa.Hw Go.Proofs.Ytkhdocabgmemiaa.Pl Go.Proofs.YtkhdocabgmemiaaW.PrintWords Go.Proofs.YtkhdocabgmemiaaW.PrintLast Go.Proofs.YtkhdocabgmemiaaW.PrintMore
set_option linter.unusedVariables false
set_option linter.unusedSimpArgs false

/-! A check that leads to facts. -/
structure Fs (p : Int) (s : List (List Int)) : Prop where
  hp : Supp p
  n0 : 0 < s.length
  n6 : s.length ≤ 6
  sq : Sq s.length s
  res : ResM p s
structure Vt (p : Int) (s : List (List Int)) (xs : List Int) (d x : Int) : Prop where
  fs : Fs p s
  sym : ∀ i, i < s.length → ∀ j, j < s.length → at2 s i j = at2 s j i
  xr : ∀ x ∈ xs, Res p x
  xl : xs.length + 1 = s.length
  nd : (0 :: xs).Nodup
  dr : Res p d
  rx : Res p x
end Go.Proofs.Ytkhdocabgmemiaa.E
end
section
/-
  What the statements of chapter 10 share: the first check.
-/
namespace Go.Proofs.Ytkhdocabgmemiaa.E
open Go.RowKit Go.Proofs.Ytkhdocabgmemiaa.Pr Go.Proofs.Ytkhdocabgmemiaa.Hw Go.Proofs.Ytkhdocabgmemiaa.Pl Go.Proofs.YtkhdocabgmemiaaW.PrintWords Go.Proofs.YtkhdocabgmemiaaW.PrintLast Go.Proofs.YtkhdocabgmemiaaW.PrintMore
set_option linter.unusedVariables false
set_option linter.unusedSimpArgs false

theorem awake10 : Ev (fun k => privitylaw10_awake.f k) true := Ev.of (fun k => privitylaw10_awake.mono _) (k := 60) privitylaw10_awake.is
theorem awake10' : Ev (fun k => (privitylaw10_awake.f k).bind fun t => some t) true := Ev.bind awake10 (Ev.now _)
end Go.Proofs.Ytkhdocabgmemiaa.E
end
section
/-
  IsSymmetric classifies every matrix as specified.
-/
namespace Go.Proofs.Ytkhdocabgmemiaa.Pure
open Go.RowKit Go.Proofs.Ytkhdocabgmemiaa.Pr Go.Proofs.Ytkhdocabgmemiaa.Hw Go.Proofs.Ytkhdocabgmemiaa.E Go.Proofs.YtkhdocabgmemiaaW.PrintWords Go.Proofs.YtkhdocabgmemiaaW.PrintLast Go.Proofs.YtkhdocabgmemiaaW.PrintMore
set_option linter.unusedVariables false
set_option linter.unusedSimpArgs false

theorem BivariateIsSymmetric (s : List (List Int)) (ws : ∀ x_ ∈ s, ∀ y_ ∈ x_, (Lit.int .u64 y_).wf = true) : ∃ k, privitylaw10_BivariateIsSymmetric.f k s = some true := by
  refine Ev.rounds (r := true) ?_
  refine ev_ite (fun _ => awake10') fun h1 => ?_
  refine (up (Q := fun i => Ev (fun k => privitylaw10_BivariateIsSymmetric.l0 k s (i : Int)) true) (n := s.length) ?_ (fun i hi h => ?_)).congr fun k => rfl
  · refine Ev.step (f := fun k => (privitylaw10_awake.f k).bind fun t346 => (if t346 = true then ((bivariate_IsSymmetric.f k s).bind fun t347 => ((privityref10_IsSymmetric.f k s).bind fun t348 => (some (t347 == t348)))) else (some false))) (fun k => ?_) (ev_if awake10 (fun _ => Ev.bind (bsym_ev s (by omega)) (Ev.bind (rsym_ev s (by omega)) ?_)) fun e => by cases e)
    · simp only [privitylaw10_BivariateIsSymmetric.l0]
      rw [if_neg (by omega)]
    · rw [beq_self_eq_true]; exact Ev.now _
  · by_cases h8 : ((rd_L1 s (i : Int)).length : Int) > 8
    · refine Ev.step (f := fun k => (privitylaw10_awake.f k).bind fun t => some t) (fun k => ?_) awake10'
      simp only [privitylaw10_BivariateIsSymmetric.l0]
      rw [if_pos (by omega), if_pos (by omega), if_pos h8]
    · refine Ev.step (fun k => ?_) h
      simp only [privitylaw10_BivariateIsSymmetric.l0]
      rw [if_pos (by omega), if_pos (by omega), if_neg h8, wnat (by omega)]
end Go.Proofs.Ytkhdocabgmemiaa.Pure
end
section
/-
  What came in, opened: numbers, bools, rows and structs of them, to any depth.
-/
namespace Go.Proofs.Ytkhdocabgmemiaa.Op
open Go.RowKit Go.Proofs.YtkhdocabgmemiaaW.PrintWords
set_option linter.unusedVariables false

/-- What is read of a type's value is a value of d, and Q holds of it. -/
def OpenK {α : Type} (P : Program) (t : TypeId) (d : Kd α) (Q : α → Prop) : Prop :=
  ∀ {H : Type} {enc : TypeId × Value → H} {w : World} {base : Nat} {sp : Nat → Bool} {hd : Bool} {fuel : Nat} {cs : List Value} {x : DataW H × List MemPlace}, DataW.trod enc P w base sp hd fuel t cs = some x → ∃ v : α, d.K w v cs ∧ Q v
theorem openInt {P : Program} {t : TypeId} {k : IntKind} (ht : P.underlying t = some (.int k)) : OpenK P t (Kd.int k) (fun n => (Lit.int k n).wf = true) := by
  intro H enc w base sp hd fuel cs x h
  obtain ⟨n, rfl, _, hw⟩ := DataW.trod_int ht h
  exact ⟨n, rfl, hw⟩
theorem exists_list {α : Type} {R : Nat → α → Prop} : ∀ (n : Nat), (∀ i, i < n → ∃ v, R i v) → ∃ l : List α, l.length = n ∧ ∀ i v, l[i]? = some v → R i v
  | 0, _ => ⟨[], rfl, fun i v h => by simp at h⟩
  | n + 1, h => by
    obtain ⟨l, hl, hr⟩ := exists_list n (fun i hi => h i (by omega))
    obtain ⟨v, hv⟩ := h n (by omega)
    refine ⟨l ++ [v], by simp [hl], fun i u hu => ?_⟩
    by_cases hi : i < n
    · rw [List.getElem?_append_left (by omega)] at hu
      exact hr i u hu
    · rw [List.getElem?_append_right (by omega)] at hu
      by_cases h0 : i - l.length = 0
      · rw [h0] at hu
        simp only [List.getElem?_cons_zero, Option.some.injEq] at hu
        rw [← hu, show i = n from by omega]; exact hv
      · rw [List.getElem?_eq_none (by simp; omega)] at hu; cases hu
theorem openSlice {α : Type} {P : Program} {t e : TypeId} {d : Kd α} {Q : α → Prop} (ht : P.underlying t = some (.slice e)) (hc : P.cellsOf e = d.sz) (he : OpenK P e d Q) : OpenK P t (Kd.slice e d) (fun l => ∀ x ∈ l, Q x) := by
  intro H enc w base sp hd fuel cs x h
  rcases DataW.trod_slice ht h with ⟨rfl, _⟩ | ⟨a, len, cap, elems, rest, n, _, rfl, _, _, hlc, hm, hlen, hel, _, _⟩
  · exact ⟨[], ⟨none, 0, rfl, Nat.le_refl _, rfl, Nat.zero_le _, fun h => absurd h (Nat.lt_irrefl 0)⟩, fun x hx => by cases hx⟩
  · have each : ∀ i, i < len → ∃ v, (∃ c, c.length = d.sz ∧ d.K w v c ∧ ∀ j u, c[j]? = some u → w.cell? (a.add (i * d.sz + j)) = some u) ∧ Q v := by
      intro i hi
      have h1 := hel i hi
      rw [List.getElem?_eq_getElem (by omega), hc] at h1
      obtain ⟨c, hcs, htr⟩ := Option.bind_eq_some_iff.1 h1
      obtain ⟨v, hk, hq⟩ := he htr
      refine ⟨v, ⟨c, d.K_len hk, hk, fun j u hu => ?_⟩, hq⟩
      have h2 := World.cells?_some hcs
      have hj := (List.getElem?_eq_some_iff.1 hu).1
      have h3 := h2.2.2 j (by rw [← d.K_len hk]; exact hj)
      rw [hu] at h3
      rw [← h3, ← Addr.add_add]
    obtain ⟨l, hl, hr⟩ := exists_list len each
    refine ⟨l, ⟨some a, cap, by rw [hl], by omega, rfl, by rw [hl]; simp only [maxLen] at hm; omega, fun _ => ⟨a, rfl, fun j p hj => (hr j p hj).1⟩⟩, fun x hx => ?_⟩
    obtain ⟨i, hi, rfl⟩ := List.getElem_of_mem hx
    exact (hr i _ (List.getElem?_eq_getElem hi)).2
end Go.Proofs.Ytkhdocabgmemiaa.Op
end
section
/- The row of the law BivariateIsSymmetric, out of its plain law and the walk. -/
namespace Go.Proofs.Ytkhdocabgmemiaa.bivariateIsSymmetric
open Go.ChangeShapes Go.WideShapes Go.ChangeAt Go.RowKit Go.Proofs.Ytkhdocabgmemiaa.Pr Go.Proofs.YtkhdocabgmemiaaW.PrintWords
set_option linter.unusedVariables false
theorem own : ownKnob Try.prog.godebug = none := by kernel_rfl
theorem laidOut : laidOutB Try.prog = true := by kernel_rfl
set_option maxHeartbeats 4000000 in
set_option maxRecDepth 100000 in
theorem lifted (os : Os) (started : os.Started) (H : Type) (enc : TypeId × Value → H) :
    ReturnsInHanded {} Try.checked os 4 .any (Rows.bivariateIsSymmetricSpec.pre6 enc Try.prog Try.f4 Rows.bivariateIsSymmetricRow.domain false) (Rows.bivariateIsSymmetricSpec.post enc Try.prog Try.f4 false true false false) := by
  refine returnsInHanded_of_change_sized (C := Try.checked) own started (by kernel_rfl) Try.func4
    (ChangeSpec.witness6 (enc := enc) (C := Try.checked) false ⟨#[], #[.slice none 0 0], []⟩ 8 (by kernel_rfl) (by kernel_rfl) (by kernel_rfl) (by kernel_rfl)) ?_
  intro W base args ds gs before hval0 hW hcnd hsz0 _
  have hval : ∀ (j : Nat) t v, Try.f4.params[j]? = some t → args[j]? = some v → Value.okWide Try.prog W .any base t v := hval0
  have hW' := hW
  obtain ⟨p, q, hA0, hV, rfl, hfz, hnd⟩ := hW
  have hA : DataW.TrodAll enc Try.prog W 0 (fun _ => true) true Try.f4.params.toList args.toList ds p := hA0
  rw [Try.params4] at hA hval
  obtain ⟨v0, vs0, d0, ds0, p0, q0, hargs, rfl, rfl, h0, r0⟩ := trodAll_cons hA
  obtain ⟨rfl, rfl, rfl⟩ := trodAll_nil r0
  obtain rfl : args = #[v0] := by cases args; simp_all
  obtain ⟨rfl, rfl⟩ := trodVars_none hV
  have k0 := h0
  have lt0 : ∀ x ∈ p0, x.block < W.heap.size := by obtain ⟨m, hm⟩ := k0; exact DataW.trod_lt m _ _ _ hm
  obtain ⟨a0, len0, cap0, rfl⟩ := okWide_slice Try.underlying24 (hval 0 24 v0 rfl rfl)
  obtain ⟨fu0, hf0⟩ := h0
  obtain ⟨z0, ⟨A0, c0, e0, hc0, g0⟩, w0⟩ := (Op.openSlice (d := (Kd.slice 31 (Kd.int .u64))) Try.underlying24 (by kernel_rfl) (Op.openSlice (d := (Kd.int .u64)) Try.underlying22 (by kernel_rfl) (Op.openInt (k := .u64) Try.underlying31))) hf0
  cases e0
  clear hA0 hval0 hsz0
  obtain ⟨kk, hk⟩ := Pure.BivariateIsSymmetric z0 w0
  refine (privitylaw10_BivariateIsSymmetric.calls kk _ _ z0 true W g0 hc0 hk).mono fun e W' ⟨he, bel⟩ => ?_
  subst he
  exact ⟨_, rfl, _, _, _, [], _, [], hW', trodAll_mk1 (shut_bool Try.underlying4 _), (trodAll_cons_mk (Below.trod laidOut (by kernel_rfl) (of_decide_eq_true (by kernel_rfl)) k0 bel lt0) trodAll_mk0), rfl, bel.frame _, fun h => by cases h⟩
theorem over : Rows.bivariateIsSymmetricRow.holds Try.pinned (OpenSpec.ofChange Rows.bivariateIsSymmetricSpec) :=
  OpenClaim.holds_of_wide 4 Try.f4 rfl rfl rfl rfl rfl rfl rfl ⟨rfl, rfl, rfl, rfl, rfl⟩ rfl rfl rfl rfl rfl (by kernel_rfl) Try.func4 (by kernel_rfl)
    (of_decide_eq_true (by kernel_rfl)) (by unfold Func.isWrapper; first | (rw [if_pos (by decide +kernel)]; kernel_rfl) | (rw [if_neg (by decide +kernel)]; exact ⟨rfl, rfl⟩))
    (fun os started H enc _ => lifted os started H enc)
theorem proved : Rows.BivariateIsSymmetricSaid := over
#print axioms proved
end Go.Proofs.Ytkhdocabgmemiaa.bivariateIsSymmetric
namespace Go.Proofs.Ytkhdocabgmemiaa
/-- The row, under a short name, for the claim. -/
theorem bivariateIsSymmetric_holds : Rows.BivariateIsSymmetricSaid := bivariateIsSymmetric.proved
end Go.Proofs.Ytkhdocabgmemiaa
end
