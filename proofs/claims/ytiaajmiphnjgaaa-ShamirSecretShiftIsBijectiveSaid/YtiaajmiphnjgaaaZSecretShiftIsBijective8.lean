/- The row of the law ShamirSecretShiftIsBijective, out of its plain law and the walk. -/
import Derived.Test.YtiaajmiphnjgaaaZSecretShiftIsBijective2
import Derived.Test.YtiaajmiphnjgaaaZSecretShiftIsBijective6
import Derived.Test.YtiaajmiphnjgaaaZSecretShiftIsBijective3
import Derived.Test.YtiaajmiphnjgaaaZSecretShiftIsBijective4
import Derived.Test.YtiaajmiphnjgaaaZSecretShiftIsBijective5
import Derived.Test.YtiaajmiphnjgaaaZSecretShiftIsBijective7
import Derived.Test.YtiaajmiphnjgaaaProg
import Derived.ChangeArms
import Derived.DataReads
import Derived.DataElems
import Derived.ShutString
import Derived.ChangeSame
import Derived.Test.YtiaajmiphnjgaaaZSecretShiftIsBijective0
import Derived.Test.YtiaajmiphnjgaaaRows
import Derived.WalkKit
import Derived.ProofKit
import Derived.OpenShut
import Derived.ChangeOld
import Derived.Below
import Derived.SizedLaws
section
/- Printed by a program of this seat (the kit's printer, with the functions that were proved by hand given to it). What stands here: the functions that the statements reach, as plain functions, and that the Go code computes them. -/
namespace Go.Proofs.Ytiaajmiphnjgaaa.Pr
open Go.RowKit Go.Proofs.YtiaajmiphnjgaaaW.PrintWords Go.Proofs.YtiaajmiphnjgaaaW.PrintLast Go.Proofs.YtiaajmiphnjgaaaW.PrintMore
attribute [local go_sem] max2_int min2_int max_two min_two max_three min_three max_four min_four   -- for this text's walks alone
set_option linter.unusedVariables false
set_option linter.unusedSimpArgs false

open Go.Proofs.Ytiaajmiphnjgaaa.Hw
/-! ### privityref05_Points: function 20 -/
/-! ### privityref05_Places: function 66 -/
/-! ### privityref09_Places: function 50 -/
/-! ### privityref04_Coefficient: function 80 -/
end Go.Proofs.Ytiaajmiphnjgaaa.Pr
end
section
/- Printed by a program of this seat (the kit's printer, with the functions that were proved by hand given to it). What stands here: the functions that the statements reach, as plain functions, and that the Go code computes them. -/
namespace Go.Proofs.Ytiaajmiphnjgaaa.Pr
open Go.RowKit Go.Proofs.YtiaajmiphnjgaaaW.PrintWords Go.Proofs.YtiaajmiphnjgaaaW.PrintLast Go.Proofs.YtiaajmiphnjgaaaW.PrintMore
attribute [local go_sem] max2_int min2_int max_two min_two max_three min_three max_four min_four   -- for this text's walks alone
set_option linter.unusedVariables false
set_option linter.unusedSimpArgs false

open Go.Proofs.Ytiaajmiphnjgaaa.Hw
/-! ### privityref04_Trim: function 81 -/
/-! ### privityref04_Add: function 67 -/
end Go.Proofs.Ytiaajmiphnjgaaa.Pr
end
section
/- Printed by a program of this seat (the kit's printer, with the functions that were proved by hand given to it). What stands here: the functions that the statements reach, as plain functions, and that the Go code computes them. -/
namespace Go.Proofs.Ytiaajmiphnjgaaa.Pr
open Go.RowKit Go.Proofs.YtiaajmiphnjgaaaW.PrintWords Go.Proofs.YtiaajmiphnjgaaaW.PrintLast Go.Proofs.YtiaajmiphnjgaaaW.PrintMore
attribute [local go_sem] max2_int min2_int max_two min_two max_three min_three max_four min_four   -- for this text's walks alone
set_option linter.unusedVariables false
set_option linter.unusedSimpArgs false

open Go.Proofs.Ytiaajmiphnjgaaa.Hw
/-! ### privityref04_Scale: function 68 -/
/-! ### privityref01_Pow: function 90 -/
/-! ### privityref01_Inverse: function 82 -/
/-! ### privityref01_Sub: function 83 -/
end Go.Proofs.Ytiaajmiphnjgaaa.Pr
end
section
/- Printed by a program of this seat (the kit's printer, with the functions that were proved by hand given to it). What stands here: the functions that the statements reach, as plain functions, and that the Go code computes them. -/
namespace Go.Proofs.Ytiaajmiphnjgaaa.Pr
open Go.RowKit Go.Proofs.YtiaajmiphnjgaaaW.PrintWords Go.Proofs.YtiaajmiphnjgaaaW.PrintLast Go.Proofs.YtiaajmiphnjgaaaW.PrintMore
attribute [local go_sem] max2_int min2_int max_two min_two max_three min_three max_four min_four   -- for this text's walks alone
set_option linter.unusedVariables false
set_option linter.unusedSimpArgs false

open Go.Proofs.Ytiaajmiphnjgaaa.Hw
/-! ### privityref04_Mul: function 84 -/
end Go.Proofs.Ytiaajmiphnjgaaa.Pr
end
section
/- Printed by a program of this seat (the kit's printer, with the functions that were proved by hand given to it). What stands here: the functions that the statements reach, as plain functions, and that the Go code computes them. -/
namespace Go.Proofs.Ytiaajmiphnjgaaa.Pr
open Go.RowKit Go.Proofs.YtiaajmiphnjgaaaW.PrintWords Go.Proofs.YtiaajmiphnjgaaaW.PrintLast Go.Proofs.YtiaajmiphnjgaaaW.PrintMore
attribute [local go_sem] max2_int min2_int max_two min_two max_three min_three max_four min_four   -- for this text's walks alone
set_option linter.unusedVariables false
set_option linter.unusedSimpArgs false

open Go.Proofs.Ytiaajmiphnjgaaa.Hw
/-! ### privityref01_Neg: function 85 -/
/-! ### privityref05_base: function 69 -/
end Go.Proofs.Ytiaajmiphnjgaaa.Pr
end
section
/-
  The reference of layer 1: what its printed functions answer.
-/
namespace Go.Proofs.Ytiaajmiphnjgaaa.E
open Go.RowKit Go.Proofs.Ytiaajmiphnjgaaa.Pr Go.Proofs.Ytiaajmiphnjgaaa.Hw Go.Proofs.YtiaajmiphnjgaaaW.PrintWords Go.Proofs.YtiaajmiphnjgaaaW.PrintLast Go.Proofs.YtiaajmiphnjgaaaW.PrintMore
set_option linter.unusedVariables false
set_option linter.unusedSimpArgs false

theorem wcap {n : Int} (h : 0 ≤ n) (h2 : n < 9223372036854775808) : wrap64 n = n := by unfold wrap64; omega
theorem wnat {n : Nat} (h : n < 1099511627776) : wrap64 ((n : Int) + 1) = ((n + 1 : Nat) : Int) := by rw [wcap (by omega) (by omega)]; omega
/-- From the end back to the start. -/
theorem up {Q : Nat → Prop} {n : Nat} (hn : Q n) (hs : ∀ i, i < n → Q (i + 1) → Q i) : Q 0 := by
  have : ∀ d, d ≤ n → Q (n - d) := by
    intro d
    induction d with
    | zero => intro _; exact hn
    | succ d ih =>
      intro h
      have h1 := ih (by omega)
      refine hs (n - (d + 1)) (by omega) ?_
      rwa [show n - (d + 1) + 1 = n - d from by omega]
  have := this n (Nat.le_refl _)
  rwa [Nat.sub_self] at this
theorem exponent_eq (p : Int) : privityref01_Exponent.f 10 p = if p = 31 then some 5 else if p = 127 then some 7 else if p = 8191 then some 13 else if p = 131071 then some 17 else if p = 524287 then some 19 else if p = 2147483647 then some 31 else if p = 2305843009213693951 then some 61 else some 0 := by kernel_rfl
theorem supported_ev (p : Int) : Ev (fun k => privityref01_Supported.f k p) (supB p) := by
  refine Ev.of (fun k => privityref01_Supported.mono _ _) (k := 10) ?_
  show (privityref01_Exponent.f 10 p).bind _ = _
  rw [exponent_eq]
  unfold supB
  by_cases h1 : p = 31
  · subst h1; rfl
  by_cases h2 : p = 127
  · subst h2; rfl
  by_cases h3 : p = 8191
  · subst h3; rfl
  by_cases h4 : p = 131071
  · subst h4; rfl
  by_cases h5 : p = 524287
  · subst h5; rfl
  by_cases h6 : p = 2147483647
  · subst h6; rfl
  by_cases h7 : p = 2305843009213693951
  · subst h7; rfl
  rw [if_neg h1, if_neg h2, if_neg h3, if_neg h4, if_neg h5, if_neg h6, if_neg h7]
  simp [h1, h2, h3, h4, h5, h6, h7]
end Go.Proofs.Ytiaajmiphnjgaaa.E
end
section
/- Printed by a program of this seat (the kit's printer, with the functions that were proved by hand given to it). What stands here: the functions that the statements reach, as plain functions, and that the Go code computes them. -/
namespace Go.Proofs.Ytiaajmiphnjgaaa.Pr
open Go.RowKit Go.Proofs.YtiaajmiphnjgaaaW.PrintWords Go.Proofs.YtiaajmiphnjgaaaW.PrintLast Go.Proofs.YtiaajmiphnjgaaaW.PrintMore
attribute [local go_sem] max2_int min2_int max_two min_two max_three min_three max_four min_four   -- for this text's walks alone
set_option linter.unusedVariables false
set_option linter.unusedSimpArgs false

open Go.Proofs.Ytiaajmiphnjgaaa.Hw
/-! ### privityref04_Eval: function 45 -/
/-! ### privityref09_Shares: function 16 -/
end Go.Proofs.Ytiaajmiphnjgaaa.Pr
end
section
/-
  The reference of layer 4: what its printed functions answer.
-/
namespace Go.Proofs.Ytiaajmiphnjgaaa.E
open Go.RowKit Go.Proofs.Ytiaajmiphnjgaaa.Pr Go.Proofs.Ytiaajmiphnjgaaa.Hw Go.Proofs.Ytiaajmiphnjgaaa.Pl Go.Proofs.YtiaajmiphnjgaaaW.PrintWords Go.Proofs.YtiaajmiphnjgaaaW.PrintLast Go.Proofs.YtiaajmiphnjgaaaW.PrintMore
set_option linter.unusedVariables false
set_option linter.unusedSimpArgs false

theorem getD_out (l : List Int) (j : Nat) (h : l.length ≤ j) : l.getD j 0 = 0 := by rw [List.getD_eq_getElem?_getD, List.getElem?_eq_none h]; rfl
theorem res_getD {p : Int} (hp : Supp p) {l : List Int} (hl : ∀ x ∈ l, Res p x) (i : Nat) : Res p (l.getD i 0) := by
  have hb := hp.bd
  by_cases hi : i < l.length
  · rw [Hw.getD_in _ _ hi]; exact hl _ (List.getElem_mem hi)
  · rw [getD_out l i (by omega)]; exact ⟨Int.le_refl 0, by show (0 : Int) < p; omega⟩
/-! ### Coefficients of what the program adds up -/
theorem grow_getD (l : List Int) (n j : Nat) : (grow l n).getD j 0 = l.getD j 0 := by
  unfold grow
  by_cases h : j < l.length
  · rw [List.getD_eq_getElem?_getD, List.getD_eq_getElem?_getD, List.getElem?_append_left h]
  · rw [getD_out l j (by omega), List.getD_eq_getElem?_getD, List.getElem?_append_right (by omega)]
    by_cases h2 : j - l.length < n - l.length
    · rw [List.getElem?_replicate, if_pos h2]; rfl
    · rw [List.getElem?_replicate, if_neg h2]; rfl
theorem putL_getD (p : Int) (l : List Int) (i : Nat) (k : Int) (j : Nat) : (putL p l i k).getD j 0 = if j = i then (l.getD i 0 + k) % p else l.getD j 0 := by
  have hg : i < (grow l (i + 1)).length := by unfold grow; simp; omega
  unfold putL
  rw [List.getD_eq_getElem?_getD, List.getElem?_set]
  by_cases h : i = j
  · subst h; rw [if_pos rfl, if_pos hg, if_pos rfl, grow_getD]; rfl
  · rw [if_neg h, if_neg (fun e => h e.symm), ← List.getD_eq_getElem?_getD, grow_getD]
theorem putsL_getD (p : Int) (m l : List Int) (j : Nat) : ∀ n, (putsL p m l n).getD j 0 = if j < n then (m.getD j 0 + l.getD j 0) % p else m.getD j 0
  | 0 => by rw [if_neg (by omega)]; rfl
  | n + 1 => by
    rw [putsL, putL_getD, putsL_getD p m l n n, putsL_getD p m l j n]
    by_cases h : j = n
    · subst h; rw [if_pos rfl, if_neg (by omega), if_pos (by omega)]
    · rw [if_neg h]
      by_cases h2 : j < n
      · rw [if_pos h2, if_pos (by omega)]
      · rw [if_neg h2, if_neg (by omega)]
theorem addP_getD {p : Int} (hp : Supp p) {a b : List Int} (ha : ∀ x ∈ a, Res p x) (hb : ∀ x ∈ b, Res p x) (j : Nat) : (addP p a b).getD j 0 = (a.getD j 0 + b.getD j 0) % p := by
  have h0 : ([] : List Int).getD j 0 = 0 := rfl
  have ra := (res_getD hp ha j).eq
  have rb := (res_getD hp hb j).eq
  unfold addP
  rw [putsL_getD, putsL_getD, h0, Int.zero_add, ra]
  by_cases h1 : j < b.length
  · rw [if_pos h1]
    by_cases h2 : j < a.length
    · rw [if_pos h2]
    · rw [if_neg h2, getD_out a j (by omega)]
  · rw [if_neg h1, getD_out b j (by omega), Int.add_zero, ra]
    by_cases h2 : j < a.length
    · rw [if_pos h2]
    · rw [if_neg h2, getD_out a j (by omega)]
/-! ### Sum -/
/-! ### Scale -/
/-! ### Eval -/
/-! ### Product -/
theorem list_ext_getD {a b : List Int} (hl : a.length = b.length) (h : ∀ i, a.getD i 0 = b.getD i 0) : a = b := by
  apply List.ext_getElem hl
  intro i h1 h2
  have := h i
  rwa [Hw.getD_in _ _ h1, Hw.getD_in _ _ h2] at this
end Go.Proofs.Ytiaajmiphnjgaaa.E
end
section
/- Printed by a program of this seat (the kit's printer, with the functions that were proved by hand given to it). What stands here: the functions that the statements reach, as plain functions, and that the Go code computes them. -/
namespace Go.Proofs.Ytiaajmiphnjgaaa.Pr
open Go.RowKit Go.Proofs.YtiaajmiphnjgaaaW.PrintWords Go.Proofs.YtiaajmiphnjgaaaW.PrintLast Go.Proofs.YtiaajmiphnjgaaaW.PrintMore
attribute [local go_sem] max2_int min2_int max_two min_two max_three min_three max_four min_four   -- for this text's walks alone
set_option linter.unusedVariables false
set_option linter.unusedSimpArgs false

open Go.Proofs.Ytiaajmiphnjgaaa.Hw
/-! ### privityref05_Polynomial: function 51 -/
end Go.Proofs.Ytiaajmiphnjgaaa.Pr
end
section
/-
  The reference of layer 5: what its printed functions answer.
-/
namespace Go.Proofs.Ytiaajmiphnjgaaa.E
open Go.RowKit Go.Proofs.Ytiaajmiphnjgaaa.Pr Go.Proofs.Ytiaajmiphnjgaaa.Hw Go.Proofs.Ytiaajmiphnjgaaa.Pl Go.Proofs.YtiaajmiphnjgaaaW.PrintWords Go.Proofs.YtiaajmiphnjgaaaW.PrintLast Go.Proofs.YtiaajmiphnjgaaaW.PrintMore
set_option linter.unusedVariables false
set_option linter.unusedSimpArgs false

/-- A loop that answers false at the first i that Q does not hold of. -/
theorem allLoop {F : Nat → Int → Option Bool} {n : Nat} {Q : Nat → Prop} [DecidablePred Q] (hend : ∀ k, F (k + 1) (n : Int) = some true) (hyes : ∀ i, i < n → Q i → ∀ r, Ev (fun k => F k ((i + 1 : Nat) : Int)) r → Ev (fun k => F k (i : Int)) r)
    (hno : ∀ i, i < n → ¬ Q i → Ev (fun k => F k (i : Int)) false) (r : Bool) (hr : r = true ↔ ∀ i, i < n → Q i) : Ev (fun k => F k ((0 : Nat) : Int)) r := by
  have main : ∀ d i, i + d = n → ∀ r : Bool, (r = true ↔ ∀ j, i ≤ j → j < n → Q j) → Ev (fun k => F k (i : Int)) r := by
    intro d
    induction d with
    | zero =>
      intro i hi r hr
      have : i = n := by omega
      subst this
      have : r = true := hr.2 (fun j h1 h2 => by omega)
      subst this
      exact Ev.step (fun k => hend k) (Ev.now _)
    | succ d ih =>
      intro i hi r hr
      by_cases h : Q i
      · refine hyes i (by omega) h r (ih (i + 1) (by omega) r ⟨fun e j h1 h2 => hr.1 e j (by omega) h2, fun e => hr.2 fun j h1 h2 => ?_⟩)
        by_cases e2 : j = i
        · rw [e2]; exact h
        · exact e j (by omega) h2
      · have : r = false := by
          cases r with
          | false => rfl
          | true => exact absurd (hr.1 rfl i (Nat.le_refl _) (by omega)) h
        subst this
        exact hno i (by omega) h
  exact main n 0 (by omega) r ⟨fun e j _ h2 => hr.1 e j h2, fun e => hr.2 fun j h => e j (Nat.zero_le _) h⟩
theorem same_ev (a b : List Int) (ha : a.length ≤ 1000000000) : Ev (fun k => privityref05_Same.f k a b) (decide (a = b)) := by
  by_cases hl : a.length = b.length
  · have h := allLoop (F := fun k i => privityref05_Same.l0 k a b i) (n := a.length) (Q := fun i => a.getD i 0 = b.getD i 0) (fun k => ?_) (fun i hi hq r h => ?_) (fun i hi hq => ?_) (decide (a = b)) ?_
    · refine h.congr fun k => ?_
      unfold privityref05_Same.f
      rw [if_pos (by omega)]; rfl
    · simp only [privityref05_Same.l0]
      rw [if_neg (by omega)]
    · refine Ev.step (fun k => ?_) h
      simp only [privityref05_Same.l0]
      rw [if_pos (by omega), if_pos (by omega), if_pos (by omega), rd_nat, rd_nat, if_pos hq, wnat (by omega)]
    · refine Ev.step (fun k => ?_) (Ev.now _)
      simp only [privityref05_Same.l0]
      rw [if_pos (by omega), if_pos (by omega), if_pos (by omega), rd_nat, rd_nat, if_neg hq]
    · rw [decide_eq_true_iff]
      refine ⟨fun e i _ => by rw [e], fun h => list_ext_getD hl fun i => ?_⟩
      by_cases hi : i < a.length
      · exact h i hi
      · rw [getD_out a i (by omega), getD_out b i (by omega)]
  · have : decide (a = b) = false := decide_eq_false fun e => hl (by rw [e])
    rw [this]
    refine Ev.congr (fun k => ?_) (Ev.now _)
    unfold privityref05_Same.f
    rw [if_neg (by omega)]
def belowB (p : Int) (l : List Int) : Bool := l.all fun x => decide (x < p)
theorem below_ev (p : Int) (l : List Int) (hl : l.length ≤ 1000000000) : Ev (fun k => privityref05_Below.f k p l) (belowB p l) := by
  have h := allLoop (F := fun k i => privityref05_Below.l0 k p l i) (n := l.length) (Q := fun i => l.getD i 0 < p) (fun k => ?_) (fun i hi hq r h => ?_) (fun i hi hq => ?_) (belowB p l) ?_
  · exact h
  · simp only [privityref05_Below.l0]
    rw [if_neg (by omega)]
  · refine Ev.step (fun k => ?_) h
    simp only [privityref05_Below.l0]
    rw [if_pos (by omega), if_pos (by omega), rd_nat, if_neg (by omega), wnat (by omega)]
  · refine Ev.step (fun k => ?_) (Ev.now _)
    simp only [privityref05_Below.l0]
    rw [if_pos (by omega), if_pos (by omega), rd_nat, if_pos (by omega)]
  · unfold belowB
    rw [List.all_eq_true]
    refine ⟨fun h i hi => ?_, fun h x hx => ?_⟩
    · rw [Hw.getD_in _ _ hi]; exact of_decide_eq_true (h _ (List.getElem_mem hi))
    · obtain ⟨i, hi, rfl⟩ := List.getElem_of_mem hx
      have := h i hi
      rw [Hw.getD_in _ _ hi] at this
      exact decide_eq_true this
theorem below_res {p : Int} {l : List Int} (h : belowB p l = true) (hw : ∀ x ∈ l, 0 ≤ x) : ∀ x ∈ l, Res p x := fun x hx => ⟨hw x hx, of_decide_eq_true (List.all_eq_true.1 h x hx)⟩
theorem unlike_ev (l : List Int) (hl : l.length ≤ 1000000000) : Ev (fun k => privityref05_Unlike.f k l) (decide l.Nodup) := by
  have h := allLoop (F := fun k i => privityref05_Unlike.l0 k l i) (n := l.length) (Q := fun i => ∀ j, j < i → l.getD i 0 ≠ l.getD j 0) (fun k => ?_) (fun i hi hq r h => ?_) (fun i hi hq => ?_) (decide l.Nodup) ?_
  · exact h
  · simp only [privityref05_Unlike.l0]
    rw [if_neg (by omega)]
  · have row : Ev (fun k => privityref05_Unlike.l1 k l (i : Int) ((0 : Nat) : Int)) r := by
      refine up (Q := fun j => Ev (fun k => privityref05_Unlike.l1 k l (i : Int) (j : Int)) r) (n := i) ?_ ?_
      · refine Ev.step (fun k => ?_) h
        simp only [privityref05_Unlike.l1]
        rw [if_neg (by omega), wnat (by omega)]
      · intro j hj h2
        refine Ev.step (fun k => ?_) h2
        simp only [privityref05_Unlike.l1]
        rw [if_pos (by omega), if_pos (by omega), if_pos (by omega), if_pos (by omega), if_pos (by omega), rd_nat, rd_nat, if_neg (hq j hj), wnat (by omega)]
    refine Ev.step (fun k => ?_) row
    simp only [privityref05_Unlike.l0]
    rw [if_pos (by omega)]; rfl
  · have row : Ev (fun k => privityref05_Unlike.l1 k l (i : Int) ((0 : Nat) : Int)) false := by
      obtain ⟨j, hj, he⟩ : ∃ j, j < i ∧ l.getD i 0 = l.getD j 0 := by
        apply Classical.byContradiction
        intro hc
        exact hq fun j hj e => hc ⟨j, hj, e⟩
      refine up (Q := fun j => Ev (fun k => privityref05_Unlike.l1 k l (i : Int) (j : Int)) false) (n := j) ?_ ?_
      · refine Ev.step (fun k => ?_) (Ev.now _)
        simp only [privityref05_Unlike.l1]
        rw [if_pos (by omega), if_pos (by omega), if_pos (by omega), if_pos (by omega), if_pos (by omega), rd_nat, rd_nat, if_pos he]
      · intro j' hj' h2
        by_cases e : l.getD i 0 = l.getD j' 0
        · refine Ev.step (fun k => ?_) (Ev.now _)
          simp only [privityref05_Unlike.l1]
          rw [if_pos (by omega), if_pos (by omega), if_pos (by omega), if_pos (by omega), if_pos (by omega), rd_nat, rd_nat, if_pos e]
        · refine Ev.step (fun k => ?_) h2
          simp only [privityref05_Unlike.l1]
          rw [if_pos (by omega), if_pos (by omega), if_pos (by omega), if_pos (by omega), if_pos (by omega), rd_nat, rd_nat, if_neg e, wnat (by omega)]
    refine Ev.step (fun k => ?_) row
    simp only [privityref05_Unlike.l0]
    rw [if_pos (by omega)]; rfl
  · rw [decide_eq_true_iff, List.nodup_iff_pairwise_ne, List.pairwise_iff_getElem]
    refine ⟨fun h i hi j hj e => ?_, fun h i j hi hj hij e => ?_⟩
    · rw [Hw.getD_in _ _ hi, Hw.getD_in _ _ (by omega)] at e
      exact h j i (by omega) hi hj e.symm
    · have := h j hj i hij
      rw [Hw.getD_in _ _ hi, Hw.getD_in _ _ hj] at this
      exact this e.symm
end Go.Proofs.Ytiaajmiphnjgaaa.E
end
section
/-
  The reference's Lagrange formula: the same polynomial, the same weights.
-/
namespace Go.Proofs.Ytiaajmiphnjgaaa.E
open Go.RowKit Go.Proofs.Ytiaajmiphnjgaaa.Pr Go.Proofs.Ytiaajmiphnjgaaa.Hw Go.Proofs.Ytiaajmiphnjgaaa.Pl Go.Proofs.YtiaajmiphnjgaaaW.PrintWords Go.Proofs.YtiaajmiphnjgaaaW.PrintLast Go.Proofs.YtiaajmiphnjgaaaW.PrintMore
set_option linter.unusedVariables false
set_option linter.unusedSimpArgs false

section
variable {p : Int} (hp : Supp p) [NeZero p.toNat]
end

/-! ### Polynomial -/
end Go.Proofs.Ytiaajmiphnjgaaa.E
end
section
/-
  Guards, sums, and the hand-proved functions' answers, for the statements.
-/
namespace Go.Proofs.Ytiaajmiphnjgaaa.E
open Go.RowKit Go.Proofs.Ytiaajmiphnjgaaa.Pr Go.Proofs.Ytiaajmiphnjgaaa.Hw Go.Proofs.Ytiaajmiphnjgaaa.Pl Go.Proofs.YtiaajmiphnjgaaaW.PrintWords Go.Proofs.YtiaajmiphnjgaaaW.PrintLast Go.Proofs.YtiaajmiphnjgaaaW.PrintMore
set_option linter.unusedVariables false
set_option linter.unusedSimpArgs false

theorem wf64 {x : Int} (h : (Lit.int .u64 x).wf = true) : 0 ≤ x ∧ x < 18446744073709551616 := by
  have h1 : IntKind.u64.min ≤ x ∧ x ≤ IntKind.u64.max := by simpa [Lit.wf] using h
  have e1 : IntKind.u64.min = 0 := by decide
  have e2 : IntKind.u64.max = 18446744073709551615 := by decide
  omega
/-- A check, and both ways on. -/
theorem ev_if {α : Type} {A : Nat → Option Bool} {b : Bool} (hA : Ev A b) {X Y : Nat → Option α} {r : α} (hx : b = true → Ev X r) (hy : b = false → Ev Y r) : Ev (fun k => (A k).bind fun t => if t = true then X k else Y k) r := by
  refine Ev.bind (f := fun k t => if t = true then X k else Y k) hA ?_
  cases b with
  | true => exact (hx rfl).congr fun k => if_pos rfl
  | false => exact (hy rfl).congr fun k => if_neg (by simp)
theorem ev_ite {α : Type} {c : Prop} [Decidable c] {X Y : Nat → Option α} {r : α} (hx : c → Ev X r) (hy : ¬ c → Ev Y r) : Ev (fun k => if c then X k else Y k) r := by
  by_cases h : c
  · exact (hx h).congr fun k => if_pos h
  · exact (hy h).congr fun k => if_neg h
/-- A check whose negation is handed on. -/
theorem ev_now_bind {α β : Type} {x : Option α} {a : α} (hx : x = some a) {f : Nat → α → Option β} {r : β} (h : Ev (fun k => f k a) r) : Ev (fun k => x.bind (f k)) r := by subst hx; exact h
theorem evI_addP {p : Int} (hp : Supp p) (x : Int) (a b : List Int) : evI p x (trimL (addP p a b)) = (evI p x a + evI p x b) % p := by
  haveI := nz hp
  refine T_inj hp (evI_res hp _ _) (Res.mod hp _) ?_
  rw [ev_evI hp, ev_trimL, ev_addP hp, T_mod hp, T_add, ev_evI hp, ev_evI hp]
theorem evI_trimL {p : Int} (hp : Supp p) (x : Int) (a : List Int) : evI p x (trimL a) = evI p x a := by
  haveI := nz hp
  refine T_inj hp (evI_res hp _ _) (evI_res hp _ _) ?_
  rw [ev_evI hp, ev_trimL, ev_evI hp]
end Go.Proofs.Ytiaajmiphnjgaaa.E
end
section
/-
  What the statements of chapter 9 share: the first check.
-/
namespace Go.Proofs.Ytiaajmiphnjgaaa.E
open Go.RowKit Go.Proofs.Ytiaajmiphnjgaaa.Pr Go.Proofs.Ytiaajmiphnjgaaa.Hw Go.Proofs.Ytiaajmiphnjgaaa.Pl Go.Proofs.YtiaajmiphnjgaaaW.PrintWords Go.Proofs.YtiaajmiphnjgaaaW.PrintLast Go.Proofs.YtiaajmiphnjgaaaW.PrintMore
set_option linter.unusedVariables false
set_option linter.unusedSimpArgs false

theorem awake09 : Ev (fun k => privitylaw09_awake.f k) true := Ev.of (fun k => privitylaw09_awake.mono _) (k := 40) (by kernel_rfl)
end Go.Proofs.Ytiaajmiphnjgaaa.E
end
section
/-
  FitSecret's polynomial: its length, its secret, its values.
-/
namespace Go.Proofs.Ytiaajmiphnjgaaa.E
open Go.RowKit Go.Proofs.Ytiaajmiphnjgaaa.Pr Go.Proofs.Ytiaajmiphnjgaaa.Hw Go.Proofs.Ytiaajmiphnjgaaa.Pl Go.Proofs.YtiaajmiphnjgaaaW.PrintWords Go.Proofs.YtiaajmiphnjgaaaW.PrintLast Go.Proofs.YtiaajmiphnjgaaaW.PrintMore
set_option linter.unusedVariables false
set_option linter.unusedSimpArgs false

theorem fitRun_ok {p : Int} (hp : Supp p) {t : Nat} (htp : (t : Int) < p) : ∀ (k : Nat) (all : List S34) (x : Nat), FitI p t all x → k + x = t + 2 →
    (∃ x', FitI p t (fitRun t k all (x : Int)) x') ∧ (fitRun t k all (x : Int)).length = t + 1 ∧ (∃ m, fitRun t k all (x : Int) = all ++ m ∧ ∀ y ∈ m, y.f1 = 0) := by
  intro k
  induction k with
  | zero =>
    intro all x h he
    have h1 := h.xlen
    have h2 := h.len
    omega
  | succ k ih =>
    intro all x h he
    rw [fitRun]
    by_cases hl : all.length ≤ t
    · rw [if_pos hl]
      have ec : ((x : Int) + 1) = ((x + 1 : Nat) : Int) := by omega
      rw [ec]
      by_cases hx : (x : Int) ∈ xsOf all
      · rw [if_pos hx]
        exact ih all (x + 1) (h.skip hx) (by omega)
      · rw [if_neg hx]
        obtain ⟨h1, h2, m, h3, h4⟩ := ih _ (x + 1) (h.add hp hx hl htp) (by omega)
        refine ⟨h1, h2, _ :: m, by rw [h3, List.append_assoc]; rfl, fun y hy => ?_⟩
        rcases List.mem_cons.1 hy with rfl | hy
        · rfl
        · exact h4 y hy
    · rw [if_neg hl]
      have := h.len
      exact ⟨⟨x, h⟩, by omega, [], by simp, fun y hy => by cases hy⟩
theorem fitAll_ok {p : Int} (hp : Supp p) {t : Nat} (htp : (t : Int) < p) {pts : List S34} (hx : PtsOk p pts) (hnd : (0 :: xsOf pts).Nodup) (hl : pts.length ≤ t) {s : Int} (hs : Res p s) :
    PtsOk p (fitAll p t pts s) ∧ (xsOf (fitAll p t pts s)).Nodup ∧ (fitAll p t pts s).length = t + 1 ∧ ∃ m, fitAll p t pts s = (⟨0, s⟩ :: pts) ++ m ∧ ∀ y ∈ m, y.f1 = 0 := by
  obtain ⟨⟨x, h1⟩, h2, h3⟩ := fitRun_ok hp htp (t + 1) _ 1 (fit_start hp hx hnd hl hs) (by omega)
  exact ⟨h1.ok, h1.nd, h2, h3⟩
theorem evI_zeros {p : Int} (hp : Supp p) (x : Int) : ∀ (n : Nat), evI p x (List.replicate n 0) = 0
  | 0 => rfl
  | n + 1 => by show (evI p x (List.replicate n 0) * x % p + 0) % p = 0; rw [evI_zeros hp x n]; simp
theorem evI_app_zeros {p : Int} (hp : Supp p) (x : Int) (n : Nat) : ∀ (l : List Int), evI p x (l ++ List.replicate n 0) = evI p x l
  | [] => evI_zeros hp x n
  | c :: l => by show (evI p x (l ++ List.replicate n 0) * x % p + c) % p = (evI p x l * x % p + c) % p; rw [evI_app_zeros hp x n l]
theorem evI_zero {p : Int} (hp : Supp p) {l : List Int} (hl : ∀ x ∈ l, Res p x) : evI p 0 l = l.getD 0 0 := by
  cases l with
  | nil => rfl
  | cons c l => show (evI p 0 l * 0 % p + c) % p = c; rw [Int.mul_zero, Int.zero_emod, Int.zero_add]; exact (hl c (by simp)).eq
section
variable {p : Int} (hp : Supp p) {t : Nat} (htp : (t : Int) < p) {pts : List S34} (hx : PtsOk p pts) (hnd : (0 :: xsOf pts).Nodup) (hl : pts.length ≤ t) {s : Int} (hs : Res p s)
include hp htp hx hnd hl hs
theorem fitL_length : (fitL p t pts s).length = t + 1 := by
  have h := fitAll_ok hp htp hx hnd hl hs
  have := polL_len hp (pts := fitAll p t pts s)
  unfold fitL
  rw [List.length_append, List.length_replicate]; omega
theorem fitL_res : ∀ x ∈ fitL p t pts s, Res p x := by
  have h := fitAll_ok hp htp hx hnd hl hs
  intro x hx
  rcases List.mem_append.1 hx with h1 | h1
  · exact polL_res hp h.1 x h1
  · rw [(List.mem_replicate.1 h1).2]; have := hp.bd; exact ⟨Int.le_refl 0, by omega⟩
theorem fitL_at (y : S34) (hy : y ∈ fitAll p t pts s) : evI p y.f0 (fitL p t pts s) = y.f1 := by
  have h := fitAll_ok hp htp hx hnd hl hs
  obtain ⟨j, hj, rfl⟩ := List.getElem_of_mem hy
  have h1 := polL_at hp h.1 h.2.1 j hj
  rw [rdT_nat _ _ hj] at h1
  unfold fitL
  rw [evI_app_zeros hp]; exact h1
theorem fitL_secret : (fitL p t pts s).getD 0 0 = s := by
  rw [← evI_zero hp (fitL_res hp htp hx hnd hl hs)]
  refine fitL_at hp htp hx hnd hl hs ⟨0, s⟩ ?_
  obtain ⟨_, _, _, m, e, _⟩ := fitAll_ok hp htp hx hnd hl hs
  rw [e]; simp
theorem fitL_pt (y : S34) (hy : y ∈ pts) : evI p y.f0 (fitL p t pts s) = y.f1 := by
  refine fitL_at hp htp hx hnd hl hs y ?_
  obtain ⟨_, _, _, m, e, _⟩ := fitAll_ok hp htp hx hnd hl hs
  rw [e]; exact List.mem_append_left _ (List.mem_cons_of_mem _ hy)
theorem fit_eq (ht : t ≤ 11) : shamir_FitSecret.f p (t : Int) pts s = some (fitL p t pts s, 0) := by
  have hb := hp.bd
  have hf : ¬ fitBad p (t : Int) pts = true := fun h => by
    rcases fitBad_iff.1 h with h | h | h | h
    · omega
    · exact h hnd
    · omega
    · omega
  unfold shamir_FitSecret.f
  rw [if_pos (supB_iff.2 hp), if_pos (ptsB_iff.2 hx), if_pos (resB_iff.2 hs), if_pos (by omega), if_pos (by omega), if_pos (by omega), if_neg hf, if_pos (by omega), Int.toNat_natCast]
end
end Go.Proofs.Ytiaajmiphnjgaaa.E
end
section
/-
  Scaling and subtracting polynomials, plainly.
-/
namespace Go.Proofs.Ytiaajmiphnjgaaa.E
open Go.RowKit Go.Proofs.Ytiaajmiphnjgaaa.Pr Go.Proofs.Ytiaajmiphnjgaaa.Hw Go.Proofs.Ytiaajmiphnjgaaa.Pl Go.Proofs.YtiaajmiphnjgaaaW.PrintWords Go.Proofs.YtiaajmiphnjgaaaW.PrintLast Go.Proofs.YtiaajmiphnjgaaaW.PrintMore
set_option linter.unusedVariables false
set_option linter.unusedSimpArgs false

def sclL (p s : Int) (l : List Int) : List Int := trimL (l.map fun v => s * v % p)
theorem sclL_res {p : Int} (hp : Supp p) (s : Int) (l : List Int) : ∀ x ∈ sclL p s l, Res p x := fun x h => by
  obtain ⟨y, _, rfl⟩ := List.mem_map.1 (trimL_mem h)
  exact Res.mod hp _
theorem sclL_length (p s : Int) (l : List Int) : (sclL p s l).length ≤ l.length := by
  have := trimL_length (l.map fun v => s * v % p)
  rw [List.length_map] at this; exact this
theorem sclL_getD {p : Int} (s : Int) (l : List Int) (i : Nat) : (sclL p s l).getD i 0 = s * l.getD i 0 % p := by
  unfold sclL
  rw [trimL_getD, getD_map_res (p := p) l (fun v => s * v % p) (by simp) i]
theorem evI_sclL {p : Int} (hp : Supp p) (s x : Int) (l : List Int) : evI p x (sclL p s l) = s * evI p x l % p := by
  haveI := nz hp
  refine T_inj hp (evI_res hp _ _) (Res.mod hp _) ?_
  unfold sclL
  rw [evI_trimL hp, ev_evI hp, ev_scaleL hp, T_mod hp, T_mul, ev_evI hp]
/-- The difference. -/
def subL (p : Int) (a b : List Int) : List Int := trimL (addP p a (sclL p (p - 1) b))
theorem padd_eq' {p : Int} (hp : Supp p) {a b : List Int} (ha : ∀ x ∈ a, Res p x) (hb : ∀ x ∈ b, Res p x) (la : a.length ≤ 1000000) (lb : b.length ≤ 1000000) : poly_Add.f p a b = some (trimL (addP p a b)) := by
  unfold poly_Add.f
  rw [if_pos (supB_iff.2 hp), if_pos (ressB_iff.2 ha), if_pos (ressB_iff.2 hb), if_pos la, if_pos lb]
theorem psub_ev {p : Int} (hp : Supp p) {a b : List Int} (ha : ∀ x ∈ a, Res p x) (hb : ∀ x ∈ b, Res p x) (la : a.length ≤ 1000000) (lb : b.length ≤ 1000000) : Ev (fun k => poly_Sub.f k p a b) (subL p a b) := by
  have hpb := hp.bd
  have e : IntKind.u64.wrap (p - 1) = p - 1 := wrapU_id (by omega) (by omega)
  have h1 := scale_ev hp (kk := p - 1) ⟨by omega, by omega⟩ b hb (by omega)
  refine Ev.congr (fun k => ?_) (Ev.bind (f := fun k t => (poly_Add.f p a t).bind fun r => some r) h1 (ev_now_bind (padd_eq' hp ha (sclL_res hp _ b) la (Nat.le_trans (sclL_length _ _ _) lb)) (Ev.now _)))
  unfold poly_Sub.f
  rw [e]
theorem subL_getD {p : Int} (hp : Supp p) {a b : List Int} (ha : ∀ x ∈ a, Res p x) (hb : ∀ x ∈ b, Res p x) (i : Nat) : (subL p a b).getD i 0 = (a.getD i 0 - b.getD i 0) % p := by
  unfold subL
  rw [trimL_getD, addP_getD hp ha (sclL_res hp _ b), sclL_getD]
  refine (Int.emod_emod_of_dvd _ (Int.dvd_refl p)).symm.trans ?_
  have h : (a.getD i 0 + (p - 1) * b.getD i 0 % p) % p = (a.getD i 0 - b.getD i 0) % p := by
    have e : (p - 1) * b.getD i 0 = - b.getD i 0 + p * b.getD i 0 := by grind
    rw [e, Int.add_mul_emod_self_left, Int.add_emod_emod, Int.sub_eq_add_neg]
  rw [h, modm]
theorem addL_getD {p : Int} (hp : Supp p) {a b : List Int} (ha : ∀ x ∈ a, Res p x) (hb : ∀ x ∈ b, Res p x) (i : Nat) : (trimL (addP p a b)).getD i 0 = (a.getD i 0 + b.getD i 0) % p := by
  rw [trimL_getD, addP_getD hp ha hb]
theorem addL_res {p : Int} (hp : Supp p) (a b : List Int) : ∀ x ∈ trimL (addP p a b), Res p x := fun x h => addP_res hp a b x (trimL_mem h)
theorem addL_length (p : Int) (a b : List Int) : (trimL (addP p a b)).length ≤ max a.length b.length := by
  have := trimL_length (addP p a b)
  rw [addP_length] at this; exact this
/-- Adding and taking away again. -/
theorem subL_addL {p : Int} (hp : Supp p) {a b : List Int} (ha : ∀ x ∈ a, Res p x) (hb : ∀ x ∈ b, Res p x) : subL p (trimL (addP p a b)) b = trimL a := by
  have e : subL p (trimL (addP p a b)) b = trimL (subL p (trimL (addP p a b)) b) := (trimL_trimL _).symm
  rw [e]
  refine trimL_ext fun i => ?_
  rw [subL_getD hp (addL_res hp a b) hb, addL_getD hp ha hb, Int.emod_sub_emod, show a.getD i 0 + b.getD i 0 - b.getD i 0 = a.getD i 0 from by omega]
  exact (res_getD hp ha i).eq
end Go.Proofs.Ytiaajmiphnjgaaa.E
end
section
/-
  Shifting the secret along the polynomial that is 1 at 0 and 0 at the coalition's points.
-/
namespace Go.Proofs.Ytiaajmiphnjgaaa.Pure
open Go.RowKit Go.Proofs.Ytiaajmiphnjgaaa.Pr Go.Proofs.Ytiaajmiphnjgaaa.Hw Go.Proofs.Ytiaajmiphnjgaaa.E Go.Proofs.YtiaajmiphnjgaaaW.PrintWords Go.Proofs.YtiaajmiphnjgaaaW.PrintLast Go.Proofs.YtiaajmiphnjgaaaW.PrintMore
set_option linter.unusedVariables false
set_option linter.unusedSimpArgs false

theorem shift_skip (t p : Int) (q xs : List Int) (s : Int) : Ev (fun k => privitylaw09_ShamirSecretShiftIsBijective.j0 k t true p q xs s) true :=
  Ev.step (f := fun _ => some true) (fun k => by simp only [privitylaw09_ShamirSecretShiftIsBijective.j0]; rw [if_pos trivial]) (Ev.now _)
theorem shift_next (p : Int) (xs : List Int) (i : Nat) (hi : i < xs.length) : ptsOf p (xs.take i) [] ++ [⟨rd xs i, 0⟩] = ptsOf p (xs.take (i + 1)) [] := by
  unfold ptsOf
  rw [List.take_succ_eq_append_getElem hi, List.map_append, rd_nat, Hw.getD_in _ _ hi]; rfl
theorem shift_main {p : Int} (hp : Supp p) {q xs : List Int} (hq : ∀ x ∈ q, Res p x) (hx : ∀ x ∈ xs, Res p x) (hn : xs.Nodup) {s : Int} (hs : Res p s) (et : q.length = xs.length + 1) (t9 : xs.length ≤ 9) : Ev (fun k => privitylaw09_ShamirSecretShiftIsBijective.j0 k (xs.length : Int) false p q xs s) true := by
  have hb := hp.bd
  have main : Ev (fun k => privitylaw09_ShamirSecretShiftIsBijective.l0 k (xs.length : Int) (ptsOf p (xs.take 0) []) ((0 : Nat) : Int) p q xs s) true := by
    have hstep : ∀ j, j < xs.length → (xs.getD j 0 ≠ 0) → Ev (fun k => privitylaw09_ShamirSecretShiftIsBijective.l0 k (xs.length : Int) (ptsOf p (xs.take (j + 1)) []) ((j + 1 : Nat) : Int) p q xs s) true → Ev (fun k => privitylaw09_ShamirSecretShiftIsBijective.l0 k (xs.length : Int) (ptsOf p (xs.take j) []) (j : Int) p q xs s) true := by
      intro j hj hj0 h
      rw [← shift_next p xs j hj] at h
      refine Ev.step (fun k => ?_) h
      simp only [privitylaw09_ShamirSecretShiftIsBijective.l0]
      rw [if_pos (by omega), if_pos (by omega), if_pos (by omega), if_neg (by rw [rd_nat]; exact hj0), wnat (by omega), if_pos (by rw [ptsOf_length, List.length_take]; omega)]
    by_cases hz : ∃ i, i < xs.length ∧ xs.getD i 0 = 0
    · obtain ⟨i, hi, h0⟩ := hz
      refine up (Q := fun j => Ev (fun k => privitylaw09_ShamirSecretShiftIsBijective.l0 k (xs.length : Int) (ptsOf p (xs.take j) []) (j : Int) p q xs s) true) (n := i) ?_ ?_
      · refine Ev.step (f := fun _ => some true) (fun k => ?_) (Ev.now _)
        simp only [privitylaw09_ShamirSecretShiftIsBijective.l0]
        rw [if_pos (by omega), if_pos (by omega), if_pos (by omega), rd_nat, if_pos h0]
      · intro j hj h
        by_cases hj0 : xs.getD j 0 = 0
        · refine Ev.step (f := fun _ => some true) (fun k => ?_) (Ev.now _)
          simp only [privitylaw09_ShamirSecretShiftIsBijective.l0]
          rw [if_pos (by omega), if_pos (by omega), if_pos (by omega), rd_nat, if_pos hj0]
        · exact hstep j (by omega) hj0 h
    · have hnz : ∀ i, i < xs.length → xs.getD i 0 ≠ 0 := fun i hi h => hz ⟨i, hi, h⟩
      have h0n : (0 :: xs).Nodup := List.nodup_cons.2 ⟨fun h => by
        obtain ⟨i, hi, e⟩ := List.getElem_of_mem h
        exact hnz i hi (by rw [Hw.getD_in _ _ hi]; exact e), hn⟩
      refine up (Q := fun j => Ev (fun k => privitylaw09_ShamirSecretShiftIsBijective.l0 k (xs.length : Int) (ptsOf p (xs.take j) []) (j : Int) p q xs s) true) (n := xs.length) ?_ (fun j hj h => hstep j hj (hnz j hj) h)
      rw [List.take_length]
      have hok := ptsOf_ok hp hx []
      have hnd : (0 :: xsOf (ptsOf p xs [])).Nodup := by rw [ptsOf_xs]; exact h0n
      have hll : (ptsOf p xs []).length ≤ xs.length := by rw [ptsOf_length]; exact Nat.le_refl _
      have htp : (xs.length : Int) < p := by omega
      have h1 : Res p 1 := ⟨by omega, by omega⟩
      have hfe := fit_eq hp htp hok hnd hll h1 (by omega)
      have hlen := fitL_length hp htp hok hnd hll h1
      have hres := fitL_res hp htp hok hnd hll h1
      have hsec := fitL_secret hp htp hok hnd hll h1
      have hval : ∀ j, j < xs.length → evI p (rd xs j) (fitL p xs.length (ptsOf p xs []) 1) = 0 := fun j hj =>
        fitL_pt hp htp hok hnd hll h1 ⟨rd xs j, 0⟩ (List.mem_map.2 ⟨rd xs j, by rw [rd_nat, Hw.getD_in _ _ hj]; exact List.getElem_mem _, rfl⟩)
      obtain ⟨z, hz0⟩ : ∃ z, z = fitL p xs.length (ptsOf p xs []) 1 := ⟨_, rfl⟩
      rw [← hz0] at hfe hlen hres hsec hval
      have hzs : Ev (fun k => poly_Scale.f k p s z) (sclL p s z) := scale_ev hp hs z hres (by omega)
      have lzs := sclL_length p s z
      have ha := padd_eq' hp hq (sclL_res hp s z) (by omega) (by omega)
      have lg := addL_length p q (sclL p s z)
      have hg := addL_res hp q (sclL p s z)
      have hev : ∀ x, evI p x (trimL (addP p q (sclL p s z))) = (evI p x q + s * evI p x z % p) % p := fun x => by rw [evI_addP hp, evI_sclL hp]
      have hend : Ev (fun k => privitylaw09_ShamirSecretShiftIsBijective.l1 k (xs.length : Int) z (trimL (addP p q (sclL p s z))) (xs.length : Int) p q xs s) true := by
        refine Ev.step (f := fun k => (poly_Scale.f k p s z).bind fun t465 => ((poly_Sub.f k p (trimL (addP p q (sclL p s z))) t465).bind fun t468 => ((poly_Eval.f k p (trimL (addP p q (sclL p s z))) 0).bind fun t471 => (if 0 < (q.length : Int) then ((field_Add.f k p (rd q 0) s).bind fun t473 => (if t471 = t473 then ((poly_Trim.f k q).bind fun t474 => ((privityref05_Same.f k t468 t474).bind fun t477 => (some t477))) else (some false))) else (none))))) (fun k => ?_) ?_
        · simp only [privitylaw09_ShamirSecretShiftIsBijective.l1]
          rw [if_neg (by omega)]
        · have hq0 : Res p (rd q 0) := by rw [show rd q 0 = q.getD 0 0 from rd_nat q 0]; exact res_getD hp hq 0
          refine Ev.bind hzs (Ev.bind (psub_ev hp hg (sclL_res hp s z) (by omega) (by omega)) (Ev.bind (eval_ev hp (x := 0) ⟨by omega, by omega⟩ _ hg (by omega)) (Ev.congr (fun k => if_pos (by omega)) (Ev.bind (add_ev hp hq0 hs) (Ev.congr (fun k => if_pos ?_) (Ev.bind (trim_ev q (by omega)) (Ev.bind (same_ev _ _ ?_) ?_)))))))
          · rw [hev, evI_zero hp hq, evI_zero hp hres, hsec, Int.mul_one, hs.eq, show rd q 0 = q.getD 0 0 from rd_nat q 0]
          · have : (subL p (trimL (addP p q (sclL p s z))) (sclL p s z)).length ≤ max (trimL (addP p q (sclL p s z))).length (sclL p (p - 1) (sclL p s z)).length := addL_length _ _ _
            have h5 := sclL_length p (p - 1) (sclL p s z)
            omega
          · rw [subL_addL hp hq (sclL_res hp s z), decide_eq_true rfl]; exact Ev.now _
      have hl1 : Ev (fun k => privitylaw09_ShamirSecretShiftIsBijective.l1 k (xs.length : Int) z (trimL (addP p q (sclL p s z))) ((0 : Nat) : Int) p q xs s) true := by
        refine up (Q := fun j => Ev (fun k => privitylaw09_ShamirSecretShiftIsBijective.l1 k (xs.length : Int) z (trimL (addP p q (sclL p s z))) (j : Int) p q xs s) true) (n := xs.length) hend ?_
        intro j hj h
        have hxj := rd_res' hx j hj
        refine Ev.step (f := fun k => (poly_Eval.f k p (trimL (addP p q (sclL p s z))) (rd xs j)).bind fun t462 => ((poly_Eval.f k p q (rd xs j)).bind fun t464 => (if t462 = t464 then (privitylaw09_ShamirSecretShiftIsBijective.l1 k (xs.length : Int) z (trimL (addP p q (sclL p s z))) ((j + 1 : Nat) : Int) p q xs s) else (some false)))) (fun k => ?_) (Ev.bind (eval_ev hp hxj _ hg (by omega)) (Ev.bind (eval_ev hp hxj q hq (by omega)) (h.congr fun k => if_pos ?_)))
        · simp only [privitylaw09_ShamirSecretShiftIsBijective.l1]
          rw [if_pos (by omega), if_pos (by omega), if_pos (by omega), wnat (by omega)]
        · rw [hev, hval j hj, Int.mul_zero, Int.zero_emod, Int.add_zero]
          exact (evI_res hp _ _).eq
      refine Ev.step (f := fun k => (shamir_FitSecret.f p (xs.length : Int) (ptsOf p xs []) 1).bind fun bt451 => (if bt451.2 = 0 then ((poly_Scale.f k p s bt451.1).bind fun t455 => ((poly_Add.f p q t455).bind fun t458 => (privitylaw09_ShamirSecretShiftIsBijective.l1 k (xs.length : Int) bt451.1 t458 ((0 : Nat) : Int) p q xs s))) else (some false))) (fun k => ?_) ?_
      · simp only [privitylaw09_ShamirSecretShiftIsBijective.l0]
        rw [if_neg (by omega)]; rfl
      · exact ev_now_bind hfe (Ev.congr (fun k => if_pos rfl) (Ev.bind hzs (ev_now_bind ha hl1)))
  refine Ev.step (fun k => ?_) main
  simp only [privitylaw09_ShamirSecretShiftIsBijective.j0]
  rw [if_neg (by simp)]; rfl
theorem ShamirSecretShiftIsBijective (p : Int) (q xs : List Int) (s : Int) (wp : (Lit.int .u64 p).wf = true) (wq : ∀ x ∈ q, (Lit.int .u64 x).wf = true) (wx : ∀ x ∈ xs, (Lit.int .u64 x).wf = true) (ws : (Lit.int .u64 s).wf = true) : ∃ k, privitylaw09_ShamirSecretShiftIsBijective.f k p q xs s = some true := by
  refine Ev.rounds (r := true) ?_
  refine ev_if awake09 (fun _ => ev_if (supported_ev p) (fun hs => ev_ite (fun _ => shift_skip _ p q xs s) fun h1 => ev_ite (fun h2 => ?_) fun _ => shift_skip _ p q xs s) fun _ => shift_skip _ p q xs s) (fun h => by cases h)
  rw [wnat (by omega)] at h2
  refine ev_if (below_ev p q (by omega)) (fun hb1 => ev_if (below_ev p xs (by omega)) (fun hb2 => ev_if (unlike_ev xs (by omega)) (fun hb3 => ?_) fun _ => shift_skip _ p q xs s) fun _ => shift_skip _ p q xs s) fun _ => shift_skip _ p q xs s
  by_cases hsp : s ≥ p
  · rw [decide_eq_true hsp]; exact shift_skip _ p q xs s
  · rw [decide_eq_false hsp]
    exact shift_main (supB_of hs) (below_res hb1 fun x hx => (wf64 (wq x hx)).1) (below_res hb2 fun x hx => (wf64 (wx x hx)).1) (of_decide_eq_true hb3) ⟨(wf64 ws).1, by omega⟩ (by omega) (by omega)
end Go.Proofs.Ytiaajmiphnjgaaa.Pure
end
section
/-
  What came in, opened: numbers, bools, rows and structs of them, to any depth.
-/
namespace Go.Proofs.Ytiaajmiphnjgaaa.Op
open Go.RowKit Go.Proofs.YtiaajmiphnjgaaaW.PrintWords
set_option linter.unusedVariables false

/-- What is read of a type's value is a value of d, and Q holds of it. -/
def OpenK {α : Type} (P : Program) (t : TypeId) (d : Kd α) (Q : α → Prop) : Prop :=
  ∀ {H : Type} {enc : TypeId × Value → H} {w : World} {base : Nat} {sp : Nat → Bool} {hd : Bool} {fuel : Nat} {cs : List Value} {x : DataW H × List MemPlace}, DataW.trod enc P w base sp hd fuel t cs = some x → ∃ v : α, d.K w v cs ∧ Q v
theorem openInt {P : Program} {t : TypeId} {k : IntKind} (ht : P.underlying t = some (.int k)) : OpenK P t (Kd.int k) (fun n => (Lit.int k n).wf = true) := by
  intro H enc w base sp hd fuel cs x h
  obtain ⟨n, rfl, _, hw⟩ := DataW.trod_int ht h
  exact ⟨n, rfl, hw⟩
theorem exists_list {α : Type} {R : Nat → α → Prop} : ∀ (n : Nat), (∀ i, i < n → ∃ v, R i v) → ∃ l : List α, l.length = n ∧ ∀ i v, l[i]? = some v → R i v
  | 0, _ => ⟨[], rfl, fun i v h => by simp at h⟩
  | n + 1, h => by
    obtain ⟨l, hl, hr⟩ := exists_list n (fun i hi => h i (by omega))
    obtain ⟨v, hv⟩ := h n (by omega)
    refine ⟨l ++ [v], by simp [hl], fun i u hu => ?_⟩
    by_cases hi : i < n
    · rw [List.getElem?_append_left (by omega)] at hu
      exact hr i u hu
    · rw [List.getElem?_append_right (by omega)] at hu
      by_cases h0 : i - l.length = 0
      · rw [h0] at hu
        simp only [List.getElem?_cons_zero, Option.some.injEq] at hu
        rw [← hu, show i = n from by omega]; exact hv
      · rw [List.getElem?_eq_none (by simp; omega)] at hu; cases hu
theorem openSlice {α : Type} {P : Program} {t e : TypeId} {d : Kd α} {Q : α → Prop} (ht : P.underlying t = some (.slice e)) (hc : P.cellsOf e = d.sz) (he : OpenK P e d Q) : OpenK P t (Kd.slice e d) (fun l => ∀ x ∈ l, Q x) := by
  intro H enc w base sp hd fuel cs x h
  rcases DataW.trod_slice ht h with ⟨rfl, _⟩ | ⟨a, len, cap, elems, rest, n, _, rfl, _, _, hlc, hm, hlen, hel, _, _⟩
  · exact ⟨[], ⟨none, 0, rfl, Nat.le_refl _, rfl, Nat.zero_le _, fun h => absurd h (Nat.lt_irrefl 0)⟩, fun x hx => by cases hx⟩
  · have each : ∀ i, i < len → ∃ v, (∃ c, c.length = d.sz ∧ d.K w v c ∧ ∀ j u, c[j]? = some u → w.cell? (a.add (i * d.sz + j)) = some u) ∧ Q v := by
      intro i hi
      have h1 := hel i hi
      rw [List.getElem?_eq_getElem (by omega), hc] at h1
      obtain ⟨c, hcs, htr⟩ := Option.bind_eq_some_iff.1 h1
      obtain ⟨v, hk, hq⟩ := he htr
      refine ⟨v, ⟨c, d.K_len hk, hk, fun j u hu => ?_⟩, hq⟩
      have h2 := World.cells?_some hcs
      have hj := (List.getElem?_eq_some_iff.1 hu).1
      have h3 := h2.2.2 j (by rw [← d.K_len hk]; exact hj)
      rw [hu] at h3
      rw [← h3, ← Addr.add_add]
    obtain ⟨l, hl, hr⟩ := exists_list len each
    refine ⟨l, ⟨some a, cap, by rw [hl], by omega, rfl, by rw [hl]; simp only [maxLen] at hm; omega, fun _ => ⟨a, rfl, fun j p hj => (hr j p hj).1⟩⟩, fun x hx => ?_⟩
    obtain ⟨i, hi, rfl⟩ := List.getElem_of_mem hx
    exact (hr i _ (List.getElem?_eq_getElem hi)).2
/-- A struct's fields. -/
theorem openFields {P : Program} {H : Type} {enc : TypeId × Value → H} {w : World} {base : Nat} {sp : Nat → Bool} {hd : Bool} {fuel : Nat} {t : TypeId} {cs : List Value} {x : DataW H × List MemPlace} {fs : Array Field} (ht : P.underlying t = some (.struct fs))
    (h : DataW.trod enc P w base sp hd fuel t cs = some x) : cs.length = P.cellsOf t ∧ ∀ (i : Nat) (f : Field), fs[i]? = some f → ∃ n y, DataW.trod enc P w base sp hd n f.type ((cs.drop f.offset).take (P.cellsOf f.type)) = some y := by
  obtain ⟨xs, n, _, _, hl, hlen, hf⟩ := DataW.trod_struct ht h
  refine ⟨hl, fun i f hi => ?_⟩
  have h1 := hf i f hi
  have h2 : i < fs.size := (Array.getElem?_eq_some_iff.1 hi).1
  rw [List.getElem?_eq_getElem (by omega)] at h1
  exact ⟨n, _, h1⟩
end Go.Proofs.Ytiaajmiphnjgaaa.Op
end
section
/- The row of the law ShamirSecretShiftIsBijective, out of its plain law and the walk. -/
namespace Go.Proofs.Ytiaajmiphnjgaaa.shamirSecretShiftIsBijective
open Go.ChangeShapes Go.WideShapes Go.ChangeAt Go.RowKit Go.Proofs.Ytiaajmiphnjgaaa.Pr Go.Proofs.YtiaajmiphnjgaaaW.PrintWords
set_option linter.unusedVariables false
theorem own : ownKnob Try.prog.godebug = none := by kernel_rfl
theorem laidOut : laidOutB Try.prog = true := by kernel_rfl
theorem arr4 (cs : Array Value) (h : cs.size = 4) : ∃ c0_ c1_ c2_ c3_, cs = #[c0_, c1_, c2_, c3_] := by
  obtain ⟨l_⟩ := cs
  match l_, h with
  | [c0_, c1_, c2_, c3_], _ => exact ⟨_, _, _, _, rfl⟩
set_option maxHeartbeats 4000000 in
set_option maxRecDepth 100000 in
theorem lifted (os : Os) (started : os.Started) (H : Type) (enc : TypeId × Value → H) :
    ReturnsInHanded {} Try.checked os 8 .any (Rows.shamirSecretShiftIsBijectiveSpec.pre6 enc Try.prog Try.f8 Rows.shamirSecretShiftIsBijectiveRow.domain false) (Rows.shamirSecretShiftIsBijectiveSpec.post enc Try.prog Try.f8 false true false false) := by
  refine returnsInHanded_of_change_sized (C := Try.checked) own started (by kernel_rfl) Try.func8
    (ChangeSpec.witness6 (enc := enc) (C := Try.checked) false ⟨#[], #[.agg #[.int .u64 0, .slice none 0 0, .slice none 0 0, .int .u64 0]], []⟩ 8 (by kernel_rfl) (by kernel_rfl) (by kernel_rfl) (by kernel_rfl)) ?_
  intro W base args ds gs before hval0 hW hcnd hsz0 _
  have hval : ∀ (j : Nat) t v, Try.f8.params[j]? = some t → args[j]? = some v → Value.okWide Try.prog W .any base t v := hval0
  have hW' := hW
  obtain ⟨p, q, hA0, hV, rfl, hfz, hnd⟩ := hW
  have hA : DataW.TrodAll enc Try.prog W 0 (fun _ => true) true Try.f8.params.toList args.toList ds p := hA0
  rw [Try.params8] at hA hval
  obtain ⟨v0, vs0, d0, ds0, p0, q0, hargs, rfl, rfl, h0, r0⟩ := trodAll_cons hA
  obtain ⟨rfl, rfl, rfl⟩ := trodAll_nil r0
  obtain rfl : args = #[v0] := by cases args; simp_all
  obtain ⟨rfl, rfl⟩ := trodVars_none hV
  have k0 := h0
  have lt0 : ∀ x ∈ p0, x.block < W.heap.size := by obtain ⟨m, hm⟩ := k0; exact DataW.trod_lt m _ _ _ hm
  obtain ⟨cs0, rfl, hs0⟩ := okWide_struct Try.underlying46 (hval 0 46 v0 rfl rfl)
  have hN0 : Try.prog.cellsOf 46 = 4 := by kernel_rfl
  rw [hN0] at hs0
  obtain ⟨x0_0, x0_1, x0_2, x0_3, rfl⟩ := arr4 cs0 hs0
  obtain ⟨fu0, hf0⟩ := h0
  have hg0 : DataW.trod enc Try.prog W 0 (fun _ => true) true fu0 46 [x0_0, x0_1, x0_2, x0_3] = some (d0, p0) := hf0
  have f0 := (Op.openFields Try.underlying46 hg0).2
  obtain ⟨n0_0, y0_0, e0_0⟩ := f0 0 _ rfl
  have b0_0 : DataW.trod enc Try.prog W 0 (fun _ => true) true n0_0 22 [x0_0] = some y0_0 := e0_0
  obtain ⟨a0_0, e0_0, w0_0⟩ := (Op.openInt (k := .u64) Try.underlying22) b0_0
  cases e0_0
  obtain ⟨n0_1, y0_1, e0_1⟩ := f0 1 _ rfl
  have b0_1 : DataW.trod enc Try.prog W 0 (fun _ => true) true n0_1 23 [x0_1] = some y0_1 := e0_1
  obtain ⟨z0_1, ⟨A0_1, c0_1, e0_1, hc0_1, g0_1⟩, w0_1⟩ := (Op.openSlice (d := (Kd.int .u64)) Try.underlying23 (by kernel_rfl) (Op.openInt (k := .u64) Try.underlying22)) b0_1
  cases e0_1
  obtain ⟨n0_2, y0_2, e0_2⟩ := f0 2 _ rfl
  have b0_2 : DataW.trod enc Try.prog W 0 (fun _ => true) true n0_2 23 [x0_2] = some y0_2 := e0_2
  obtain ⟨z0_2, ⟨A0_2, c0_2, e0_2, hc0_2, g0_2⟩, w0_2⟩ := (Op.openSlice (d := (Kd.int .u64)) Try.underlying23 (by kernel_rfl) (Op.openInt (k := .u64) Try.underlying22)) b0_2
  cases e0_2
  obtain ⟨n0_3, y0_3, e0_3⟩ := f0 3 _ rfl
  have b0_3 : DataW.trod enc Try.prog W 0 (fun _ => true) true n0_3 22 [x0_3] = some y0_3 := e0_3
  obtain ⟨a0_3, e0_3, w0_3⟩ := (Op.openInt (k := .u64) Try.underlying22) b0_3
  cases e0_3
  clear hA0 hval0 hsz0
  obtain ⟨kk, hk⟩ := Pure.ShamirSecretShiftIsBijective a0_0 z0_1 z0_2 a0_3 w0_0 w0_1 w0_2 w0_3
  refine (privitylaw09_ShamirSecretShiftIsBijective.calls kk a0_0 _ _ z0_1 _ _ z0_2 a0_3 true W g0_1 hc0_1 g0_2 hc0_2 hk).mono fun e W' ⟨he, bel⟩ => ?_
  subst he
  exact ⟨_, rfl, _, _, _, [], _, [], hW', trodAll_mk1 (shut_bool Try.underlying4 _), (trodAll_cons_mk (Below.trod laidOut (by kernel_rfl) (of_decide_eq_true (by kernel_rfl)) k0 bel lt0) trodAll_mk0), rfl, bel.frame _, fun h => by cases h⟩
theorem over : Rows.shamirSecretShiftIsBijectiveRow.holds Try.pinned (OpenSpec.ofChange Rows.shamirSecretShiftIsBijectiveSpec) :=
  OpenClaim.holds_of_wide 8 Try.f8 rfl rfl rfl rfl rfl rfl rfl ⟨rfl, rfl, rfl, rfl, rfl⟩ rfl rfl rfl rfl rfl (by kernel_rfl) Try.func8 (by kernel_rfl)
    (of_decide_eq_true (by kernel_rfl)) (by unfold Func.isWrapper; first | (rw [if_pos (by decide +kernel)]; kernel_rfl) | (rw [if_neg (by decide +kernel)]; exact ⟨rfl, rfl⟩))
    (fun os started H enc _ => lifted os started H enc)
theorem proved : Rows.ShamirSecretShiftIsBijectiveSaid := over
#print axioms proved
end Go.Proofs.Ytiaajmiphnjgaaa.shamirSecretShiftIsBijective
namespace Go.Proofs.Ytiaajmiphnjgaaa
/-- The row, under a short name, for the claim. -/
theorem shamirSecretShiftIsBijective_holds : Rows.ShamirSecretShiftIsBijectiveSaid := shamirSecretShiftIsBijective.proved
end Go.Proofs.Ytiaajmiphnjgaaa
end
