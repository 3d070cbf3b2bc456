/- The row of the law BivariateSharesAndSums, out of its plain law and the walk. -/
import Derived.Test.YtkhdocabgmemiaaZSharesAndSums2
import Derived.Test.YtkhdocabgmemiaaZSharesAndSums6
import Derived.Test.YtkhdocabgmemiaaZSharesAndSums7
import Derived.Test.YtkhdocabgmemiaaZSharesAndSums3
import Derived.Test.YtkhdocabgmemiaaZSharesAndSums4
import Derived.Test.YtkhdocabgmemiaaZSharesAndSums5
import Derived.Test.YtkhdocabgmemiaaZSharesAndSums8
import Derived.Test.YtkhdocabgmemiaaProg
import Derived.ChangeArms
import Derived.DataReads
import Derived.DataElems
import Derived.ShutString
import Derived.ChangeSame
import Derived.Test.YtkhdocabgmemiaaZSharesAndSums0
import Derived.Test.YtkhdocabgmemiaaRows
import Derived.WalkKit
import Derived.ProofKit
import Derived.OpenShut
import Derived.ChangeOld
import Derived.Below
import Derived.SizedLaws
section
/- Printed by a program of this seat (the kit's printer, with the functions that were proved by hand given to it). What stands here: the functions that the statements reach, as plain functions, and that the Go code computes them. -/
namespace Go.Proofs.Ytkhdocabgmemiaa.Pr
open Go.RowKit Go.Proofs.YtkhdocabgmemiaaW.PrintWords Go.Proofs.YtkhdocabgmemiaaW.PrintLast Go.Proofs.YtkhdocabgmemiaaW.PrintMore
attribute [local go_sem] max2_int min2_int max_two min_two max_three min_three max_four min_four   -- for this text's walks alone
set_option linter.unusedVariables false
set_option linter.unusedSimpArgs false

open Go.Proofs.Ytkhdocabgmemiaa.Hw
/-! ### privitylaw10_validRows: function 19 -/
/-! ### privityref01_Add: function 41 -/
/-! ### privityref01_Mul: function 52 -/
/-! ### privityref10_Value: function 21 -/
end Go.Proofs.Ytkhdocabgmemiaa.Pr
end
section
/- Printed by a program of this seat (the kit's printer, with the functions that were proved by hand given to it). What stands here: the functions that the statements reach, as plain functions, and that the Go code computes them. -/
namespace Go.Proofs.Ytkhdocabgmemiaa.Pr
open Go.RowKit Go.Proofs.YtkhdocabgmemiaaW.PrintWords Go.Proofs.YtkhdocabgmemiaaW.PrintLast Go.Proofs.YtkhdocabgmemiaaW.PrintMore
attribute [local go_sem] max2_int min2_int max_two min_two max_three min_three max_four min_four   -- for this text's walks alone
set_option linter.unusedVariables false
set_option linter.unusedSimpArgs false

open Go.Proofs.Ytkhdocabgmemiaa.Hw
/-! ### privityref01_Sub: function 46 -/
/-! ### privityref01_Pow: function 68 -/
/-! ### privityref01_Inverse: function 54 -/
end Go.Proofs.Ytkhdocabgmemiaa.Pr
end
section
/-
  The reference of layer 1: what its printed functions answer.
-/
namespace Go.Proofs.Ytkhdocabgmemiaa.E
open Go.RowKit Go.Proofs.Ytkhdocabgmemiaa.Pr Go.Proofs.Ytkhdocabgmemiaa.Hw Go.Proofs.YtkhdocabgmemiaaW.PrintWords Go.Proofs.YtkhdocabgmemiaaW.PrintLast Go.Proofs.YtkhdocabgmemiaaW.PrintMore
set_option linter.unusedVariables false
set_option linter.unusedSimpArgs false

theorem wcap {n : Int} (h : 0 ≤ n) (h2 : n < 9223372036854775808) : wrap64 n = n := by unfold wrap64; omega
theorem wnat {n : Nat} (h : n < 1099511627776) : wrap64 ((n : Int) + 1) = ((n + 1 : Nat) : Int) := by rw [wcap (by omega) (by omega)]; omega
/-- From the end back to the start. -/
theorem up {Q : Nat → Prop} {n : Nat} (hn : Q n) (hs : ∀ i, i < n → Q (i + 1) → Q i) : Q 0 := by
  have : ∀ d, d ≤ n → Q (n - d) := by
    intro d
    induction d with
    | zero => intro _; exact hn
    | succ d ih =>
      intro h
      have h1 := ih (by omega)
      refine hs (n - (d + 1)) (by omega) ?_
      rwa [show n - (d + 1) + 1 = n - d from by omega]
  have := this n (Nat.le_refl _)
  rwa [Nat.sub_self] at this
theorem exponent_eq (p : Int) : privityref01_Exponent.f 10 p = if p = 31 then some 5 else if p = 127 then some 7 else if p = 8191 then some 13 else if p = 131071 then some 17 else if p = 524287 then some 19 else if p = 2147483647 then some 31 else if p = 2305843009213693951 then some 61 else some 0 := by kernel_rfl
theorem supported_ev (p : Int) : Ev (fun k => privityref01_Supported.f k p) (supB p) := by
  refine Ev.of (fun k => privityref01_Supported.mono _ _) (k := 10) ?_
  show (privityref01_Exponent.f 10 p).bind _ = _
  rw [exponent_eq]
  unfold supB
  by_cases h1 : p = 31
  · subst h1; rfl
  by_cases h2 : p = 127
  · subst h2; rfl
  by_cases h3 : p = 8191
  · subst h3; rfl
  by_cases h4 : p = 131071
  · subst h4; rfl
  by_cases h5 : p = 524287
  · subst h5; rfl
  by_cases h6 : p = 2147483647
  · subst h6; rfl
  by_cases h7 : p = 2305843009213693951
  · subst h7; rfl
  rw [if_neg h1, if_neg h2, if_neg h3, if_neg h4, if_neg h5, if_neg h6, if_neg h7]
  simp [h1, h2, h3, h4, h5, h6, h7]
end Go.Proofs.Ytkhdocabgmemiaa.E
end
section
/-
  Guards, sums, and the hand-proved functions' answers, for the statements.
-/
namespace Go.Proofs.Ytkhdocabgmemiaa.E
open Go.RowKit Go.Proofs.Ytkhdocabgmemiaa.Pr Go.Proofs.Ytkhdocabgmemiaa.Hw Go.Proofs.Ytkhdocabgmemiaa.Pl Go.Proofs.YtkhdocabgmemiaaW.PrintWords Go.Proofs.YtkhdocabgmemiaaW.PrintLast Go.Proofs.YtkhdocabgmemiaaW.PrintMore
set_option linter.unusedVariables false
set_option linter.unusedSimpArgs false

theorem wf64 {x : Int} (h : (Lit.int .u64 x).wf = true) : 0 ≤ x ∧ x < 18446744073709551616 := by
  have h1 : IntKind.u64.min ≤ x ∧ x ≤ IntKind.u64.max := by simpa [Lit.wf] using h
  have e1 : IntKind.u64.min = 0 := by decide
  have e2 : IntKind.u64.max = 18446744073709551615 := by decide
  omega
/-- A check, and both ways on. -/
theorem ev_if {α : Type} {A : Nat → Option Bool} {b : Bool} (hA : Ev A b) {X Y : Nat → Option α} {r : α} (hx : b = true → Ev X r) (hy : b = false → Ev Y r) : Ev (fun k => (A k).bind fun t => if t = true then X k else Y k) r := by
  refine Ev.bind (f := fun k t => if t = true then X k else Y k) hA ?_
  cases b with
  | true => exact (hx rfl).congr fun k => if_pos rfl
  | false => exact (hy rfl).congr fun k => if_neg (by simp)
theorem ev_ite {α : Type} {c : Prop} [Decidable c] {X Y : Nat → Option α} {r : α} (hx : c → Ev X r) (hy : ¬ c → Ev Y r) : Ev (fun k => if c then X k else Y k) r := by
  by_cases h : c
  · exact (hx h).congr fun k => if_pos h
  · exact (hy h).congr fun k => if_neg h
/-- A check whose negation is handed on. -/
theorem ev_now_bind {α β : Type} {x : Option α} {a : α} (hx : x = some a) {f : Nat → α → Option β} {r : β} (h : Ev (fun k => f k a) r) : Ev (fun k => x.bind (f k)) r := by subst hx; exact h
end Go.Proofs.Ytkhdocabgmemiaa.E
end
section
/-
  Chapter 10: what the printed functions on matrices answer.
-/
namespace Go.Proofs.Ytkhdocabgmemiaa.E
open Go.RowKit Go.Proofs.Ytkhdocabgmemiaa.Pr Go.Proofs.Ytkhdocabgmemiaa.Hw Go.Proofs.Ytkhdocabgmemiaa.Pl Go.Proofs.YtkhdocabgmemiaaW.PrintWords Go.Proofs.YtkhdocabgmemiaaW.PrintLast Go.Proofs.YtkhdocabgmemiaaW.PrintMore
set_option linter.unusedVariables false
set_option linter.unusedSimpArgs false

theorem rdM_nat (l : List (List Int)) (i : Nat) : rd_L1 l (i : Int) = l.getD i [] := by unfold rd_L1; rw [Int.toNat_natCast]
theorem rd_at2 (s : List (List Int)) (i j : Nat) : rd (rd_L1 s (i : Int)) (j : Int) = at2 s i j := by rw [rdM_nat]; exact rd_nat _ j
/-- A loop that answers false at the first i that Q does not hold of, and goes on with e behind it. -/
theorem allL {F : Nat → Int → Option Bool} {n : Nat} {Q : Nat → Prop} [DecidablePred Q] {e : Bool} (hend : Ev (fun k => F k (n : Int)) e) (hyes : ∀ i, i < n → Q i → ∀ r, Ev (fun k => F k ((i + 1 : Nat) : Int)) r → Ev (fun k => F k (i : Int)) r)
    (hno : ∀ i, i < n → ¬ Q i → Ev (fun k => F k (i : Int)) false) (r : Bool) (hr : r = true ↔ ((∀ i, i < n → Q i) ∧ e = true)) : Ev (fun k => F k ((0 : Nat) : Int)) r := by
  by_cases hall : ∀ i, i < n → Q i
  · have : r = e := by
      cases e with
      | true => exact hr.2 ⟨hall, rfl⟩
      | false => exact Bool.eq_false_iff.mpr fun h => by have := (hr.1 h).2; cases this
    rw [this]
    exact up (Q := fun i => Ev (fun k => F k (i : Int)) e) (n := n) hend fun i hi h => hyes i hi (hall i hi) e h
  · have hf : r = false := Bool.eq_false_iff.mpr fun h => hall (hr.1 h).1
    rw [hf]
    obtain ⟨i, hi, hq⟩ : ∃ i, i < n ∧ ¬ Q i := Classical.byContradiction fun h => hall fun i hi => Classical.byContradiction fun hq => h ⟨i, hi, hq⟩
    refine up (Q := fun i => Ev (fun k => F k (i : Int)) false) (n := i) (hno i hi hq) fun j hj h => ?_
    by_cases hqj : Q j
    · exact hyes j (by omega) hqj false h
    · exact hno j (by omega) hqj
theorem getD_mem {a : List (List Int)} {i : Nat} (hi : i < a.length) : a.getD i [] ∈ a := by
  rw [List.getD_eq_getElem?_getD, List.getElem?_eq_getElem hi]; exact List.getElem_mem hi
/-- At most m words, all below p. -/
def belB (p : Int) (l : List Int) (m : Nat) : Bool := decide (l.length ≤ m) && l.all fun x => decide (x < p)
theorem bel_ev (p : Int) (l : List Int) (m : Nat) (hm : m ≤ 1000) : Ev (fun k => privityref06_Below.f k p l (m : Int)) (belB p l m) := by
  have hend : ∀ i : Nat, Ev (fun k => privityref06_Below.j1 k p l (m : Int) (i : Int) false) (decide (l.length ≤ m)) := fun i => by
    refine Ev.step (fun k => ?_) (Ev.now _)
    simp only [privityref06_Below.j1]
    rw [if_neg (by simp)]
    exact congrArg some (decide_eq_decide.2 (by omega))
  have hin : ∀ i : Nat, i < l.length → i ≤ m → ∀ k, privityref06_Below.l0 (k + 1) p l (m : Int) (i : Int) = privityref06_Below.j1 k p l (m : Int) (i : Int) true := fun i h1 h2 k => by
    simp only [privityref06_Below.l0]
    rw [if_pos (by omega), decide_eq_true (by omega)]
  have hj : ∀ i : Nat, i < l.length → i ≤ m → ∀ k, privityref06_Below.j1 (k + 1) p l (m : Int) (i : Int) true = if l.getD i 0 ≥ p then some false else privityref06_Below.l0 k p l (m : Int) ((i + 1 : Nat) : Int) := fun i h1 h2 k => by
    simp only [privityref06_Below.j1]
    rw [if_pos trivial, if_pos (by omega), if_pos (by omega), rd_nat, wnat (by omega)]
  have h := allL (F := fun k i => privityref06_Below.l0 k p l (m : Int) i) (n := min l.length (m + 1)) (Q := fun i => l.getD i 0 < p) (e := decide (l.length ≤ m)) ?_ (fun i hi hq r h => ?_) (fun i hi hq => ?_) (belB p l m) ?_
  · exact h.congr fun k => rfl
  · by_cases hlm : l.length ≤ m
    · rw [show min l.length (m + 1) = l.length from by omega]
      refine Ev.step (f := fun k => privityref06_Below.j1 k p l (m : Int) (l.length : Int) false) (fun k => ?_) (hend _)
      simp only [privityref06_Below.l0]
      rw [if_neg (by omega)]
    · rw [show min l.length (m + 1) = m + 1 from by omega]
      refine Ev.step (f := fun k => privityref06_Below.j1 k p l (m : Int) ((m + 1 : Nat) : Int) false) (fun k => ?_) (hend _)
      simp only [privityref06_Below.l0]
      by_cases h2 : ((m + 1 : Nat) : Int) < (l.length : Int)
      · rw [if_pos h2, decide_eq_false (by omega)]
      · rw [if_neg h2]
  · exact Ev.step (hin i (by omega) (by omega)) (Ev.step (hj i (by omega) (by omega)) (h.congr fun k => if_neg (by omega)))
  · exact Ev.step (hin i (by omega) (by omega)) (Ev.step (hj i (by omega) (by omega)) ((Ev.now false).congr fun k => if_pos (by omega)))
  · unfold belB
    rw [Bool.and_eq_true, decide_eq_true_iff, List.all_eq_true]
    constructor
    · rintro ⟨h1, h2⟩
      refine ⟨fun i hi => ?_, h1⟩
      rw [Hw.getD_in _ _ (show i < l.length by omega)]
      exact of_decide_eq_true (h2 _ (List.getElem_mem _))
    · rintro ⟨h1, h2⟩
      refine ⟨h2, fun x hx => ?_⟩
      obtain ⟨i, hi, rfl⟩ := List.getElem_of_mem hx
      have := h1 i (by omega)
      rw [Hw.getD_in _ _ hi] at this
      exact decide_eq_true this
theorem bel_res {p : Int} {l : List Int} {m : Nat} (h : belB p l m = true) (hw : ∀ x ∈ l, 0 ≤ x) : l.length ≤ m ∧ ∀ x ∈ l, Res p x := by
  unfold belB at h
  rw [Bool.and_eq_true, decide_eq_true_iff, List.all_eq_true] at h
  exact ⟨h.1, fun x hx => ⟨hw x hx, of_decide_eq_true (h.2 x hx)⟩⟩
def fairB (p : Int) (s : List (List Int)) (m : Nat) : Bool := supB p && (decide (s.length ≤ m) && s.all fun r => belB p r m)
theorem fair_ev (p : Int) (s : List (List Int)) (m : Nat) (hm0 : m ≤ 1000) : Ev (fun k => privityref06_Fair.f k p s (m : Int)) (fairB p s m) := by
  have hno : Ev (fun k => privityref06_Fair.j0 k p s (m : Int) true) false := Ev.step (f := fun _ => some false) (fun k => by simp only [privityref06_Fair.j0]; rw [if_pos trivial]) (Ev.now _)
  unfold fairB
  refine ev_if (supported_ev p) (fun hs => ?_) (fun hs => by rw [hs]; exact hno)
  rw [hs, Bool.true_and]
  by_cases hm : s.length ≤ m
  · rw [decide_eq_true hm, Bool.true_and, decide_eq_false (by omega)]
    have hst : ∀ i, i < s.length → ∀ k, privityref06_Fair.l0 (k + 1) p s (m : Int) (i : Int) = (privityref06_Below.f k p (s.getD i []) (m : Int)).bind fun t => (if t = true then (privityref06_Fair.l0 k p s (m : Int) ((i + 1 : Nat) : Int)) else (some false)) := fun i hi k => by
      simp only [privityref06_Fair.l0]
      rw [if_pos (by omega), if_pos (by omega), rdM_nat, wnat (by omega)]
    have hb := fun i (hi : i < s.length) => bel_ev p (s.getD i []) m hm0
    have h := allL (F := fun k i => privityref06_Fair.l0 k p s (m : Int) i) (n := s.length) (Q := fun i => belB p (s.getD i []) m = true) (e := true) ?_ (fun i hi hq r h => ?_) (fun i hi hq => ?_) (s.all fun r => belB p r m) ?_
    · refine Ev.step (fun k => ?_) h
      simp only [privityref06_Fair.j0]
      rw [if_neg (by simp)]; rfl
    · refine Ev.step (fun k => ?_) (Ev.now _)
      simp only [privityref06_Fair.l0]
      rw [if_neg (by omega)]
    · have h1 := hb i hi
      rw [hq] at h1
      exact Ev.step (hst i hi) (ev_if h1 (fun _ => h) fun e => by cases e)
    · have h1 := hb i hi
      rw [Bool.eq_false_iff.mpr hq] at h1
      exact Ev.step (hst i hi) (ev_if h1 (fun e => by cases e) fun _ => Ev.now _)
    · rw [List.all_eq_true]
      refine ⟨fun h => ⟨fun i hi => h _ (getD_mem hi), rfl⟩, fun h x hx => ?_⟩
      obtain ⟨i, hi, rfl⟩ := List.getElem_of_mem hx
      have := h.1 i hi
      rwa [List.getD_eq_getElem?_getD, List.getElem?_eq_getElem hi] at this
  · rw [decide_eq_false hm, Bool.false_and, decide_eq_true (by omega)]
    exact hno
theorem fair_res {p : Int} {s : List (List Int)} {m : Nat} (h : fairB p s m = true) (hw : ∀ r ∈ s, ∀ x ∈ r, 0 ≤ x) : Supp p ∧ s.length ≤ m ∧ (∀ r ∈ s, r.length ≤ m) ∧ ResM p s := by
  unfold fairB at h
  rw [Bool.and_eq_true, Bool.and_eq_true, decide_eq_true_iff, List.all_eq_true] at h
  exact ⟨supB_of h.1, h.2.1, fun r hr => (bel_res (h.2.2 r hr) (hw r hr)).1, fun r hr => (bel_res (h.2.2 r hr) (hw r hr)).2⟩
def sqB (s : List (List Int)) : Bool := (s.all fun r => decide (r.length = s.length)) && decide (0 < s.length)
theorem sqB_iff {s : List (List Int)} : sqB s = true ↔ (Sq s.length s ∧ 0 < s.length) := by
  unfold sqB
  rw [Bool.and_eq_true, decide_eq_true_iff, List.all_eq_true]
  exact ⟨fun h => ⟨⟨rfl, fun r hr => of_decide_eq_true (h.1 r hr)⟩, h.2⟩, fun h => ⟨fun r hr => decide_eq_true (h.1.row r hr), h.2⟩⟩
theorem sq_iff {s : List (List Int)} : (∀ i, i < s.length → (s.getD i []).length = s.length) ↔ Sq s.length s := by
  refine ⟨fun h => ⟨rfl, fun r hr => ?_⟩, fun h i hi => h.getD i hi⟩
  obtain ⟨i, hi, rfl⟩ := List.getElem_of_mem hr
  have := h i hi
  rwa [List.getD_eq_getElem?_getD, List.getElem?_eq_getElem hi] at this
theorem square_ev (s : List (List Int)) (hl : s.length ≤ 1000000000) : Ev (fun k => privityref10_Square.f k s) (sqB s) := by
  have h := allL (F := fun k i => privityref10_Square.l0 k s i) (n := s.length) (Q := fun i => (s.getD i []).length = s.length) (e := decide (0 < s.length)) ?_ (fun i hi hq r h => ?_) (fun i hi hq => ?_) (sqB s) ?_
  · exact h.congr fun k => rfl
  · refine Ev.step (fun k => ?_) (Ev.now _)
    simp only [privityref10_Square.l0]
    rw [if_neg (by omega)]
    exact congrArg some (decide_eq_decide.2 (by omega))
  · refine Ev.step (fun k => ?_) h
    simp only [privityref10_Square.l0]
    rw [if_pos (by omega), if_pos (by omega), rdM_nat, if_pos (by omega), wnat (by omega)]
  · refine Ev.step (fun k => ?_) (Ev.now _)
    simp only [privityref10_Square.l0]
    rw [if_pos (by omega), if_pos (by omega), rdM_nat, if_neg (by omega)]
  · rw [sqB_iff, sq_iff, decide_eq_true_iff]
/-- Square, not empty, symmetric. -/
def SymP (s : List (List Int)) (i : Nat) : Prop := ∀ a, i ≤ a → a < s.length → ∀ b, b < a → at2 s a b = at2 s b a
def symPB (s : List (List Int)) (i : Nat) : Bool := (List.range s.length).all fun a => decide (a < i) || (List.range a).all fun b => decide (at2 s a b = at2 s b a)
theorem symPB_iff {s : List (List Int)} {i : Nat} : symPB s i = true ↔ SymP s i := by
  unfold symPB SymP
  simp only [List.all_eq_true, List.mem_range, Bool.or_eq_true, decide_eq_true_eq]
  exact ⟨fun h a h1 h2 b hb => (h a h2).elim (fun h3 => by omega) fun h3 => h3 b hb, fun h a h2 => (Nat.lt_or_ge a i).elim Or.inl fun h1 => Or.inr fun b hb => h a h1 h2 b hb⟩
def symB (s : List (List Int)) : Bool := sqB s && symPB s 0
theorem symB_iff {s : List (List Int)} : symB s = true ↔ (Sq s.length s ∧ 0 < s.length ∧ ∀ i, i < s.length → ∀ j, j < s.length → at2 s i j = at2 s j i) := by
  unfold symB
  rw [Bool.and_eq_true, symPB_iff, sqB_iff]
  constructor
  · rintro ⟨⟨h1, h2⟩, h3⟩
    refine ⟨h1, h2, fun i hi j hj => ?_⟩
    rcases Nat.lt_trichotomy i j with h | h | h
    · exact (h3 j (Nat.zero_le _) hj i h).symm
    · rw [h]
    · exact h3 i (Nat.zero_le _) hi j h
  · rintro ⟨h1, h2, h3⟩
    exact ⟨⟨h1, h2⟩, fun a _ ha b hb => h3 a ha b (by omega)⟩
theorem SymP.next {s : List (List Int)} {i : Nat} (hi : i < s.length) : SymP s i ↔ ((∀ j, j < i → at2 s i j = at2 s j i) ∧ SymP s (i + 1)) := by
  constructor
  · exact fun h => ⟨fun j hj => h i (Nat.le_refl _) hi j hj, fun a h1 h2 b hb => h a (by omega) h2 b hb⟩
  · rintro ⟨h1, h2⟩ a ha hl b hb
    by_cases e : a = i
    · subst e; exact h1 b hb
    · exact h2 a (by omega) hl b hb
theorem SymP.last (s : List (List Int)) : SymP s s.length := fun a h1 h2 => by omega
theorem rsym_ev (s : List (List Int)) (hl : s.length ≤ 1000000000) : Ev (fun k => privityref10_IsSymmetric.f k s) (symB s) := by
  unfold symB
  refine ev_if (square_ev s hl) (fun hs => ?_) (fun hs => by rw [hs]; exact Ev.now _)
  rw [hs, Bool.true_and]
  have hq := (sqB_iff.1 hs).1
  refine up (Q := fun i => Ev (fun k => privityref10_IsSymmetric.l0 k s (i : Int)) (symPB s i)) (n := s.length) ?_ (fun i hi h => ?_)
  · rw [symPB_iff.2 (SymP.last s)]
    refine Ev.step (fun k => ?_) (Ev.now _)
    simp only [privityref10_IsSymmetric.l0]
    rw [if_neg (by omega)]
  · have h2 := allL (F := fun k j => privityref10_IsSymmetric.l1 k s (i : Int) j) (n := i) (Q := fun j => at2 s i j = at2 s j i) (e := symPB s (i + 1)) ?_ (fun j hj hqj r h => ?_) (fun j hj hqj => ?_) (symPB s i) (by rw [symPB_iff, symPB_iff]; exact SymP.next hi)
    · refine Ev.step (fun k => ?_) h2
      simp only [privityref10_IsSymmetric.l0]
      rw [if_pos (by omega)]; rfl
    · refine Ev.step (fun k => ?_) h
      simp only [privityref10_IsSymmetric.l1]
      rw [if_neg (by omega), wnat (by omega)]
    · refine Ev.step (fun k => ?_) h
      simp only [privityref10_IsSymmetric.l1]
      have l1 := hq.getD i hi
      have l2 := hq.getD j (by omega)
      rw [if_pos (by omega), if_pos (by omega), if_pos (by omega), if_pos (by omega), if_pos (by rw [rdM_nat, l1]; omega), if_pos (by omega), if_pos (by rw [rdM_nat, l2]; omega), rd_at2, rd_at2, if_pos hqj, wnat (by omega)]
    · refine Ev.step (fun k => ?_) (Ev.now _)
      simp only [privityref10_IsSymmetric.l1]
      have l1 := hq.getD i hi
      have l2 := hq.getD j (by omega)
      rw [if_pos (by omega), if_pos (by omega), if_pos (by omega), if_pos (by omega), if_pos (by rw [rdM_nat, l1]; omega), if_pos (by omega), if_pos (by rw [rdM_nat, l2]; omega), rd_at2, rd_at2, if_neg hqj]
end Go.Proofs.Ytkhdocabgmemiaa.E
end
section
/- Printed by a program of this seat (the kit's printer, with the functions that were proved by hand given to it). What stands here: the functions that the statements reach, as plain functions, and that the Go code computes them. -/
namespace Go.Proofs.Ytkhdocabgmemiaa.Pr
open Go.RowKit Go.Proofs.YtkhdocabgmemiaaW.PrintWords Go.Proofs.YtkhdocabgmemiaaW.PrintLast Go.Proofs.YtkhdocabgmemiaaW.PrintMore
attribute [local go_sem] max2_int min2_int max_two min_two max_three min_three max_four min_four   -- for this text's walks alone
set_option linter.unusedVariables false
set_option linter.unusedSimpArgs false

open Go.Proofs.Ytkhdocabgmemiaa.Hw
/-! ### privityref10_Vanish: function 25 -/
end Go.Proofs.Ytkhdocabgmemiaa.Pr
end
section
/- Printed by a program of this seat (the kit's printer, with the functions that were proved by hand given to it). What stands here: the functions that the statements reach, as plain functions, and that the Go code computes them. -/
namespace Go.Proofs.Ytkhdocabgmemiaa.Pr
open Go.RowKit Go.Proofs.YtkhdocabgmemiaaW.PrintWords Go.Proofs.YtkhdocabgmemiaaW.PrintLast Go.Proofs.YtkhdocabgmemiaaW.PrintMore
attribute [local go_sem] max2_int min2_int max_two min_two max_three min_three max_four min_four   -- for this text's walks alone
set_option linter.unusedVariables false
set_option linter.unusedSimpArgs false

open Go.Proofs.Ytkhdocabgmemiaa.Hw
/-! ### privityref10_Translate: function 27 -/
end Go.Proofs.Ytkhdocabgmemiaa.Pr
end
section
/-
  Chapter 10: rows, values, translations, vanishing polynomials.
-/
namespace Go.Proofs.Ytkhdocabgmemiaa.E
open Go.RowKit Go.Proofs.Ytkhdocabgmemiaa.Pr Go.Proofs.Ytkhdocabgmemiaa.Hw Go.Proofs.Ytkhdocabgmemiaa.Pl Go.Proofs.YtkhdocabgmemiaaW.PrintWords Go.Proofs.YtkhdocabgmemiaaW.PrintLast Go.Proofs.YtkhdocabgmemiaaW.PrintMore
set_option linter.unusedVariables false
set_option linter.unusedSimpArgs false

theorem evI_tab_next {p : Int} (hp : Supp p) [NeZero p.toNat] (x pw : Int) (h : Nat → Int) (i : Nat) (hpw : T p pw = mono (T p x) i) : (evI p x (tabL i h) + h i * pw % p) % p = evI p x (tabL (i + 1) h) := by
  refine T_inj hp (Res.mod hp _) (evI_res hp _ _) ?_
  rw [T_mod hp, T_add, T_mod hp, T_mul, T_tab hp, T_tab hp, hpw]
  rfl
theorem tabL_set (n : Nat) (h : Nat → Int) (j : Nat) (v : Int) : (tabL n h).set j v = tabL n fun i => if i = j then v else h i := by
  refine list_ext_getD (by rw [List.length_set, tabL_length, tabL_length]) fun i => ?_
  rw [tabL_getD, List.getD_eq_getElem?_getD]
  by_cases hi : i < n
  · rw [if_pos hi]
    by_cases e : i = j
    · subst e
      rw [List.getElem?_set_self (by rw [tabL_length]; exact hi), if_pos rfl]; rfl
    · rw [List.getElem?_set_ne (Ne.symm e), if_neg e, ← List.getD_eq_getElem?_getD, tabL_getD, if_pos hi]
  · rw [if_neg hi, List.getElem?_eq_none (by rw [List.length_set, tabL_length]; omega)]; rfl
def rowAcc (p : Int) (n : Nat) (g : Nat → Nat → Int) (x : Int) (i j : Nat) : List Int := tabL n fun b => if b < j then evI p x (tabL (i + 1) fun a => g a b) else evI p x (tabL i fun a => g a b)
theorem rowAcc_length (p : Int) (n : Nat) (g : Nat → Nat → Int) (x : Int) (i j : Nat) : (rowAcc p n g x i j).length = n := tabL_length _ _
theorem rowAcc_next {p : Int} (n : Nat) (g : Nat → Nat → Int) (x : Int) (i j : Nat) (hj : j < n) : (rowAcc p n g x i j).set j (evI p x (tabL (i + 1) fun a => g a j)) = rowAcc p n g x i (j + 1) := by
  unfold rowAcc
  rw [tabL_set]
  refine tabL_congr fun b hb => ?_
  by_cases e : b = j
  · subst e; rw [if_pos rfl, if_pos (by omega)]
  · rw [if_neg e]
    by_cases h : b < j
    · rw [if_pos h, if_pos (by omega)]
    · rw [if_neg h, if_neg (by omega)]
theorem rowAcc_row (p : Int) (n : Nat) (g : Nat → Nat → Int) (x : Int) (i : Nat) : rowAcc p n g x i n = rowAcc p n g x (i + 1) 0 := tabL_congr fun b hb => by rw [if_pos hb, if_neg (by omega)]
theorem brow_ev {p : Int} (hp : Supp p) {n : Nat} {s : List (List Int)} (hq : Sq n s) (hr : ResM p s) (hn : n ≤ 1000) {x : Int} (hx : Res p x) : Ev (fun k => bivariate_Row.f k p s x) (rowX p n (at2 s) x) := by
  haveI := nz hp
  have hb := hp.bd
  have hl := hq.len
  have main : Ev (fun k => bivariate_Row.l0 k p x (rowAcc p n (at2 s) x 0 0) 1 s (s.length : Int) ((0 : Nat) : Int)) (rowX p n (at2 s) x) := by
    refine up (Q := fun i => ∀ pw, Res p pw → T p pw = mono (T p x) i → Ev (fun k => bivariate_Row.l0 k p x (rowAcc p n (at2 s) x i 0) pw s (s.length : Int) (i : Int)) (rowX p n (at2 s) x)) (n := n) ?_ (fun i hi h => ?_) 1 ⟨by omega, by omega⟩ T_one
    · intro pw _ _
      have e : rowAcc p n (at2 s) x n 0 = rowX p n (at2 s) x := tabL_congr fun b hb => by rw [if_neg (by omega)]
      refine Ev.step (f := fun _ => some (rowX p n (at2 s) x)) (fun k => ?_) (Ev.now _)
      simp only [bivariate_Row.l0]
      rw [if_neg (by omega), e]
    · intro pw hpw hT
      have hri := hq.getD i hi
      have hrl : (rd_L1 s (i : Int)).length = n := by rw [rdM_nat]; exact hri
      have hin : Ev (fun k => bivariate_Row.l1 k p x (rowAcc p n (at2 s) x i 0) pw s (s.length : Int) (i : Int) (rd_L1 s (i : Int)) ((rd_L1 s (i : Int)).length : Int) ((0 : Nat) : Int)) (rowX p n (at2 s) x) := by
        refine up (Q := fun j => Ev (fun k => bivariate_Row.l1 k p x (rowAcc p n (at2 s) x i j) pw s (s.length : Int) (i : Int) (rd_L1 s (i : Int)) ((rd_L1 s (i : Int)).length : Int) (j : Int)) (rowX p n (at2 s) x)) (n := n) ?_ (fun j hj h2 => ?_)
        · rw [rowAcc_row]
          refine Ev.step (f := fun k => (field_Mul.f k p pw x).bind fun t => bivariate_Row.l0 k p x (rowAcc p n (at2 s) x (i + 1) 0) t s (s.length : Int) ((i + 1 : Nat) : Int)) (fun k => ?_) (Ev.bind (mul_ev hp hpw hx) (h _ (Res.mod hp _) ?_))
          · simp only [bivariate_Row.l1]
            rw [if_neg (by omega), wnat (by omega)]
          · rw [T_mod hp, T_mul, hT]
            show _ = T p x * mono (T p x) i
            grind
        · have hal := rowAcc_length p n (at2 s) x i j
          have hacc : rd (rowAcc p n (at2 s) x i j) (j : Int) = evI p x (tabL i fun a => at2 s a j) := by
            rw [rd_nat]
            unfold rowAcc
            rw [tabL_getD, if_pos hj, if_neg (by omega)]
          rw [← rowAcc_next n (at2 s) x i j hj, ← evI_tab_next hp x pw (fun a => at2 s a j) i hT] at h2
          refine Ev.step (f := fun k => (field_Mul.f k p (at2 s i j) pw).bind fun t => ((field_Add.f k p (evI p x (tabL i fun a => at2 s a j)) t).bind fun t2 => bivariate_Row.l1 k p x ((rowAcc p n (at2 s) x i j).set j t2) pw s (s.length : Int) (i : Int) (rd_L1 s (i : Int)) ((rd_L1 s (i : Int)).length : Int) ((j + 1 : Nat) : Int))) (fun k => ?_) (Ev.bind (mul_ev hp (hr.at2 hp i j) hpw) (Ev.bind (add_ev hp (evI_res hp _ _) (Res.mod hp _)) h2))
          simp only [bivariate_Row.l1]
          rw [if_pos (by omega), if_pos (by omega), if_pos (by omega), if_pos (by omega), rd_at2, hacc, wnat (by omega), Int.toNat_natCast]
      refine Ev.step (fun k => ?_) hin
      simp only [bivariate_Row.l0]
      rw [if_pos (by omega), if_pos (by omega), if_pos (by omega)]; rfl
  have e0 : List.replicate s.length (0 : Int) = rowAcc p n (at2 s) x 0 0 := by
    refine list_ext_getD (by rw [List.length_replicate, rowAcc_length, hl]) fun i => ?_
    unfold rowAcc
    rw [tabL_getD, List.getD_eq_getElem?_getD, List.getElem?_replicate, hl]
    by_cases hi : i < n
    · rw [if_pos hi, if_pos hi, if_neg (by omega)]; rfl
    · rw [if_neg hi, if_neg hi]; rfl
  refine main.congr fun k => ?_
  unfold bivariate_Row.f
  rw [if_pos (by omega), Int.toNat_natCast, if_pos (by omega), e0]; rfl
theorem unlike_l1 (l : List Int) (hl : l.length ≤ 1000000) (i : Nat) (hi : i < l.length) {r : Bool} (h : Ev (fun k => privityref10_Unlike.l0 k l ((i + 1 : Nat) : Int)) r) : Ev (fun k => privityref10_Unlike.l1 k l (i : Int) ((0 : Nat) : Int)) (decide (∀ j, j < i → l.getD i 0 ≠ l.getD j 0) && r) := by
  refine allL (F := fun k j => privityref10_Unlike.l1 k l (i : Int) j) (n := i) (Q := fun j => l.getD i 0 ≠ l.getD j 0) (e := r) ?_ (fun j hj hq r h => ?_) (fun j hj hq => ?_) _ (by rw [Bool.and_eq_true, decide_eq_true_iff])
  · refine Ev.step (fun k => ?_) h
    simp only [privityref10_Unlike.l1]
    rw [if_neg (by omega), wnat (by omega)]
  · refine Ev.step (fun k => ?_) h
    simp only [privityref10_Unlike.l1]
    rw [if_pos (by omega), if_pos (by omega), if_pos (by omega), if_pos (by omega), if_pos (by omega), rd_nat, rd_nat, if_neg hq, wnat (by omega)]
  · refine Ev.step (fun k => ?_) (Ev.now _)
    simp only [privityref10_Unlike.l1]
    rw [if_pos (by omega), if_pos (by omega), if_pos (by omega), if_pos (by omega), if_pos (by omega), rd_nat, rd_nat, if_pos (Classical.byContradiction hq)]
theorem take_nodup {l : List Int} {i : Nat} (hi : i < l.length) : (l.take (i + 1)).Nodup ↔ ((l.take i).Nodup ∧ ∀ j, j < i → l.getD i 0 ≠ l.getD j 0) := by
  rw [List.take_succ_eq_append_getElem hi, List.nodup_append]
  constructor
  · rintro ⟨h1, _, h3⟩
    refine ⟨h1, fun j hj e => ?_⟩
    rw [Hw.getD_in _ _ hi, Hw.getD_in _ _ (show j < l.length by omega)] at e
    refine h3 l[j] (List.mem_take_iff_getElem.2 ⟨j, by omega, rfl⟩) l[i] (by simp) e.symm
  · rintro ⟨h1, h2⟩
    refine ⟨h1, by simp, fun a ha b hb e => ?_⟩
    obtain ⟨j, hj, rfl⟩ := List.mem_take_iff_getElem.1 ha
    simp only [List.mem_cons, List.not_mem_nil, or_false] at hb
    have := h2 j (by omega)
    rw [Hw.getD_in _ _ hi, Hw.getD_in _ _ (show j < l.length by omega)] at this
    exact this (by rw [← hb, e])
theorem unlike10_ev (l : List Int) (hl : l.length ≤ 1000000) : Ev (fun k => privityref10_Unlike.f k l) (decide l.Nodup) := by
  have main : Ev (fun k => privityref10_Unlike.l0 k l ((0 : Nat) : Int)) (decide l.Nodup) := by
    by_cases hn : l.Nodup
    · rw [decide_eq_true hn]
      refine up (Q := fun i => Ev (fun k => privityref10_Unlike.l0 k l (i : Int)) true) (n := l.length) ?_ (fun i hi h => ?_)
      · refine Ev.step (fun k => ?_) (Ev.now _)
        simp only [privityref10_Unlike.l0]
        rw [if_neg (by omega)]
      · have h1 := unlike_l1 l hl i hi h
        have h2 : (∀ j, j < i → l.getD i 0 ≠ l.getD j 0) := (take_nodup hi).1 (hn.sublist (List.take_sublist _ _)) |>.2
        rw [decide_eq_true h2, Bool.true_and] at h1
        refine Ev.step (fun k => ?_) h1
        simp only [privityref10_Unlike.l0]
        rw [if_pos (by omega)]; rfl
    · rw [decide_eq_false hn]
      have hex : ∃ i, i < l.length ∧ ¬ (∀ j, j < i → l.getD i 0 ≠ l.getD j 0) := Classical.byContradiction fun h => hn (by
        have hall : ∀ m, m ≤ l.length → (l.take m).Nodup := by
          intro m
          induction m with
          | zero => intro _; simp
          | succ m ih => intro hm; exact (take_nodup (by omega)).2 ⟨ih (by omega), Classical.byContradiction fun hq => h ⟨m, by omega, hq⟩⟩
        have := hall l.length (Nat.le_refl _)
        rwa [List.take_length] at this)
      have hend : Ev (fun k => privityref10_Unlike.l0 k l (l.length : Int)) true := by
        refine Ev.step (fun k => ?_) (Ev.now _)
        simp only [privityref10_Unlike.l0]
        rw [if_neg (by omega)]
      obtain ⟨i, hi, hq⟩ := hex
      have hany : ∀ d j, j + d = l.length → ∃ r, Ev (fun k => privityref10_Unlike.l0 k l (j : Int)) r := by
        intro d
        induction d with
        | zero => intro j hj; exact ⟨true, by rw [show j = l.length from by omega]; exact hend⟩
        | succ d ih =>
          intro j hj
          obtain ⟨r, h⟩ := ih (j + 1) (by omega)
          refine ⟨_, Ev.step (fun k => ?_) (unlike_l1 l hl j (by omega) h)⟩
          simp only [privityref10_Unlike.l0]
          rw [if_pos (by omega)]; rfl
      refine up (Q := fun j => Ev (fun k => privityref10_Unlike.l0 k l (j : Int)) false) (n := i) ?_ (fun j hj h => ?_)
      · obtain ⟨r, h⟩ := hany (l.length - (i + 1)) (i + 1) (by omega)
        have h1 := unlike_l1 l hl i hi h
        rw [decide_eq_false hq, Bool.false_and] at h1
        refine Ev.step (fun k => ?_) h1
        simp only [privityref10_Unlike.l0]
        rw [if_pos (by omega)]; rfl
      · have h1 := unlike_l1 l hl j (by omega) h
        rw [Bool.and_false] at h1
        refine Ev.step (fun k => ?_) h1
        simp only [privityref10_Unlike.l0]
        rw [if_pos (by omega)]; rfl
  exact main.congr fun k => rfl
/-! A check that leads to facts. -/
theorem ex_if {P : Prop} {A : Nat → Option Bool} {b : Bool} (hA : Ev A b) {X Y : Nat → Option Bool} (hx : b = true → ∃ r, Ev X r ∧ (r = true → P)) (hy : b = false → Ev Y false) : ∃ r, Ev (fun k => (A k).bind fun t => if t = true then X k else Y k) r ∧ (r = true → P) := by
  cases b with
  | true => obtain ⟨r, h1, h2⟩ := hx rfl; exact ⟨r, ev_if hA (fun _ => h1) (fun e => by cases e), h2⟩
  | false => exact ⟨false, ev_if hA (fun e => by cases e) (fun _ => hy rfl), fun e => by cases e⟩
theorem ex_ite {P c : Prop} [Decidable c] {X Y : Nat → Option Bool} (hx : c → ∃ r, Ev X r ∧ (r = true → P)) (hy : ¬ c → Ev Y false) : ∃ r, Ev (fun k => if c then X k else Y k) r ∧ (r = true → P) := by
  by_cases h : c
  · obtain ⟨r, h1, h2⟩ := hx h; exact ⟨r, ev_ite (fun _ => h1) (fun e => absurd h e), h2⟩
  · exact ⟨false, ev_ite (fun e => absurd e h) (fun _ => hy h), fun e => by cases e⟩
def fairS (p : Int) (s : List (List Int)) (m : Nat) : Bool := fairB p s m && sqB s
theorem fairS_ev (p : Int) (s : List (List Int)) (m : Nat) (hm0 : m ≤ 1000) : Ev (fun k => privityref10_Fair.f k p s (m : Int)) (fairS p s m) := by
  unfold fairS
  refine ev_if (fair_ev p s m hm0) (fun hf => ?_) (fun hf => by rw [hf]; exact Ev.now _)
  rw [hf, Bool.true_and]
  refine Ev.congr (fun k => ?_) (square_ev s ?_)
  · cases privityref10_Square.f k s <;> rfl
  · unfold fairB at hf
    rw [Bool.and_eq_true, Bool.and_eq_true, decide_eq_true_iff] at hf
    omega
structure Fs (p : Int) (s : List (List Int)) : Prop where
  hp : Supp p
  n0 : 0 < s.length
  n6 : s.length ≤ 6
  sq : Sq s.length s
  res : ResM p s
theorem fairS_fs {p : Int} {s : List (List Int)} (h : fairS p s 6 = true) (hw : ∀ r ∈ s, ∀ x ∈ r, 0 ≤ x) : Fs p s := by
  unfold fairS at h
  rw [Bool.and_eq_true] at h
  have h1 := fair_res h.1 hw
  have h2 := sqB_iff.1 h.2
  exact ⟨h1.1, h2.2, h1.2.1, h2.1, h1.2.2.2⟩
structure Vt (p : Int) (s : List (List Int)) (xs : List Int) (d x : Int) : Prop where
  fs : Fs p s
  sym : ∀ i, i < s.length → ∀ j, j < s.length → at2 s i j = at2 s j i
  xr : ∀ x ∈ xs, Res p x
  xl : xs.length + 1 = s.length
  nd : (0 :: xs).Nodup
  dr : Res p d
  rx : Res p x
theorem valid_ev (p : Int) (s : List (List Int)) (xs : List Int) (d x : Int) (ws : ∀ r ∈ s, ∀ x ∈ r, 0 ≤ x) (wx : ∀ x ∈ xs, 0 ≤ x) (wd : 0 ≤ d) (wx2 : 0 ≤ x) : ∃ r, Ev (fun k => privitylaw10_validTranslation.f k p s xs d x) r ∧ (r = true → Vt p s xs d x) := by
  have hno : Ev (fun k => privitylaw10_validTranslation.j0 k true p s xs d x) false := Ev.step (f := fun _ => some false) (fun k => by simp only [privitylaw10_validTranslation.j0]; rw [if_pos trivial]) (Ev.now _)
  unfold privitylaw10_validTranslation.f
  refine ex_if (fairS_ev p s 6 (by omega)) (fun h1 => ?_) (fun _ => hno)
  have hf := fairS_fs h1 ws
  have hn6 := hf.n6
  have hn0 := hf.n0
  refine ex_if (rsym_ev s (by omega)) (fun h2 => ex_if (bel_ev p xs 6 (by omega)) (fun h3 => ex_ite (fun h4 => ?_) (fun _ => hno)) (fun _ => hno)) (fun _ => hno)
  rw [w64' (by omega) (by omega)] at h4
  refine ex_if (unlike10_ev xs (by omega)) (fun h5 => ?_) (fun _ => hno)
  by_cases hd : d ≥ p
  · exact ⟨false, hno.congr fun k => if_pos hd, fun e => by cases e⟩
  · by_cases hx : x ≥ p
    · exact ⟨false, hno.congr fun k => by rw [if_neg hd, decide_eq_true hx], fun e => by cases e⟩
    · have hl := allL (F := fun k i => privitylaw10_validTranslation.l0 k i p s xs d x) (n := xs.length) (Q := fun i => xs.getD i 0 ≠ 0) (e := true) ?_ (fun i hi hq r h => ?_) (fun i hi hq => ?_) (decide (∀ i, i < xs.length → xs.getD i 0 ≠ 0)) (by rw [decide_eq_true_iff]; exact ⟨fun h => ⟨h, rfl⟩, fun h => h.1⟩)
      · refine ⟨_, Ev.congr (fun k => by rw [if_neg hd, decide_eq_false hx]) (Ev.step (f := fun k => privitylaw10_validTranslation.l0 k ((0 : Nat) : Int) p s xs d x) (fun k => ?_) hl), fun h6 => ?_⟩
        · simp only [privitylaw10_validTranslation.j0]
          rw [if_neg (by simp)]; rfl
        · rw [decide_eq_true_iff] at h6
          refine ⟨hf, (symB_iff.1 h2).2.2, (bel_res h3 wx).2, by omega, List.nodup_cons.2 ⟨fun hm => ?_, of_decide_eq_true h5⟩, ⟨wd, by omega⟩, ⟨wx2, by omega⟩⟩
          obtain ⟨i, hi, e⟩ := List.getElem_of_mem hm
          exact h6 i hi (by rw [Hw.getD_in _ _ hi]; exact e)
      · refine Ev.step (fun k => ?_) (Ev.now _)
        simp only [privitylaw10_validTranslation.l0]
        rw [if_neg (by omega)]
      · refine Ev.step (fun k => ?_) h
        simp only [privitylaw10_validTranslation.l0]
        rw [if_pos (by omega), if_pos (by omega), rd_nat, if_neg hq, wnat (by omega)]
      · refine Ev.step (fun k => ?_) (Ev.now _)
        simp only [privitylaw10_validTranslation.l0]
        rw [if_pos (by omega), if_pos (by omega), rd_nat, if_pos (Classical.byContradiction hq)]
end Go.Proofs.Ytkhdocabgmemiaa.E
end
section
/-
  What the statements of chapter 10 share: the first check.
-/
namespace Go.Proofs.Ytkhdocabgmemiaa.E
open Go.RowKit Go.Proofs.Ytkhdocabgmemiaa.Pr Go.Proofs.Ytkhdocabgmemiaa.Hw Go.Proofs.Ytkhdocabgmemiaa.Pl Go.Proofs.YtkhdocabgmemiaaW.PrintWords Go.Proofs.YtkhdocabgmemiaaW.PrintLast Go.Proofs.YtkhdocabgmemiaaW.PrintMore
set_option linter.unusedVariables false
set_option linter.unusedSimpArgs false

theorem awake10 : Ev (fun k => privitylaw10_awake.f k) true := Ev.of (fun k => privitylaw10_awake.mono _) (k := 60) privitylaw10_awake.is
theorem awake10' : Ev (fun k => (privitylaw10_awake.f k).bind fun t => some t) true := Ev.bind awake10 (Ev.now _)
end Go.Proofs.Ytkhdocabgmemiaa.E
end
section
/-
  Shares lie on a polynomial whose value at 0 is the secret; rows of a sum are sums of rows.
-/
namespace Go.Proofs.Ytkhdocabgmemiaa.Pure
open Go.RowKit Go.Proofs.Ytkhdocabgmemiaa.Pr Go.Proofs.Ytkhdocabgmemiaa.Hw Go.Proofs.Ytkhdocabgmemiaa.E Go.Proofs.YtkhdocabgmemiaaW.PrintWords Go.Proofs.YtkhdocabgmemiaaW.PrintLast Go.Proofs.YtkhdocabgmemiaaW.PrintMore
set_option linter.unusedVariables false
set_option linter.unusedSimpArgs false

theorem bss_add {p : Int} (hp : Supp p) (n : Nat) (g h : Nat → Int) (x : Int) : evI p x (tabL n fun i => (g i + h i) % p) = (evI p x (tabL n g) + evI p x (tabL n h)) % p := by
  haveI := nz hp
  refine T_inj hp (evI_res hp _ _) (Res.mod hp _) ?_
  rw [T_mod hp, T_add, T_tab hp, T_tab hp, T_tab hp, ← sumF_add]
  exact sumF_congr _ fun i hi => by rw [T_mod hp, T_add]; grind
theorem bss_coef (l : List Int) (h : 0 < l.length) : poly_Coefficient.f l 0 = some (l.getD 0 0) := by
  unfold poly_Coefficient.f
  rw [if_neg (by omega), if_neg (by omega), if_pos (by omega), if_pos (by omega)]
  exact congrArg some (rd_nat l 0)
theorem bss_main {p : Int} {s o : List (List Int)} {xs : List Int} {d x : Int} (h : Vt p s xs d x) (hf : Fs p o) (hl : o.length = s.length) : Ev (fun k => privitylaw10_BivariateSharesAndSums.j0 k o false p s xs d x) true := by
  have hp := h.fs.hp
  have hb := hp.bd
  have n6 := h.fs.n6
  have n0 := h.fs.n0
  have hoq : Sq s.length o := by have := hf.sq; rwa [hl] at this
  have hz : Res p 0 := ⟨Int.le_refl 0, by omega⟩
  obtain ⟨G, hG⟩ : ∃ G, G = fun i j => (at2 s i j + at2 o i j) % p := ⟨_, rfl⟩
  have hGr : ∀ i j, Res p (G i j) := fun i j => by rw [hG]; exact Res.mod hp _
  obtain ⟨m, hm⟩ : ∃ m, m = matL s.length G := ⟨_, rfl⟩
  have hmq : Sq s.length m := by rw [hm]; exact matL_sq _ _
  have hmr : ResM p m := by
    rw [hm]
    intro r hr
    obtain ⟨i, _, rfl⟩ := List.mem_map.1 hr
    exact tabL_res fun j _ => hGr i j
  have hat : ∀ i, i < s.length → ∀ j, j < s.length → at2 m i j = G i j := fun i hi j hj => by rw [hm]; exact at2_matL hi hj
  have e0 : rowX p s.length (at2 s) 0 = tabL s.length fun j => at2 s j 0 := tabL_congr fun j hj => by
    rw [evI_zero' hp (tabL_res fun i _ => h.fs.res.at2 hp i j), tabL_getD, if_pos n0]
    exact h.sym 0 n0 j hj
  have ra := brow_ev hp h.fs.sq h.fs.res (by omega) h.rx
  have rb := brow_ev hp hoq hf.res (by omega) h.rx
  have rc := brow_ev hp hmq hmr (by omega) h.rx
  have r0 := brow_ev hp h.fs.sq h.fs.res (by omega) hz
  have hcj : ∀ j, j < s.length → (rowX p s.length (at2 m) x).getD j 0 = ((rowX p s.length (at2 s) x).getD j 0 + (rowX p s.length (at2 o) x).getD j 0) % p := fun j hj => by
    unfold rowX
    rw [tabL_getD, if_pos hj, tabL_getD, if_pos hj, tabL_getD, if_pos hj, ← bss_add hp]
    refine congrArg (evI p x) (tabL_congr fun i hi => ?_)
    rw [hat i hi j hj, hG]
  obtain ⟨a, hae⟩ : ∃ a, a = rowX p s.length (at2 s) x := ⟨_, rfl⟩
  obtain ⟨b, hbe⟩ : ∃ b, b = rowX p s.length (at2 o) x := ⟨_, rfl⟩
  obtain ⟨c, hce⟩ : ∃ c, c = rowX p s.length (at2 m) x := ⟨_, rfl⟩
  have hal : a.length = s.length := by rw [hae, rowX_length]
  have hbl : b.length = s.length := by rw [hbe, rowX_length]
  have hcl : c.length = s.length := by rw [hce, rowX_length]
  have har : ∀ y ∈ a, Res p y := by rw [hae]; exact rowX_res hp _ _ _
  have hbr : ∀ y ∈ b, Res p y := by rw [hbe]; exact rowX_res hp _ _ _
  rw [← hae, ← hbe, ← hce] at hcj
  rw [← hae] at ra
  rw [← hbe] at rb
  rw [← hce] at rc
  have hl2 : Ev (fun k => privitylaw10_BivariateSharesAndSums.l2 k a b c ((0 : Nat) : Int) p s xs d x) true := by
    refine up (Q := fun j => Ev (fun k => privitylaw10_BivariateSharesAndSums.l2 k a b c (j : Int) p s xs d x) true) (n := s.length) ?_ fun j hj hn => ?_
    · refine Ev.step (f := fun k => (privitylaw10_awake.f k).bind fun t => some t) (fun k => ?_) awake10'
      simp only [privitylaw10_BivariateSharesAndSums.l2]
      rw [if_neg (by omega)]
    · refine Ev.step (f := fun k => (field_Add.f k p (a.getD j 0) (b.getD j 0)).bind fun t554 => (if c.getD j 0 = t554 then (privitylaw10_BivariateSharesAndSums.l2 k a b c ((j + 1 : Nat) : Int) p s xs d x) else (some false))) (fun k => ?_) (Ev.bind (add_ev hp (res_getD hp har j) (res_getD hp hbr j)) (hn.congr fun k => if_pos (hcj j hj)))
      simp only [privitylaw10_BivariateSharesAndSums.l2]
      rw [if_pos (by omega), if_neg (by omega), if_neg (by omega), if_neg (by omega), if_pos (by omega), if_pos (by omega), if_pos (by omega), if_pos (by omega), rd_nat, rd_nat, rd_nat, wnat (by omega)]
  have hl0 : Ev (fun k => privitylaw10_BivariateSharesAndSums.l0 k o (matP s.length G 0) ((0 : Nat) : Int) p s xs d x) true := by
    refine up (Q := fun i => Ev (fun k => privitylaw10_BivariateSharesAndSums.l0 k o (matP s.length G i) (i : Int) p s xs d x) true) (n := s.length) ?_ fun i hi hn => ?_
    · have e : matP s.length G s.length = m := by rw [hm]; rfl
      rw [e]
      refine Ev.step (f := fun k => (bivariate_Row.f k p s x).bind fun t542 => ((bivariate_Row.f k p o x).bind fun t545 => ((bivariate_Row.f k p m x).bind fun t548 => (privitylaw10_BivariateSharesAndSums.l2 k t542 t545 t548 ((0 : Nat) : Int) p s xs d x)))) (fun k => ?_) (Ev.bind ra (Ev.bind rb (Ev.bind rc hl2)))
      simp only [privitylaw10_BivariateSharesAndSums.l0]
      rw [if_neg (by omega)]; rfl
    · have l1 := h.fs.sq.getD i hi
      have l2 := hoq.getD i hi
      have hin : Ev (fun k => privitylaw10_BivariateSharesAndSums.l1 k o (matP s.length G i) (i : Int) (tabL 0 (G i)) ((0 : Nat) : Int) p s xs d x) true := by
        refine up (Q := fun j => Ev (fun k => privitylaw10_BivariateSharesAndSums.l1 k o (matP s.length G i) (i : Int) (tabL j (G i)) (j : Int) p s xs d x) true) (n := s.length) ?_ fun j hj hn2 => ?_
        · rw [matP_succ] at hn
          refine Ev.step (fun k => ?_) hn
          simp only [privitylaw10_BivariateSharesAndSums.l1]
          rw [if_neg (by omega), if_pos (by rw [matP_length]; omega), wnat (by omega)]
        · rw [tabL_succ] at hn2
          have hv : G i j = (at2 s i j + at2 o i j) % p := by rw [hG]
          rw [hv] at hn2
          refine Ev.step (f := fun k => (field_Add.f k p (at2 s i j) (at2 o i j)).bind fun t535 => (if (tabL j (G i)).length < 17592186044416 then (privitylaw10_BivariateSharesAndSums.l1 k o (matP s.length G i) (i : Int) (tabL j (G i) ++ [t535]) ((j + 1 : Nat) : Int) p s xs d x) else (none))) (fun k => ?_) (Ev.bind (add_ev hp (h.fs.res.at2 hp i j) (hf.res.at2 hp i j)) (hn2.congr fun k => if_pos (by rw [tabL_length]; omega)))
          simp only [privitylaw10_BivariateSharesAndSums.l1]
          rw [if_pos (by omega), if_pos (by omega), if_pos (by omega), if_pos (by omega), if_pos (by rw [rdM_nat, l1]; omega), if_pos (by omega), if_pos (by rw [rdM_nat, l2]; omega), rd_at2, rd_at2, wnat (by omega)]
      refine Ev.step (fun k => ?_) hin
      simp only [privitylaw10_BivariateSharesAndSums.l0]
      rw [if_pos (by omega)]; rfl
  have hj1 : Ev (fun k => privitylaw10_BivariateSharesAndSums.j1 k o false p s xs d x) true := by
    refine Ev.step (fun k => ?_) hl0
    simp only [privitylaw10_BivariateSharesAndSums.j1]
    rw [if_neg (by simp)]; rfl
  obtain ⟨f, hfe⟩ : ∃ f, f = rowX p s.length (at2 s) 0 := ⟨_, rfl⟩
  rw [← hfe] at r0 e0
  have hfl : f.length = s.length := by rw [e0, tabL_length]
  have hfr : ∀ y ∈ f, Res p y := by rw [hfe]; exact rowX_res hp _ _ _
  have hf0 : rd f 0 = rd (rd_L1 s 0) 0 := by
    have e1 : rd f 0 = f.getD 0 0 := rd_nat f 0
    have e2 : rd (rd_L1 s 0) 0 = at2 s 0 0 := rd_at2 s 0 0
    rw [e1, e2, e0, tabL_getD, if_pos n0]
  have hco : a.getD 0 0 = evI p x f := by
    rw [e0, hae]
    unfold rowX
    rw [tabL_getD, if_pos n0]
  have hr00 : (rd_L1 s 0).length = s.length := by
    have : rd_L1 s 0 = s.getD 0 [] := rdM_nat s 0
    rw [this]; exact h.fs.sq.getD 0 n0
  refine Ev.step (f := fun k => (bivariate_Row.f k p s 0).bind fun t520 => (if (t520.length : Int) = (s.length : Int) then (if 0 < (t520.length : Int) then (if 0 < (s.length : Int) then (if 0 < ((rd_L1 s 0).length : Int) then (if (rd t520 0) = (rd (rd_L1 s 0) 0) then ((bivariate_Row.f k p s x).bind fun t526 => ((poly_Coefficient.f t526 0).bind fun t529 => ((poly_Eval.f k p t520 x).bind fun t530 => (privitylaw10_BivariateSharesAndSums.j1 k o (t529 != t530) p s xs d x)))) else (privitylaw10_BivariateSharesAndSums.j1 k o true p s xs d x)) else (none)) else (none)) else (none)) else (privitylaw10_BivariateSharesAndSums.j1 k o true p s xs d x))) (fun k => ?_)
    (Ev.bind r0 (Ev.congr (fun k => if_pos (by omega)) (Ev.congr (fun k => if_pos (by omega)) (Ev.congr (fun k => if_pos (by omega)) (Ev.congr (fun k => if_pos (by omega)) (Ev.congr (fun k => if_pos hf0) (Ev.bind ra (ev_now_bind (bss_coef a (by omega)) (Ev.bind (eval_ev hp h.rx f hfr (by omega)) ?_)))))))))
  · simp only [privitylaw10_BivariateSharesAndSums.j0]
    rw [if_neg (by simp)]
  · have e : (a.getD 0 0 != evI p x f) = false := by rw [hco]; simp
    rw [e]
    exact hj1
theorem BivariateSharesAndSums (p : Int) (s : List (List Int)) (xs : List Int) (d x : Int) (o : List (List Int)) (wp : (Lit.int .u64 p).wf = true) (ws : ∀ x_ ∈ s, ∀ y_ ∈ x_, (Lit.int .u64 y_).wf = true) (wx : ∀ x_ ∈ xs, (Lit.int .u64 x_).wf = true) (wd : (Lit.int .u64 d).wf = true) (wx2 : (Lit.int .u64 x).wf = true) (wo : ∀ x_ ∈ o, ∀ y_ ∈ x_, (Lit.int .u64 y_).wf = true) : ∃ k, privitylaw10_BivariateSharesAndSums.f k p s xs d x o = some true := by
  refine Ev.rounds (r := true) ?_
  have hskip : Ev (fun k => privitylaw10_BivariateSharesAndSums.j0 k o true p s xs d x) true := Ev.step (f := fun k => (privitylaw10_awake.f k).bind fun t => some t) (fun k => by simp only [privitylaw10_BivariateSharesAndSums.j0]; rw [if_pos trivial]) awake10'
  obtain ⟨r, h1, h2⟩ := valid_ev p s xs d x (fun r hr y hy => (wf64 (ws r hr y hy)).1) (fun y hy => (wf64 (wx y hy)).1) (wf64 wd).1 (wf64 wx2).1
  refine ev_if h1 (fun e => ev_if (fairS_ev p o 6 (by omega)) (fun h3 => ?_) fun _ => hskip) (fun _ => hskip)
  have hf := fairS_fs h3 fun r hr y hy => (wf64 (wo r hr y hy)).1
  by_cases hl : (o.length : Int) = (s.length : Int)
  · have e1 : ((o.length : Int) != (s.length : Int)) = false := by rw [hl]; simp
    rw [e1]
    exact bss_main (h2 e) hf (by omega)
  · have e1 : ((o.length : Int) != (s.length : Int)) = true := bne_iff_ne.mpr hl
    rw [e1]
    exact hskip
end Go.Proofs.Ytkhdocabgmemiaa.Pure
end
section
/-
  What came in, opened: numbers, bools, rows and structs of them, to any depth.
-/
namespace Go.Proofs.Ytkhdocabgmemiaa.Op
open Go.RowKit Go.Proofs.YtkhdocabgmemiaaW.PrintWords
set_option linter.unusedVariables false

/-- What is read of a type's value is a value of d, and Q holds of it. -/
def OpenK {α : Type} (P : Program) (t : TypeId) (d : Kd α) (Q : α → Prop) : Prop :=
  ∀ {H : Type} {enc : TypeId × Value → H} {w : World} {base : Nat} {sp : Nat → Bool} {hd : Bool} {fuel : Nat} {cs : List Value} {x : DataW H × List MemPlace}, DataW.trod enc P w base sp hd fuel t cs = some x → ∃ v : α, d.K w v cs ∧ Q v
theorem openInt {P : Program} {t : TypeId} {k : IntKind} (ht : P.underlying t = some (.int k)) : OpenK P t (Kd.int k) (fun n => (Lit.int k n).wf = true) := by
  intro H enc w base sp hd fuel cs x h
  obtain ⟨n, rfl, _, hw⟩ := DataW.trod_int ht h
  exact ⟨n, rfl, hw⟩
theorem exists_list {α : Type} {R : Nat → α → Prop} : ∀ (n : Nat), (∀ i, i < n → ∃ v, R i v) → ∃ l : List α, l.length = n ∧ ∀ i v, l[i]? = some v → R i v
  | 0, _ => ⟨[], rfl, fun i v h => by simp at h⟩
  | n + 1, h => by
    obtain ⟨l, hl, hr⟩ := exists_list n (fun i hi => h i (by omega))
    obtain ⟨v, hv⟩ := h n (by omega)
    refine ⟨l ++ [v], by simp [hl], fun i u hu => ?_⟩
    by_cases hi : i < n
    · rw [List.getElem?_append_left (by omega)] at hu
      exact hr i u hu
    · rw [List.getElem?_append_right (by omega)] at hu
      by_cases h0 : i - l.length = 0
      · rw [h0] at hu
        simp only [List.getElem?_cons_zero, Option.some.injEq] at hu
        rw [← hu, show i = n from by omega]; exact hv
      · rw [List.getElem?_eq_none (by simp; omega)] at hu; cases hu
theorem openSlice {α : Type} {P : Program} {t e : TypeId} {d : Kd α} {Q : α → Prop} (ht : P.underlying t = some (.slice e)) (hc : P.cellsOf e = d.sz) (he : OpenK P e d Q) : OpenK P t (Kd.slice e d) (fun l => ∀ x ∈ l, Q x) := by
  intro H enc w base sp hd fuel cs x h
  rcases DataW.trod_slice ht h with ⟨rfl, _⟩ | ⟨a, len, cap, elems, rest, n, _, rfl, _, _, hlc, hm, hlen, hel, _, _⟩
  · exact ⟨[], ⟨none, 0, rfl, Nat.le_refl _, rfl, Nat.zero_le _, fun h => absurd h (Nat.lt_irrefl 0)⟩, fun x hx => by cases hx⟩
  · have each : ∀ i, i < len → ∃ v, (∃ c, c.length = d.sz ∧ d.K w v c ∧ ∀ j u, c[j]? = some u → w.cell? (a.add (i * d.sz + j)) = some u) ∧ Q v := by
      intro i hi
      have h1 := hel i hi
      rw [List.getElem?_eq_getElem (by omega), hc] at h1
      obtain ⟨c, hcs, htr⟩ := Option.bind_eq_some_iff.1 h1
      obtain ⟨v, hk, hq⟩ := he htr
      refine ⟨v, ⟨c, d.K_len hk, hk, fun j u hu => ?_⟩, hq⟩
      have h2 := World.cells?_some hcs
      have hj := (List.getElem?_eq_some_iff.1 hu).1
      have h3 := h2.2.2 j (by rw [← d.K_len hk]; exact hj)
      rw [hu] at h3
      rw [← h3, ← Addr.add_add]
    obtain ⟨l, hl, hr⟩ := exists_list len each
    refine ⟨l, ⟨some a, cap, by rw [hl], by omega, rfl, by rw [hl]; simp only [maxLen] at hm; omega, fun _ => ⟨a, rfl, fun j p hj => (hr j p hj).1⟩⟩, fun x hx => ?_⟩
    obtain ⟨i, hi, rfl⟩ := List.getElem_of_mem hx
    exact (hr i _ (List.getElem?_eq_getElem hi)).2
/-- A struct's fields. -/
theorem openFields {P : Program} {H : Type} {enc : TypeId × Value → H} {w : World} {base : Nat} {sp : Nat → Bool} {hd : Bool} {fuel : Nat} {t : TypeId} {cs : List Value} {x : DataW H × List MemPlace} {fs : Array Field} (ht : P.underlying t = some (.struct fs))
    (h : DataW.trod enc P w base sp hd fuel t cs = some x) : cs.length = P.cellsOf t ∧ ∀ (i : Nat) (f : Field), fs[i]? = some f → ∃ n y, DataW.trod enc P w base sp hd n f.type ((cs.drop f.offset).take (P.cellsOf f.type)) = some y := by
  obtain ⟨xs, n, _, _, hl, hlen, hf⟩ := DataW.trod_struct ht h
  refine ⟨hl, fun i f hi => ?_⟩
  have h1 := hf i f hi
  have h2 : i < fs.size := (Array.getElem?_eq_some_iff.1 hi).1
  rw [List.getElem?_eq_getElem (by omega)] at h1
  exact ⟨n, _, h1⟩
end Go.Proofs.Ytkhdocabgmemiaa.Op
end
section
/- The row of the law BivariateSharesAndSums, out of its plain law and the walk. -/
namespace Go.Proofs.Ytkhdocabgmemiaa.bivariateSharesAndSums
open Go.ChangeShapes Go.WideShapes Go.ChangeAt Go.RowKit Go.Proofs.Ytkhdocabgmemiaa.Pr Go.Proofs.YtkhdocabgmemiaaW.PrintWords
set_option linter.unusedVariables false
theorem own : ownKnob Try.prog.godebug = none := by kernel_rfl
theorem laidOut : laidOutB Try.prog = true := by kernel_rfl
theorem arr5 (cs : Array Value) (h : cs.size = 5) : ∃ c0_ c1_ c2_ c3_ c4_, cs = #[c0_, c1_, c2_, c3_, c4_] := by
  obtain ⟨l_⟩ := cs
  match l_, h with
  | [c0_, c1_, c2_, c3_, c4_], _ => exact ⟨_, _, _, _, _, rfl⟩
set_option maxHeartbeats 4000000 in
set_option maxRecDepth 100000 in
theorem lifted (os : Os) (started : os.Started) (H : Type) (enc : TypeId × Value → H) :
    ReturnsInHanded {} Try.checked os 9 .any (Rows.bivariateSharesAndSumsSpec.pre6 enc Try.prog Try.f9 Rows.bivariateSharesAndSumsRow.domain false) (Rows.bivariateSharesAndSumsSpec.post enc Try.prog Try.f9 false true false false) := by
  refine returnsInHanded_of_change_sized (C := Try.checked) own started (by kernel_rfl) Try.func9
    (ChangeSpec.witness6 (enc := enc) (C := Try.checked) false ⟨#[], #[.agg #[.int .u64 0, .slice none 0 0, .slice none 0 0, .int .u64 0, .int .u64 0], .slice none 0 0], []⟩ 8 (by kernel_rfl) (by kernel_rfl) (by kernel_rfl) (by kernel_rfl)) ?_
  intro W base args ds gs before hval0 hW hcnd hsz0 _
  have hval : ∀ (j : Nat) t v, Try.f9.params[j]? = some t → args[j]? = some v → Value.okWide Try.prog W .any base t v := hval0
  have hW' := hW
  obtain ⟨p, q, hA0, hV, rfl, hfz, hnd⟩ := hW
  have hA : DataW.TrodAll enc Try.prog W 0 (fun _ => true) true Try.f9.params.toList args.toList ds p := hA0
  rw [Try.params9] at hA hval
  obtain ⟨v0, vs0, d0, ds0, p0, q0, hargs, rfl, rfl, h0, r0⟩ := trodAll_cons hA
  obtain ⟨v1, vs1, d1, ds1, p1, q1, rfl, rfl, rfl, h1, r1⟩ := trodAll_cons r0
  obtain ⟨rfl, rfl, rfl⟩ := trodAll_nil r1
  obtain rfl : args = #[v0, v1] := by cases args; simp_all
  obtain ⟨rfl, rfl⟩ := trodVars_none hV
  have k0 := h0
  have lt0 : ∀ x ∈ p0, x.block < W.heap.size := by obtain ⟨m, hm⟩ := k0; exact DataW.trod_lt m _ _ _ hm
  obtain ⟨cs0, rfl, hs0⟩ := okWide_struct Try.underlying39 (hval 0 39 v0 rfl rfl)
  have hN0 : Try.prog.cellsOf 39 = 5 := by kernel_rfl
  rw [hN0] at hs0
  obtain ⟨x0_0, x0_1, x0_2, x0_3, x0_4, rfl⟩ := arr5 cs0 hs0
  obtain ⟨fu0, hf0⟩ := h0
  have hg0 : DataW.trod enc Try.prog W 0 (fun _ => true) true fu0 39 [x0_0, x0_1, x0_2, x0_3, x0_4] = some (d0, p0) := hf0
  have f0 := (Op.openFields Try.underlying39 hg0).2
  obtain ⟨n0_0, y0_0, e0_0⟩ := f0 0 _ rfl
  have b0_0 : DataW.trod enc Try.prog W 0 (fun _ => true) true n0_0 31 [x0_0] = some y0_0 := e0_0
  obtain ⟨a0_0, e0_0, w0_0⟩ := (Op.openInt (k := .u64) Try.underlying31) b0_0
  cases e0_0
  obtain ⟨n0_1, y0_1, e0_1⟩ := f0 1 _ rfl
  have b0_1 : DataW.trod enc Try.prog W 0 (fun _ => true) true n0_1 24 [x0_1] = some y0_1 := e0_1
  obtain ⟨z0_1, ⟨A0_1, c0_1, e0_1, hc0_1, g0_1⟩, w0_1⟩ := (Op.openSlice (d := (Kd.slice 31 (Kd.int .u64))) Try.underlying24 (by kernel_rfl) (Op.openSlice (d := (Kd.int .u64)) Try.underlying22 (by kernel_rfl) (Op.openInt (k := .u64) Try.underlying31))) b0_1
  cases e0_1
  obtain ⟨n0_2, y0_2, e0_2⟩ := f0 2 _ rfl
  have b0_2 : DataW.trod enc Try.prog W 0 (fun _ => true) true n0_2 22 [x0_2] = some y0_2 := e0_2
  obtain ⟨z0_2, ⟨A0_2, c0_2, e0_2, hc0_2, g0_2⟩, w0_2⟩ := (Op.openSlice (d := (Kd.int .u64)) Try.underlying22 (by kernel_rfl) (Op.openInt (k := .u64) Try.underlying31)) b0_2
  cases e0_2
  obtain ⟨n0_3, y0_3, e0_3⟩ := f0 3 _ rfl
  have b0_3 : DataW.trod enc Try.prog W 0 (fun _ => true) true n0_3 31 [x0_3] = some y0_3 := e0_3
  obtain ⟨a0_3, e0_3, w0_3⟩ := (Op.openInt (k := .u64) Try.underlying31) b0_3
  cases e0_3
  obtain ⟨n0_4, y0_4, e0_4⟩ := f0 4 _ rfl
  have b0_4 : DataW.trod enc Try.prog W 0 (fun _ => true) true n0_4 31 [x0_4] = some y0_4 := e0_4
  obtain ⟨a0_4, e0_4, w0_4⟩ := (Op.openInt (k := .u64) Try.underlying31) b0_4
  cases e0_4
  have k1 := h1
  have lt1 : ∀ x ∈ p1, x.block < W.heap.size := by obtain ⟨m, hm⟩ := k1; exact DataW.trod_lt m _ _ _ hm
  obtain ⟨a1, len1, cap1, rfl⟩ := okWide_slice Try.underlying24 (hval 1 24 v1 rfl rfl)
  obtain ⟨fu1, hf1⟩ := h1
  obtain ⟨z1, ⟨A1, c1, e1, hc1, g1⟩, w1⟩ := (Op.openSlice (d := (Kd.slice 31 (Kd.int .u64))) Try.underlying24 (by kernel_rfl) (Op.openSlice (d := (Kd.int .u64)) Try.underlying22 (by kernel_rfl) (Op.openInt (k := .u64) Try.underlying31))) hf1
  cases e1
  clear hA0 hval0 hsz0
  obtain ⟨kk, hk⟩ := Pure.BivariateSharesAndSums a0_0 z0_1 z0_2 a0_3 a0_4 z1 w0_0 w0_1 w0_2 w0_3 w0_4 w1
  refine (privitylaw10_BivariateSharesAndSums.calls kk a0_0 _ _ z0_1 _ _ z0_2 a0_3 a0_4 _ _ z1 true W g0_1 hc0_1 g0_2 hc0_2 g1 hc1 rfl hk).mono fun e W' ⟨he, bel⟩ => ?_
  subst he
  exact ⟨_, rfl, _, _, _, [], _, [], hW', trodAll_mk1 (shut_bool Try.underlying4 _), (trodAll_cons_mk (Below.trod laidOut (by kernel_rfl) (of_decide_eq_true (by kernel_rfl)) k0 bel lt0) (trodAll_cons_mk (Below.trod laidOut (by kernel_rfl) (of_decide_eq_true (by kernel_rfl)) k1 bel lt1) trodAll_mk0)), rfl, bel.frame _, fun h => by cases h⟩
theorem over : Rows.bivariateSharesAndSumsRow.holds Try.pinned (OpenSpec.ofChange Rows.bivariateSharesAndSumsSpec) :=
  OpenClaim.holds_of_wide 9 Try.f9 rfl rfl rfl rfl rfl rfl rfl ⟨rfl, rfl, rfl, rfl, rfl⟩ rfl rfl rfl rfl rfl (by kernel_rfl) Try.func9 (by kernel_rfl)
    (of_decide_eq_true (by kernel_rfl)) (by unfold Func.isWrapper; first | (rw [if_pos (by decide +kernel)]; kernel_rfl) | (rw [if_neg (by decide +kernel)]; exact ⟨rfl, rfl⟩))
    (fun os started H enc _ => lifted os started H enc)
theorem proved : Rows.BivariateSharesAndSumsSaid := over
#print axioms proved
end Go.Proofs.Ytkhdocabgmemiaa.bivariateSharesAndSums
namespace Go.Proofs.Ytkhdocabgmemiaa
/-- The row, under a short name, for the claim. -/
theorem bivariateSharesAndSums_holds : Rows.BivariateSharesAndSumsSaid := bivariateSharesAndSums.proved
end Go.Proofs.Ytkhdocabgmemiaa
end
