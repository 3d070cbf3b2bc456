/- Printed by a program of this seat (the kit's printer, with the functions that were proved by hand given to it). What stands here: the functions that the statements reach, as plain functions, and that the Go code computes them. -/
import Derived.Test.YtkhdocabgmemiaaZNew4
import Derived.Test.YtkhdocabgmemiaaZNew2
import Derived.Test.YtkhdocabgmemiaaZNew6
import Derived.Test.YtkhdocabgmemiaaZNew3
import Derived.Test.YtkhdocabgmemiaaZNew5
import Derived.Test.YtkhdocabgmemiaaRows
import Derived.WalkKit
import Derived.ProofKit
import Derived.OpenShut
import Derived.ShutString
import Derived.ChangeOld
import Derived.Below
import Derived.SizedLaws
import Derived.Test.YtkhdocabgmemiaaZNew1
section
/-
  New of the reference of layer 10, proved by hand: it makes the same matrix.
-/
namespace Go.Proofs.Ytkhdocabgmemiaa.Hw
open Go.RowKit Go.Proofs.Ytkhdocabgmemiaa.Pr Go.Proofs.YtkhdocabgmemiaaW.PrintWords Go.Proofs.YtkhdocabgmemiaaW.PrintLast Go.Proofs.YtkhdocabgmemiaaW.PrintMore Go.Proofs.Ytkhdocabgmemiaa.E
set_option linter.unusedVariables false
set_option linter.unusedSimpArgs false

/-- What is set when the loops stand at row i, column j, the first row being set up to c. -/
def rS (n : Nat) (first rest : List Int) (c i j a b : Nat) : Int := if (min a b = 0 ∧ max a b < c) ∨ (0 < min a b ∧ (min a b < i ∨ (min a b = i ∧ max a b < j))) then newG n first rest a b else 0
theorem rS_first {n : Nat} {first rest : List Int} (i : Nat) : ∀ a, a < n → ∀ b, b < n → upd (upd (rS n first rest i i i) 0 i (first.getD i 0)) i 0 (first.getD i 0) a b = rS n first rest (i + 1) i i a b := by
  intro a ha b hb
  unfold upd rS newG
  by_cases h1 : a = i ∧ b = 0
  · obtain ⟨rfl, rfl⟩ := h1
    rw [if_pos ⟨rfl, rfl⟩, if_pos (by omega), if_pos (by omega), show max a 0 = a from by omega]
  · rw [if_neg h1]
    by_cases h2 : a = 0 ∧ b = i
    · obtain ⟨rfl, rfl⟩ := h2
      rw [if_pos ⟨rfl, rfl⟩, if_pos (by omega), if_pos (by omega), show max 0 b = b from by omega]
    · rw [if_neg h2]
      by_cases h3 : (min a b = 0 ∧ max a b < i) ∨ (0 < min a b ∧ (min a b < i ∨ (min a b = i ∧ max a b < i)))
      · rw [if_pos h3, if_pos (show (min a b = 0 ∧ max a b < i + 1) ∨ (0 < min a b ∧ (min a b < i ∨ (min a b = i ∧ max a b < i))) from by omega)]
      · rw [if_neg h3, if_neg (show ¬ ((min a b = 0 ∧ max a b < i + 1) ∨ (0 < min a b ∧ (min a b < i ∨ (min a b = i ∧ max a b < i)))) from by omega)]
theorem rS_next {n : Nat} {first rest : List Int} {i : Nat} (h1 : 1 ≤ i) {j : Nat} (hij : i ≤ j) (c : Nat) : ∀ a, a < n → ∀ b, b < n →
    upd (upd (rS n first rest c i j) i j (rest.getD (offs n i + (j - i)) 0)) j i (rest.getD (offs n i + (j - i)) 0) a b = rS n first rest c i (j + 1) a b := by
  intro a ha b hb
  unfold upd rS newG
  by_cases h1 : a = j ∧ b = i
  · obtain ⟨rfl, rfl⟩ := h1
    rw [if_pos ⟨rfl, rfl⟩, if_pos (by omega), if_neg (by omega), show min a b = b from by omega, show max a b = a from by omega]
  · rw [if_neg h1]
    by_cases h2 : a = i ∧ b = j
    · obtain ⟨rfl, rfl⟩ := h2
      rw [if_pos ⟨rfl, rfl⟩, if_pos (by omega), if_neg (by omega), show min a b = a from by omega, show max a b = b from by omega]
    · rw [if_neg h2]
      by_cases h3 : (min a b = 0 ∧ max a b < c) ∨ (0 < min a b ∧ (min a b < i ∨ (min a b = i ∧ max a b < j)))
      · rw [if_pos h3, if_pos (show (min a b = 0 ∧ max a b < c) ∨ (0 < min a b ∧ (min a b < i ∨ (min a b = i ∧ max a b < j + 1))) from by omega)]
      · rw [if_neg h3, if_neg (show ¬ ((min a b = 0 ∧ max a b < c) ∨ (0 < min a b ∧ (min a b < i ∨ (min a b = i ∧ max a b < j + 1)))) from by omega)]
theorem rS_row {n : Nat} {first rest : List Int} (c i j : Nat) (h : i = 0 ∨ j = n) : ∀ a, a < n → ∀ b, b < n → rS n first rest c i j a b = rS n first rest c (i + 1) (i + 1) a b := by
  intro a ha b hb
  unfold rS
  by_cases h3 : (min a b = 0 ∧ max a b < c) ∨ (0 < min a b ∧ (min a b < i ∨ (min a b = i ∧ max a b < j)))
  · rw [if_pos h3, if_pos (show (min a b = 0 ∧ max a b < c) ∨ (0 < min a b ∧ (min a b < i + 1 ∨ (min a b = i + 1 ∧ max a b < i + 1))) from by omega)]
  · rw [if_neg h3, if_neg (show ¬ ((min a b = 0 ∧ max a b < c) ∨ (0 < min a b ∧ (min a b < i + 1 ∨ (min a b = i + 1 ∧ max a b < i + 1)))) from by omega)]
theorem rS_all {n : Nat} {first rest : List Int} (j : Nat) : ∀ a, a < n → ∀ b, b < n → rS n first rest n n j a b = newG n first rest a b := by
  intro a ha b hb
  unfold rS
  rw [if_pos (by omega)]
set_option maxHeartbeats 2000000 in
set_option maxRecDepth 100000 in
theorem rnew_walk (A0 : Option Addr) (c0 : Nat) (first : List Int) (A1 : Option Addr) (c1 : Nat) (rest : List Int) (w : World) (hr0 : Kd.C (Kd.int .u64) w A0 first.length first) (hc0 : first.length ≤ c0) (hr1 : Kd.C (Kd.int .u64) w A1 rest.length rest) (hc1 : rest.length ≤ c1)
    (hn : 0 < first.length) (hn2 : first.length ≤ 1000) (hl : rest.length = offs first.length first.length) :
    Calls Try.prog 15 #[.slice A0 first.length c0, .slice A1 rest.length c1] w fun e w' => ∃ v0_ : Value, e = .returned (.tuple #[v0_, .int .i64 0]) ∧ Kd.S (Kd.slice 31 (Kd.int .u64)) 22 w' w.heap.size (fun _ => True) v0_ (matL first.length (newG first.length first rest)) ∧ Below w.heap.size w w' := by
  have HR0 := Aside0.mk hr0
  have HR1 := Aside0.mk hr1
  have hol := offs_last (n := first.length) hn
  obtain ⟨t, en⟩ : ∃ t, t + 1 = first.length := ⟨first.length - 1, by omega⟩
  rw [← en] at hol hl hn hn2 ⊢
  have HEN := Aside0.mk en
  have HL := Aside0.mk hl
  have hq : ((rest.length : Int) != wrap64 ((wrap64 ((t : Int) * ((t : Int) + 1))).tdiv 2)) = false := by
    have h1 : (t : Int) * ((t : Int) + 1) = 2 * (rest.length : Int) := by rw [hl, hol]; push_cast; grind
    have h2 : (t : Int) * ((t : Int) + 1) ≤ 1000 * 1000 := Int.mul_le_mul (by omega) (by omega) (by omega) (by omega)
    have h3 : wrap64 ((t : Int) * ((t : Int) + 1)) = 2 * (rest.length : Int) := by rw [h1, w64' (by omega) (by omega)]
    rw [h3, Int.mul_tdiv_cancel_left _ (by omega), w64' (by omega) (by omega)]
    simp
  have hmk := mk_run (t := 24) (e := 22) (z := .slice none 0 0) Try.underlying24 info22 rfl (t + 1) (by omega) (by decide) w
  rw [outC_zero w.heap.size, show ((t + 1 : Nat) : Int) = (t : Int) + 1 from rfl] at hmk
  have q0 : decide ((t : Int) < 0) = false := decide_eq_false (by omega)
  clear hr0 hr1 hl hol en
  go_enter Try.func15, Try.ntmps15
  go_wp2
  obtain ⟨bo, hbo⟩ : ∃ y, y = w.heap.size := ⟨_, rfl⟩
  rw [← hbo]
  have HBO := Aside0.mk hbo
  clear hmk hq q0 hbo
  go_loopg [8] (t + 1) (fun kq v8 w' => ∃ i : Nat, v8 = .int .i64 (i : Int) ∧ Aside0 (kq + i = t + 1) ∧ Aside0 (Mx w' bo (t + 1) i fun _ _ => 0) ∧ Aside0 (w'.heap.size = bo + 1 + i) ∧ Aside0 (Below w.heap.size w w'))
  case atStart => exact ⟨0, rfl, ⟨rfl⟩, ⟨by rw [HBO.out]; exact Mx.start w (t + 1)⟩, ⟨by rw [HBO.out]; exact Array.size_push _⟩, ⟨below_alloc (Below.refl _ _) _⟩⟩
  case round =>
    obtain ⟨i, rfl, HK, HM, HS, HB⟩ := hrel
    by_cases hlt : i < t + 1
    · have q1 : decide ((i : Int) ≤ (t : Int)) = true := decide_eq_true (by omega)
      have q2 : decide (i ≤ t) = true := decide_eq_true (by omega)
      have p1 : ((0 : Int) ≤ (i : Int)) = True := eq_true (by omega)
      have p2 : ((i : Int) < (t : Int) + 1) = True := eq_true (by omega)
      have p3 : (i < t + 1) = True := eq_true hlt
      have hmk := mk_run (t := 22) (e := 31) (z := .int .u64 0) Try.underlying22 info31 rfl (t + 1) (by omega) (by decide) wr
      rw [rowC_zero, HS.out, show ((t + 1 : Nat) : Int) = (t : Int) + 1 from rfl] at hmk
      have h1 := blk_alloc HM.out.out (Obj.cells (rowC (t + 1) fun _ => 0).toArray 31)
      have c1 := blk_cell h1 i
      have f1 := blk_frozen h1 i
      rw [List.getElem?_toArray, outC_get hlt, if_neg (Nat.lt_irrefl i)] at c1
      clear h1
      go_wp2
      go_roundg (t + 1 - (i + 1))
      case measure => have := HK.out; omega
      case rel => exact ⟨i + 1, (by first | go_num | rw [show wrap64 ((i : Int) + 1) = ((i + 1 : Nat) : Int) from by rw [w64' (by omega) (by omega)]; omega]), ⟨by omega⟩, ⟨HM.out.more hlt HS.out fun _ => rfl⟩, ⟨by rw [size_setCell', alloc_size', HS.out]; omega⟩, ⟨below_alloc_set HB.out _ (by rw [← HBO.out]; exact Nat.le_refl _) _ _⟩⟩
    · have q1 : decide ((i : Int) ≤ (t : Int)) = false := decide_eq_false (by omega)
      have q2 : decide (i ≤ t) = false := decide_eq_false (by omega)
      have hin : i = t + 1 := by have := HK.out; omega
      have hM := HM.out
      rw [hin] at hM
      have HM0 := Aside0.mk (show Mx wr bo (t + 1) (t + 1) (rS (t + 1) first rest 0 0 0) from hM.congr fun a ha b hb => by unfold rS; rw [if_neg (by omega)])
      clear HM HS hM
      go_wp2
      go_loopg [9, 10] (t + 1) (fun kq v9 v10 w' => ∃ i : Nat, v10 = .int .i64 (i : Int) ∧ v9 = .int .i64 (offs (t + 1) i : Int) ∧ Aside0 (kq + i = t + 1) ∧ Aside0 (Mx w' bo (t + 1) (t + 1) (rS (t + 1) first rest i i i)) ∧ Aside0 (Below w.heap.size w w'))
      case atStart => exact ⟨0, rfl, rfl, ⟨rfl⟩, HM0, HB⟩
      case round =>
        clear HM0 HB HK hin q1 q2 hlt
        obtain ⟨i, rfl, rfl, HK, HM, HB⟩ := hrel
        by_cases hlt : i < t + 1
        · have q1 : decide ((i : Int) ≤ (t : Int)) = true := decide_eq_true (by omega)
          have q2 : decide (i ≤ t) = true := decide_eq_true (by omega)
          have p1 : ((0 : Int) ≤ (i : Int)) = True := eq_true (by omega)
          have p2 : ((i : Int) < (t : Int) + 1) = True := eq_true (by omega)
          have p3 : ((0 : Int) < (t : Int) + 1) = True := eq_true (by omega)
          have p4 : (i < t + 1) = True := eq_true hlt
          have p5 : (0 < t + 1) = True := eq_true (by omega)
          obtain ⟨ad0, e0, hx0⟩ := Kd.at_int (Kd.C_below HR0.out HB.out) (i : Int) (by omega) (by have := HEN.out; omega)
          cases e0
          rw [Int.toNat_natCast] at hx0
          have hfj : rd first (i : Int) = first.getD i 0 := rd_nat first i
          rw [hfj] at hx0
          obtain ⟨x, hx⟩ : ∃ x, x = first.getD i 0 := ⟨_, rfl⟩
          rw [← hx] at hx0
          have HX := Aside0.mk hx
          have c1 : wr.cell? ⟨bo, 0, none⟩ = some (.slice (some ⟨bo + 1, 0, none⟩) (t + 1) (t + 1)) := HM.out.cellO (i := 0) (by omega) (by omega)
          have c2 : wr.cell? ⟨bo, i, none⟩ = some (.slice (some ⟨bo + 1 + i, 0, none⟩) (t + 1) (t + 1)) := HM.out.cellO hlt hlt
          have d1 : wr.cell? ⟨bo + 1, i, none⟩ = some _ := HM.out.cellR (i := 0) (by omega) hlt
          have g1 : wr.frozen? ⟨bo + 1, i, none⟩ = false := HM.out.frozR (i := 0) (by omega) i
          have hm2 := HM.out.put (i := 0) (j := i) (by omega) hlt x
          have d2 : (wr.setCell ⟨bo + 1, i, none⟩ (.int .u64 x)).cell? ⟨bo + 1 + i, 0, none⟩ = some _ := hm2.cellR hlt (by omega)
          have g2 : wr.frozen? ⟨bo + 1 + i, 0, none⟩ = false := HM.out.frozR hlt 0
          have HM2 := Aside0.mk (show Mx _ bo (t + 1) (t + 1) (rS (t + 1) first rest (i + 1) i i) from Mx.drew ((hm2.put (i := i) (j := 0) hlt (by omega) x).congr fun a ha b hb => by rw [HX.out]; exact rS_first i a ha b hb))
          have hbo : w.heap.size ≤ bo := by rw [← HBO.out]; exact Nat.le_refl _
          have HB2 := Aside0.mk (show Below w.heap.size w _ from below_drew (Below.setCell (Below.setCell HB.out (p := ⟨bo + 1, i, none⟩) (by show w.heap.size ≤ bo + 1; omega) (.int .u64 x)) (p := ⟨bo + 1 + i, 0, none⟩) (by show w.heap.size ≤ bo + 1 + i; omega) (.int .u64 x)))
          clear hx hfj hm2 hbo
          go_wp2
          refine start_ (n := 20) (S := (fun w' => w'.cell? ⟨bo, 0, none⟩ = some (.slice (some ⟨bo + 1, 0, none⟩) (t + 1) (t + 1)) ∧ w'.cell? ⟨bo, i, none⟩ = some (.slice (some ⟨bo + 1 + i, 0, none⟩) (t + 1) (t + 1)) ∧ w'.cell? (ad0.add i) = some (.int .u64 x))) (ds := [17,19]) #[false, false, false, false, false, false, false, false, false, false, false, false, false, false, false, false, false, false, false, false] (by kernel_rfl) rfl rfl ⟨c1, c2, hx0⟩ (fun hHeld => ?_)
          refine pure_ (i := 0) (N := some 46) (v := ?_) (a' := ?_) #[true, false, false, false, false, false, false, false, false, false, false, false, false, false, false, false, false, false, false, false] rfl rfl (by kernel_rfl) (fun _ _ _ h => h) (Or.inl ⟨by rfl, ?_⟩) ?_ ?_
          rotate_left
          · intro w'
            go_simp
            with_reducible rfl
          rotate_left
          · simp only [Act.put, List.setIfInBounds_toArray, List.set_cons_zero, List.set_cons_succ, i64_w, i32_w]
            rfl
          refine pure_ (i := 1) (N := some 47) (v := ?_) (a' := ?_) #[true, true, false, false, false, false, false, false, false, false, false, false, false, false, false, false, false, false, false, false] rfl rfl (by kernel_rfl) (fun _ _ _ h => h) (Or.inl ⟨by rfl, ?_⟩) ?_ ?_
          rotate_left
          · intro w'
            go_simp
            with_reducible rfl
          rotate_left
          · simp only [Act.put, List.setIfInBounds_toArray, List.set_cons_zero, List.set_cons_succ, i64_w, i32_w]
            rfl
          refine take_ (i := 2) (N := some 48) (v := ?_) (a' := ?_) #[true, true, true, false, false, false, false, false, false, false, false, false, false, false, false, false, false, false, false, false] rfl rfl (by kernel_rfl) (fun _ _ _ h => h) (Or.inl ⟨by rfl, ?_⟩) hHeld ?_ ?_
          rotate_left
          · rintro w' ⟨s0, s1, s2⟩
            go_simp
            with_reducible rfl
          rotate_left
          · simp only [Act.put, List.setIfInBounds_toArray, List.set_cons_zero, List.set_cons_succ, i64_w, i32_w]
            rfl
          refine pure_ (i := 3) (N := some 49) (v := ?_) (a' := ?_) #[true, true, true, true, false, false, false, false, false, false, false, false, false, false, false, false, false, false, false, false] rfl rfl (by kernel_rfl) (fun _ _ _ h => h) (Or.inl ⟨by rfl, ?_⟩) ?_ ?_
          rotate_left
          · intro w'
            go_simp
            with_reducible rfl
          rotate_left
          · simp only [Act.put, List.setIfInBounds_toArray, List.set_cons_zero, List.set_cons_succ, i64_w, i32_w]
            rfl
          refine pure_ (i := 4) (N := some 50) (v := ?_) (a' := ?_) #[true, true, true, true, true, false, false, false, false, false, false, false, false, false, false, false, false, false, false, false] rfl rfl (by kernel_rfl) (fun _ _ _ h => h) (Or.inl ⟨by rfl, ?_⟩) ?_ ?_
          rotate_left
          · intro w'
            go_simp
            with_reducible rfl
          rotate_left
          · simp only [Act.put, List.setIfInBounds_toArray, List.set_cons_zero, List.set_cons_succ, i64_w, i32_w]
            rfl
          refine pure_ (i := 5) (N := some 51) (v := ?_) (a' := ?_) #[true, true, true, true, true, true, false, false, false, false, false, false, false, false, false, false, false, false, false, false] rfl rfl (by kernel_rfl) (fun _ _ _ h => h) (Or.inl ⟨by rfl, ?_⟩) ?_ ?_
          rotate_left
          · intro w'
            go_simp
            with_reducible rfl
          rotate_left
          · simp only [Act.put, List.setIfInBounds_toArray, List.set_cons_zero, List.set_cons_succ, i64_w, i32_w]
            rfl
          refine pure_ (i := 6) (N := some 52) (v := ?_) (a' := ?_) #[true, true, true, true, true, true, true, false, false, false, false, false, false, false, false, false, false, false, false, false] rfl rfl (by kernel_rfl) (fun _ _ _ h => h) (Or.inl ⟨by rfl, ?_⟩) ?_ ?_
          rotate_left
          · intro w'
            go_simp
            with_reducible rfl
          rotate_left
          · simp only [Act.put, List.setIfInBounds_toArray, List.set_cons_zero, List.set_cons_succ, i64_w, i32_w]
            rfl
          refine take_ (i := 7) (N := some 53) (v := ?_) (a' := ?_) #[true, true, true, true, true, true, true, true, false, false, false, false, false, false, false, false, false, false, false, false] rfl rfl (by kernel_rfl) (fun _ _ _ h => h) (Or.inl ⟨by rfl, ?_⟩) hHeld ?_ ?_
          rotate_left
          · rintro w' ⟨s0, s1, s2⟩
            go_simp
            with_reducible rfl
          rotate_left
          · simp only [Act.put, List.setIfInBounds_toArray, List.set_cons_zero, List.set_cons_succ, i64_w, i32_w]
            rfl
          refine pure_ (i := 8) (N := some 54) (v := ?_) (a' := ?_) #[true, true, true, true, true, true, true, true, true, false, false, false, false, false, false, false, false, false, false, false] rfl rfl (by kernel_rfl) (fun _ _ _ h => h) (Or.inl ⟨by rfl, ?_⟩) ?_ ?_
          rotate_left
          · intro w'
            go_simp
            with_reducible rfl
          rotate_left
          · simp only [Act.put, List.setIfInBounds_toArray, List.set_cons_zero, List.set_cons_succ, i64_w, i32_w]
            rfl
          refine pure_ (i := 9) (N := some 55) (v := ?_) (a' := ?_) #[true, true, true, true, true, true, true, true, true, true, false, false, false, false, false, false, false, false, false, false] rfl rfl (by kernel_rfl) (fun _ _ _ h => h) (Or.inl ⟨by rfl, ?_⟩) ?_ ?_
          rotate_left
          · intro w'
            go_simp
            with_reducible rfl
          rotate_left
          · simp only [Act.put, List.setIfInBounds_toArray, List.set_cons_zero, List.set_cons_succ, i64_w, i32_w]
            rfl
          refine pure_ (i := 10) (N := some 56) (v := ?_) (a' := ?_) #[true, true, true, true, true, true, true, true, true, true, true, false, false, false, false, false, false, false, false, false] rfl rfl (by kernel_rfl) (fun _ _ _ h => h) (Or.inl ⟨by rfl, ?_⟩) ?_ ?_
          rotate_left
          · intro w'
            go_simp
            with_reducible rfl
          rotate_left
          · simp only [Act.put, List.setIfInBounds_toArray, List.set_cons_zero, List.set_cons_succ, i64_w, i32_w]
            rfl
          refine take_ (i := 11) (N := some 57) (v := ?_) (a' := ?_) #[true, true, true, true, true, true, true, true, true, true, true, true, false, false, false, false, false, false, false, false] rfl rfl (by kernel_rfl) (fun _ _ _ h => h) (Or.inl ⟨by rfl, ?_⟩) hHeld ?_ ?_
          rotate_left
          · rintro w' ⟨s0, s1, s2⟩
            go_simp
            with_reducible rfl
          rotate_left
          · simp only [Act.put, List.setIfInBounds_toArray, List.set_cons_zero, List.set_cons_succ, i64_w, i32_w]
            rfl
          refine pure_ (i := 12) (N := some 58) (v := ?_) (a' := ?_) #[true, true, true, true, true, true, true, true, true, true, true, true, true, false, false, false, false, false, false, false] rfl rfl (by kernel_rfl) (fun _ _ _ h => h) (Or.inl ⟨by rfl, ?_⟩) ?_ ?_
          rotate_left
          · intro w'
            go_simp
            with_reducible rfl
          rotate_left
          · simp only [Act.put, List.setIfInBounds_toArray, List.set_cons_zero, List.set_cons_succ, i64_w, i32_w]
            rfl
          refine pure_ (i := 13) (N := some 59) (v := ?_) (a' := ?_) #[true, true, true, true, true, true, true, true, true, true, true, true, true, true, false, false, false, false, false, false] rfl rfl (by kernel_rfl) (fun _ _ _ h => h) (Or.inl ⟨by rfl, ?_⟩) ?_ ?_
          rotate_left
          · intro w'
            go_simp
            with_reducible rfl
          rotate_left
          · simp only [Act.put, List.setIfInBounds_toArray, List.set_cons_zero, List.set_cons_succ, i64_w, i32_w]
            rfl
          refine pure_ (i := 14) (N := some 60) (v := ?_) (a' := ?_) #[true, true, true, true, true, true, true, true, true, true, true, true, true, true, true, false, false, false, false, false] rfl rfl (by kernel_rfl) (fun _ _ _ h => h) (Or.inl ⟨by rfl, ?_⟩) ?_ ?_
          rotate_left
          · intro w'
            go_simp
            with_reducible rfl
          rotate_left
          · simp only [Act.put, List.setIfInBounds_toArray, List.set_cons_zero, List.set_cons_succ, i64_w, i32_w]
            rfl
          refine take_ (i := 15) (N := some 61) (v := ?_) (a' := ?_) #[true, true, true, true, true, true, true, true, true, true, true, true, true, true, true, true, false, false, false, false] rfl rfl (by kernel_rfl) (fun _ _ _ h => h) (Or.inl ⟨by rfl, ?_⟩) hHeld ?_ ?_
          rotate_left
          · rintro w' ⟨s0, s1, s2⟩
            go_simp
            with_reducible rfl
          rotate_left
          · simp only [Act.put, List.setIfInBounds_toArray, List.set_cons_zero, List.set_cons_succ, i64_w, i32_w]
            rfl
          refine pure_ (i := 16) (N := some 62) (v := ?_) (a' := ?_) #[true, true, true, true, true, true, true, true, true, true, true, true, true, true, true, true, true, false, false, false] rfl rfl (by kernel_rfl) (fun _ _ _ h => h) (Or.inl ⟨by rfl, ?_⟩) ?_ ?_
          rotate_left
          · intro w'
            go_simp
            with_reducible rfl
          rotate_left
          · simp only [Act.put, List.setIfInBounds_toArray, List.set_cons_zero, List.set_cons_succ, i64_w, i32_w]
            rfl
          refine last_ (i := 17) (N := none) #[true, true, true, true, true, true, true, true, true, true, true, true, true, true, true, true, true, true, false, false] rfl rfl (by kernel_rfl) (by decide) (fun K hK => ?_)
          refine skip_ (w1 := ?_) (by rfl) rfl ?_ ?_
          rotate_left
          · go_simp
            rfl
          refine hK.out _ _ ?_
          clear hK K
          refine pure_ (i := 18) (N := some 63) (v := ?_) (a' := ?_) #[true, true, true, true, true, true, true, true, true, true, true, true, true, true, true, true, true, true, true, false] rfl rfl (by kernel_rfl) (fun _ _ _ h => h) (Or.inl ⟨by rfl, ?_⟩) ?_ ?_
          rotate_left
          · intro w'
            go_simp
            with_reducible rfl
          rotate_left
          · simp only [Act.put, List.setIfInBounds_toArray, List.set_cons_zero, List.set_cons_succ, i64_w, i32_w]
            rfl
          refine last_ (i := 19) (N := none) #[true, true, true, true, true, true, true, true, true, true, true, true, true, true, true, true, true, true, true, true] rfl rfl (by kernel_rfl) (by decide) (fun K hK => ?_)
          refine skip_ (w1 := ?_) (by rfl) rfl ?_ ?_
          rotate_left
          · go_simp
            rfl
          refine hK.out _ _ ?_
          clear hK K
          refine done_ (by kernel_rfl) ?_
          clear c1 c2 d1 d2 g1 g2 hx0 p2 p3 p4 p5 q1 q2
          generalize hW : ((wr.setCell { block := bo + 1, off := i } (Value.int IntKind.u64 x)).setCell { block := bo + 1 + i, off := 0 } (Value.int IntKind.u64 x)).drew = W at HM2 HB2 ⊢
          clear hW
          go_wp2
          go_loopg [9, 11] (t + 1 - i) (fun kq v9 v11 w' => ∃ j : Nat, v11 = .int .i64 (j : Int) ∧ v9 = .int .i64 ((offs (t + 1) i + (j - i) : Nat) : Int) ∧ Aside0 (kq + j = t + 1 ∧ i ≤ j) ∧ Aside0 (i = 0 → j = 0) ∧ Aside0 (Mx w' bo (t + 1) (t + 1) (rS (t + 1) first rest (i + 1) i j)) ∧ Aside0 (Below w.heap.size w w'))
          case atStart => exact ⟨i, rfl, (by rw [Nat.sub_self]; rfl), ⟨by omega, Nat.le_refl _⟩, ⟨fun h => h⟩, HM2, HB2⟩
          case round =>
            clear HM2 HB2 HM HB
            obtain ⟨j, rfl, rfl, HK2, HJ0, HM, HB⟩ := hrel
            have hkk := HK2.out.2
            by_cases hlj : j < t + 1 ∧ 0 < i
            · obtain ⟨hlj, hi1⟩ := hlj
              have q3 : decide ((j : Int) ≤ (t : Int)) = true := decide_eq_true (by omega)
              have q4 : decide (j ≤ t) = true := decide_eq_true (by omega)
              have q5 : decide ((0 : Int) < (i : Int)) = true := decide_eq_true (by omega)
              have q6 : decide (0 < i) = true := decide_eq_true hi1
              have hqb : offs (t + 1) i + (j - i) < rest.length := by
                have h1 := offs_next (t + 1) i hi1
                have h2 := offs_mono (n := t + 1) (t + 1 - (i + 1)) (i + 1) (by omega)
                rw [show i + 1 + (t + 1 - (i + 1)) = t + 1 from by omega] at h2
                have := HL.out
                omega
              obtain ⟨q, hq⟩ : ∃ q, q = offs (t + 1) i + (j - i) := ⟨_, rfl⟩
              rw [← hq] at hqb ⊢
              have HQ := Aside0.mk hq
              obtain ⟨ad, e1, hx0⟩ := Kd.at_int (Kd.C_below HR1.out HB.out) (q : Int) (by omega) (by omega)
              cases e1
              rw [Int.toNat_natCast, show rd rest (q : Int) = rest.getD q 0 from rd_nat rest q] at hx0
              obtain ⟨x, hx⟩ : ∃ x, x = rest.getD q 0 := ⟨_, rfl⟩
              rw [← hx] at hx0
              have HX := Aside0.mk hx
              have p2 : ((i : Int) < (t : Int) + 1) = True := eq_true (by omega)
              have p3 : ((0 : Int) ≤ (j : Int)) = True := eq_true (by omega)
              have p4 : ((j : Int) < (t : Int) + 1) = True := eq_true (by omega)
              have p5 : ((0 : Int) ≤ (q : Int)) = True := eq_true (by omega)
              have p6 : ((q : Int) < (rest.length : Int)) = True := eq_true (by omega)
              have c1 : wr.cell? ⟨bo, i, none⟩ = some (.slice (some ⟨bo + 1 + i, 0, none⟩) (t + 1) (t + 1)) := HM.out.cellO hlt hlt
              have c2 : wr.cell? ⟨bo, j, none⟩ = some (.slice (some ⟨bo + 1 + j, 0, none⟩) (t + 1) (t + 1)) := HM.out.cellO hlj hlj
              have d1 : wr.cell? ⟨bo + 1 + i, j, none⟩ = some _ := HM.out.cellR hlt hlj
              have g1 : wr.frozen? ⟨bo + 1 + i, j, none⟩ = false := HM.out.frozR hlt j
              have hm2 := HM.out.put (i := i) (j := j) hlt hlj x
              have d2 : (wr.setCell ⟨bo + 1 + i, j, none⟩ (.int .u64 x)).cell? ⟨bo + 1 + j, i, none⟩ = some _ := hm2.cellR hlj hlt
              have g2 : wr.frozen? ⟨bo + 1 + j, i, none⟩ = false := HM.out.frozR hlj i
              have HM2 := Aside0.mk (show Mx _ bo (t + 1) (t + 1) (rS (t + 1) first rest (i + 1) i (j + 1)) from Mx.drew ((hm2.put (i := j) (j := i) hlj hlt x).congr fun a ha b hb => by rw [HX.out, HQ.out]; exact rS_next hi1 hkk (i + 1) a ha b hb))
              have hbo : w.heap.size ≤ bo := by rw [← HBO.out]; exact Nat.le_refl _
              have HB2 := Aside0.mk (show Below w.heap.size w _ from below_drew (Below.setCell (Below.setCell HB.out (p := ⟨bo + 1 + i, j, none⟩) (by show w.heap.size ≤ bo + 1 + i; omega) (.int .u64 x)) (p := ⟨bo + 1 + j, i, none⟩) (by show w.heap.size ≤ bo + 1 + j; omega) (.int .u64 x)))
              have HQB := Aside0.mk hqb
              have HLJ := Aside0.mk hlj
              clear hm2 hx hq hbo
              go_wp2
              refine start_ (n := 22) (S := (fun w' => w'.cell? ⟨bo, i, none⟩ = some (.slice (some ⟨bo + 1 + i, 0, none⟩) (t + 1) (t + 1)) ∧ w'.cell? ⟨bo, j, none⟩ = some (.slice (some ⟨bo + 1 + j, 0, none⟩) (t + 1) (t + 1)) ∧ w'.cell? (ad.add q) = some (.int .u64 x))) (ds := [19,21]) #[false, false, false, false, false, false, false, false, false, false, false, false, false, false, false, false, false, false, false, false, false, false] (by kernel_rfl) rfl rfl ⟨c1, c2, hx0⟩ (fun hHeld => ?_)
              refine pure_ (i := 0) (N := some 74) (v := ?_) (a' := ?_) #[true, false, false, false, false, false, false, false, false, false, false, false, false, false, false, false, false, false, false, false, false, false] rfl rfl (by kernel_rfl) (fun _ _ _ h => h) (Or.inl ⟨by rfl, ?_⟩) ?_ ?_
              rotate_left
              · intro w'
                go_simp
                with_reducible rfl
              rotate_left
              · simp only [Act.put, List.setIfInBounds_toArray, List.set_cons_zero, List.set_cons_succ, i64_w, i32_w]
                rfl
              refine pure_ (i := 1) (N := some 75) (v := ?_) (a' := ?_) #[true, true, false, false, false, false, false, false, false, false, false, false, false, false, false, false, false, false, false, false, false, false] rfl rfl (by kernel_rfl) (fun _ _ _ h => h) (Or.inl ⟨by rfl, ?_⟩) ?_ ?_
              rotate_left
              · intro w'
                go_simp
                with_reducible rfl
              rotate_left
              · simp only [Act.put, List.setIfInBounds_toArray, List.set_cons_zero, List.set_cons_succ, i64_w, i32_w]
                rfl
              refine pure_ (i := 2) (N := some 76) (v := ?_) (a' := ?_) #[true, true, true, false, false, false, false, false, false, false, false, false, false, false, false, false, false, false, false, false, false, false] rfl rfl (by kernel_rfl) (fun _ _ _ h => h) (Or.inl ⟨by rfl, ?_⟩) ?_ ?_
              rotate_left
              · intro w'
                go_simp
                with_reducible rfl
              rotate_left
              · simp only [Act.put, List.setIfInBounds_toArray, List.set_cons_zero, List.set_cons_succ, i64_w, i32_w]
                rfl
              refine take_ (i := 3) (N := some 77) (v := ?_) (a' := ?_) #[true, true, true, true, false, false, false, false, false, false, false, false, false, false, false, false, false, false, false, false, false, false] rfl rfl (by kernel_rfl) (fun _ _ _ h => h) (Or.inl ⟨by rfl, ?_⟩) hHeld ?_ ?_
              rotate_left
              · rintro w' ⟨s0, s1, s2⟩
                go_simp
                with_reducible rfl
              rotate_left
              · simp only [Act.put, List.setIfInBounds_toArray, List.set_cons_zero, List.set_cons_succ, i64_w, i32_w]
                rfl
              refine pure_ (i := 4) (N := some 78) (v := ?_) (a' := ?_) #[true, true, true, true, true, false, false, false, false, false, false, false, false, false, false, false, false, false, false, false, false, false] rfl rfl (by kernel_rfl) (fun _ _ _ h => h) (Or.inl ⟨by rfl, ?_⟩) ?_ ?_
              rotate_left
              · intro w'
                go_simp
                with_reducible rfl
              rotate_left
              · simp only [Act.put, List.setIfInBounds_toArray, List.set_cons_zero, List.set_cons_succ, i64_w, i32_w]
                rfl
              refine pure_ (i := 5) (N := some 79) (v := ?_) (a' := ?_) #[true, true, true, true, true, true, false, false, false, false, false, false, false, false, false, false, false, false, false, false, false, false] rfl rfl (by kernel_rfl) (fun _ _ _ h => h) (Or.inl ⟨by rfl, ?_⟩) ?_ ?_
              rotate_left
              · intro w'
                go_simp
                with_reducible rfl
              rotate_left
              · simp only [Act.put, List.setIfInBounds_toArray, List.set_cons_zero, List.set_cons_succ, i64_w, i32_w]
                rfl
              refine pure_ (i := 6) (N := some 80) (v := ?_) (a' := ?_) #[true, true, true, true, true, true, true, false, false, false, false, false, false, false, false, false, false, false, false, false, false, false] rfl rfl (by kernel_rfl) (fun _ _ _ h => h) (Or.inl ⟨by rfl, ?_⟩) ?_ ?_
              rotate_left
              · intro w'
                go_simp
                with_reducible rfl
              rotate_left
              · simp only [Act.put, List.setIfInBounds_toArray, List.set_cons_zero, List.set_cons_succ, i64_w, i32_w]
                rfl
              refine pure_ (i := 7) (N := some 81) (v := ?_) (a' := ?_) #[true, true, true, true, true, true, true, true, false, false, false, false, false, false, false, false, false, false, false, false, false, false] rfl rfl (by kernel_rfl) (fun _ _ _ h => h) (Or.inl ⟨by rfl, ?_⟩) ?_ ?_
              rotate_left
              · intro w'
                go_simp
                with_reducible rfl
              rotate_left
              · simp only [Act.put, List.setIfInBounds_toArray, List.set_cons_zero, List.set_cons_succ, i64_w, i32_w]
                rfl
              refine take_ (i := 8) (N := some 82) (v := ?_) (a' := ?_) #[true, true, true, true, true, true, true, true, true, false, false, false, false, false, false, false, false, false, false, false, false, false] rfl rfl (by kernel_rfl) (fun _ _ _ h => h) (Or.inl ⟨by rfl, ?_⟩) hHeld ?_ ?_
              rotate_left
              · rintro w' ⟨s0, s1, s2⟩
                go_simp
                with_reducible rfl
              rotate_left
              · simp only [Act.put, List.setIfInBounds_toArray, List.set_cons_zero, List.set_cons_succ, i64_w, i32_w]
                rfl
              refine pure_ (i := 9) (N := some 83) (v := ?_) (a' := ?_) #[true, true, true, true, true, true, true, true, true, true, false, false, false, false, false, false, false, false, false, false, false, false] rfl rfl (by kernel_rfl) (fun _ _ _ h => h) (Or.inl ⟨by rfl, ?_⟩) ?_ ?_
              rotate_left
              · intro w'
                go_simp
                with_reducible rfl
              rotate_left
              · simp only [Act.put, List.setIfInBounds_toArray, List.set_cons_zero, List.set_cons_succ, i64_w, i32_w]
                rfl
              refine pure_ (i := 10) (N := some 84) (v := ?_) (a' := ?_) #[true, true, true, true, true, true, true, true, true, true, true, false, false, false, false, false, false, false, false, false, false, false] rfl rfl (by kernel_rfl) (fun _ _ _ h => h) (Or.inl ⟨by rfl, ?_⟩) ?_ ?_
              rotate_left
              · intro w'
                go_simp
                with_reducible rfl
              rotate_left
              · simp only [Act.put, List.setIfInBounds_toArray, List.set_cons_zero, List.set_cons_succ, i64_w, i32_w]
                rfl
              refine pure_ (i := 11) (N := some 85) (v := ?_) (a' := ?_) #[true, true, true, true, true, true, true, true, true, true, true, true, false, false, false, false, false, false, false, false, false, false] rfl rfl (by kernel_rfl) (fun _ _ _ h => h) (Or.inl ⟨by rfl, ?_⟩) ?_ ?_
              rotate_left
              · intro w'
                go_simp
                with_reducible rfl
              rotate_left
              · simp only [Act.put, List.setIfInBounds_toArray, List.set_cons_zero, List.set_cons_succ, i64_w, i32_w]
                rfl
              refine pure_ (i := 12) (N := some 86) (v := ?_) (a' := ?_) #[true, true, true, true, true, true, true, true, true, true, true, true, true, false, false, false, false, false, false, false, false, false] rfl rfl (by kernel_rfl) (fun _ _ _ h => h) (Or.inl ⟨by rfl, ?_⟩) ?_ ?_
              rotate_left
              · intro w'
                go_simp
                with_reducible rfl
              rotate_left
              · simp only [Act.put, List.setIfInBounds_toArray, List.set_cons_zero, List.set_cons_succ, i64_w, i32_w]
                rfl
              refine take_ (i := 13) (N := some 87) (v := ?_) (a' := ?_) #[true, true, true, true, true, true, true, true, true, true, true, true, true, true, false, false, false, false, false, false, false, false] rfl rfl (by kernel_rfl) (fun _ _ _ h => h) (Or.inl ⟨by rfl, ?_⟩) hHeld ?_ ?_
              rotate_left
              · rintro w' ⟨s0, s1, s2⟩
                go_simp
                with_reducible rfl
              rotate_left
              · simp only [Act.put, List.setIfInBounds_toArray, List.set_cons_zero, List.set_cons_succ, i64_w, i32_w]
                rfl
              refine pure_ (i := 14) (N := some 88) (v := ?_) (a' := ?_) #[true, true, true, true, true, true, true, true, true, true, true, true, true, true, true, false, false, false, false, false, false, false] rfl rfl (by kernel_rfl) (fun _ _ _ h => h) (Or.inl ⟨by rfl, ?_⟩) ?_ ?_
              rotate_left
              · intro w'
                go_simp
                with_reducible rfl
              rotate_left
              · simp only [Act.put, List.setIfInBounds_toArray, List.set_cons_zero, List.set_cons_succ, i64_w, i32_w]
                rfl
              refine pure_ (i := 15) (N := some 89) (v := ?_) (a' := ?_) #[true, true, true, true, true, true, true, true, true, true, true, true, true, true, true, true, false, false, false, false, false, false] rfl rfl (by kernel_rfl) (fun _ _ _ h => h) (Or.inl ⟨by rfl, ?_⟩) ?_ ?_
              rotate_left
              · intro w'
                go_simp
                with_reducible rfl
              rotate_left
              · simp only [Act.put, List.setIfInBounds_toArray, List.set_cons_zero, List.set_cons_succ, i64_w, i32_w]
                rfl
              refine pure_ (i := 16) (N := some 90) (v := ?_) (a' := ?_) #[true, true, true, true, true, true, true, true, true, true, true, true, true, true, true, true, true, false, false, false, false, false] rfl rfl (by kernel_rfl) (fun _ _ _ h => h) (Or.inl ⟨by rfl, ?_⟩) ?_ ?_
              rotate_left
              · intro w'
                go_simp
                with_reducible rfl
              rotate_left
              · simp only [Act.put, List.setIfInBounds_toArray, List.set_cons_zero, List.set_cons_succ, i64_w, i32_w]
                rfl
              refine take_ (i := 17) (N := some 91) (v := ?_) (a' := ?_) #[true, true, true, true, true, true, true, true, true, true, true, true, true, true, true, true, true, true, false, false, false, false] rfl rfl (by kernel_rfl) (fun _ _ _ h => h) (Or.inl ⟨by rfl, ?_⟩) hHeld ?_ ?_
              rotate_left
              · rintro w' ⟨s0, s1, s2⟩
                go_simp
                with_reducible rfl
              rotate_left
              · simp only [Act.put, List.setIfInBounds_toArray, List.set_cons_zero, List.set_cons_succ, i64_w, i32_w]
                rfl
              refine pure_ (i := 18) (N := some 92) (v := ?_) (a' := ?_) #[true, true, true, true, true, true, true, true, true, true, true, true, true, true, true, true, true, true, true, false, false, false] rfl rfl (by kernel_rfl) (fun _ _ _ h => h) (Or.inl ⟨by rfl, ?_⟩) ?_ ?_
              rotate_left
              · intro w'
                go_simp
                with_reducible rfl
              rotate_left
              · simp only [Act.put, List.setIfInBounds_toArray, List.set_cons_zero, List.set_cons_succ, i64_w, i32_w]
                rfl
              refine last_ (i := 19) (N := none) #[true, true, true, true, true, true, true, true, true, true, true, true, true, true, true, true, true, true, true, true, false, false] rfl rfl (by kernel_rfl) (by decide) (fun K hK => ?_)
              refine skip_ (w1 := ?_) (by rfl) rfl ?_ ?_
              rotate_left
              · go_simp
                rfl
              refine hK.out _ _ ?_
              clear hK K
              refine pure_ (i := 20) (N := some 93) (v := ?_) (a' := ?_) #[true, true, true, true, true, true, true, true, true, true, true, true, true, true, true, true, true, true, true, true, true, false] rfl rfl (by kernel_rfl) (fun _ _ _ h => h) (Or.inl ⟨by rfl, ?_⟩) ?_ ?_
              rotate_left
              · intro w'
                go_simp
                with_reducible rfl
              rotate_left
              · simp only [Act.put, List.setIfInBounds_toArray, List.set_cons_zero, List.set_cons_succ, i64_w, i32_w]
                rfl
              refine last_ (i := 21) (N := none) #[true, true, true, true, true, true, true, true, true, true, true, true, true, true, true, true, true, true, true, true, true, true] rfl rfl (by kernel_rfl) (by decide) (fun K hK => ?_)
              refine skip_ (w1 := ?_) (by rfl) rfl ?_ ?_
              rotate_left
              · go_simp
                rfl
              refine hK.out _ _ ?_
              clear hK K
              refine done_ (by kernel_rfl) ?_
              go_wp2
              go_roundg (t + 1 - (j + 1))
              case measure => have := HK2.out; have := HLJ.out; omega
              case rel =>
                have hqb := HQB.out
                have hlj := HLJ.out
                refine ⟨j + 1, (by first | rfl | rw [show wrap64 ((j : Int) + 1) = ((j + 1 : Nat) : Int) from by rw [w64' (by omega) (by omega)]; omega]), ?_, ⟨by omega, by omega⟩, ⟨fun h => by omega⟩, HM2, HB2⟩
                have h9 := HL.out
                have h10 := offs_last (n := t + 1) (by omega)
                have h11 : ((t + 1 : Nat) : Int) * (((t + 1 : Nat) : Int) - 1) ≤ 1000 * 1000 := Int.mul_le_mul (by omega) (by omega) (by omega) (by omega)
                rw [show wrap64 ((q : Int) + 1) = ((q + 1 : Nat) : Int) from by rw [w64' (by omega) (by omega)]; omega, HQ.out, show offs (t + 1) i + (j - i) + 1 = offs (t + 1) i + (j + 1 - i) from by omega]
            · by_cases hjt : j < t + 1
              · have q3 : decide ((j : Int) ≤ (t : Int)) = true := decide_eq_true (by omega)
                have q4 : decide (j ≤ t) = true := decide_eq_true (by omega)
                have q5 : decide ((0 : Int) < (i : Int)) = false := decide_eq_false (by omega)
                have q6 : decide (0 < i) = false := decide_eq_false (by omega)
                have HM3 := Aside0.mk (HM.out.congr (rS_row (n := t + 1) (first := first) (rest := rest) (i + 1) i j (by have := HK2.out; omega)))
                have hoff : offs (t + 1) i + (j - i) = offs (t + 1) (i + 1) := by
                  by_cases hi0 : i = 0
                  · have := HJ0.out hi0
                    rw [hi0, this]; rfl
                  · rw [offs_next (t + 1) i (by omega)]
                    have := HK2.out; omega
                rw [hoff]
                clear hoff
                go_wp2
                go_roundg (t + 1 - (i + 1))
                case measure => have := HK.out; omega
                case rel => exact ⟨i + 1, (by first | rfl | rw [show wrap64 ((i : Int) + 1) = ((i + 1 : Nat) : Int) from by rw [w64' (by omega) (by omega)]; omega]), rfl, ⟨by have := HK.out; omega⟩, HM3, HB⟩
              · have q3 : decide ((j : Int) ≤ (t : Int)) = false := decide_eq_false (by omega)
                have q4 : decide (j ≤ t) = false := decide_eq_false (by omega)
                have HM3 := Aside0.mk (HM.out.congr (rS_row (n := t + 1) (first := first) (rest := rest) (i + 1) i j (by have := HK2.out; omega)))
                have hoff : offs (t + 1) i + (j - i) = offs (t + 1) (i + 1) := by
                  by_cases hi0 : i = 0
                  · have := HJ0.out hi0
                    rw [hi0, this]; rfl
                  · rw [offs_next (t + 1) i (by omega)]
                    have := HK2.out; omega
                rw [hoff]
                clear hoff
                go_wp2
                go_roundg (t + 1 - (i + 1))
                case measure => have := HK.out; omega
                case rel => exact ⟨i + 1, (by first | rfl | rw [show wrap64 ((i : Int) + 1) = ((i + 1 : Nat) : Int) from by rw [w64' (by omega) (by omega)]; omega]), rfl, ⟨by have := HK.out; omega⟩, HM3, HB⟩
        · have q1 : decide ((i : Int) ≤ (t : Int)) = false := decide_eq_false (by omega)
          have q2 : decide (i ≤ t) = false := decide_eq_false (by omega)
          have hij : i = t + 1 := by have := HK.out; omega
          go_wp2
          first | go_ret2 | ((try simp only [Exit.inBlock, Exit.then]); refine bodyPost_ret (results_tmp2 rfl _ _ _) rfl ?_)
          have hM := HM.out
          rw [hij] at hM
          exact ⟨_, rfl, (hM.congr (rS_all (t + 1))).own (by rw [← HBO.out]; exact Nat.le_refl _) (by omega), HB.out⟩
set_option maxHeartbeats 2000000 in
set_option maxRecDepth 100000 in
theorem rnew_err (A0 : Option Addr) (c0 : Nat) (first : List Int) (A1 : Option Addr) (c1 : Nat) (rest : List Int) (w : World) (hn2 : first.length ≤ 1000) (hlr : rest.length ≤ 1000000000) (hbad : first.length = 0 ∨ rest.length ≠ offs first.length first.length) :
    Calls Try.prog 15 #[.slice A0 first.length c0, .slice A1 rest.length c1] w fun e w' => ∃ v0_ : Value, e = .returned (.tuple #[v0_, .int .i64 1]) ∧ Kd.S (Kd.slice 31 (Kd.int .u64)) 22 w' w.heap.size (fun _ => True) v0_ [] ∧ Below w.heap.size w w' := by
  by_cases hn : first.length = 0
  · have q0 : decide ((first.length : Int) - 1 < 0) = true := decide_eq_true (by omega)
    rw [hn] at q0 ⊢
    clear hbad hn
    go_enter Try.func15, Try.ntmps15
    go_wp2
    first | go_ret2 | ((try simp only [Exit.inBlock, Exit.then]); refine bodyPost_ret (results_tmp2 rfl _ _ _) rfl ?_)
    exact ⟨_, rfl, Kd.S_nil _ _ _ _ _, Below.refl _ _⟩
  · have hl : rest.length ≠ offs first.length first.length := hbad.resolve_left hn
    have hol := offs_last (n := first.length) (by omega)
    obtain ⟨t, en⟩ : ∃ t, t + 1 = first.length := ⟨first.length - 1, by omega⟩
    rw [← en] at hol hl hn2 ⊢
    have hq : ((rest.length : Int) != wrap64 ((wrap64 ((t : Int) * ((t : Int) + 1))).tdiv 2)) = true := by
      have h1 : (t : Int) * ((t : Int) + 1) = 2 * (offs (t + 1) (t + 1) : Int) := by rw [hol]; push_cast; grind
      have h2 : (t : Int) * ((t : Int) + 1) ≤ 1000 * 1000 := Int.mul_le_mul (by omega) (by omega) (by omega) (by omega)
      have h3 : wrap64 ((t : Int) * ((t : Int) + 1)) = 2 * (offs (t + 1) (t + 1) : Int) := by rw [h1, w64' (by omega) (by omega)]
      rw [h3, Int.mul_tdiv_cancel_left _ (by omega), w64' (by omega) (by omega)]
      exact bne_iff_ne.mpr (by omega)
    have q0 : decide ((t : Int) < 0) = false := decide_eq_false (by omega)
    clear hbad hl hol hn en
    go_enter Try.func15, Try.ntmps15
    go_wp2
    first | go_ret2 | ((try simp only [Exit.inBlock, Exit.then]); refine bodyPost_ret (results_tmp2 rfl _ _ _) rfl ?_)
    exact ⟨_, rfl, Kd.S_nil _ _ _ _ _, Below.refl _ _⟩
def privityref10_New.f (l0 l1 : List Int) : Option (List (List Int) × Int) :=
  if l0.length ≤ 1000 then (if l1.length ≤ 1000000000 then (if newBad l0 l1 = true then some ([], 1) else some (matL l0.length (newG l0.length l0 l1), 0)) else none) else none
theorem privityref10_New.calls (A0 : Option Addr) (c0 : Nat) (l0 : List Int) (A1 : Option Addr) (c1 : Nat) (l1 : List Int) (r1 : List (List Int)) (r2 : Int) (w : World) (hr0 : Kd.C (Kd.int .u64) w A0 l0.length l0) (hc0 : l0.length ≤ c0) (hr1 : Kd.C (Kd.int .u64) w A1 l1.length l1) (hc1 : l1.length ≤ c1) (h : privityref10_New.f l0 l1 = some (r1, r2)) :
    Calls Try.prog 15 #[.slice A0 l0.length c0, .slice A1 l1.length c1] w fun e w' => ∃ v0_ : Value, e = .returned (.tuple #[v0_, .int .i64 r2]) ∧ Kd.S (Kd.slice 31 (Kd.int .u64)) 22 w' w.heap.size (fun _ => True) v0_ r1 ∧ Below w.heap.size w w' := by
  unfold privityref10_New.f at h
  obtain ⟨h1, h⟩ := ifs h
  obtain ⟨h2, h⟩ := ifs h
  by_cases hb : newBad l0 l1 = true
  · rw [if_pos hb] at h
    have h := Option.some.inj h
    rw [← (Prod.mk.inj h).1, ← (Prod.mk.inj h).2]
    exact rnew_err A0 c0 l0 A1 c1 l1 w h1 h2 (newBad_iff.1 hb)
  · rw [if_neg hb] at h
    have h := Option.some.inj h
    rw [← (Prod.mk.inj h).1, ← (Prod.mk.inj h).2]
    have hg : ¬ (l0.length = 0 ∨ l1.length ≠ offs l0.length l0.length) := fun hx => hb (newBad_iff.2 hx)
    exact rnew_walk A0 c0 l0 A1 c1 l1 w hr0 hc0 hr1 hc1 (by omega) h1 (Classical.byContradiction fun hx => hg (Or.inr hx))
end Go.Proofs.Ytkhdocabgmemiaa.Hw
end
section
/- Printed by a program of this seat (the kit's printer, with the functions that were proved by hand given to it). What stands here: the functions that the statements reach, as plain functions, and that the Go code computes them. -/
namespace Go.Proofs.Ytkhdocabgmemiaa.Pr
open Go.RowKit Go.Proofs.YtkhdocabgmemiaaW.PrintWords Go.Proofs.YtkhdocabgmemiaaW.PrintLast Go.Proofs.YtkhdocabgmemiaaW.PrintMore
attribute [local go_sem] max2_int min2_int max_two min_two max_three min_three max_four min_four   -- for this text's walks alone
set_option linter.unusedVariables false
set_option linter.unusedSimpArgs false

open Go.Proofs.Ytkhdocabgmemiaa.Hw
/-! ### privitylaw10_BivariateNew: function 3 -/
def privitylaw10_BivariateNew.j0 : Nat → List Int → List Int → Bool → Option (Bool)
 | 0,_,_,_ => none
 | k + 1,x0,x1,x16 => if x16 = true then ((privitylaw10_awake.f k).bind fun t325 => (some t325)) else ((bivariate_New.f x0 x1).bind fun bt326 => ((privityref10_New.f x0 x1).bind fun bt330 => ((privitylaw10_awake.f k).bind fun t334 => (if t334 = true then (if bt326.2 = bt330.2 then ((privityref06_Same.f k bt326.1 bt330.1).bind fun t335 => (if t335 = true then (if bt326.2 = 0 then ((bivariate_IsSymmetric.f k bt326.1).bind fun t336 => (some t336)) else (some true)) else (some false))) else (some false)) else (some false)))))
def privitylaw10_BivariateNew.f (k : Nat) (l0 : List Int) (l1 : List Int) : Option (Bool) := if (l0.length : Int) > 8 then (privitylaw10_BivariateNew.j0 k l0 l1 true) else (privitylaw10_BivariateNew.j0 k l0 l1 (decide ((l1.length : Int) > 40)))
set_option maxHeartbeats 8000000 in
set_option maxRecDepth 100000 in
theorem privitylaw10_BivariateNew.calls (k : Nat) (A0 : Option Addr) (c0 : Nat) (l0 : List Int) (A1 : Option Addr) (c1 : Nat) (l1 : List Int) (r : Bool) (w : World) (hr0 : Kd.C (Kd.int .u64) w A0 l0.length l0) (hc0 : l0.length ≤ c0) (hr1 : Kd.C (Kd.int .u64) w A1 l1.length l1) (hc1 : l1.length ≤ c1) (h : privitylaw10_BivariateNew.f k l0 l1 = some r) :
  Calls Try.prog 3 #[.slice A0 l0.length c0,.slice A1 l1.length c1] w fun e w' => e = .returned (.bool r) ∧ Below w.heap.size w w' := by
 have HR0 := Aside0.mk hr0
 have HC0 := Aside0.mk hc0
 clear hr0 hc0
 have HR1 := Aside0.mk hr1
 have HC1 := Aside0.mk hc1
 clear hr1 hc1
 have HB := Aside0.mk (Below.refl w.heap.size w)
 have H : (if (l0.length : Int) > 8 then (privitylaw10_BivariateNew.j0 k l0 l1 true) else (privitylaw10_BivariateNew.j0 k l0 l1 (decide ((l1.length : Int) > 40)))) = some r := h
 clear h
 have HC3 := Aside0.mk H
 clear H
 go_enter Try.func3,Try.ntmps3
 go_upto_region 1 with (fail)
 go_cut [16] (fun v16 wc => ∃ (kq : Nat) (x16_2 : Bool),v16 = .bool x16_2 ∧ Aside0 (privitylaw10_BivariateNew.j0 kq l0 l1 x16_2 = some r) ∧ Aside0 (kq ≤ k) ∧ Aside0 (Below w.heap.size w wc))
 case first =>
  have H := HC3.out
  clear HC3
  by_cases c4 : (l0.length : Int) > 8
  ·rw [if_pos c4] at H
   have c4b0 : decide (8 < (l0.length : Int)) = true := decide_eq_true c4
   have c4b1 : decide (8 < l0.length) = true := decide_eq_true (by omega)
   clear c4
   (first|rw [c4b0]|(simp only [i64_w,i32_w];rw [c4b0])|skip)
   have H' := Aside0.mk H
   clear H
   go_wp2
   go_meet
   case rel => exact ⟨_,(true),(by first|rfl|(simp;done)|(simp [*];done)),H',⟨by first|omega|exact Nat.le_refl _⟩,⟨by repeat (first|(with_reducible first|exact HB.out|apply below_alloc|apply pw_below_drewN|apply below_drew1)|exact HB.out)⟩⟩
  ·rw [if_neg c4] at H
   have c4b0 : decide (8 < (l0.length : Int)) = false := decide_eq_false c4
   have c4b1 : decide (8 < l0.length) = false := decide_eq_false (by omega)
   clear c4
   (first|rw [c4b0]|(simp only [i64_w,i32_w];rw [c4b0])|skip)
   have H' := Aside0.mk H
   clear H
   go_wp2
   go_meet
   case rel => exact ⟨_,(decide ((l1.length : Int) > 40)),(by first|rfl|(simp;done)|(simp [*];done)),H',⟨by first|omega|exact Nat.le_refl _⟩,⟨by repeat (first|(with_reducible first|exact HB.out|apply below_alloc|apply pw_below_drewN|apply below_drew1)|exact HB.out)⟩⟩
 case rest =>
  clear HC3
  try clear c1
  try clear p2
  try clear c3
  try clear c4
  try clear c4b0
  try clear c4b1
  obtain ⟨kq,x16_2,rfl,HA,HJ2,HB⟩ := hcut
  cases kq with
  | zero => exact absurd HA.out (by simp [privitylaw10_BivariateNew.j0])
  | succ kj2 =>
   have H := HA.out
   clear HA
   simp only [privitylaw10_BivariateNew.j0] at H
   by_cases c5 : x16_2 = true
   ·subst c5
    have H1 : ((privitylaw10_awake.f kj2).bind fun t325 => (some t325)) = some r := by rw [if_pos rfl] at H;exact H
    clear H
    have H := H1
    clear H1
    replace H := Option.bind_eq_some_iff.mp H
    obtain ⟨t325,A60,H⟩ := H
    replace H : (some t325) = some r := H
    have A6 := Aside0.mk A60
    clear A60
    obtain rfl := Option.some.inj H
    go_wp2_with (first|((with_reducible refine gate_callee (f := 13) rfl ?_);refine goesL_ (some 17) rfl rfl Try.func13 (by kernel_rfl) rfl #[] rfl (by (try simp only [List.map_toArray,List.map_cons,List.map_nil]);first|done|rfl|(simp only [List.length_drop,List.length_take];rfl)) ?_;(with_reducible refine (privitylaw10_awake.calls kj2  t325 _ A6.out).mono ?_);rintro e w7 ⟨rfl,hb⟩;refine ⟨_,rfl,?_⟩;have n0_ := Aside0.mk (below_step (by repeat (first|(with_reducible first|exact HB.out|apply below_alloc|apply pw_below_drewN|apply below_drew1)|exact HB.out)) hb);clear HB;have HB := n0_;clear n0_;(try clear hb);(try clear hb2);(try clear hk);(try clear hi)))
    go_ret
    exact ⟨by first|rfl|(simp [errW_none,errW_some] <;> rfl)|(simp [*,errW_none,errW_some] <;> rfl),by repeat (first|(with_reducible first|exact HB.out|apply below_alloc|apply pw_below_drewN|apply below_drew1)|exact HB.out)⟩
   ·replace c5 := Bool.eq_false_iff.mpr c5
    subst c5
    have H1 : ((bivariate_New.f l0 l1).bind fun bt326 => ((privityref10_New.f l0 l1).bind fun bt330 => ((privitylaw10_awake.f kj2).bind fun t334 => (if t334 = true then (if bt326.2 = bt330.2 then ((privityref06_Same.f kj2 bt326.1 bt330.1).bind fun t335 => (if t335 = true then (if bt326.2 = 0 then ((bivariate_IsSymmetric.f kj2 bt326.1).bind fun t336 => (some t336)) else (some true)) else (some false))) else (some false)) else (some false))))) = some r := by rw [if_neg (show ¬ (false = true) by decide)] at H;exact H
    clear H
    have H := H1
    clear H1
    replace H := Option.bind_eq_some_iff.mp H
    obtain ⟨⟨t326,t327⟩,A80,H⟩ := H
    replace H : ((privityref10_New.f l0 l1).bind fun bt330 => ((privitylaw10_awake.f kj2).bind fun t334 => (if t334 = true then (if t327 = bt330.2 then ((privityref06_Same.f kj2 t326 bt330.1).bind fun t335 => (if t335 = true then (if t327 = 0 then ((bivariate_IsSymmetric.f kj2 t326).bind fun t336 => (some t336)) else (some true)) else (some false))) else (some false)) else (some false)))) = some r := H
    have A8 := Aside0.mk A80
    clear A80
    replace H := Option.bind_eq_some_iff.mp H
    obtain ⟨⟨t330,t331⟩,A90,H⟩ := H
    replace H : ((privitylaw10_awake.f kj2).bind fun t334 => (if t334 = true then (if t327 = t331 then ((privityref06_Same.f kj2 t326 t330).bind fun t335 => (if t335 = true then (if t327 = 0 then ((bivariate_IsSymmetric.f kj2 t326).bind fun t336 => (some t336)) else (some true)) else (some false))) else (some false)) else (some false))) = some r := H
    have A9 := Aside0.mk A90
    clear A90
    replace H := Option.bind_eq_some_iff.mp H
    obtain ⟨t334,A100,H⟩ := H
    replace H : (if t334 = true then (if t327 = t331 then ((privityref06_Same.f kj2 t326 t330).bind fun t335 => (if t335 = true then (if t327 = 0 then ((bivariate_IsSymmetric.f kj2 t326).bind fun t336 => (some t336)) else (some true)) else (some false))) else (some false)) else (some false)) = some r := H
    have A10 := Aside0.mk A100
    clear A100
    by_cases c11 : t334 = true
    ·subst c11
     have H1 : (if t327 = t331 then ((privityref06_Same.f kj2 t326 t330).bind fun t335 => (if t335 = true then (if t327 = 0 then ((bivariate_IsSymmetric.f kj2 t326).bind fun t336 => (some t336)) else (some true)) else (some false))) else (some false)) = some r := by rw [if_pos rfl] at H;exact H
     clear H
     have H := H1
     clear H1
     by_cases c12 : t327 = t331
     ·rw [if_pos c12] at H
      have c12b0 : (t327 == t331) = true := beq_iff_eq.mpr c12
      have c12b1 : (t327 != t331) = false := bne_eq_false_iff_eq.mpr c12
      clear c12
      replace H := Option.bind_eq_some_iff.mp H
      obtain ⟨t335,A130,H⟩ := H
      replace H : (if t335 = true then (if t327 = 0 then ((bivariate_IsSymmetric.f kj2 t326).bind fun t336 => (some t336)) else (some true)) else (some false)) = some r := H
      have A13 := Aside0.mk A130
      clear A130
      by_cases c14 : t335 = true
      ·subst c14
       have H1 : (if t327 = 0 then ((bivariate_IsSymmetric.f kj2 t326).bind fun t336 => (some t336)) else (some true)) = some r := by rw [if_pos rfl] at H;exact H
       clear H
       have H := H1
       clear H1
       by_cases c15 : t327 = 0
       ·rw [if_pos c15] at H
        have c15b0 : (t327 == 0) = true := beq_iff_eq.mpr c15
        have c15b1 : (t327 != 0) = false := bne_eq_false_iff_eq.mpr c15
        clear c15
        replace H := Option.bind_eq_some_iff.mp H
        obtain ⟨t336,A160,H⟩ := H
        replace H : (some t336) = some r := H
        have A16 := Aside0.mk A160
        clear A160
        obtain rfl := Option.some.inj H
        go_wp2_with (first|((with_reducible refine gate_callee (f := 14) rfl ?_);refine goesL_ (some 21) rfl rfl Try.func14 (by kernel_rfl) rfl #[.slice A0 l0.length c0,.slice A1 l1.length c1] rfl (by (try simp only [List.map_toArray,List.map_cons,List.map_nil]);first|done|rfl|(simp only [List.length_drop,List.length_take];rfl)) ?_;(with_reducible refine (bivariate_New.calls _ _ l0 _ _ l1 t326 t327 _ ?side1 ?side2 ?side3 ?side4 A8.out).mono ?_);(case side1 => repeat (first|exact (Kd.C_below HR0.out HB.out)|(with_reducible refine Kd.C_alloc ?_ _)|(with_reducible refine Kd.C_drewN ?_ _)|(with_reducible refine Kd.C_drew ?_)));(case side2 => exact HC0.out);(case side3 => repeat (first|exact (Kd.C_below HR1.out HB.out)|(with_reducible refine Kd.C_alloc ?_ _)|(with_reducible refine Kd.C_drewN ?_ _)|(with_reducible refine Kd.C_drew ?_)));(case side4 => exact HC1.out);rintro e w17 ⟨v328,rfl,ho0,hb⟩;refine ⟨_,rfl,?_⟩;have n0_ := Aside0.mk (Kd.S_lower ho0 (below_size (by repeat (first|(with_reducible first|exact HB.out|apply below_alloc|apply pw_below_drewN|apply below_drew1)|exact HB.out))));have n1_ := Aside0.mk (below_step (by repeat (first|(with_reducible first|exact HB.out|apply below_alloc|apply pw_below_drewN|apply below_drew1)|exact HB.out)) hb);clear HB;have HO329 := n0_;have HB := n1_;clear n0_ n1_;(try clear hb);(try clear hb2);(try clear hk);(try clear hi);(try clear ho0))|((with_reducible refine gate_callee (f := 15) rfl ?_);refine goesL_ (some 27) rfl rfl Try.func15 (by kernel_rfl) rfl #[.slice A0 l0.length c0,.slice A1 l1.length c1] rfl (by (try simp only [List.map_toArray,List.map_cons,List.map_nil]);first|done|rfl|(simp only [List.length_drop,List.length_take];rfl)) ?_;(with_reducible refine (privityref10_New.calls _ _ l0 _ _ l1 t330 t331 _ ?side1 ?side2 ?side3 ?side4 A9.out).mono ?_);(case side1 => repeat (first|exact (Kd.C_below HR0.out HB.out)|(with_reducible refine Kd.C_alloc ?_ _)|(with_reducible refine Kd.C_drewN ?_ _)|(with_reducible refine Kd.C_drew ?_)));(case side2 => exact HC0.out);(case side3 => repeat (first|exact (Kd.C_below HR1.out HB.out)|(with_reducible refine Kd.C_alloc ?_ _)|(with_reducible refine Kd.C_drewN ?_ _)|(with_reducible refine Kd.C_drew ?_)));(case side4 => exact HC1.out);rintro e w18 ⟨v332,rfl,ho0,hb⟩;refine ⟨_,rfl,?_⟩;have n0_ := Aside0.mk (Kd.S_elder' (by (with_reducible repeat (first|apply Kd.S_alloc|apply Kd.S_drewN|apply Kd.S_drew));exact HO329.out) (Kd.S_base ho0) hb);have n1_ := Aside0.mk (Kd.S_lower (Kd.S_new' ho0 (Kd.S_lt (by (with_reducible repeat (first|apply Kd.S_alloc|apply Kd.S_drewN|apply Kd.S_drew));exact HO329.out))) (below_size (by repeat (first|(with_reducible first|exact HB.out|apply below_alloc|apply pw_below_drewN|apply below_drew1)|exact HB.out))));have n2_ := Aside0.mk (below_step (by repeat (first|(with_reducible first|exact HB.out|apply below_alloc|apply pw_below_drewN|apply below_drew1)|exact HB.out)) hb);clear HO329;clear HB;have HO329 := n0_;have HO333 := n1_;have HB := n2_;clear n0_ n1_ n2_;(try clear hb);(try clear hb2);(try clear hk);(try clear hi);(try clear ho0))|((with_reducible refine gate_callee (f := 13) rfl ?_);refine goesL_ (some 30) rfl rfl Try.func13 (by kernel_rfl) rfl #[] rfl (by (try simp only [List.map_toArray,List.map_cons,List.map_nil]);first|done|rfl|(simp only [List.length_drop,List.length_take];rfl)) ?_;(with_reducible refine (privitylaw10_awake.calls kj2  true _ A10.out).mono ?_);rintro e w19 ⟨rfl,hb⟩;refine ⟨_,rfl,?_⟩;have n0_ := Aside0.mk (Kd.S_below (by (with_reducible repeat (first|apply Kd.S_alloc|apply Kd.S_drewN|apply Kd.S_drew));exact HO329.out) hb);have n1_ := Aside0.mk (Kd.S_below (by (with_reducible repeat (first|apply Kd.S_alloc|apply Kd.S_drewN|apply Kd.S_drew));exact HO333.out) hb);have n2_ := Aside0.mk (below_step (by repeat (first|(with_reducible first|exact HB.out|apply below_alloc|apply pw_below_drewN|apply below_drew1)|exact HB.out)) hb);clear HO329;clear HO333;clear HB;have HO329 := n0_;have HO333 := n1_;have HB := n2_;clear n0_ n1_ n2_;(try clear hb);(try clear hb2);(try clear hk);(try clear hi);obtain ⟨Ao20,co20,eo20⟩ := Kd.S_slice HO329.out;subst eo20;obtain ⟨Ao21,co21,eo21⟩ := Kd.S_slice HO333.out;subst eo21)|(go_at_call 16;(with_reducible refine (privityref06_Same.calls kj2 _ _ t326 _ _ t330 true _ ?side1 ?side2 ?side3 ?side4 A13.out).mono ?_);(case side1 => repeat (first|exact (Kd.S_reads' HO329.out).2.2|(with_reducible refine Kd.C_alloc ?_ _)|(with_reducible refine Kd.C_drewN ?_ _)|(with_reducible refine Kd.C_drew ?_)));(case side2 => exact (Kd.S_reads' HO329.out).2.1);(case side3 => repeat (first|exact (Kd.S_reads' HO333.out).2.2|(with_reducible refine Kd.C_alloc ?_ _)|(with_reducible refine Kd.C_drewN ?_ _)|(with_reducible refine Kd.C_drew ?_)));(case side4 => exact (Kd.S_reads' HO333.out).2.1);rintro e w' ⟨rfl,⟨nd,rfl⟩⟩)|(go_at_call 17;(with_reducible refine (bivariate_IsSymmetric.calls kj2 _ _ t326 t336 _ ?side1 ?side2 A16.out).mono ?_);(case side1 => repeat (first|exact (Kd.S_reads' HO329.out).2.2|(with_reducible refine Kd.C_alloc ?_ _)|(with_reducible refine Kd.C_drewN ?_ _)|(with_reducible refine Kd.C_drew ?_)));(case side2 => exact (Kd.S_reads' HO329.out).2.1);rintro e w' ⟨rfl,⟨nd,rfl⟩⟩))
        go_ret
        exact ⟨by first|rfl|(simp [errW_none,errW_some] <;> rfl)|(simp [*,errW_none,errW_some] <;> rfl),by repeat (first|(with_reducible first|exact HB.out|apply below_alloc|apply pw_below_drewN|apply below_drew1)|exact HB.out)⟩
       ·rw [if_neg c15] at H
        have c15b0 : (t327 == 0) = false := beq_eq_false_iff_ne.mpr c15
        have c15b1 : (t327 != 0) = true := bne_iff_ne.mpr c15
        obtain rfl := Option.some.inj H
        go_wp2_with (first|((with_reducible refine gate_callee (f := 14) rfl ?_);refine goesL_ (some 21) rfl rfl Try.func14 (by kernel_rfl) rfl #[.slice A0 l0.length c0,.slice A1 l1.length c1] rfl (by (try simp only [List.map_toArray,List.map_cons,List.map_nil]);first|done|rfl|(simp only [List.length_drop,List.length_take];rfl)) ?_;(with_reducible refine (bivariate_New.calls _ _ l0 _ _ l1 t326 t327 _ ?side1 ?side2 ?side3 ?side4 A8.out).mono ?_);(case side1 => repeat (first|exact (Kd.C_below HR0.out HB.out)|(with_reducible refine Kd.C_alloc ?_ _)|(with_reducible refine Kd.C_drewN ?_ _)|(with_reducible refine Kd.C_drew ?_)));(case side2 => exact HC0.out);(case side3 => repeat (first|exact (Kd.C_below HR1.out HB.out)|(with_reducible refine Kd.C_alloc ?_ _)|(with_reducible refine Kd.C_drewN ?_ _)|(with_reducible refine Kd.C_drew ?_)));(case side4 => exact HC1.out);rintro e w22 ⟨v328,rfl,ho0,hb⟩;refine ⟨_,rfl,?_⟩;have n0_ := Aside0.mk (Kd.S_lower ho0 (below_size (by repeat (first|(with_reducible first|exact HB.out|apply below_alloc|apply pw_below_drewN|apply below_drew1)|exact HB.out))));have n1_ := Aside0.mk (below_step (by repeat (first|(with_reducible first|exact HB.out|apply below_alloc|apply pw_below_drewN|apply below_drew1)|exact HB.out)) hb);clear HB;have HO329 := n0_;have HB := n1_;clear n0_ n1_;(try clear hb);(try clear hb2);(try clear hk);(try clear hi);(try clear ho0))|((with_reducible refine gate_callee (f := 15) rfl ?_);refine goesL_ (some 27) rfl rfl Try.func15 (by kernel_rfl) rfl #[.slice A0 l0.length c0,.slice A1 l1.length c1] rfl (by (try simp only [List.map_toArray,List.map_cons,List.map_nil]);first|done|rfl|(simp only [List.length_drop,List.length_take];rfl)) ?_;(with_reducible refine (privityref10_New.calls _ _ l0 _ _ l1 t330 t331 _ ?side1 ?side2 ?side3 ?side4 A9.out).mono ?_);(case side1 => repeat (first|exact (Kd.C_below HR0.out HB.out)|(with_reducible refine Kd.C_alloc ?_ _)|(with_reducible refine Kd.C_drewN ?_ _)|(with_reducible refine Kd.C_drew ?_)));(case side2 => exact HC0.out);(case side3 => repeat (first|exact (Kd.C_below HR1.out HB.out)|(with_reducible refine Kd.C_alloc ?_ _)|(with_reducible refine Kd.C_drewN ?_ _)|(with_reducible refine Kd.C_drew ?_)));(case side4 => exact HC1.out);rintro e w23 ⟨v332,rfl,ho0,hb⟩;refine ⟨_,rfl,?_⟩;have n0_ := Aside0.mk (Kd.S_elder' (by (with_reducible repeat (first|apply Kd.S_alloc|apply Kd.S_drewN|apply Kd.S_drew));exact HO329.out) (Kd.S_base ho0) hb);have n1_ := Aside0.mk (Kd.S_lower (Kd.S_new' ho0 (Kd.S_lt (by (with_reducible repeat (first|apply Kd.S_alloc|apply Kd.S_drewN|apply Kd.S_drew));exact HO329.out))) (below_size (by repeat (first|(with_reducible first|exact HB.out|apply below_alloc|apply pw_below_drewN|apply below_drew1)|exact HB.out))));have n2_ := Aside0.mk (below_step (by repeat (first|(with_reducible first|exact HB.out|apply below_alloc|apply pw_below_drewN|apply below_drew1)|exact HB.out)) hb);clear HO329;clear HB;have HO329 := n0_;have HO333 := n1_;have HB := n2_;clear n0_ n1_ n2_;(try clear hb);(try clear hb2);(try clear hk);(try clear hi);(try clear ho0))|((with_reducible refine gate_callee (f := 13) rfl ?_);refine goesL_ (some 30) rfl rfl Try.func13 (by kernel_rfl) rfl #[] rfl (by (try simp only [List.map_toArray,List.map_cons,List.map_nil]);first|done|rfl|(simp only [List.length_drop,List.length_take];rfl)) ?_;(with_reducible refine (privitylaw10_awake.calls kj2  true _ A10.out).mono ?_);rintro e w24 ⟨rfl,hb⟩;refine ⟨_,rfl,?_⟩;have n0_ := Aside0.mk (Kd.S_below (by (with_reducible repeat (first|apply Kd.S_alloc|apply Kd.S_drewN|apply Kd.S_drew));exact HO329.out) hb);have n1_ := Aside0.mk (Kd.S_below (by (with_reducible repeat (first|apply Kd.S_alloc|apply Kd.S_drewN|apply Kd.S_drew));exact HO333.out) hb);have n2_ := Aside0.mk (below_step (by repeat (first|(with_reducible first|exact HB.out|apply below_alloc|apply pw_below_drewN|apply below_drew1)|exact HB.out)) hb);clear HO329;clear HO333;clear HB;have HO329 := n0_;have HO333 := n1_;have HB := n2_;clear n0_ n1_ n2_;(try clear hb);(try clear hb2);(try clear hk);(try clear hi);obtain ⟨Ao25,co25,eo25⟩ := Kd.S_slice HO329.out;subst eo25;obtain ⟨Ao26,co26,eo26⟩ := Kd.S_slice HO333.out;subst eo26)|(go_at_call 16;(with_reducible refine (privityref06_Same.calls kj2 _ _ t326 _ _ t330 true _ ?side1 ?side2 ?side3 ?side4 A13.out).mono ?_);(case side1 => repeat (first|exact (Kd.S_reads' HO329.out).2.2|(with_reducible refine Kd.C_alloc ?_ _)|(with_reducible refine Kd.C_drewN ?_ _)|(with_reducible refine Kd.C_drew ?_)));(case side2 => exact (Kd.S_reads' HO329.out).2.1);(case side3 => repeat (first|exact (Kd.S_reads' HO333.out).2.2|(with_reducible refine Kd.C_alloc ?_ _)|(with_reducible refine Kd.C_drewN ?_ _)|(with_reducible refine Kd.C_drew ?_)));(case side4 => exact (Kd.S_reads' HO333.out).2.1);rintro e w' ⟨rfl,⟨nd,rfl⟩⟩))
        go_ret
        exact ⟨by first|rfl|(simp [errW_none,errW_some] <;> rfl)|(simp [*,errW_none,errW_some] <;> rfl),by repeat (first|(with_reducible first|exact HB.out|apply below_alloc|apply pw_below_drewN|apply below_drew1)|exact HB.out)⟩
      ·replace c14 := Bool.eq_false_iff.mpr c14
       subst c14
       have H1 : (some false) = some r := by rw [if_neg (show ¬ (false = true) by decide)] at H;exact H
       clear H
       have H := H1
       clear H1
       obtain rfl := Option.some.inj H
       go_wp2_with (first|((with_reducible refine gate_callee (f := 14) rfl ?_);refine goesL_ (some 21) rfl rfl Try.func14 (by kernel_rfl) rfl #[.slice A0 l0.length c0,.slice A1 l1.length c1] rfl (by (try simp only [List.map_toArray,List.map_cons,List.map_nil]);first|done|rfl|(simp only [List.length_drop,List.length_take];rfl)) ?_;(with_reducible refine (bivariate_New.calls _ _ l0 _ _ l1 t326 t327 _ ?side1 ?side2 ?side3 ?side4 A8.out).mono ?_);(case side1 => repeat (first|exact (Kd.C_below HR0.out HB.out)|(with_reducible refine Kd.C_alloc ?_ _)|(with_reducible refine Kd.C_drewN ?_ _)|(with_reducible refine Kd.C_drew ?_)));(case side2 => exact HC0.out);(case side3 => repeat (first|exact (Kd.C_below HR1.out HB.out)|(with_reducible refine Kd.C_alloc ?_ _)|(with_reducible refine Kd.C_drewN ?_ _)|(with_reducible refine Kd.C_drew ?_)));(case side4 => exact HC1.out);rintro e w27 ⟨v328,rfl,ho0,hb⟩;refine ⟨_,rfl,?_⟩;have n0_ := Aside0.mk (Kd.S_lower ho0 (below_size (by repeat (first|(with_reducible first|exact HB.out|apply below_alloc|apply pw_below_drewN|apply below_drew1)|exact HB.out))));have n1_ := Aside0.mk (below_step (by repeat (first|(with_reducible first|exact HB.out|apply below_alloc|apply pw_below_drewN|apply below_drew1)|exact HB.out)) hb);clear HB;have HO329 := n0_;have HB := n1_;clear n0_ n1_;(try clear hb);(try clear hb2);(try clear hk);(try clear hi);(try clear ho0))|((with_reducible refine gate_callee (f := 15) rfl ?_);refine goesL_ (some 27) rfl rfl Try.func15 (by kernel_rfl) rfl #[.slice A0 l0.length c0,.slice A1 l1.length c1] rfl (by (try simp only [List.map_toArray,List.map_cons,List.map_nil]);first|done|rfl|(simp only [List.length_drop,List.length_take];rfl)) ?_;(with_reducible refine (privityref10_New.calls _ _ l0 _ _ l1 t330 t331 _ ?side1 ?side2 ?side3 ?side4 A9.out).mono ?_);(case side1 => repeat (first|exact (Kd.C_below HR0.out HB.out)|(with_reducible refine Kd.C_alloc ?_ _)|(with_reducible refine Kd.C_drewN ?_ _)|(with_reducible refine Kd.C_drew ?_)));(case side2 => exact HC0.out);(case side3 => repeat (first|exact (Kd.C_below HR1.out HB.out)|(with_reducible refine Kd.C_alloc ?_ _)|(with_reducible refine Kd.C_drewN ?_ _)|(with_reducible refine Kd.C_drew ?_)));(case side4 => exact HC1.out);rintro e w28 ⟨v332,rfl,ho0,hb⟩;refine ⟨_,rfl,?_⟩;have n0_ := Aside0.mk (Kd.S_elder' (by (with_reducible repeat (first|apply Kd.S_alloc|apply Kd.S_drewN|apply Kd.S_drew));exact HO329.out) (Kd.S_base ho0) hb);have n1_ := Aside0.mk (Kd.S_lower (Kd.S_new' ho0 (Kd.S_lt (by (with_reducible repeat (first|apply Kd.S_alloc|apply Kd.S_drewN|apply Kd.S_drew));exact HO329.out))) (below_size (by repeat (first|(with_reducible first|exact HB.out|apply below_alloc|apply pw_below_drewN|apply below_drew1)|exact HB.out))));have n2_ := Aside0.mk (below_step (by repeat (first|(with_reducible first|exact HB.out|apply below_alloc|apply pw_below_drewN|apply below_drew1)|exact HB.out)) hb);clear HO329;clear HB;have HO329 := n0_;have HO333 := n1_;have HB := n2_;clear n0_ n1_ n2_;(try clear hb);(try clear hb2);(try clear hk);(try clear hi);(try clear ho0))|((with_reducible refine gate_callee (f := 13) rfl ?_);refine goesL_ (some 30) rfl rfl Try.func13 (by kernel_rfl) rfl #[] rfl (by (try simp only [List.map_toArray,List.map_cons,List.map_nil]);first|done|rfl|(simp only [List.length_drop,List.length_take];rfl)) ?_;(with_reducible refine (privitylaw10_awake.calls kj2  true _ A10.out).mono ?_);rintro e w29 ⟨rfl,hb⟩;refine ⟨_,rfl,?_⟩;have n0_ := Aside0.mk (Kd.S_below (by (with_reducible repeat (first|apply Kd.S_alloc|apply Kd.S_drewN|apply Kd.S_drew));exact HO329.out) hb);have n1_ := Aside0.mk (Kd.S_below (by (with_reducible repeat (first|apply Kd.S_alloc|apply Kd.S_drewN|apply Kd.S_drew));exact HO333.out) hb);have n2_ := Aside0.mk (below_step (by repeat (first|(with_reducible first|exact HB.out|apply below_alloc|apply pw_below_drewN|apply below_drew1)|exact HB.out)) hb);clear HO329;clear HO333;clear HB;have HO329 := n0_;have HO333 := n1_;have HB := n2_;clear n0_ n1_ n2_;(try clear hb);(try clear hb2);(try clear hk);(try clear hi);obtain ⟨Ao30,co30,eo30⟩ := Kd.S_slice HO329.out;subst eo30;obtain ⟨Ao31,co31,eo31⟩ := Kd.S_slice HO333.out;subst eo31)|(go_at_call 16;(with_reducible refine (privityref06_Same.calls kj2 _ _ t326 _ _ t330 false _ ?side1 ?side2 ?side3 ?side4 A13.out).mono ?_);(case side1 => repeat (first|exact (Kd.S_reads' HO329.out).2.2|(with_reducible refine Kd.C_alloc ?_ _)|(with_reducible refine Kd.C_drewN ?_ _)|(with_reducible refine Kd.C_drew ?_)));(case side2 => exact (Kd.S_reads' HO329.out).2.1);(case side3 => repeat (first|exact (Kd.S_reads' HO333.out).2.2|(with_reducible refine Kd.C_alloc ?_ _)|(with_reducible refine Kd.C_drewN ?_ _)|(with_reducible refine Kd.C_drew ?_)));(case side4 => exact (Kd.S_reads' HO333.out).2.1);rintro e w' ⟨rfl,⟨nd,rfl⟩⟩))
       go_ret
       exact ⟨by first|rfl|(simp [errW_none,errW_some] <;> rfl)|(simp [*,errW_none,errW_some] <;> rfl),by repeat (first|(with_reducible first|exact HB.out|apply below_alloc|apply pw_below_drewN|apply below_drew1)|exact HB.out)⟩
     ·rw [if_neg c12] at H
      have c12b0 : (t327 == t331) = false := beq_eq_false_iff_ne.mpr c12
      have c12b1 : (t327 != t331) = true := bne_iff_ne.mpr c12
      obtain rfl := Option.some.inj H
      go_wp2_with (first|((with_reducible refine gate_callee (f := 14) rfl ?_);refine goesL_ (some 21) rfl rfl Try.func14 (by kernel_rfl) rfl #[.slice A0 l0.length c0,.slice A1 l1.length c1] rfl (by (try simp only [List.map_toArray,List.map_cons,List.map_nil]);first|done|rfl|(simp only [List.length_drop,List.length_take];rfl)) ?_;(with_reducible refine (bivariate_New.calls _ _ l0 _ _ l1 t326 t327 _ ?side1 ?side2 ?side3 ?side4 A8.out).mono ?_);(case side1 => repeat (first|exact (Kd.C_below HR0.out HB.out)|(with_reducible refine Kd.C_alloc ?_ _)|(with_reducible refine Kd.C_drewN ?_ _)|(with_reducible refine Kd.C_drew ?_)));(case side2 => exact HC0.out);(case side3 => repeat (first|exact (Kd.C_below HR1.out HB.out)|(with_reducible refine Kd.C_alloc ?_ _)|(with_reducible refine Kd.C_drewN ?_ _)|(with_reducible refine Kd.C_drew ?_)));(case side4 => exact HC1.out);rintro e w32 ⟨v328,rfl,ho0,hb⟩;refine ⟨_,rfl,?_⟩;have n0_ := Aside0.mk (Kd.S_lower ho0 (below_size (by repeat (first|(with_reducible first|exact HB.out|apply below_alloc|apply pw_below_drewN|apply below_drew1)|exact HB.out))));have n1_ := Aside0.mk (below_step (by repeat (first|(with_reducible first|exact HB.out|apply below_alloc|apply pw_below_drewN|apply below_drew1)|exact HB.out)) hb);clear HB;have HO329 := n0_;have HB := n1_;clear n0_ n1_;(try clear hb);(try clear hb2);(try clear hk);(try clear hi);(try clear ho0))|((with_reducible refine gate_callee (f := 15) rfl ?_);refine goesL_ (some 27) rfl rfl Try.func15 (by kernel_rfl) rfl #[.slice A0 l0.length c0,.slice A1 l1.length c1] rfl (by (try simp only [List.map_toArray,List.map_cons,List.map_nil]);first|done|rfl|(simp only [List.length_drop,List.length_take];rfl)) ?_;(with_reducible refine (privityref10_New.calls _ _ l0 _ _ l1 t330 t331 _ ?side1 ?side2 ?side3 ?side4 A9.out).mono ?_);(case side1 => repeat (first|exact (Kd.C_below HR0.out HB.out)|(with_reducible refine Kd.C_alloc ?_ _)|(with_reducible refine Kd.C_drewN ?_ _)|(with_reducible refine Kd.C_drew ?_)));(case side2 => exact HC0.out);(case side3 => repeat (first|exact (Kd.C_below HR1.out HB.out)|(with_reducible refine Kd.C_alloc ?_ _)|(with_reducible refine Kd.C_drewN ?_ _)|(with_reducible refine Kd.C_drew ?_)));(case side4 => exact HC1.out);rintro e w33 ⟨v332,rfl,ho0,hb⟩;refine ⟨_,rfl,?_⟩;have n0_ := Aside0.mk (Kd.S_elder' (by (with_reducible repeat (first|apply Kd.S_alloc|apply Kd.S_drewN|apply Kd.S_drew));exact HO329.out) (Kd.S_base ho0) hb);have n1_ := Aside0.mk (Kd.S_lower (Kd.S_new' ho0 (Kd.S_lt (by (with_reducible repeat (first|apply Kd.S_alloc|apply Kd.S_drewN|apply Kd.S_drew));exact HO329.out))) (below_size (by repeat (first|(with_reducible first|exact HB.out|apply below_alloc|apply pw_below_drewN|apply below_drew1)|exact HB.out))));have n2_ := Aside0.mk (below_step (by repeat (first|(with_reducible first|exact HB.out|apply below_alloc|apply pw_below_drewN|apply below_drew1)|exact HB.out)) hb);clear HO329;clear HB;have HO329 := n0_;have HO333 := n1_;have HB := n2_;clear n0_ n1_ n2_;(try clear hb);(try clear hb2);(try clear hk);(try clear hi);(try clear ho0))|((with_reducible refine gate_callee (f := 13) rfl ?_);refine goesL_ (some 30) rfl rfl Try.func13 (by kernel_rfl) rfl #[] rfl (by (try simp only [List.map_toArray,List.map_cons,List.map_nil]);first|done|rfl|(simp only [List.length_drop,List.length_take];rfl)) ?_;(with_reducible refine (privitylaw10_awake.calls kj2  true _ A10.out).mono ?_);rintro e w34 ⟨rfl,hb⟩;refine ⟨_,rfl,?_⟩;have n0_ := Aside0.mk (Kd.S_below (by (with_reducible repeat (first|apply Kd.S_alloc|apply Kd.S_drewN|apply Kd.S_drew));exact HO329.out) hb);have n1_ := Aside0.mk (Kd.S_below (by (with_reducible repeat (first|apply Kd.S_alloc|apply Kd.S_drewN|apply Kd.S_drew));exact HO333.out) hb);have n2_ := Aside0.mk (below_step (by repeat (first|(with_reducible first|exact HB.out|apply below_alloc|apply pw_below_drewN|apply below_drew1)|exact HB.out)) hb);clear HO329;clear HO333;clear HB;have HO329 := n0_;have HO333 := n1_;have HB := n2_;clear n0_ n1_ n2_;(try clear hb);(try clear hb2);(try clear hk);(try clear hi)))
      go_ret
      exact ⟨by first|rfl|(simp [errW_none,errW_some] <;> rfl)|(simp [*,errW_none,errW_some] <;> rfl),by repeat (first|(with_reducible first|exact HB.out|apply below_alloc|apply pw_below_drewN|apply below_drew1)|exact HB.out)⟩
    ·replace c11 := Bool.eq_false_iff.mpr c11
     subst c11
     have H1 : (some false) = some r := by rw [if_neg (show ¬ (false = true) by decide)] at H;exact H
     clear H
     have H := H1
     clear H1
     obtain rfl := Option.some.inj H
     go_wp2_with (first|((with_reducible refine gate_callee (f := 14) rfl ?_);refine goesL_ (some 21) rfl rfl Try.func14 (by kernel_rfl) rfl #[.slice A0 l0.length c0,.slice A1 l1.length c1] rfl (by (try simp only [List.map_toArray,List.map_cons,List.map_nil]);first|done|rfl|(simp only [List.length_drop,List.length_take];rfl)) ?_;(with_reducible refine (bivariate_New.calls _ _ l0 _ _ l1 t326 t327 _ ?side1 ?side2 ?side3 ?side4 A8.out).mono ?_);(case side1 => repeat (first|exact (Kd.C_below HR0.out HB.out)|(with_reducible refine Kd.C_alloc ?_ _)|(with_reducible refine Kd.C_drewN ?_ _)|(with_reducible refine Kd.C_drew ?_)));(case side2 => exact HC0.out);(case side3 => repeat (first|exact (Kd.C_below HR1.out HB.out)|(with_reducible refine Kd.C_alloc ?_ _)|(with_reducible refine Kd.C_drewN ?_ _)|(with_reducible refine Kd.C_drew ?_)));(case side4 => exact HC1.out);rintro e w35 ⟨v328,rfl,ho0,hb⟩;refine ⟨_,rfl,?_⟩;have n0_ := Aside0.mk (Kd.S_lower ho0 (below_size (by repeat (first|(with_reducible first|exact HB.out|apply below_alloc|apply pw_below_drewN|apply below_drew1)|exact HB.out))));have n1_ := Aside0.mk (below_step (by repeat (first|(with_reducible first|exact HB.out|apply below_alloc|apply pw_below_drewN|apply below_drew1)|exact HB.out)) hb);clear HB;have HO329 := n0_;have HB := n1_;clear n0_ n1_;(try clear hb);(try clear hb2);(try clear hk);(try clear hi);(try clear ho0))|((with_reducible refine gate_callee (f := 15) rfl ?_);refine goesL_ (some 27) rfl rfl Try.func15 (by kernel_rfl) rfl #[.slice A0 l0.length c0,.slice A1 l1.length c1] rfl (by (try simp only [List.map_toArray,List.map_cons,List.map_nil]);first|done|rfl|(simp only [List.length_drop,List.length_take];rfl)) ?_;(with_reducible refine (privityref10_New.calls _ _ l0 _ _ l1 t330 t331 _ ?side1 ?side2 ?side3 ?side4 A9.out).mono ?_);(case side1 => repeat (first|exact (Kd.C_below HR0.out HB.out)|(with_reducible refine Kd.C_alloc ?_ _)|(with_reducible refine Kd.C_drewN ?_ _)|(with_reducible refine Kd.C_drew ?_)));(case side2 => exact HC0.out);(case side3 => repeat (first|exact (Kd.C_below HR1.out HB.out)|(with_reducible refine Kd.C_alloc ?_ _)|(with_reducible refine Kd.C_drewN ?_ _)|(with_reducible refine Kd.C_drew ?_)));(case side4 => exact HC1.out);rintro e w36 ⟨v332,rfl,ho0,hb⟩;refine ⟨_,rfl,?_⟩;have n0_ := Aside0.mk (Kd.S_elder' (by (with_reducible repeat (first|apply Kd.S_alloc|apply Kd.S_drewN|apply Kd.S_drew));exact HO329.out) (Kd.S_base ho0) hb);have n1_ := Aside0.mk (Kd.S_lower (Kd.S_new' ho0 (Kd.S_lt (by (with_reducible repeat (first|apply Kd.S_alloc|apply Kd.S_drewN|apply Kd.S_drew));exact HO329.out))) (below_size (by repeat (first|(with_reducible first|exact HB.out|apply below_alloc|apply pw_below_drewN|apply below_drew1)|exact HB.out))));have n2_ := Aside0.mk (below_step (by repeat (first|(with_reducible first|exact HB.out|apply below_alloc|apply pw_below_drewN|apply below_drew1)|exact HB.out)) hb);clear HO329;clear HB;have HO329 := n0_;have HO333 := n1_;have HB := n2_;clear n0_ n1_ n2_;(try clear hb);(try clear hb2);(try clear hk);(try clear hi);(try clear ho0))|((with_reducible refine gate_callee (f := 13) rfl ?_);refine goesL_ (some 30) rfl rfl Try.func13 (by kernel_rfl) rfl #[] rfl (by (try simp only [List.map_toArray,List.map_cons,List.map_nil]);first|done|rfl|(simp only [List.length_drop,List.length_take];rfl)) ?_;(with_reducible refine (privitylaw10_awake.calls kj2  false _ A10.out).mono ?_);rintro e w37 ⟨rfl,hb⟩;refine ⟨_,rfl,?_⟩;have n0_ := Aside0.mk (Kd.S_below (by (with_reducible repeat (first|apply Kd.S_alloc|apply Kd.S_drewN|apply Kd.S_drew));exact HO329.out) hb);have n1_ := Aside0.mk (Kd.S_below (by (with_reducible repeat (first|apply Kd.S_alloc|apply Kd.S_drewN|apply Kd.S_drew));exact HO333.out) hb);have n2_ := Aside0.mk (below_step (by repeat (first|(with_reducible first|exact HB.out|apply below_alloc|apply pw_below_drewN|apply below_drew1)|exact HB.out)) hb);clear HO329;clear HO333;clear HB;have HO329 := n0_;have HO333 := n1_;have HB := n2_;clear n0_ n1_ n2_;(try clear hb);(try clear hb2);(try clear hk);(try clear hi)))
     go_ret
     exact ⟨by first|rfl|(simp [errW_none,errW_some] <;> rfl)|(simp [*,errW_none,errW_some] <;> rfl),by repeat (first|(with_reducible first|exact HB.out|apply below_alloc|apply pw_below_drewN|apply below_drew1)|exact HB.out)⟩
/-- THE ONE PURE STATEMENT of privitylaw10_BivariateNew: yours. -/
def privitylaw10_BivariateNew.Pure : Prop := ∀ (l0 : List Int) (l1 : List Int), l0.length ≤ maxLen → l0.length * 8 ≤ 140737488351232 → (∀ x ∈ l0, (Lit.int .u64 x).wf = true) → l1.length ≤ maxLen → l1.length * 8 ≤ 140737488351232 → (∀ x ∈ l1, (Lit.int .u64 x).wf = true) → ∃ k, privitylaw10_BivariateNew.f k l0 l1 = some true
theorem privitylaw10_BivariateNew.walk (P : privitylaw10_BivariateNew.Pure) (a0 : Option Addr) (len0 cap0 : Nat) (z0 : List Int) (a1 : Option Addr) (len1 cap1 : Nat) (z1 : List Int) (w : World) (w0 : (a0 = none ∧ len0 = 0 ∧ cap0 = 0 ∧ z0 = []) ∨ ∃ x, a0 = some x ∧ len0 ≤ cap0 ∧ cap0 ≤ maxLen ∧ z0.length = cap0 ∧ (∀ i, i < z0.length → w.cell? (x.add i) = some (.int .u64 (z0.getD i 0))) ∧ ∀ n ∈ z0, (Lit.int .u64 n).wf = true) (y0 : len0 * 8 ≤ 140737488351232) (w1 : (a1 = none ∧ len1 = 0 ∧ cap1 = 0 ∧ z1 = []) ∨ ∃ x, a1 = some x ∧ len1 ≤ cap1 ∧ cap1 ≤ maxLen ∧ z1.length = cap1 ∧ (∀ i, i < z1.length → w.cell? (x.add i) = some (.int .u64 (z1.getD i 0))) ∧ ∀ n ∈ z1, (Lit.int .u64 n).wf = true) (y1 : len1 * 8 ≤ 140737488351232) :
  Calls Try.prog 3 #[.slice a0 len0 cap0,.slice a1 len1 cap1] w fun e w' => e = .returned (.bool true) ∧ Below w.heap.size w w' := by
 obtain ⟨l0,rfl,hr0,hm0,hw0,hc0⟩ := ReadsInt.ofRowC w0
 obtain ⟨l1,rfl,hr1,hm1,hw1,hc1⟩ := ReadsInt.ofRowC w1
 obtain ⟨k,h⟩ := P l0 l1 hm0 y0 hw0 hm1 y1 hw1
 refine (privitylaw10_BivariateNew.calls k _ _ l0 _ _ l1 true w (Kd.C_of_reads (d := (0 : Int)) (h1 := fun _ => rfl) hr0) hc0 (Kd.C_of_reads (d := (0 : Int)) (h1 := fun _ => rfl) hr1) hc1 h).mono ?_
 rintro e w' ⟨rfl,hd⟩
 exact ⟨rfl,hd⟩
end Go.Proofs.Ytkhdocabgmemiaa.Pr
end
section
/- Printed by a program of this seat (the kit's printer, with the functions that were proved by hand given to it). What stands here: the functions that the statements reach, as plain functions, and that the Go code computes them. -/
namespace Go.Proofs.Ytkhdocabgmemiaa.Pr
open Go.RowKit Go.Proofs.YtkhdocabgmemiaaW.PrintWords Go.Proofs.YtkhdocabgmemiaaW.PrintLast Go.Proofs.YtkhdocabgmemiaaW.PrintMore
attribute [local go_sem] max2_int min2_int max_two min_two max_three min_three max_four min_four   -- for this text's walks alone
set_option linter.unusedVariables false
set_option linter.unusedSimpArgs false

open Go.Proofs.Ytkhdocabgmemiaa.Hw
/-! ### privityref10_Square: function 47 -/
end Go.Proofs.Ytkhdocabgmemiaa.Pr
end
section
/- Printed by a program of this seat (the kit's printer, with the functions that were proved by hand given to it). What stands here: the functions that the statements reach, as plain functions, and that the Go code computes them. -/
namespace Go.Proofs.Ytkhdocabgmemiaa.Pr
open Go.RowKit Go.Proofs.YtkhdocabgmemiaaW.PrintWords Go.Proofs.YtkhdocabgmemiaaW.PrintLast Go.Proofs.YtkhdocabgmemiaaW.PrintMore
attribute [local go_sem] max2_int min2_int max_two min_two max_three min_three max_four min_four   -- for this text's walks alone
set_option linter.unusedVariables false
set_option linter.unusedSimpArgs false

open Go.Proofs.Ytkhdocabgmemiaa.Hw
/-! ### privityref10_IsSymmetric: function 18 -/
end Go.Proofs.Ytkhdocabgmemiaa.Pr
end
section
/- Printed by a program of this seat (the kit's printer, with the functions that were proved by hand given to it). What stands here: the functions that the statements reach, as plain functions, and that the Go code computes them. -/
namespace Go.Proofs.Ytkhdocabgmemiaa.Pr
open Go.RowKit Go.Proofs.YtkhdocabgmemiaaW.PrintWords Go.Proofs.YtkhdocabgmemiaaW.PrintLast Go.Proofs.YtkhdocabgmemiaaW.PrintMore
attribute [local go_sem] max2_int min2_int max_two min_two max_three min_three max_four min_four   -- for this text's walks alone
set_option linter.unusedVariables false
set_option linter.unusedSimpArgs false

open Go.Proofs.Ytkhdocabgmemiaa.Hw
/-! ### privitylaw10_BivariateIsSymmetric: function 4 -/
/-! ### privityref06_Below: function 33 -/
/-! ### privityref01_exps: function 85 -/
end Go.Proofs.Ytkhdocabgmemiaa.Pr
end
section
/- Printed by a program of this seat (the kit's printer, with the functions that were proved by hand given to it). What stands here: the functions that the statements reach, as plain functions, and that the Go code computes them. -/
namespace Go.Proofs.Ytkhdocabgmemiaa.Pr
open Go.RowKit Go.Proofs.YtkhdocabgmemiaaW.PrintWords Go.Proofs.YtkhdocabgmemiaaW.PrintLast Go.Proofs.YtkhdocabgmemiaaW.PrintMore
attribute [local go_sem] max2_int min2_int max_two min_two max_three min_three max_four min_four   -- for this text's walks alone
set_option linter.unusedVariables false
set_option linter.unusedSimpArgs false

open Go.Proofs.Ytkhdocabgmemiaa.Hw
/-! ### privityref01_Exponent: function 73 -/
/-! ### privityref01_Supported: function 64 -/
/-! ### privityref06_Fair: function 48 -/
end Go.Proofs.Ytkhdocabgmemiaa.Pr
end
section
/- Printed by a program of this seat (the kit's printer, with the functions that were proved by hand given to it). What stands here: the functions that the statements reach, as plain functions, and that the Go code computes them. -/
namespace Go.Proofs.Ytkhdocabgmemiaa.Pr
open Go.RowKit Go.Proofs.YtkhdocabgmemiaaW.PrintWords Go.Proofs.YtkhdocabgmemiaaW.PrintLast Go.Proofs.YtkhdocabgmemiaaW.PrintMore
attribute [local go_sem] max2_int min2_int max_two min_two max_three min_three max_four min_four   -- for this text's walks alone
set_option linter.unusedVariables false
set_option linter.unusedSimpArgs false

open Go.Proofs.Ytkhdocabgmemiaa.Hw
/-! ### privitylaw10_validRows: function 19 -/
/-! ### privityref01_Add: function 41 -/
/-! ### privityref01_Mul: function 52 -/
/-! ### privityref10_Value: function 21 -/
end Go.Proofs.Ytkhdocabgmemiaa.Pr
end
section
/- Printed by a program of this seat (the kit's printer, with the functions that were proved by hand given to it). What stands here: the functions that the statements reach, as plain functions, and that the Go code computes them. -/
namespace Go.Proofs.Ytkhdocabgmemiaa.Pr
open Go.RowKit Go.Proofs.YtkhdocabgmemiaaW.PrintWords Go.Proofs.YtkhdocabgmemiaaW.PrintLast Go.Proofs.YtkhdocabgmemiaaW.PrintMore
attribute [local go_sem] max2_int min2_int max_two min_two max_three min_three max_four min_four   -- for this text's walks alone
set_option linter.unusedVariables false
set_option linter.unusedSimpArgs false

open Go.Proofs.Ytkhdocabgmemiaa.Hw
/-! ### privityref01_Sub: function 46 -/
/-! ### privityref01_Pow: function 68 -/
/-! ### privityref01_Inverse: function 54 -/
end Go.Proofs.Ytkhdocabgmemiaa.Pr
end
section
/-
  The reference of layer 1: what its printed functions answer.
-/
namespace Go.Proofs.Ytkhdocabgmemiaa.E
open Go.RowKit Go.Proofs.Ytkhdocabgmemiaa.Pr Go.Proofs.Ytkhdocabgmemiaa.Hw Go.Proofs.YtkhdocabgmemiaaW.PrintWords Go.Proofs.YtkhdocabgmemiaaW.PrintLast Go.Proofs.YtkhdocabgmemiaaW.PrintMore
set_option linter.unusedVariables false
set_option linter.unusedSimpArgs false

theorem wcap {n : Int} (h : 0 ≤ n) (h2 : n < 9223372036854775808) : wrap64 n = n := by unfold wrap64; omega
theorem wnat {n : Nat} (h : n < 1099511627776) : wrap64 ((n : Int) + 1) = ((n + 1 : Nat) : Int) := by rw [wcap (by omega) (by omega)]; omega
/-- From the end back to the start. -/
theorem up {Q : Nat → Prop} {n : Nat} (hn : Q n) (hs : ∀ i, i < n → Q (i + 1) → Q i) : Q 0 := by
  have : ∀ d, d ≤ n → Q (n - d) := by
    intro d
    induction d with
    | zero => intro _; exact hn
    | succ d ih =>
      intro h
      have h1 := ih (by omega)
      refine hs (n - (d + 1)) (by omega) ?_
      rwa [show n - (d + 1) + 1 = n - d from by omega]
  have := this n (Nat.le_refl _)
  rwa [Nat.sub_self] at this
end Go.Proofs.Ytkhdocabgmemiaa.E
end
section
/-
  Guards, sums, and the hand-proved functions' answers, for the statements.
-/
namespace Go.Proofs.Ytkhdocabgmemiaa.E
open Go.RowKit Go.Proofs.Ytkhdocabgmemiaa.Pr Go.Proofs.Ytkhdocabgmemiaa.Hw Go.Proofs.Ytkhdocabgmemiaa.Pl Go.Proofs.YtkhdocabgmemiaaW.PrintWords Go.Proofs.YtkhdocabgmemiaaW.PrintLast Go.Proofs.YtkhdocabgmemiaaW.PrintMore
set_option linter.unusedVariables false
set_option linter.unusedSimpArgs false

/-- A check, and both ways on. -/
theorem ev_if {α : Type} {A : Nat → Option Bool} {b : Bool} (hA : Ev A b) {X Y : Nat → Option α} {r : α} (hx : b = true → Ev X r) (hy : b = false → Ev Y r) : Ev (fun k => (A k).bind fun t => if t = true then X k else Y k) r := by
  refine Ev.bind (f := fun k t => if t = true then X k else Y k) hA ?_
  cases b with
  | true => exact (hx rfl).congr fun k => if_pos rfl
  | false => exact (hy rfl).congr fun k => if_neg (by simp)
theorem ev_ite {α : Type} {c : Prop} [Decidable c] {X Y : Nat → Option α} {r : α} (hx : c → Ev X r) (hy : ¬ c → Ev Y r) : Ev (fun k => if c then X k else Y k) r := by
  by_cases h : c
  · exact (hx h).congr fun k => if_pos h
  · exact (hy h).congr fun k => if_neg h
/-- A check whose negation is handed on. -/
theorem ev_now_bind {α β : Type} {x : Option α} {a : α} (hx : x = some a) {f : Nat → α → Option β} {r : β} (h : Ev (fun k => f k a) r) : Ev (fun k => x.bind (f k)) r := by subst hx; exact h
end Go.Proofs.Ytkhdocabgmemiaa.E
end
section
/- Printed by a program of this seat (the kit's printer, with the functions that were proved by hand given to it). What stands here: the functions that the statements reach, as plain functions, and that the Go code computes them. -/
namespace Go.Proofs.Ytkhdocabgmemiaa.Pr
open Go.RowKit Go.Proofs.YtkhdocabgmemiaaW.PrintWords Go.Proofs.YtkhdocabgmemiaaW.PrintLast Go.Proofs.YtkhdocabgmemiaaW.PrintMore
attribute [local go_sem] max2_int min2_int max_two min_two max_three min_three max_four min_four   -- for this text's walks alone
set_option linter.unusedVariables false
set_option linter.unusedSimpArgs false

open Go.Proofs.Ytkhdocabgmemiaa.Hw
/-! ### privityref10_Fair: function 31 -/
/-! ### privityref10_Unlike: function 34 -/
end Go.Proofs.Ytkhdocabgmemiaa.Pr
end
section
/-
  Chapter 10: what the printed functions on matrices answer.
-/
namespace Go.Proofs.Ytkhdocabgmemiaa.E
open Go.RowKit Go.Proofs.Ytkhdocabgmemiaa.Pr Go.Proofs.Ytkhdocabgmemiaa.Hw Go.Proofs.Ytkhdocabgmemiaa.Pl Go.Proofs.YtkhdocabgmemiaaW.PrintWords Go.Proofs.YtkhdocabgmemiaaW.PrintLast Go.Proofs.YtkhdocabgmemiaaW.PrintMore
set_option linter.unusedVariables false
set_option linter.unusedSimpArgs false

theorem rdM_nat (l : List (List Int)) (i : Nat) : rd_L1 l (i : Int) = l.getD i [] := by unfold rd_L1; rw [Int.toNat_natCast]
theorem rd_at2 (s : List (List Int)) (i j : Nat) : rd (rd_L1 s (i : Int)) (j : Int) = at2 s i j := by rw [rdM_nat]; exact rd_nat _ j
/-- A loop that answers false at the first i that Q does not hold of, and goes on with e behind it. -/
theorem allL {F : Nat → Int → Option Bool} {n : Nat} {Q : Nat → Prop} [DecidablePred Q] {e : Bool} (hend : Ev (fun k => F k (n : Int)) e) (hyes : ∀ i, i < n → Q i → ∀ r, Ev (fun k => F k ((i + 1 : Nat) : Int)) r → Ev (fun k => F k (i : Int)) r)
    (hno : ∀ i, i < n → ¬ Q i → Ev (fun k => F k (i : Int)) false) (r : Bool) (hr : r = true ↔ ((∀ i, i < n → Q i) ∧ e = true)) : Ev (fun k => F k ((0 : Nat) : Int)) r := by
  by_cases hall : ∀ i, i < n → Q i
  · have : r = e := by
      cases e with
      | true => exact hr.2 ⟨hall, rfl⟩
      | false => exact Bool.eq_false_iff.mpr fun h => by have := (hr.1 h).2; cases this
    rw [this]
    exact up (Q := fun i => Ev (fun k => F k (i : Int)) e) (n := n) hend fun i hi h => hyes i hi (hall i hi) e h
  · have hf : r = false := Bool.eq_false_iff.mpr fun h => hall (hr.1 h).1
    rw [hf]
    obtain ⟨i, hi, hq⟩ : ∃ i, i < n ∧ ¬ Q i := Classical.byContradiction fun h => hall fun i hi => Classical.byContradiction fun hq => h ⟨i, hi, hq⟩
    refine up (Q := fun i => Ev (fun k => F k (i : Int)) false) (n := i) (hno i hi hq) fun j hj h => ?_
    by_cases hqj : Q j
    · exact hyes j (by omega) hqj false h
    · exact hno j (by omega) hqj
theorem samel_ev (a b : List Int) (ha : a.length ≤ 1000000000) : Ev (fun k => privityref06_SameList.f k a b) (decide (a = b)) := by
  by_cases hl : a.length = b.length
  · have h := allL (F := fun k i => privityref06_SameList.l0 k a b i) (n := a.length) (Q := fun i => a.getD i 0 = b.getD i 0) (e := true) ?_ (fun i hi hq r h => ?_) (fun i hi hq => ?_) (decide (a = b)) ?_
    · refine h.congr fun k => ?_
      unfold privityref06_SameList.f
      rw [if_pos (by omega)]; rfl
    · refine Ev.step (fun k => ?_) (Ev.now _)
      simp only [privityref06_SameList.l0]
      rw [if_neg (by omega)]
    · refine Ev.step (fun k => ?_) h
      simp only [privityref06_SameList.l0]
      rw [if_pos (by omega), if_pos (by omega), if_pos (by omega), rd_nat, rd_nat, if_pos hq, wnat (by omega)]
    · refine Ev.step (fun k => ?_) (Ev.now _)
      simp only [privityref06_SameList.l0]
      rw [if_pos (by omega), if_pos (by omega), if_pos (by omega), rd_nat, rd_nat, if_neg hq]
    · rw [decide_eq_true_iff]
      refine ⟨fun e => ⟨fun i _ => by rw [e], rfl⟩, fun h => list_ext_getD hl fun i => ?_⟩
      by_cases hi : i < a.length
      · exact h.1 i hi
      · rw [getD_out a i (by omega), getD_out b i (by omega)]
  · have : decide (a = b) = false := decide_eq_false fun e => hl (by rw [e])
    rw [this]
    refine Ev.congr (fun k => ?_) (Ev.now _)
    unfold privityref06_SameList.f
    rw [if_neg (by omega)]
theorem getD_mem {a : List (List Int)} {i : Nat} (hi : i < a.length) : a.getD i [] ∈ a := by
  rw [List.getD_eq_getElem?_getD, List.getElem?_eq_getElem hi]; exact List.getElem_mem hi
theorem samem_ev (a b : List (List Int)) (ha : a.length ≤ 1000000000) (hr : ∀ x ∈ a, x.length ≤ 1000000000) : Ev (fun k => privityref06_Same.f k a b) (decide (a = b)) := by
  by_cases hl : a.length = b.length
  · have hs : ∀ i, i < a.length → Ev (fun k => privityref06_SameList.f k (rd_L1 a (i : Int)) (rd_L1 b (i : Int))) (decide (a.getD i [] = b.getD i [])) := fun i hi => by
      rw [rdM_nat, rdM_nat]; exact samel_ev _ _ (hr _ (getD_mem hi))
    have hst : ∀ i, i < a.length → ∀ k, privityref06_Same.l0 (k + 1) a b (i : Int) = (privityref06_SameList.f k (rd_L1 a (i : Int)) (rd_L1 b (i : Int))).bind fun t => (if t = true then (privityref06_Same.l0 k a b ((i + 1 : Nat) : Int)) else (some false)) := fun i hi k => by
      simp only [privityref06_Same.l0]
      rw [if_pos (by omega), if_pos (by omega), if_pos (by omega), wnat (by omega)]
    have h := allL (F := fun k i => privityref06_Same.l0 k a b i) (n := a.length) (Q := fun i => a.getD i [] = b.getD i []) (e := true) ?_ (fun i hi hq r h => ?_) (fun i hi hq => ?_) (decide (a = b)) ?_
    · refine h.congr fun k => ?_
      unfold privityref06_Same.f
      rw [if_pos (by omega)]; rfl
    · refine Ev.step (fun k => ?_) (Ev.now _)
      simp only [privityref06_Same.l0]
      rw [if_neg (by omega)]
    · have h1 := hs i hi
      rw [decide_eq_true hq] at h1
      exact Ev.step (hst i hi) (ev_if h1 (fun _ => h) fun e => by cases e)
    · have h1 := hs i hi
      rw [decide_eq_false hq] at h1
      exact Ev.step (hst i hi) (ev_if h1 (fun e => by cases e) fun _ => Ev.now _)
    · rw [decide_eq_true_iff]
      refine ⟨fun e => ⟨fun i _ => by rw [e], rfl⟩, fun h => List.ext_getElem hl fun i h1 h2 => ?_⟩
      have := h.1 i h1
      rw [List.getD_eq_getElem?_getD, List.getD_eq_getElem?_getD, List.getElem?_eq_getElem h1, List.getElem?_eq_getElem h2] at this
      exact this
  · have : decide (a = b) = false := decide_eq_false fun e => hl (by rw [e])
    rw [this]
    refine Ev.congr (fun k => ?_) (Ev.now _)
    unfold privityref06_Same.f
    rw [if_neg (by omega)]
def sqB (s : List (List Int)) : Bool := (s.all fun r => decide (r.length = s.length)) && decide (0 < s.length)
theorem sqB_iff {s : List (List Int)} : sqB s = true ↔ (Sq s.length s ∧ 0 < s.length) := by
  unfold sqB
  rw [Bool.and_eq_true, decide_eq_true_iff, List.all_eq_true]
  exact ⟨fun h => ⟨⟨rfl, fun r hr => of_decide_eq_true (h.1 r hr)⟩, h.2⟩, fun h => ⟨fun r hr => decide_eq_true (h.1.row r hr), h.2⟩⟩
theorem sq_iff {s : List (List Int)} : (∀ i, i < s.length → (s.getD i []).length = s.length) ↔ Sq s.length s := by
  refine ⟨fun h => ⟨rfl, fun r hr => ?_⟩, fun h i hi => h.getD i hi⟩
  obtain ⟨i, hi, rfl⟩ := List.getElem_of_mem hr
  have := h i hi
  rwa [List.getD_eq_getElem?_getD, List.getElem?_eq_getElem hi] at this
/-- Square, not empty, symmetric. -/
def SymP (s : List (List Int)) (i : Nat) : Prop := ∀ a, i ≤ a → a < s.length → ∀ b, b < a → at2 s a b = at2 s b a
def symPB (s : List (List Int)) (i : Nat) : Bool := (List.range s.length).all fun a => decide (a < i) || (List.range a).all fun b => decide (at2 s a b = at2 s b a)
theorem symPB_iff {s : List (List Int)} {i : Nat} : symPB s i = true ↔ SymP s i := by
  unfold symPB SymP
  simp only [List.all_eq_true, List.mem_range, Bool.or_eq_true, decide_eq_true_eq]
  exact ⟨fun h a h1 h2 b hb => (h a h2).elim (fun h3 => by omega) fun h3 => h3 b hb, fun h a h2 => (Nat.lt_or_ge a i).elim Or.inl fun h1 => Or.inr fun b hb => h a h1 h2 b hb⟩
def symB (s : List (List Int)) : Bool := sqB s && symPB s 0
theorem symB_iff {s : List (List Int)} : symB s = true ↔ (Sq s.length s ∧ 0 < s.length ∧ ∀ i, i < s.length → ∀ j, j < s.length → at2 s i j = at2 s j i) := by
  unfold symB
  rw [Bool.and_eq_true, symPB_iff, sqB_iff]
  constructor
  · rintro ⟨⟨h1, h2⟩, h3⟩
    refine ⟨h1, h2, fun i hi j hj => ?_⟩
    rcases Nat.lt_trichotomy i j with h | h | h
    · exact (h3 j (Nat.zero_le _) hj i h).symm
    · rw [h]
    · exact h3 i (Nat.zero_le _) hi j h
  · rintro ⟨h1, h2, h3⟩
    exact ⟨⟨h1, h2⟩, fun a _ ha b hb => h3 a ha b (by omega)⟩
theorem SymP.next {s : List (List Int)} {i : Nat} (hi : i < s.length) : SymP s i ↔ ((∀ j, j < i → at2 s i j = at2 s j i) ∧ SymP s (i + 1)) := by
  constructor
  · exact fun h => ⟨fun j hj => h i (Nat.le_refl _) hi j hj, fun a h1 h2 b hb => h a (by omega) h2 b hb⟩
  · rintro ⟨h1, h2⟩ a ha hl b hb
    by_cases e : a = i
    · subst e; exact h1 b hb
    · exact h2 a (by omega) hl b hb
theorem SymP.last (s : List (List Int)) : SymP s s.length := fun a h1 h2 => by omega
theorem bsym_ev (s : List (List Int)) (hl : s.length ≤ 1000000000) : Ev (fun k => bivariate_IsSymmetric.f k s) (symB s) := by
  by_cases hsq : Sq s.length s
  · have htri : Ev (fun k => bivariate_IsSymmetric.l1 k s s (s.length : Int) ((0 : Nat) : Int)) (symB s) := by
      by_cases hz : 0 < s.length
      · have hsb : sqB s = true := sqB_iff.2 ⟨hsq, hz⟩
        unfold symB
        rw [hsb, Bool.true_and]
        refine up (Q := fun i => Ev (fun k => bivariate_IsSymmetric.l1 k s s (s.length : Int) (i : Int)) (symPB s i)) (n := s.length) ?_ (fun i hi h => ?_)
        · rw [symPB_iff.2 (SymP.last s)]
          refine Ev.step (fun k => ?_) (Ev.now _)
          simp only [bivariate_IsSymmetric.l1]
          rw [if_neg (by omega), decide_eq_true (by omega)]
        · have l1 := hsq.getD i hi
          have h2 := allL (F := fun k j => bivariate_IsSymmetric.l2 k s (i : Int) (rd_L1 s (i : Int)) s (s.length : Int) (i : Int) (i : Int) j) (n := i) (Q := fun j => at2 s i j = at2 s j i) (e := symPB s (i + 1)) ?_ (fun j hj hqj r h => ?_) (fun j hj hqj => ?_) (symPB s i) (by rw [symPB_iff, symPB_iff]; exact SymP.next hi)
          · refine Ev.step (fun k => ?_) h2
            simp only [bivariate_IsSymmetric.l1]
            rw [if_pos (by omega), if_pos (by omega), if_pos (by omega)]; rfl
          · refine Ev.step (fun k => ?_) h
            simp only [bivariate_IsSymmetric.l2]
            rw [if_neg (by omega), wnat (by omega)]
          · refine Ev.step (fun k => ?_) h
            simp only [bivariate_IsSymmetric.l2]
            have l2 := hsq.getD j (by omega)
            rw [if_pos (by omega), if_pos (by omega), if_pos (by rw [rdM_nat, l1]; omega), if_pos (by omega), if_pos (by omega), if_pos (by rw [rdM_nat, l2]; omega), rd_at2, rd_at2, if_pos hqj, wnat (by omega)]
          · refine Ev.step (fun k => ?_) (Ev.now _)
            simp only [bivariate_IsSymmetric.l2]
            have l2 := hsq.getD j (by omega)
            rw [if_pos (by omega), if_pos (by omega), if_pos (by rw [rdM_nat, l1]; omega), if_pos (by omega), if_pos (by omega), if_pos (by rw [rdM_nat, l2]; omega), rd_at2, rd_at2, if_neg hqj]
      · have hsb : symB s = false := Bool.eq_false_iff.mpr fun h => hz (symB_iff.1 h).2.1
        rw [hsb]
        refine Ev.step (fun k => ?_) (Ev.now _)
        simp only [bivariate_IsSymmetric.l1]
        rw [if_neg (by omega), decide_eq_false (by omega)]
    have h := allL (F := fun k i => bivariate_IsSymmetric.l0 k s s (s.length : Int) i) (n := s.length) (Q := fun i => (s.getD i []).length = s.length) (e := symB s) ?_ (fun i hi hq r h => ?_) (fun i hi hq => ?_) (symB s) ?_
    · exact h.congr fun k => rfl
    · refine Ev.step (fun k => ?_) htri
      simp only [bivariate_IsSymmetric.l0]
      rw [if_neg (by omega)]; rfl
    · refine Ev.step (fun k => ?_) h
      simp only [bivariate_IsSymmetric.l0]
      rw [if_pos (by omega), if_pos (by omega), if_pos (by omega), rdM_nat, if_pos (by omega), wnat (by omega)]
    · exact absurd (sq_iff.2 hsq i hi) hq
    · exact ⟨fun h => ⟨sq_iff.2 hsq, h⟩, fun h => h.2⟩
  · have hsb : symB s = false := Bool.eq_false_iff.mpr fun h => hsq (symB_iff.1 h).1
    rw [hsb]
    obtain ⟨i, hi, hq⟩ : ∃ i, i < s.length ∧ ¬ (s.getD i []).length = s.length := Classical.byContradiction fun h => hsq (sq_iff.1 fun i hi => Classical.byContradiction fun hq => h ⟨i, hi, hq⟩)
    have hno : ∀ j, j < s.length → ¬ (s.getD j []).length = s.length → Ev (fun k => bivariate_IsSymmetric.l0 k s s (s.length : Int) (j : Int)) false := fun j hj hq => by
      refine Ev.step (fun k => ?_) (Ev.now _)
      simp only [bivariate_IsSymmetric.l0]
      rw [if_pos (by omega), if_pos (by omega), if_pos (by omega), rdM_nat, if_neg (by omega)]
    refine (up (Q := fun j => Ev (fun k => bivariate_IsSymmetric.l0 k s s (s.length : Int) (j : Int)) false) (n := i) (hno i hi hq) fun j hj h => ?_).congr fun k => rfl
    by_cases hqj : (s.getD j []).length = s.length
    · refine Ev.step (fun k => ?_) h
      simp only [bivariate_IsSymmetric.l0]
      rw [if_pos (by omega), if_pos (by omega), if_pos (by omega), rdM_nat, if_pos (by omega), wnat (by omega)]
    · exact hno j (by omega) hqj
end Go.Proofs.Ytkhdocabgmemiaa.E
end
section
/- Printed by a program of this seat (the kit's printer, with the functions that were proved by hand given to it). What stands here: the functions that the statements reach, as plain functions, and that the Go code computes them. -/
namespace Go.Proofs.Ytkhdocabgmemiaa.Pr
open Go.RowKit Go.Proofs.YtkhdocabgmemiaaW.PrintWords Go.Proofs.YtkhdocabgmemiaaW.PrintLast Go.Proofs.YtkhdocabgmemiaaW.PrintMore
attribute [local go_sem] max2_int min2_int max_two min_two max_three min_three max_four min_four   -- for this text's walks alone
set_option linter.unusedVariables false
set_option linter.unusedSimpArgs false

open Go.Proofs.Ytkhdocabgmemiaa.Hw
/-! ### privitylaw10_validTranslation: function 24 -/
end Go.Proofs.Ytkhdocabgmemiaa.Pr
end
section
/- Printed by a program of this seat (the kit's printer, with the functions that were proved by hand given to it). What stands here: the functions that the statements reach, as plain functions, and that the Go code computes them. -/
namespace Go.Proofs.Ytkhdocabgmemiaa.Pr
open Go.RowKit Go.Proofs.YtkhdocabgmemiaaW.PrintWords Go.Proofs.YtkhdocabgmemiaaW.PrintLast Go.Proofs.YtkhdocabgmemiaaW.PrintMore
attribute [local go_sem] max2_int min2_int max_two min_two max_three min_three max_four min_four   -- for this text's walks alone
set_option linter.unusedVariables false
set_option linter.unusedSimpArgs false

open Go.Proofs.Ytkhdocabgmemiaa.Hw
/-! ### privityref10_Vanish: function 25 -/
end Go.Proofs.Ytkhdocabgmemiaa.Pr
end
section
/- Printed by a program of this seat (the kit's printer, with the functions that were proved by hand given to it). What stands here: the functions that the statements reach, as plain functions, and that the Go code computes them. -/
namespace Go.Proofs.Ytkhdocabgmemiaa.Pr
open Go.RowKit Go.Proofs.YtkhdocabgmemiaaW.PrintWords Go.Proofs.YtkhdocabgmemiaaW.PrintLast Go.Proofs.YtkhdocabgmemiaaW.PrintMore
attribute [local go_sem] max2_int min2_int max_two min_two max_three min_three max_four min_four   -- for this text's walks alone
set_option linter.unusedVariables false
set_option linter.unusedSimpArgs false

open Go.Proofs.Ytkhdocabgmemiaa.Hw
/-! ### privityref10_Translate: function 27 -/
end Go.Proofs.Ytkhdocabgmemiaa.Pr
end
section
/-
  Chapter 10: rows, values, translations, vanishing polynomials.
-/
namespace Go.Proofs.Ytkhdocabgmemiaa.E
open Go.RowKit Go.Proofs.Ytkhdocabgmemiaa.Pr Go.Proofs.Ytkhdocabgmemiaa.Hw Go.Proofs.Ytkhdocabgmemiaa.Pl Go.Proofs.YtkhdocabgmemiaaW.PrintWords Go.Proofs.YtkhdocabgmemiaaW.PrintLast Go.Proofs.YtkhdocabgmemiaaW.PrintMore
set_option linter.unusedVariables false
set_option linter.unusedSimpArgs false

/-! A check that leads to facts. -/
structure Fs (p : Int) (s : List (List Int)) : Prop where
  hp : Supp p
  n0 : 0 < s.length
  n6 : s.length ≤ 6
  sq : Sq s.length s
  res : ResM p s
structure Vt (p : Int) (s : List (List Int)) (xs : List Int) (d x : Int) : Prop where
  fs : Fs p s
  sym : ∀ i, i < s.length → ∀ j, j < s.length → at2 s i j = at2 s j i
  xr : ∀ x ∈ xs, Res p x
  xl : xs.length + 1 = s.length
  nd : (0 :: xs).Nodup
  dr : Res p d
  rx : Res p x
end Go.Proofs.Ytkhdocabgmemiaa.E
end
section
/-
  What the statements of chapter 10 share: the first check.
-/
namespace Go.Proofs.Ytkhdocabgmemiaa.E
open Go.RowKit Go.Proofs.Ytkhdocabgmemiaa.Pr Go.Proofs.Ytkhdocabgmemiaa.Hw Go.Proofs.Ytkhdocabgmemiaa.Pl Go.Proofs.YtkhdocabgmemiaaW.PrintWords Go.Proofs.YtkhdocabgmemiaaW.PrintLast Go.Proofs.YtkhdocabgmemiaaW.PrintMore
set_option linter.unusedVariables false
set_option linter.unusedSimpArgs false

theorem awake10 : Ev (fun k => privitylaw10_awake.f k) true := Ev.of (fun k => privitylaw10_awake.mono _) (k := 60) privitylaw10_awake.is
theorem awake10' : Ev (fun k => (privitylaw10_awake.f k).bind fun t => some t) true := Ev.bind awake10 (Ev.now _)
end Go.Proofs.Ytkhdocabgmemiaa.E
end
section
/-
  New returns the specified symmetric matrix or error for any arguments.
-/
namespace Go.Proofs.Ytkhdocabgmemiaa.Pure
open Go.RowKit Go.Proofs.Ytkhdocabgmemiaa.Pr Go.Proofs.Ytkhdocabgmemiaa.Hw Go.Proofs.Ytkhdocabgmemiaa.E Go.Proofs.YtkhdocabgmemiaaW.PrintWords Go.Proofs.YtkhdocabgmemiaaW.PrintLast Go.Proofs.YtkhdocabgmemiaaW.PrintMore
set_option linter.unusedVariables false
set_option linter.unusedSimpArgs false

theorem BivariateNew : privitylaw10_BivariateNew.Pure := by
  intro first rest _ _ _ _ _ _
  refine Ev.rounds (r := true) ?_
  have hskip : Ev (fun k => privitylaw10_BivariateNew.j0 k first rest true) true := Ev.step (f := fun k => (privitylaw10_awake.f k).bind fun t => some t) (fun k => by simp only [privitylaw10_BivariateNew.j0]; rw [if_pos trivial]) awake10'
  refine ev_ite (fun _ => hskip) fun h1 => ?_
  by_cases h2 : (rest.length : Int) > 40
  · rw [decide_eq_true h2]; exact hskip
  · rw [decide_eq_false h2]
    have hbr : bivariate_New.f first rest = privityref10_New.f first rest := rfl
    obtain ⟨m, e, hme, hcase⟩ : ∃ m e, bivariate_New.f first rest = some (m, e) ∧ ((m = [] ∧ e = 1) ∨ (m = matL first.length (newG first.length first rest) ∧ e = 0 ∧ 0 < first.length)) := by
      unfold bivariate_New.f
      rw [if_pos (by omega), if_pos (by omega)]
      by_cases hb : newBad first rest = true
      · exact ⟨[], 1, by rw [if_pos hb], Or.inl ⟨rfl, rfl⟩⟩
      · exact ⟨_, 0, by rw [if_neg hb], Or.inr ⟨rfl, rfl, Nat.pos_of_ne_zero fun h0 => hb (newBad_iff.2 (Or.inl h0))⟩⟩
    have hme2 := hme
    rw [hbr] at hme2
    have hl : m.length ≤ 8 ∧ ∀ x ∈ m, x.length ≤ 8 := by
      rcases hcase with ⟨rfl, _⟩ | ⟨rfl, _, _⟩
      · exact ⟨by simp, fun x hx => by cases hx⟩
      · have hq := matL_sq first.length (newG first.length first rest)
        exact ⟨by rw [hq.len]; omega, fun x hx => by rw [hq.row x hx]; omega⟩
    have hsame := samem_ev m m (by omega) (fun x hx => by have := hl.2 x hx; omega)
    rw [decide_eq_true rfl] at hsame
    have hlast : Ev (fun k => if e = 0 then ((bivariate_IsSymmetric.f k m).bind fun t336 => (some t336)) else (some true)) true := by
      refine ev_ite (fun he => ?_) (fun _ => Ev.now _)
      rcases hcase with ⟨_, h⟩ | ⟨rfl, _, hpos⟩
      · omega
      · have hq := matL_sq first.length (newG first.length first rest)
        have hs := bsym_ev _ (show (matL first.length (newG first.length first rest)).length ≤ 1000000000 by rw [hq.len]; omega)
        rw [symB_iff.2 ⟨by rw [hq.len]; exact hq, by rw [hq.len]; exact hpos, fun i hi j hj => by
          rw [hq.len] at hi hj
          rw [at2_matL hi hj, at2_matL hj hi]; exact newG_sym _ _ _ i j⟩] at hs
        exact Ev.bind hs (Ev.now _)
    refine Ev.step (f := fun k => (bivariate_New.f first rest).bind fun bt326 => ((privityref10_New.f first rest).bind fun bt330 => ((privitylaw10_awake.f k).bind fun t334 => (if t334 = true then (if bt326.2 = bt330.2 then ((privityref06_Same.f k bt326.1 bt330.1).bind fun t335 => (if t335 = true then (if bt326.2 = 0 then ((bivariate_IsSymmetric.f k bt326.1).bind fun t336 => (some t336)) else (some true)) else (some false))) else (some false)) else (some false))))) (fun k => ?_) (ev_now_bind hme (ev_now_bind hme2 (ev_if awake10 (fun _ => Ev.congr (fun k => if_pos rfl) (ev_if hsame (fun _ => hlast) fun e => by cases e)) fun e => by cases e)))
    simp only [privitylaw10_BivariateNew.j0]
    rw [if_neg (by simp)]
end Go.Proofs.Ytkhdocabgmemiaa.Pure
end
section
/- Printed by a program of this seat (the kit's printer, with the functions that were proved by hand given to it). What stands here: the functions that the statements reach, as plain functions, and that the Go code computes them. -/
namespace Go.Proofs.Ytkhdocabgmemiaa.bivariateNew
open Go.ChangeShapes Go.WideShapes Go.ChangeAt Go.RowKit
open Go.ChangeMaps (open_string shut_string)
set_option linter.unusedVariables false
theorem own : ownKnob Try.prog.godebug = none := by kernel_rfl
theorem laidOut : laidOutB Try.prog = true := by kernel_rfl
def IsRow (k : IntKind) (w : World) (a : Option Addr) (len cap : Nat) (zs : List Int) : Prop :=
  (a = none ∧ len = 0 ∧ cap = 0 ∧ zs = []) ∨
  ∃ x, a = some x ∧ len ≤ cap ∧ cap ≤ maxLen ∧ zs.length = cap ∧ (∀ i, i < zs.length → w.cell? (x.add i) = some (.int k (zs.getD i 0))) ∧ ∀ n ∈ zs, (Lit.int k n).wf = true
set_option maxRecDepth 100000 in
theorem lifted (os : Os) (started : os.Started) (H : Type) (enc : TypeId × Value → H) :
    ReturnsInHanded {} Try.checked os 3 .any (Rows.bivariateNewSpec.pre6 enc Try.prog Try.f3 Rows.bivariateNewRow.domain false) (Rows.bivariateNewSpec.post enc Try.prog Try.f3 false true false false) := by
  refine returnsInHanded_of_change_sized (C := Try.checked) own started (by kernel_rfl) Try.func3
    (ChangeSpec.witness6 (enc := enc) (C := Try.checked) false ⟨#[], #[.slice none 0 0, .slice none 0 0], []⟩ 8 (by kernel_rfl) (by kernel_rfl) (by kernel_rfl) (by kernel_rfl)) ?_
  intro W base args ds gs before hval0 hW hcnd hsz0 _
  have hsz : (DataW.weightsEach Try.prog (Try.f3.params.toList ++ Rows.bivariateNewSpec.plain.varTypes Try.prog) (ds ++ gs)).all (· ≤ reachBytes) = true := hsz0
  have hval : ∀ (j : Nat) t v, Try.f3.params[j]? = some t → args[j]? = some v → Value.okWide Try.prog W .any base t v := hval0
  have hW' := hW
  obtain ⟨p, q, hA0, hV, rfl, hfz, hnd⟩ := hW
  have hA : DataW.TrodAll enc Try.prog W 0 (fun _ => true) true Try.f3.params.toList args.toList ds p := hA0
  rw [Try.params3] at hA hval hsz
  obtain ⟨v0, vs0, d0, ds0, p0, q0, hargs, rfl, rfl, h0, r0⟩ := trodAll_cons hA
  obtain ⟨v1, vs1, d1, ds1, p1, q1, rfl, rfl, rfl, h1, r1⟩ := trodAll_cons r0
  obtain ⟨rfl, rfl, rfl⟩ := trodAll_nil r1
  obtain rfl : args = #[v0, v1] := by cases args; simp_all
  obtain ⟨rfl, rfl⟩ := trodVars_none hV
  obtain ⟨a0, len0, cap0, rfl⟩ := okWide_slice Try.underlying22 (hval 0 22 v0 rfl rfl)
  have k0 := h0
  have lt0 : ∀ x ∈ p0, x.block < W.heap.size := by obtain ⟨m, hm⟩ := k0; exact DataW.trod_lt m _ _ _ hm
  obtain ⟨z0, w0⟩ : ∃ zs, IsRow .u64 W a0 len0 cap0 zs := by
    obtain ⟨fuel, hf⟩ := h0
    rcases open_ints Try.underlying22 Try.underlying31 (by kernel_rfl) hf with ⟨hcs, _⟩ | ⟨x, l, c, zs, hcs, _, hl, hm, hz, _, hcell, hwz⟩
    · simp [Value.cells] at hcs
      obtain ⟨rfl, rfl, rfl⟩ := hcs
      exact ⟨[], .inl ⟨rfl, rfl, rfl, rfl⟩⟩
    · simp [Value.cells] at hcs
      obtain ⟨rfl, rfl, rfl⟩ := hcs
      exact ⟨zs, .inr ⟨_, rfl, hl, hm, by simpa using hz, hcell, hwz⟩⟩
  have y0 : len0 * 8 ≤ 140737488351232 := Go.Proofs.YtkhdocabgmemiaaW.PrintWords.sized_ints hsz (j := 0) (t := 22) rfl rfl Try.underlying22 Try.underlying31 (by kernel_rfl) (by kernel_rfl) h0
  obtain ⟨a1, len1, cap1, rfl⟩ := okWide_slice Try.underlying22 (hval 1 22 v1 rfl rfl)
  have k1 := h1
  have lt1 : ∀ x ∈ p1, x.block < W.heap.size := by obtain ⟨m, hm⟩ := k1; exact DataW.trod_lt m _ _ _ hm
  obtain ⟨z1, w1⟩ : ∃ zs, IsRow .u64 W a1 len1 cap1 zs := by
    obtain ⟨fuel, hf⟩ := h1
    rcases open_ints Try.underlying22 Try.underlying31 (by kernel_rfl) hf with ⟨hcs, _⟩ | ⟨x, l, c, zs, hcs, _, hl, hm, hz, _, hcell, hwz⟩
    · simp [Value.cells] at hcs
      obtain ⟨rfl, rfl, rfl⟩ := hcs
      exact ⟨[], .inl ⟨rfl, rfl, rfl, rfl⟩⟩
    · simp [Value.cells] at hcs
      obtain ⟨rfl, rfl, rfl⟩ := hcs
      exact ⟨zs, .inr ⟨_, rfl, hl, hm, by simpa using hz, hcell, hwz⟩⟩
  have y1 : len1 * 8 ≤ 140737488351232 := Go.Proofs.YtkhdocabgmemiaaW.PrintWords.sized_ints hsz (j := 1) (t := 22) rfl rfl Try.underlying22 Try.underlying31 (by kernel_rfl) (by kernel_rfl) h1
  clear hA0 hval0 hsz0 hsz
  refine (Pr.privitylaw10_BivariateNew.walk Pure.BivariateNew a0 len0 cap0 z0 a1 len1 cap1 z1 W w0 y0 w1 y1).mono fun e W' ⟨he, bel⟩ => ?_
  subst he
  exact ⟨_, rfl, _, _, _, [], _, [], hW', trodAll_mk1 (shut_bool Try.underlying4 _), (trodAll_cons_mk (Below.trod laidOut (by kernel_rfl) (of_decide_eq_true (by kernel_rfl)) k0 bel lt0) (trodAll_cons_mk (Below.trod laidOut (by kernel_rfl) (of_decide_eq_true (by kernel_rfl)) k1 bel lt1) trodAll_mk0)), rfl, bel.frame _, fun h => by cases h⟩
theorem over : Rows.bivariateNewRow.holds Try.pinned (OpenSpec.ofChange Rows.bivariateNewSpec) :=
  OpenClaim.holds_of_wide 3 Try.f3 rfl rfl rfl rfl rfl rfl rfl ⟨rfl, rfl, rfl, rfl, rfl⟩ rfl rfl rfl rfl rfl (by kernel_rfl) Try.func3 (by kernel_rfl)
    (of_decide_eq_true (by kernel_rfl)) (by unfold Func.isWrapper; first | (rw [if_pos (by decide +kernel)]; kernel_rfl) | (rw [if_neg (by decide +kernel)]; exact ⟨rfl, rfl⟩))
    (fun os started H enc _ => lifted os started H enc)
theorem proved : Rows.BivariateNewSaid := over
#print axioms proved
end Go.Proofs.Ytkhdocabgmemiaa.bivariateNew
namespace Go.Proofs.Ytkhdocabgmemiaa
/-- The row, under a short name, for the claim. -/
theorem bivariateNew_holds : Rows.BivariateNewSaid := bivariateNew.proved
end Go.Proofs.Ytkhdocabgmemiaa
end
