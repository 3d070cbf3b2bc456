/- Part 5 of the proof's texts, joined in build order. -/
import Derived.Test.YtejeelpnmdfibaaZSharingPrivacy4
import Derived.Test.YtejeelpnmdfibaaZSharingPrivacy1
import Derived.Test.YtejeelpnmdfibaaZSharingPrivacy3
section
/-
  New of the reference of layer 10, proved by hand: it makes the same matrix.
-/
namespace Go.Proofs.Ytejeelpnmdfibaa.Hw
open Go.RowKit Go.Proofs.Ytejeelpnmdfibaa.Pr Go.Proofs.YtejeelpnmdfibaaW.PrintWords Go.Proofs.YtejeelpnmdfibaaW.PrintLast Go.Proofs.YtejeelpnmdfibaaW.PrintMore Go.Proofs.Ytejeelpnmdfibaa.E
set_option linter.unusedVariables false
set_option linter.unusedSimpArgs false

/-- What is set when the loops stand at row i, column j, the first row being set up to c. -/
def rS (n : Nat) (first rest : List Int) (c i j a b : Nat) : Int := if (min a b = 0 ∧ max a b < c) ∨ (0 < min a b ∧ (min a b < i ∨ (min a b = i ∧ max a b < j))) then newG n first rest a b else 0
theorem rS_first {n : Nat} {first rest : List Int} (i : Nat) : ∀ a, a < n → ∀ b, b < n → upd (upd (rS n first rest i i i) 0 i (first.getD i 0)) i 0 (first.getD i 0) a b = rS n first rest (i + 1) i i a b := by
  intro a ha b hb
  unfold upd rS newG
  by_cases h1 : a = i ∧ b = 0
  · obtain ⟨rfl, rfl⟩ := h1
    rw [if_pos ⟨rfl, rfl⟩, if_pos (by omega), if_pos (by omega), show max a 0 = a from by omega]
  · rw [if_neg h1]
    by_cases h2 : a = 0 ∧ b = i
    · obtain ⟨rfl, rfl⟩ := h2
      rw [if_pos ⟨rfl, rfl⟩, if_pos (by omega), if_pos (by omega), show max 0 b = b from by omega]
    · rw [if_neg h2]
      by_cases h3 : (min a b = 0 ∧ max a b < i) ∨ (0 < min a b ∧ (min a b < i ∨ (min a b = i ∧ max a b < i)))
      · rw [if_pos h3, if_pos (show (min a b = 0 ∧ max a b < i + 1) ∨ (0 < min a b ∧ (min a b < i ∨ (min a b = i ∧ max a b < i))) from by omega)]
      · rw [if_neg h3, if_neg (show ¬ ((min a b = 0 ∧ max a b < i + 1) ∨ (0 < min a b ∧ (min a b < i ∨ (min a b = i ∧ max a b < i)))) from by omega)]
theorem rS_next {n : Nat} {first rest : List Int} {i : Nat} (h1 : 1 ≤ i) {j : Nat} (hij : i ≤ j) (c : Nat) : ∀ a, a < n → ∀ b, b < n →
    upd (upd (rS n first rest c i j) i j (rest.getD (offs n i + (j - i)) 0)) j i (rest.getD (offs n i + (j - i)) 0) a b = rS n first rest c i (j + 1) a b := by
  intro a ha b hb
  unfold upd rS newG
  by_cases h1 : a = j ∧ b = i
  · obtain ⟨rfl, rfl⟩ := h1
    rw [if_pos ⟨rfl, rfl⟩, if_pos (by omega), if_neg (by omega), show min a b = b from by omega, show max a b = a from by omega]
  · rw [if_neg h1]
    by_cases h2 : a = i ∧ b = j
    · obtain ⟨rfl, rfl⟩ := h2
      rw [if_pos ⟨rfl, rfl⟩, if_pos (by omega), if_neg (by omega), show min a b = a from by omega, show max a b = b from by omega]
    · rw [if_neg h2]
      by_cases h3 : (min a b = 0 ∧ max a b < c) ∨ (0 < min a b ∧ (min a b < i ∨ (min a b = i ∧ max a b < j)))
      · rw [if_pos h3, if_pos (show (min a b = 0 ∧ max a b < c) ∨ (0 < min a b ∧ (min a b < i ∨ (min a b = i ∧ max a b < j + 1))) from by omega)]
      · rw [if_neg h3, if_neg (show ¬ ((min a b = 0 ∧ max a b < c) ∨ (0 < min a b ∧ (min a b < i ∨ (min a b = i ∧ max a b < j + 1)))) from by omega)]
theorem rS_row {n : Nat} {first rest : List Int} (c i j : Nat) (h : i = 0 ∨ j = n) : ∀ a, a < n → ∀ b, b < n → rS n first rest c i j a b = rS n first rest c (i + 1) (i + 1) a b := by
  intro a ha b hb
  unfold rS
  by_cases h3 : (min a b = 0 ∧ max a b < c) ∨ (0 < min a b ∧ (min a b < i ∨ (min a b = i ∧ max a b < j)))
  · rw [if_pos h3, if_pos (show (min a b = 0 ∧ max a b < c) ∨ (0 < min a b ∧ (min a b < i + 1 ∨ (min a b = i + 1 ∧ max a b < i + 1))) from by omega)]
  · rw [if_neg h3, if_neg (show ¬ ((min a b = 0 ∧ max a b < c) ∨ (0 < min a b ∧ (min a b < i + 1 ∨ (min a b = i + 1 ∧ max a b < i + 1)))) from by omega)]
theorem rS_all {n : Nat} {first rest : List Int} (j : Nat) : ∀ a, a < n → ∀ b, b < n → rS n first rest n n j a b = newG n first rest a b := by
  intro a ha b hb
  unfold rS
  rw [if_pos (by omega)]
set_option maxHeartbeats 2000000 in
set_option maxRecDepth 100000 in
theorem rnew_walk (A0 : Option Addr) (c0 : Nat) (first : List Int) (A1 : Option Addr) (c1 : Nat) (rest : List Int) (w : World) (hr0 : Kd.C (Kd.int .u64) w A0 first.length first) (hc0 : first.length ≤ c0) (hr1 : Kd.C (Kd.int .u64) w A1 rest.length rest) (hc1 : rest.length ≤ c1)
    (hn : 0 < first.length) (hn2 : first.length ≤ 1000) (hl : rest.length = offs first.length first.length) :
    Calls Try.prog 16 #[.slice A0 first.length c0, .slice A1 rest.length c1] w fun e w' => ∃ v0_ : Value, e = .returned (.tuple #[v0_, .int .i64 0]) ∧ Kd.S (Kd.slice 22 (Kd.int .u64)) 26 w' w.heap.size (fun _ => True) v0_ (matL first.length (newG first.length first rest)) ∧ Below w.heap.size w w' := by
  have HR0 := Aside0.mk hr0
  have HR1 := Aside0.mk hr1
  have hol := offs_last (n := first.length) hn
  obtain ⟨t, en⟩ : ∃ t, t + 1 = first.length := ⟨first.length - 1, by omega⟩
  rw [← en] at hol hl hn hn2 ⊢
  have HEN := Aside0.mk en
  have HL := Aside0.mk hl
  have hq : ((rest.length : Int) != wrap64 ((wrap64 ((t : Int) * ((t : Int) + 1))).tdiv 2)) = false := by
    have h1 : (t : Int) * ((t : Int) + 1) = 2 * (rest.length : Int) := by rw [hl, hol]; push_cast; grind
    have h2 : (t : Int) * ((t : Int) + 1) ≤ 1000 * 1000 := Int.mul_le_mul (by omega) (by omega) (by omega) (by omega)
    have h3 : wrap64 ((t : Int) * ((t : Int) + 1)) = 2 * (rest.length : Int) := by rw [h1, w64' (by omega) (by omega)]
    rw [h3, Int.mul_tdiv_cancel_left _ (by omega), w64' (by omega) (by omega)]
    simp
  have hmk := mk_run (t := 34) (e := 26) (z := .slice none 0 0) Try.underlying34 infoSl rfl (t + 1) (by omega) (by decide) w
  rw [outC_zero w.heap.size, show ((t + 1 : Nat) : Int) = (t : Int) + 1 from rfl] at hmk
  have q0 : decide ((t : Int) < 0) = false := decide_eq_false (by omega)
  clear hr0 hr1 hl hol en
  go_enter Try.func16, Try.ntmps16
  go_wp2
  obtain ⟨bo, hbo⟩ : ∃ y, y = w.heap.size := ⟨_, rfl⟩
  rw [← hbo]
  have HBO := Aside0.mk hbo
  clear hmk hq q0 hbo
  go_loopg [8] (t + 1) (fun kq v8 w' => ∃ i : Nat, v8 = .int .i64 (i : Int) ∧ Aside0 (kq + i = t + 1) ∧ Aside0 (Mx w' bo (t + 1) i fun _ _ => 0) ∧ Aside0 (w'.heap.size = bo + 1 + i) ∧ Aside0 (Below w.heap.size w w'))
  case atStart => exact ⟨0, rfl, ⟨rfl⟩, ⟨by rw [HBO.out]; exact Mx.start w (t + 1)⟩, ⟨by rw [HBO.out]; exact Array.size_push _⟩, ⟨below_alloc (Below.refl _ _) _⟩⟩
  case round =>
    obtain ⟨i, rfl, HK, HM, HS, HB⟩ := hrel
    by_cases hlt : i < t + 1
    · have q1 : decide ((i : Int) ≤ (t : Int)) = true := decide_eq_true (by omega)
      have q2 : decide (i ≤ t) = true := decide_eq_true (by omega)
      have p1 : ((0 : Int) ≤ (i : Int)) = True := eq_true (by omega)
      have p2 : ((i : Int) < (t : Int) + 1) = True := eq_true (by omega)
      have p3 : (i < t + 1) = True := eq_true hlt
      have hmk := mk_run (t := 26) (e := 22) (z := .int .u64 0) Try.underlying26 info22 rfl (t + 1) (by omega) (by decide) wr
      rw [rowC_zero, HS.out, show ((t + 1 : Nat) : Int) = (t : Int) + 1 from rfl] at hmk
      have h1 := blk_alloc HM.out.out (Obj.cells (rowC (t + 1) fun _ => 0).toArray 22)
      have c1 := blk_cell h1 i
      have f1 := blk_frozen h1 i
      rw [List.getElem?_toArray, outC_get hlt, if_neg (Nat.lt_irrefl i)] at c1
      clear h1
      go_wp2
      go_roundg (t + 1 - (i + 1))
      case measure => have := HK.out; omega
      case rel => exact ⟨i + 1, (by first | go_num | rw [show wrap64 ((i : Int) + 1) = ((i + 1 : Nat) : Int) from by rw [w64' (by omega) (by omega)]; omega]), ⟨by omega⟩, ⟨HM.out.more hlt HS.out fun _ => rfl⟩, ⟨by rw [size_setCell', alloc_size', HS.out]; omega⟩, ⟨below_alloc_set HB.out _ (by rw [← HBO.out]; exact Nat.le_refl _) _ _⟩⟩
    · have q1 : decide ((i : Int) ≤ (t : Int)) = false := decide_eq_false (by omega)
      have q2 : decide (i ≤ t) = false := decide_eq_false (by omega)
      have hin : i = t + 1 := by have := HK.out; omega
      have hM := HM.out
      rw [hin] at hM
      have HM0 := Aside0.mk (show Mx wr bo (t + 1) (t + 1) (rS (t + 1) first rest 0 0 0) from hM.congr fun a ha b hb => by unfold rS; rw [if_neg (by omega)])
      clear HM HS hM
      go_wp2
      go_loopg [9, 10] (t + 1) (fun kq v9 v10 w' => ∃ i : Nat, v10 = .int .i64 (i : Int) ∧ v9 = .int .i64 (offs (t + 1) i : Int) ∧ Aside0 (kq + i = t + 1) ∧ Aside0 (Mx w' bo (t + 1) (t + 1) (rS (t + 1) first rest i i i)) ∧ Aside0 (Below w.heap.size w w'))
      case atStart => exact ⟨0, rfl, rfl, ⟨rfl⟩, HM0, HB⟩
      case round =>
        clear HM0 HB HK hin q1 q2 hlt
        obtain ⟨i, rfl, rfl, HK, HM, HB⟩ := hrel
        by_cases hlt : i < t + 1
        · have q1 : decide ((i : Int) ≤ (t : Int)) = true := decide_eq_true (by omega)
          have q2 : decide (i ≤ t) = true := decide_eq_true (by omega)
          have p1 : ((0 : Int) ≤ (i : Int)) = True := eq_true (by omega)
          have p2 : ((i : Int) < (t : Int) + 1) = True := eq_true (by omega)
          have p3 : ((0 : Int) < (t : Int) + 1) = True := eq_true (by omega)
          have p4 : (i < t + 1) = True := eq_true hlt
          have p5 : (0 < t + 1) = True := eq_true (by omega)
          obtain ⟨ad0, e0, hx0⟩ := Kd.at_int (Kd.C_below HR0.out HB.out) (i : Int) (by omega) (by have := HEN.out; omega)
          cases e0
          rw [Int.toNat_natCast] at hx0
          have hfj : rd first (i : Int) = first.getD i 0 := rd_nat first i
          rw [hfj] at hx0
          obtain ⟨x, hx⟩ : ∃ x, x = first.getD i 0 := ⟨_, rfl⟩
          rw [← hx] at hx0
          have HX := Aside0.mk hx
          have c1 : wr.cell? ⟨bo, 0, none⟩ = some (.slice (some ⟨bo + 1, 0, none⟩) (t + 1) (t + 1)) := HM.out.cellO (i := 0) (by omega) (by omega)
          have c2 : wr.cell? ⟨bo, i, none⟩ = some (.slice (some ⟨bo + 1 + i, 0, none⟩) (t + 1) (t + 1)) := HM.out.cellO hlt hlt
          have d1 : wr.cell? ⟨bo + 1, i, none⟩ = some _ := HM.out.cellR (i := 0) (by omega) hlt
          have g1 : wr.frozen? ⟨bo + 1, i, none⟩ = false := HM.out.frozR (i := 0) (by omega) i
          have hm2 := HM.out.put (i := 0) (j := i) (by omega) hlt x
          have d2 : (wr.setCell ⟨bo + 1, i, none⟩ (.int .u64 x)).cell? ⟨bo + 1 + i, 0, none⟩ = some _ := hm2.cellR hlt (by omega)
          have g2 : wr.frozen? ⟨bo + 1 + i, 0, none⟩ = false := HM.out.frozR hlt 0
          have HM2 := Aside0.mk (show Mx _ bo (t + 1) (t + 1) (rS (t + 1) first rest (i + 1) i i) from Mx.drew ((hm2.put (i := i) (j := 0) hlt (by omega) x).congr fun a ha b hb => by rw [HX.out]; exact rS_first i a ha b hb))
          have hbo : w.heap.size ≤ bo := by rw [← HBO.out]; exact Nat.le_refl _
          have HB2 := Aside0.mk (show Below w.heap.size w _ from below_drew (Below.setCell (Below.setCell HB.out (p := ⟨bo + 1, i, none⟩) (by show w.heap.size ≤ bo + 1; omega) (.int .u64 x)) (p := ⟨bo + 1 + i, 0, none⟩) (by show w.heap.size ≤ bo + 1 + i; omega) (.int .u64 x)))
          clear hx hfj hm2 hbo
          go_wp2
          refine start_ (n := 20) (S := (fun w' => w'.cell? ⟨bo, 0, none⟩ = some (.slice (some ⟨bo + 1, 0, none⟩) (t + 1) (t + 1)) ∧ w'.cell? ⟨bo, i, none⟩ = some (.slice (some ⟨bo + 1 + i, 0, none⟩) (t + 1) (t + 1)) ∧ w'.cell? (ad0.add i) = some (.int .u64 x))) (ds := [17,19]) #[false, false, false, false, false, false, false, false, false, false, false, false, false, false, false, false, false, false, false, false] (by kernel_rfl) rfl rfl ⟨c1, c2, hx0⟩ (fun hHeld => ?_)
          refine pure_ (i := 0) (N := some 46) (v := ?_) (a' := ?_) #[true, false, false, false, false, false, false, false, false, false, false, false, false, false, false, false, false, false, false, false] rfl rfl (by kernel_rfl) (fun _ _ _ h => h) (Or.inl ⟨by rfl, ?_⟩) ?_ ?_
          rotate_left
          · intro w'
            go_simp
            with_reducible rfl
          rotate_left
          · simp only [Act.put, List.setIfInBounds_toArray, List.set_cons_zero, List.set_cons_succ, i64_w, i32_w]
            rfl
          refine pure_ (i := 1) (N := some 47) (v := ?_) (a' := ?_) #[true, true, false, false, false, false, false, false, false, false, false, false, false, false, false, false, false, false, false, false] rfl rfl (by kernel_rfl) (fun _ _ _ h => h) (Or.inl ⟨by rfl, ?_⟩) ?_ ?_
          rotate_left
          · intro w'
            go_simp
            with_reducible rfl
          rotate_left
          · simp only [Act.put, List.setIfInBounds_toArray, List.set_cons_zero, List.set_cons_succ, i64_w, i32_w]
            rfl
          refine take_ (i := 2) (N := some 48) (v := ?_) (a' := ?_) #[true, true, true, false, false, false, false, false, false, false, false, false, false, false, false, false, false, false, false, false] rfl rfl (by kernel_rfl) (fun _ _ _ h => h) (Or.inl ⟨by rfl, ?_⟩) hHeld ?_ ?_
          rotate_left
          · rintro w' ⟨s0, s1, s2⟩
            go_simp
            with_reducible rfl
          rotate_left
          · simp only [Act.put, List.setIfInBounds_toArray, List.set_cons_zero, List.set_cons_succ, i64_w, i32_w]
            rfl
          refine pure_ (i := 3) (N := some 49) (v := ?_) (a' := ?_) #[true, true, true, true, false, false, false, false, false, false, false, false, false, false, false, false, false, false, false, false] rfl rfl (by kernel_rfl) (fun _ _ _ h => h) (Or.inl ⟨by rfl, ?_⟩) ?_ ?_
          rotate_left
          · intro w'
            go_simp
            with_reducible rfl
          rotate_left
          · simp only [Act.put, List.setIfInBounds_toArray, List.set_cons_zero, List.set_cons_succ, i64_w, i32_w]
            rfl
          refine pure_ (i := 4) (N := some 50) (v := ?_) (a' := ?_) #[true, true, true, true, true, false, false, false, false, false, false, false, false, false, false, false, false, false, false, false] rfl rfl (by kernel_rfl) (fun _ _ _ h => h) (Or.inl ⟨by rfl, ?_⟩) ?_ ?_
          rotate_left
          · intro w'
            go_simp
            with_reducible rfl
          rotate_left
          · simp only [Act.put, List.setIfInBounds_toArray, List.set_cons_zero, List.set_cons_succ, i64_w, i32_w]
            rfl
          refine pure_ (i := 5) (N := some 51) (v := ?_) (a' := ?_) #[true, true, true, true, true, true, false, false, false, false, false, false, false, false, false, false, false, false, false, false] rfl rfl (by kernel_rfl) (fun _ _ _ h => h) (Or.inl ⟨by rfl, ?_⟩) ?_ ?_
          rotate_left
          · intro w'
            go_simp
            with_reducible rfl
          rotate_left
          · simp only [Act.put, List.setIfInBounds_toArray, List.set_cons_zero, List.set_cons_succ, i64_w, i32_w]
            rfl
          refine pure_ (i := 6) (N := some 52) (v := ?_) (a' := ?_) #[true, true, true, true, true, true, true, false, false, false, false, false, false, false, false, false, false, false, false, false] rfl rfl (by kernel_rfl) (fun _ _ _ h => h) (Or.inl ⟨by rfl, ?_⟩) ?_ ?_
          rotate_left
          · intro w'
            go_simp
            with_reducible rfl
          rotate_left
          · simp only [Act.put, List.setIfInBounds_toArray, List.set_cons_zero, List.set_cons_succ, i64_w, i32_w]
            rfl
          refine take_ (i := 7) (N := some 53) (v := ?_) (a' := ?_) #[true, true, true, true, true, true, true, true, false, false, false, false, false, false, false, false, false, false, false, false] rfl rfl (by kernel_rfl) (fun _ _ _ h => h) (Or.inl ⟨by rfl, ?_⟩) hHeld ?_ ?_
          rotate_left
          · rintro w' ⟨s0, s1, s2⟩
            go_simp
            with_reducible rfl
          rotate_left
          · simp only [Act.put, List.setIfInBounds_toArray, List.set_cons_zero, List.set_cons_succ, i64_w, i32_w]
            rfl
          refine pure_ (i := 8) (N := some 54) (v := ?_) (a' := ?_) #[true, true, true, true, true, true, true, true, true, false, false, false, false, false, false, false, false, false, false, false] rfl rfl (by kernel_rfl) (fun _ _ _ h => h) (Or.inl ⟨by rfl, ?_⟩) ?_ ?_
          rotate_left
          · intro w'
            go_simp
            with_reducible rfl
          rotate_left
          · simp only [Act.put, List.setIfInBounds_toArray, List.set_cons_zero, List.set_cons_succ, i64_w, i32_w]
            rfl
          refine pure_ (i := 9) (N := some 55) (v := ?_) (a' := ?_) #[true, true, true, true, true, true, true, true, true, true, false, false, false, false, false, false, false, false, false, false] rfl rfl (by kernel_rfl) (fun _ _ _ h => h) (Or.inl ⟨by rfl, ?_⟩) ?_ ?_
          rotate_left
          · intro w'
            go_simp
            with_reducible rfl
          rotate_left
          · simp only [Act.put, List.setIfInBounds_toArray, List.set_cons_zero, List.set_cons_succ, i64_w, i32_w]
            rfl
          refine pure_ (i := 10) (N := some 56) (v := ?_) (a' := ?_) #[true, true, true, true, true, true, true, true, true, true, true, false, false, false, false, false, false, false, false, false] rfl rfl (by kernel_rfl) (fun _ _ _ h => h) (Or.inl ⟨by rfl, ?_⟩) ?_ ?_
          rotate_left
          · intro w'
            go_simp
            with_reducible rfl
          rotate_left
          · simp only [Act.put, List.setIfInBounds_toArray, List.set_cons_zero, List.set_cons_succ, i64_w, i32_w]
            rfl
          refine take_ (i := 11) (N := some 57) (v := ?_) (a' := ?_) #[true, true, true, true, true, true, true, true, true, true, true, true, false, false, false, false, false, false, false, false] rfl rfl (by kernel_rfl) (fun _ _ _ h => h) (Or.inl ⟨by rfl, ?_⟩) hHeld ?_ ?_
          rotate_left
          · rintro w' ⟨s0, s1, s2⟩
            go_simp
            with_reducible rfl
          rotate_left
          · simp only [Act.put, List.setIfInBounds_toArray, List.set_cons_zero, List.set_cons_succ, i64_w, i32_w]
            rfl
          refine pure_ (i := 12) (N := some 58) (v := ?_) (a' := ?_) #[true, true, true, true, true, true, true, true, true, true, true, true, true, false, false, false, false, false, false, false] rfl rfl (by kernel_rfl) (fun _ _ _ h => h) (Or.inl ⟨by rfl, ?_⟩) ?_ ?_
          rotate_left
          · intro w'
            go_simp
            with_reducible rfl
          rotate_left
          · simp only [Act.put, List.setIfInBounds_toArray, List.set_cons_zero, List.set_cons_succ, i64_w, i32_w]
            rfl
          refine pure_ (i := 13) (N := some 59) (v := ?_) (a' := ?_) #[true, true, true, true, true, true, true, true, true, true, true, true, true, true, false, false, false, false, false, false] rfl rfl (by kernel_rfl) (fun _ _ _ h => h) (Or.inl ⟨by rfl, ?_⟩) ?_ ?_
          rotate_left
          · intro w'
            go_simp
            with_reducible rfl
          rotate_left
          · simp only [Act.put, List.setIfInBounds_toArray, List.set_cons_zero, List.set_cons_succ, i64_w, i32_w]
            rfl
          refine pure_ (i := 14) (N := some 60) (v := ?_) (a' := ?_) #[true, true, true, true, true, true, true, true, true, true, true, true, true, true, true, false, false, false, false, false] rfl rfl (by kernel_rfl) (fun _ _ _ h => h) (Or.inl ⟨by rfl, ?_⟩) ?_ ?_
          rotate_left
          · intro w'
            go_simp
            with_reducible rfl
          rotate_left
          · simp only [Act.put, List.setIfInBounds_toArray, List.set_cons_zero, List.set_cons_succ, i64_w, i32_w]
            rfl
          refine take_ (i := 15) (N := some 61) (v := ?_) (a' := ?_) #[true, true, true, true, true, true, true, true, true, true, true, true, true, true, true, true, false, false, false, false] rfl rfl (by kernel_rfl) (fun _ _ _ h => h) (Or.inl ⟨by rfl, ?_⟩) hHeld ?_ ?_
          rotate_left
          · rintro w' ⟨s0, s1, s2⟩
            go_simp
            with_reducible rfl
          rotate_left
          · simp only [Act.put, List.setIfInBounds_toArray, List.set_cons_zero, List.set_cons_succ, i64_w, i32_w]
            rfl
          refine pure_ (i := 16) (N := some 62) (v := ?_) (a' := ?_) #[true, true, true, true, true, true, true, true, true, true, true, true, true, true, true, true, true, false, false, false] rfl rfl (by kernel_rfl) (fun _ _ _ h => h) (Or.inl ⟨by rfl, ?_⟩) ?_ ?_
          rotate_left
          · intro w'
            go_simp
            with_reducible rfl
          rotate_left
          · simp only [Act.put, List.setIfInBounds_toArray, List.set_cons_zero, List.set_cons_succ, i64_w, i32_w]
            rfl
          refine last_ (i := 17) (N := none) #[true, true, true, true, true, true, true, true, true, true, true, true, true, true, true, true, true, true, false, false] rfl rfl (by kernel_rfl) (by decide) (fun K hK => ?_)
          refine skip_ (w1 := ?_) (by rfl) rfl ?_ ?_
          rotate_left
          · go_simp
            rfl
          refine hK.out _ _ ?_
          clear hK K
          refine pure_ (i := 18) (N := some 63) (v := ?_) (a' := ?_) #[true, true, true, true, true, true, true, true, true, true, true, true, true, true, true, true, true, true, true, false] rfl rfl (by kernel_rfl) (fun _ _ _ h => h) (Or.inl ⟨by rfl, ?_⟩) ?_ ?_
          rotate_left
          · intro w'
            go_simp
            with_reducible rfl
          rotate_left
          · simp only [Act.put, List.setIfInBounds_toArray, List.set_cons_zero, List.set_cons_succ, i64_w, i32_w]
            rfl
          refine last_ (i := 19) (N := none) #[true, true, true, true, true, true, true, true, true, true, true, true, true, true, true, true, true, true, true, true] rfl rfl (by kernel_rfl) (by decide) (fun K hK => ?_)
          refine skip_ (w1 := ?_) (by rfl) rfl ?_ ?_
          rotate_left
          · go_simp
            rfl
          refine hK.out _ _ ?_
          clear hK K
          refine done_ (by kernel_rfl) ?_
          clear c1 c2 d1 d2 g1 g2 hx0 p2 p3 p4 p5 q1 q2
          generalize hW : ((wr.setCell { block := bo + 1, off := i } (Value.int IntKind.u64 x)).setCell { block := bo + 1 + i, off := 0 } (Value.int IntKind.u64 x)).drew = W at HM2 HB2 ⊢
          clear hW
          go_wp2
          go_loopg [9, 11] (t + 1 - i) (fun kq v9 v11 w' => ∃ j : Nat, v11 = .int .i64 (j : Int) ∧ v9 = .int .i64 ((offs (t + 1) i + (j - i) : Nat) : Int) ∧ Aside0 (kq + j = t + 1 ∧ i ≤ j) ∧ Aside0 (i = 0 → j = 0) ∧ Aside0 (Mx w' bo (t + 1) (t + 1) (rS (t + 1) first rest (i + 1) i j)) ∧ Aside0 (Below w.heap.size w w'))
          case atStart => exact ⟨i, rfl, (by rw [Nat.sub_self]; rfl), ⟨by omega, Nat.le_refl _⟩, ⟨fun h => h⟩, HM2, HB2⟩
          case round =>
            clear HM2 HB2 HM HB
            obtain ⟨j, rfl, rfl, HK2, HJ0, HM, HB⟩ := hrel
            have hkk := HK2.out.2
            by_cases hlj : j < t + 1 ∧ 0 < i
            · obtain ⟨hlj, hi1⟩ := hlj
              have q3 : decide ((j : Int) ≤ (t : Int)) = true := decide_eq_true (by omega)
              have q4 : decide (j ≤ t) = true := decide_eq_true (by omega)
              have q5 : decide ((0 : Int) < (i : Int)) = true := decide_eq_true (by omega)
              have q6 : decide (0 < i) = true := decide_eq_true hi1
              have hqb : offs (t + 1) i + (j - i) < rest.length := by
                have h1 := offs_next (t + 1) i hi1
                have h2 := offs_mono (n := t + 1) (t + 1 - (i + 1)) (i + 1) (by omega)
                rw [show i + 1 + (t + 1 - (i + 1)) = t + 1 from by omega] at h2
                have := HL.out
                omega
              obtain ⟨q, hq⟩ : ∃ q, q = offs (t + 1) i + (j - i) := ⟨_, rfl⟩
              rw [← hq] at hqb ⊢
              have HQ := Aside0.mk hq
              obtain ⟨ad, e1, hx0⟩ := Kd.at_int (Kd.C_below HR1.out HB.out) (q : Int) (by omega) (by omega)
              cases e1
              rw [Int.toNat_natCast, show rd rest (q : Int) = rest.getD q 0 from rd_nat rest q] at hx0
              obtain ⟨x, hx⟩ : ∃ x, x = rest.getD q 0 := ⟨_, rfl⟩
              rw [← hx] at hx0
              have HX := Aside0.mk hx
              have p2 : ((i : Int) < (t : Int) + 1) = True := eq_true (by omega)
              have p3 : ((0 : Int) ≤ (j : Int)) = True := eq_true (by omega)
              have p4 : ((j : Int) < (t : Int) + 1) = True := eq_true (by omega)
              have p5 : ((0 : Int) ≤ (q : Int)) = True := eq_true (by omega)
              have p6 : ((q : Int) < (rest.length : Int)) = True := eq_true (by omega)
              have c1 : wr.cell? ⟨bo, i, none⟩ = some (.slice (some ⟨bo + 1 + i, 0, none⟩) (t + 1) (t + 1)) := HM.out.cellO hlt hlt
              have c2 : wr.cell? ⟨bo, j, none⟩ = some (.slice (some ⟨bo + 1 + j, 0, none⟩) (t + 1) (t + 1)) := HM.out.cellO hlj hlj
              have d1 : wr.cell? ⟨bo + 1 + i, j, none⟩ = some _ := HM.out.cellR hlt hlj
              have g1 : wr.frozen? ⟨bo + 1 + i, j, none⟩ = false := HM.out.frozR hlt j
              have hm2 := HM.out.put (i := i) (j := j) hlt hlj x
              have d2 : (wr.setCell ⟨bo + 1 + i, j, none⟩ (.int .u64 x)).cell? ⟨bo + 1 + j, i, none⟩ = some _ := hm2.cellR hlj hlt
              have g2 : wr.frozen? ⟨bo + 1 + j, i, none⟩ = false := HM.out.frozR hlj i
              have HM2 := Aside0.mk (show Mx _ bo (t + 1) (t + 1) (rS (t + 1) first rest (i + 1) i (j + 1)) from Mx.drew ((hm2.put (i := j) (j := i) hlj hlt x).congr fun a ha b hb => by rw [HX.out, HQ.out]; exact rS_next hi1 hkk (i + 1) a ha b hb))
              have hbo : w.heap.size ≤ bo := by rw [← HBO.out]; exact Nat.le_refl _
              have HB2 := Aside0.mk (show Below w.heap.size w _ from below_drew (Below.setCell (Below.setCell HB.out (p := ⟨bo + 1 + i, j, none⟩) (by show w.heap.size ≤ bo + 1 + i; omega) (.int .u64 x)) (p := ⟨bo + 1 + j, i, none⟩) (by show w.heap.size ≤ bo + 1 + j; omega) (.int .u64 x)))
              have HQB := Aside0.mk hqb
              have HLJ := Aside0.mk hlj
              clear hm2 hx hq hbo
              go_wp2
              refine start_ (n := 22) (S := (fun w' => w'.cell? ⟨bo, i, none⟩ = some (.slice (some ⟨bo + 1 + i, 0, none⟩) (t + 1) (t + 1)) ∧ w'.cell? ⟨bo, j, none⟩ = some (.slice (some ⟨bo + 1 + j, 0, none⟩) (t + 1) (t + 1)) ∧ w'.cell? (ad.add q) = some (.int .u64 x))) (ds := [19,21]) #[false, false, false, false, false, false, false, false, false, false, false, false, false, false, false, false, false, false, false, false, false, false] (by kernel_rfl) rfl rfl ⟨c1, c2, hx0⟩ (fun hHeld => ?_)
              refine pure_ (i := 0) (N := some 74) (v := ?_) (a' := ?_) #[true, false, false, false, false, false, false, false, false, false, false, false, false, false, false, false, false, false, false, false, false, false] rfl rfl (by kernel_rfl) (fun _ _ _ h => h) (Or.inl ⟨by rfl, ?_⟩) ?_ ?_
              rotate_left
              · intro w'
                go_simp
                with_reducible rfl
              rotate_left
              · simp only [Act.put, List.setIfInBounds_toArray, List.set_cons_zero, List.set_cons_succ, i64_w, i32_w]
                rfl
              refine pure_ (i := 1) (N := some 75) (v := ?_) (a' := ?_) #[true, true, false, false, false, false, false, false, false, false, false, false, false, false, false, false, false, false, false, false, false, false] rfl rfl (by kernel_rfl) (fun _ _ _ h => h) (Or.inl ⟨by rfl, ?_⟩) ?_ ?_
              rotate_left
              · intro w'
                go_simp
                with_reducible rfl
              rotate_left
              · simp only [Act.put, List.setIfInBounds_toArray, List.set_cons_zero, List.set_cons_succ, i64_w, i32_w]
                rfl
              refine pure_ (i := 2) (N := some 76) (v := ?_) (a' := ?_) #[true, true, true, false, false, false, false, false, false, false, false, false, false, false, false, false, false, false, false, false, false, false] rfl rfl (by kernel_rfl) (fun _ _ _ h => h) (Or.inl ⟨by rfl, ?_⟩) ?_ ?_
              rotate_left
              · intro w'
                go_simp
                with_reducible rfl
              rotate_left
              · simp only [Act.put, List.setIfInBounds_toArray, List.set_cons_zero, List.set_cons_succ, i64_w, i32_w]
                rfl
              refine take_ (i := 3) (N := some 77) (v := ?_) (a' := ?_) #[true, true, true, true, false, false, false, false, false, false, false, false, false, false, false, false, false, false, false, false, false, false] rfl rfl (by kernel_rfl) (fun _ _ _ h => h) (Or.inl ⟨by rfl, ?_⟩) hHeld ?_ ?_
              rotate_left
              · rintro w' ⟨s0, s1, s2⟩
                go_simp
                with_reducible rfl
              rotate_left
              · simp only [Act.put, List.setIfInBounds_toArray, List.set_cons_zero, List.set_cons_succ, i64_w, i32_w]
                rfl
              refine pure_ (i := 4) (N := some 78) (v := ?_) (a' := ?_) #[true, true, true, true, true, false, false, false, false, false, false, false, false, false, false, false, false, false, false, false, false, false] rfl rfl (by kernel_rfl) (fun _ _ _ h => h) (Or.inl ⟨by rfl, ?_⟩) ?_ ?_
              rotate_left
              · intro w'
                go_simp
                with_reducible rfl
              rotate_left
              · simp only [Act.put, List.setIfInBounds_toArray, List.set_cons_zero, List.set_cons_succ, i64_w, i32_w]
                rfl
              refine pure_ (i := 5) (N := some 79) (v := ?_) (a' := ?_) #[true, true, true, true, true, true, false, false, false, false, false, false, false, false, false, false, false, false, false, false, false, false] rfl rfl (by kernel_rfl) (fun _ _ _ h => h) (Or.inl ⟨by rfl, ?_⟩) ?_ ?_
              rotate_left
              · intro w'
                go_simp
                with_reducible rfl
              rotate_left
              · simp only [Act.put, List.setIfInBounds_toArray, List.set_cons_zero, List.set_cons_succ, i64_w, i32_w]
                rfl
              refine pure_ (i := 6) (N := some 80) (v := ?_) (a' := ?_) #[true, true, true, true, true, true, true, false, false, false, false, false, false, false, false, false, false, false, false, false, false, false] rfl rfl (by kernel_rfl) (fun _ _ _ h => h) (Or.inl ⟨by rfl, ?_⟩) ?_ ?_
              rotate_left
              · intro w'
                go_simp
                with_reducible rfl
              rotate_left
              · simp only [Act.put, List.setIfInBounds_toArray, List.set_cons_zero, List.set_cons_succ, i64_w, i32_w]
                rfl
              refine pure_ (i := 7) (N := some 81) (v := ?_) (a' := ?_) #[true, true, true, true, true, true, true, true, false, false, false, false, false, false, false, false, false, false, false, false, false, false] rfl rfl (by kernel_rfl) (fun _ _ _ h => h) (Or.inl ⟨by rfl, ?_⟩) ?_ ?_
              rotate_left
              · intro w'
                go_simp
                with_reducible rfl
              rotate_left
              · simp only [Act.put, List.setIfInBounds_toArray, List.set_cons_zero, List.set_cons_succ, i64_w, i32_w]
                rfl
              refine take_ (i := 8) (N := some 82) (v := ?_) (a' := ?_) #[true, true, true, true, true, true, true, true, true, false, false, false, false, false, false, false, false, false, false, false, false, false] rfl rfl (by kernel_rfl) (fun _ _ _ h => h) (Or.inl ⟨by rfl, ?_⟩) hHeld ?_ ?_
              rotate_left
              · rintro w' ⟨s0, s1, s2⟩
                go_simp
                with_reducible rfl
              rotate_left
              · simp only [Act.put, List.setIfInBounds_toArray, List.set_cons_zero, List.set_cons_succ, i64_w, i32_w]
                rfl
              refine pure_ (i := 9) (N := some 83) (v := ?_) (a' := ?_) #[true, true, true, true, true, true, true, true, true, true, false, false, false, false, false, false, false, false, false, false, false, false] rfl rfl (by kernel_rfl) (fun _ _ _ h => h) (Or.inl ⟨by rfl, ?_⟩) ?_ ?_
              rotate_left
              · intro w'
                go_simp
                with_reducible rfl
              rotate_left
              · simp only [Act.put, List.setIfInBounds_toArray, List.set_cons_zero, List.set_cons_succ, i64_w, i32_w]
                rfl
              refine pure_ (i := 10) (N := some 84) (v := ?_) (a' := ?_) #[true, true, true, true, true, true, true, true, true, true, true, false, false, false, false, false, false, false, false, false, false, false] rfl rfl (by kernel_rfl) (fun _ _ _ h => h) (Or.inl ⟨by rfl, ?_⟩) ?_ ?_
              rotate_left
              · intro w'
                go_simp
                with_reducible rfl
              rotate_left
              · simp only [Act.put, List.setIfInBounds_toArray, List.set_cons_zero, List.set_cons_succ, i64_w, i32_w]
                rfl
              refine pure_ (i := 11) (N := some 85) (v := ?_) (a' := ?_) #[true, true, true, true, true, true, true, true, true, true, true, true, false, false, false, false, false, false, false, false, false, false] rfl rfl (by kernel_rfl) (fun _ _ _ h => h) (Or.inl ⟨by rfl, ?_⟩) ?_ ?_
              rotate_left
              · intro w'
                go_simp
                with_reducible rfl
              rotate_left
              · simp only [Act.put, List.setIfInBounds_toArray, List.set_cons_zero, List.set_cons_succ, i64_w, i32_w]
                rfl
              refine pure_ (i := 12) (N := some 86) (v := ?_) (a' := ?_) #[true, true, true, true, true, true, true, true, true, true, true, true, true, false, false, false, false, false, false, false, false, false] rfl rfl (by kernel_rfl) (fun _ _ _ h => h) (Or.inl ⟨by rfl, ?_⟩) ?_ ?_
              rotate_left
              · intro w'
                go_simp
                with_reducible rfl
              rotate_left
              · simp only [Act.put, List.setIfInBounds_toArray, List.set_cons_zero, List.set_cons_succ, i64_w, i32_w]
                rfl
              refine take_ (i := 13) (N := some 87) (v := ?_) (a' := ?_) #[true, true, true, true, true, true, true, true, true, true, true, true, true, true, false, false, false, false, false, false, false, false] rfl rfl (by kernel_rfl) (fun _ _ _ h => h) (Or.inl ⟨by rfl, ?_⟩) hHeld ?_ ?_
              rotate_left
              · rintro w' ⟨s0, s1, s2⟩
                go_simp
                with_reducible rfl
              rotate_left
              · simp only [Act.put, List.setIfInBounds_toArray, List.set_cons_zero, List.set_cons_succ, i64_w, i32_w]
                rfl
              refine pure_ (i := 14) (N := some 88) (v := ?_) (a' := ?_) #[true, true, true, true, true, true, true, true, true, true, true, true, true, true, true, false, false, false, false, false, false, false] rfl rfl (by kernel_rfl) (fun _ _ _ h => h) (Or.inl ⟨by rfl, ?_⟩) ?_ ?_
              rotate_left
              · intro w'
                go_simp
                with_reducible rfl
              rotate_left
              · simp only [Act.put, List.setIfInBounds_toArray, List.set_cons_zero, List.set_cons_succ, i64_w, i32_w]
                rfl
              refine pure_ (i := 15) (N := some 89) (v := ?_) (a' := ?_) #[true, true, true, true, true, true, true, true, true, true, true, true, true, true, true, true, false, false, false, false, false, false] rfl rfl (by kernel_rfl) (fun _ _ _ h => h) (Or.inl ⟨by rfl, ?_⟩) ?_ ?_
              rotate_left
              · intro w'
                go_simp
                with_reducible rfl
              rotate_left
              · simp only [Act.put, List.setIfInBounds_toArray, List.set_cons_zero, List.set_cons_succ, i64_w, i32_w]
                rfl
              refine pure_ (i := 16) (N := some 90) (v := ?_) (a' := ?_) #[true, true, true, true, true, true, true, true, true, true, true, true, true, true, true, true, true, false, false, false, false, false] rfl rfl (by kernel_rfl) (fun _ _ _ h => h) (Or.inl ⟨by rfl, ?_⟩) ?_ ?_
              rotate_left
              · intro w'
                go_simp
                with_reducible rfl
              rotate_left
              · simp only [Act.put, List.setIfInBounds_toArray, List.set_cons_zero, List.set_cons_succ, i64_w, i32_w]
                rfl
              refine take_ (i := 17) (N := some 91) (v := ?_) (a' := ?_) #[true, true, true, true, true, true, true, true, true, true, true, true, true, true, true, true, true, true, false, false, false, false] rfl rfl (by kernel_rfl) (fun _ _ _ h => h) (Or.inl ⟨by rfl, ?_⟩) hHeld ?_ ?_
              rotate_left
              · rintro w' ⟨s0, s1, s2⟩
                go_simp
                with_reducible rfl
              rotate_left
              · simp only [Act.put, List.setIfInBounds_toArray, List.set_cons_zero, List.set_cons_succ, i64_w, i32_w]
                rfl
              refine pure_ (i := 18) (N := some 92) (v := ?_) (a' := ?_) #[true, true, true, true, true, true, true, true, true, true, true, true, true, true, true, true, true, true, true, false, false, false] rfl rfl (by kernel_rfl) (fun _ _ _ h => h) (Or.inl ⟨by rfl, ?_⟩) ?_ ?_
              rotate_left
              · intro w'
                go_simp
                with_reducible rfl
              rotate_left
              · simp only [Act.put, List.setIfInBounds_toArray, List.set_cons_zero, List.set_cons_succ, i64_w, i32_w]
                rfl
              refine last_ (i := 19) (N := none) #[true, true, true, true, true, true, true, true, true, true, true, true, true, true, true, true, true, true, true, true, false, false] rfl rfl (by kernel_rfl) (by decide) (fun K hK => ?_)
              refine skip_ (w1 := ?_) (by rfl) rfl ?_ ?_
              rotate_left
              · go_simp
                rfl
              refine hK.out _ _ ?_
              clear hK K
              refine pure_ (i := 20) (N := some 93) (v := ?_) (a' := ?_) #[true, true, true, true, true, true, true, true, true, true, true, true, true, true, true, true, true, true, true, true, true, false] rfl rfl (by kernel_rfl) (fun _ _ _ h => h) (Or.inl ⟨by rfl, ?_⟩) ?_ ?_
              rotate_left
              · intro w'
                go_simp
                with_reducible rfl
              rotate_left
              · simp only [Act.put, List.setIfInBounds_toArray, List.set_cons_zero, List.set_cons_succ, i64_w, i32_w]
                rfl
              refine last_ (i := 21) (N := none) #[true, true, true, true, true, true, true, true, true, true, true, true, true, true, true, true, true, true, true, true, true, true] rfl rfl (by kernel_rfl) (by decide) (fun K hK => ?_)
              refine skip_ (w1 := ?_) (by rfl) rfl ?_ ?_
              rotate_left
              · go_simp
                rfl
              refine hK.out _ _ ?_
              clear hK K
              refine done_ (by kernel_rfl) ?_
              go_wp2
              go_roundg (t + 1 - (j + 1))
              case measure => have := HK2.out; have := HLJ.out; omega
              case rel =>
                have hqb := HQB.out
                have hlj := HLJ.out
                refine ⟨j + 1, (by first | rfl | rw [show wrap64 ((j : Int) + 1) = ((j + 1 : Nat) : Int) from by rw [w64' (by omega) (by omega)]; omega]), ?_, ⟨by omega, by omega⟩, ⟨fun h => by omega⟩, HM2, HB2⟩
                have h9 := HL.out
                have h10 := offs_last (n := t + 1) (by omega)
                have h11 : ((t + 1 : Nat) : Int) * (((t + 1 : Nat) : Int) - 1) ≤ 1000 * 1000 := Int.mul_le_mul (by omega) (by omega) (by omega) (by omega)
                rw [show wrap64 ((q : Int) + 1) = ((q + 1 : Nat) : Int) from by rw [w64' (by omega) (by omega)]; omega, HQ.out, show offs (t + 1) i + (j - i) + 1 = offs (t + 1) i + (j + 1 - i) from by omega]
            · by_cases hjt : j < t + 1
              · have q3 : decide ((j : Int) ≤ (t : Int)) = true := decide_eq_true (by omega)
                have q4 : decide (j ≤ t) = true := decide_eq_true (by omega)
                have q5 : decide ((0 : Int) < (i : Int)) = false := decide_eq_false (by omega)
                have q6 : decide (0 < i) = false := decide_eq_false (by omega)
                have HM3 := Aside0.mk (HM.out.congr (rS_row (n := t + 1) (first := first) (rest := rest) (i + 1) i j (by have := HK2.out; omega)))
                have hoff : offs (t + 1) i + (j - i) = offs (t + 1) (i + 1) := by
                  by_cases hi0 : i = 0
                  · have := HJ0.out hi0
                    rw [hi0, this]; rfl
                  · rw [offs_next (t + 1) i (by omega)]
                    have := HK2.out; omega
                rw [hoff]
                clear hoff
                go_wp2
                go_roundg (t + 1 - (i + 1))
                case measure => have := HK.out; omega
                case rel => exact ⟨i + 1, (by first | rfl | rw [show wrap64 ((i : Int) + 1) = ((i + 1 : Nat) : Int) from by rw [w64' (by omega) (by omega)]; omega]), rfl, ⟨by have := HK.out; omega⟩, HM3, HB⟩
              · have q3 : decide ((j : Int) ≤ (t : Int)) = false := decide_eq_false (by omega)
                have q4 : decide (j ≤ t) = false := decide_eq_false (by omega)
                have HM3 := Aside0.mk (HM.out.congr (rS_row (n := t + 1) (first := first) (rest := rest) (i + 1) i j (by have := HK2.out; omega)))
                have hoff : offs (t + 1) i + (j - i) = offs (t + 1) (i + 1) := by
                  by_cases hi0 : i = 0
                  · have := HJ0.out hi0
                    rw [hi0, this]; rfl
                  · rw [offs_next (t + 1) i (by omega)]
                    have := HK2.out; omega
                rw [hoff]
                clear hoff
                go_wp2
                go_roundg (t + 1 - (i + 1))
                case measure => have := HK.out; omega
                case rel => exact ⟨i + 1, (by first | rfl | rw [show wrap64 ((i : Int) + 1) = ((i + 1 : Nat) : Int) from by rw [w64' (by omega) (by omega)]; omega]), rfl, ⟨by have := HK.out; omega⟩, HM3, HB⟩
        · have q1 : decide ((i : Int) ≤ (t : Int)) = false := decide_eq_false (by omega)
          have q2 : decide (i ≤ t) = false := decide_eq_false (by omega)
          have hij : i = t + 1 := by have := HK.out; omega
          go_wp2
          first | go_ret2 | ((try simp only [Exit.inBlock, Exit.then]); refine bodyPost_ret (results_tmp2 rfl _ _ _) rfl ?_)
          have hM := HM.out
          rw [hij] at hM
          exact ⟨_, rfl, (hM.congr (rS_all (t + 1))).own (by rw [← HBO.out]; exact Nat.le_refl _) (by omega), HB.out⟩
set_option maxHeartbeats 2000000 in
set_option maxRecDepth 100000 in
theorem rnew_err (A0 : Option Addr) (c0 : Nat) (first : List Int) (A1 : Option Addr) (c1 : Nat) (rest : List Int) (w : World) (hn2 : first.length ≤ 1000) (hlr : rest.length ≤ 1000000000) (hbad : first.length = 0 ∨ rest.length ≠ offs first.length first.length) :
    Calls Try.prog 16 #[.slice A0 first.length c0, .slice A1 rest.length c1] w fun e w' => ∃ v0_ : Value, e = .returned (.tuple #[v0_, .int .i64 1]) ∧ Kd.S (Kd.slice 22 (Kd.int .u64)) 26 w' w.heap.size (fun _ => True) v0_ [] ∧ Below w.heap.size w w' := by
  by_cases hn : first.length = 0
  · have q0 : decide ((first.length : Int) - 1 < 0) = true := decide_eq_true (by omega)
    rw [hn] at q0 ⊢
    clear hbad hn
    go_enter Try.func16, Try.ntmps16
    go_wp2
    first | go_ret2 | ((try simp only [Exit.inBlock, Exit.then]); refine bodyPost_ret (results_tmp2 rfl _ _ _) rfl ?_)
    exact ⟨_, rfl, Kd.S_nil _ _ _ _ _, Below.refl _ _⟩
  · have hl : rest.length ≠ offs first.length first.length := hbad.resolve_left hn
    have hol := offs_last (n := first.length) (by omega)
    obtain ⟨t, en⟩ : ∃ t, t + 1 = first.length := ⟨first.length - 1, by omega⟩
    rw [← en] at hol hl hn2 ⊢
    have hq : ((rest.length : Int) != wrap64 ((wrap64 ((t : Int) * ((t : Int) + 1))).tdiv 2)) = true := by
      have h1 : (t : Int) * ((t : Int) + 1) = 2 * (offs (t + 1) (t + 1) : Int) := by rw [hol]; push_cast; grind
      have h2 : (t : Int) * ((t : Int) + 1) ≤ 1000 * 1000 := Int.mul_le_mul (by omega) (by omega) (by omega) (by omega)
      have h3 : wrap64 ((t : Int) * ((t : Int) + 1)) = 2 * (offs (t + 1) (t + 1) : Int) := by rw [h1, w64' (by omega) (by omega)]
      rw [h3, Int.mul_tdiv_cancel_left _ (by omega), w64' (by omega) (by omega)]
      exact bne_iff_ne.mpr (by omega)
    have q0 : decide ((t : Int) < 0) = false := decide_eq_false (by omega)
    clear hbad hl hol hn en
    go_enter Try.func16, Try.ntmps16
    go_wp2
    first | go_ret2 | ((try simp only [Exit.inBlock, Exit.then]); refine bodyPost_ret (results_tmp2 rfl _ _ _) rfl ?_)
    exact ⟨_, rfl, Kd.S_nil _ _ _ _ _, Below.refl _ _⟩
def privityref10_New.f (l0 l1 : List Int) : Option (List (List Int) × Int) :=
  if l0.length ≤ 1000 then (if l1.length ≤ 1000000000 then (if newBad l0 l1 = true then some ([], 1) else some (matL l0.length (newG l0.length l0 l1), 0)) else none) else none
theorem privityref10_New.calls (A0 : Option Addr) (c0 : Nat) (l0 : List Int) (A1 : Option Addr) (c1 : Nat) (l1 : List Int) (r1 : List (List Int)) (r2 : Int) (w : World) (hr0 : Kd.C (Kd.int .u64) w A0 l0.length l0) (hc0 : l0.length ≤ c0) (hr1 : Kd.C (Kd.int .u64) w A1 l1.length l1) (hc1 : l1.length ≤ c1) (h : privityref10_New.f l0 l1 = some (r1, r2)) :
    Calls Try.prog 16 #[.slice A0 l0.length c0, .slice A1 l1.length c1] w fun e w' => ∃ v0_ : Value, e = .returned (.tuple #[v0_, .int .i64 r2]) ∧ Kd.S (Kd.slice 22 (Kd.int .u64)) 26 w' w.heap.size (fun _ => True) v0_ r1 ∧ Below w.heap.size w w' := by
  unfold privityref10_New.f at h
  obtain ⟨h1, h⟩ := ifs h
  obtain ⟨h2, h⟩ := ifs h
  by_cases hb : newBad l0 l1 = true
  · rw [if_pos hb] at h
    have h := Option.some.inj h
    rw [← (Prod.mk.inj h).1, ← (Prod.mk.inj h).2]
    exact rnew_err A0 c0 l0 A1 c1 l1 w h1 h2 (newBad_iff.1 hb)
  · rw [if_neg hb] at h
    have h := Option.some.inj h
    rw [← (Prod.mk.inj h).1, ← (Prod.mk.inj h).2]
    have hg : ¬ (l0.length = 0 ∨ l1.length ≠ offs l0.length l0.length) := fun hx => hb (newBad_iff.2 hx)
    exact rnew_walk A0 c0 l0 A1 c1 l1 w hr0 hc0 hr1 hc1 (by omega) h1 (Classical.byContradiction fun hx => hg (Or.inr hx))
end Go.Proofs.Ytejeelpnmdfibaa.Hw
end
section
/- Printed by a program of this seat (the kit's printer, with the functions that were proved by hand given to it). What stands here: the functions that the statements reach, as plain functions, and that the Go code computes them. -/
namespace Go.Proofs.Ytejeelpnmdfibaa.Pr
open Go.RowKit Go.Proofs.YtejeelpnmdfibaaW.PrintWords Go.Proofs.YtejeelpnmdfibaaW.PrintLast Go.Proofs.YtejeelpnmdfibaaW.PrintMore
attribute [local go_sem] max2_int min2_int max_two min_two max_three min_three max_four min_four   -- for this text's walks alone
set_option linter.unusedVariables false
set_option linter.unusedSimpArgs false

open Go.Proofs.Ytejeelpnmdfibaa.Hw
/-! ### privitylaw43_TapeshiftSharingPrivacy: function 3 -/
mutual
def privitylaw43_TapeshiftSharingPrivacy.j0 : Nat → Int → List (List Int) → List (List Int) → Bool → Int → Int → Int → List Int → Int → Int → List Int → Option (Bool)
 | 0,_,_,_,_,_,_,_,_,_,_,_ => none
 | k + 1,x3,x8,x10,x75,x309000,x309001,x309002,x309003,x309004,x309005,x309006 => if x75 = true then (some false) else (privitylaw43_TapeshiftSharingPrivacy.l0 k x3 x8 x10 0 x309000 x309001 x309002 x309003 x309004 x309005 x309006)
def privitylaw43_TapeshiftSharingPrivacy.l0 : Nat → Int → List (List Int) → List (List Int) → Int → Int → Int → Int → List Int → Int → Int → List Int → Option (Bool)
 | 0,_,_,_,_,_,_,_,_,_,_,_ => none
 | k + 1,x3,x8,x10,x12,x309000,x309001,x309002,x309003,x309004,x309005,x309006 => if x12 < (x309003.length : Int) then (if 0 ≤ x12 then ((privityref10_Row.f k x3 x8 (IntKind.u64.wrap (rd x309003 x12))).bind fun t338 => ((privityref10_Row.f k x3 x10 (IntKind.u64.wrap (rd x309003 x12))).bind fun t342 => ((privityref14_Words.f k t338 t342).bind fun t345 => (if t345 = true then (privitylaw43_TapeshiftSharingPrivacy.l0 k x3 x8 x10 (wrap64 (x12 + 1)) x309000 x309001 x309002 x309003 x309004 x309005 x309006) else (some false))))) else (none)) else ((privitylaw43_awake.f k).bind fun t336 => (some t336))
end
def privitylaw43_TapeshiftSharingPrivacy.f (k : Nat) (a0_0 : Int) (a0_1 : Int) (a0_2 : Int) (l0_3 : List Int) (a0_4 : Int) (a0_5 : Int) (l0_6 : List Int) : Option (Bool) := (privitylaw43_may.f k a0_0 a0_1 a0_2 l0_3 a0_4 a0_5 l0_6).bind fun t309 => (if t309 = true then ((privitylaw43_one.f k a0_0 a0_1 a0_2 l0_3 a0_4 a0_5 l0_6).bind fun bt311 => (if a0_0 = 0 then (none) else ((tapeshift_Sharing.f k a0_0 a0_1 a0_2 l0_3 (Int.tmod a0_4 a0_0) bt311.1 bt311.2).bind fun bt317 => ((privityref10_New.f bt311.1 bt311.2).bind fun bt323 => ((privityref10_New.f bt317.1 bt317.2).bind fun bt327 => (if bt323.2 = 0 then (if bt327.2 = 0 then (if 0 < (bt327.1.length : Int) then (if 0 < ((rd_L4 bt327.1 0).length : Int) then (if 0 < (bt323.1.length : Int) then (if 0 < ((rd_L4 bt323.1 0).length : Int) then ((privityref01_Add.f a0_0 (rd (rd_L4 bt323.1 0) 0) (Int.tmod a0_4 a0_0)).bind fun t335 => (privitylaw43_TapeshiftSharingPrivacy.j0 k a0_0 bt323.1 bt327.1 ((rd (rd_L4 bt327.1 0) 0) != t335) a0_0 a0_1 a0_2 l0_3 a0_4 a0_5 l0_6)) else (none)) else (none)) else (none)) else (none)) else (privitylaw43_TapeshiftSharingPrivacy.j0 k a0_0 bt323.1 bt327.1 true a0_0 a0_1 a0_2 l0_3 a0_4 a0_5 l0_6)) else (privitylaw43_TapeshiftSharingPrivacy.j0 k a0_0 bt323.1 bt327.1 true a0_0 a0_1 a0_2 l0_3 a0_4 a0_5 l0_6))))))) else ((privitylaw43_awake.f k).bind fun t310 => (some t310)))
def privitylaw43_TapeshiftSharingPrivacy.T5 : Bool × List (List Nat × List Nat) := (true, [([], []), ([0], [0]), ([], []), ([2], [2]), ([], []), ([4], [4]), ([], []), ([5, 6], [5, 6]), ([], []), ([], []), ([1, 3, 7, 8, 9], [1, 3, 7, 8, 9]), ([10], [10]), ([11], [11]), ([11], [11]), ([12, 10, 0, 1, 2, 3, 4, 5, 6, 7, 8, 9, 10, 11, 12], [12]), ([13, 14, 0, 1, 2, 3, 4, 5, 6, 7, 8, 9, 10, 11, 12, 13, 14], [13])])
def privitylaw43_TapeshiftSharingPrivacy.B5 : List Nat := [0, 1, 0, 4, 0, 16, 0, 112, 0, 0, 1023, 2047, 4095, 4095, 8191, 32767]
theorem privitylaw43_TapeshiftSharingPrivacy.tab5 : rtab .any (opsOf Try.f3 5) = privitylaw43_TapeshiftSharingPrivacy.T5 := by kernel_rfl
theorem privitylaw43_TapeshiftSharingPrivacy.bits5 : waitsOk privitylaw43_TapeshiftSharingPrivacy.T5.2 privitylaw43_TapeshiftSharingPrivacy.B5 = true := by kernel_rfl
def privitylaw43_TapeshiftSharingPrivacy.T8 : Bool × List (List Nat × List Nat) := (true, [([], []), ([0], [0]), ([1], [1]), ([2], [2]), ([3, 2], [2, 3]), ([2, 4], [2, 4]), ([5, 2], [5]), ([6], [6]), ([7, 6], [6, 7]), ([8, 6], [6, 8]), ([9, 6], [6, 9]), ([10, 6], [6, 10]), ([6], [6]), ([6], [6]), ([13, 6], [6, 13]), ([14, 6], [6, 14]), ([15, 6], [6, 15]), ([16, 6], [6, 16]), ([6], [6]), ([18, 6], [6, 18]), ([6], [6]), ([19, 20, 6], [6, 19, 20]), ([12, 17, 21, 6, 6], [6, 12, 17, 21]), ([11, 22, 6], [6, 11, 22]), ([6, 23], [6, 23])])
def privitylaw43_TapeshiftSharingPrivacy.B8 : List Nat := [0, 1, 3, 7, 15, 31, 63, 127, 255, 511, 1023, 2047, 127, 127, 8319, 24703, 57471, 123007, 127, 262271, 127, 1835135, 4190335, 8388607, 16777215]
theorem privitylaw43_TapeshiftSharingPrivacy.tab8 : rtab .any (opsOf Try.f3 8) = privitylaw43_TapeshiftSharingPrivacy.T8 := by kernel_rfl
theorem privitylaw43_TapeshiftSharingPrivacy.bits8 : waitsOk privitylaw43_TapeshiftSharingPrivacy.T8.2 privitylaw43_TapeshiftSharingPrivacy.B8 = true := by kernel_rfl
def privitylaw43_TapeshiftSharingPrivacy.T13 : Bool × List (List Nat × List Nat) := (true, [([], []), ([], []), ([], []), ([2], [2]), ([], []), ([3, 4], [3, 4]), ([5], [5]), ([6], [6]), ([0, 1, 7], [0, 1, 7]), ([], []), ([], []), ([], []), ([11], [11]), ([], []), ([12, 13], [12, 13]), ([14], [14]), ([15], [15]), ([9, 10, 16, 8], [9, 10, 16]), ([8, 17, 17], [8, 17]), ([18], [18])])
def privitylaw43_TapeshiftSharingPrivacy.B13 : List Nat := [0, 0, 0, 4, 0, 28, 60, 124, 255, 0, 0, 0, 2048, 0, 14336, 30720, 63488, 131071, 262143, 524287]
theorem privitylaw43_TapeshiftSharingPrivacy.tab13 : rtab .any (opsOf Try.f3 13) = privitylaw43_TapeshiftSharingPrivacy.T13 := by kernel_rfl
theorem privitylaw43_TapeshiftSharingPrivacy.bits13 : waitsOk privitylaw43_TapeshiftSharingPrivacy.T13.2 privitylaw43_TapeshiftSharingPrivacy.B13 = true := by kernel_rfl
set_option maxHeartbeats 8000000 in
set_option maxRecDepth 100000 in
theorem privitylaw43_TapeshiftSharingPrivacy.calls (k : Nat) (a0_0 : Int) (a0_1 : Int) (a0_2 : Int) (A0_3 : Option Addr) (c0_3 : Nat) (l0_3 : List Int) (a0_4 : Int) (a0_5 : Int) (A0_6 : Option Addr) (c0_6 : Nat) (l0_6 : List Int) (r : Bool) (w : World) (hr0_3 : Kd.C (Kd.int .i64) w A0_3 l0_3.length l0_3) (hc0_3 : l0_3.length ≤ c0_3) (hr0_6 : Kd.C (Kd.int .u64) w A0_6 l0_6.length l0_6) (hc0_6 : l0_6.length ≤ c0_6) (hr1_ : r = true) (h : privitylaw43_TapeshiftSharingPrivacy.f k a0_0 a0_1 a0_2 l0_3 a0_4 a0_5 l0_6 = some r) :
  Calls Try.prog 3 #[.agg #[.int .u64 a0_0,.int .i64 a0_1,.int .i64 a0_2,.slice A0_3 l0_3.length c0_3,.int .u64 a0_4,.int .u64 a0_5,.slice A0_6 l0_6.length c0_6]] w fun e w' => e = .returned (.bool r) ∧ Below w.heap.size w w' := by
 have HRT_ := Aside0.mk hr1_
 clear hr1_
 have hu28 := Try.underlying28
 have hu24 := Try.underlying24
 have HR0_3 := Aside0.mk hr0_3
 have HC0_3 := Aside0.mk hc0_3
 clear hr0_3 hc0_3
 have HR0_6 := Aside0.mk hr0_6
 have HC0_6 := Aside0.mk hc0_6
 clear hr0_6 hc0_6
 have HB := Aside0.mk (Below.refl w.heap.size w)
 have H : ((privitylaw43_may.f k a0_0 a0_1 a0_2 l0_3 a0_4 a0_5 l0_6).bind fun t309 => (if t309 = true then ((privitylaw43_one.f k a0_0 a0_1 a0_2 l0_3 a0_4 a0_5 l0_6).bind fun bt311 => (if a0_0 = 0 then (none) else ((tapeshift_Sharing.f k a0_0 a0_1 a0_2 l0_3 (Int.tmod a0_4 a0_0) bt311.1 bt311.2).bind fun bt317 => ((privityref10_New.f bt311.1 bt311.2).bind fun bt323 => ((privityref10_New.f bt317.1 bt317.2).bind fun bt327 => (if bt323.2 = 0 then (if bt327.2 = 0 then (if 0 < (bt327.1.length : Int) then (if 0 < ((rd_L4 bt327.1 0).length : Int) then (if 0 < (bt323.1.length : Int) then (if 0 < ((rd_L4 bt323.1 0).length : Int) then ((privityref01_Add.f a0_0 (rd (rd_L4 bt323.1 0) 0) (Int.tmod a0_4 a0_0)).bind fun t335 => (privitylaw43_TapeshiftSharingPrivacy.j0 k a0_0 bt323.1 bt327.1 ((rd (rd_L4 bt327.1 0) 0) != t335) a0_0 a0_1 a0_2 l0_3 a0_4 a0_5 l0_6)) else (none)) else (none)) else (none)) else (none)) else (privitylaw43_TapeshiftSharingPrivacy.j0 k a0_0 bt323.1 bt327.1 true a0_0 a0_1 a0_2 l0_3 a0_4 a0_5 l0_6)) else (privitylaw43_TapeshiftSharingPrivacy.j0 k a0_0 bt323.1 bt327.1 true a0_0 a0_1 a0_2 l0_3 a0_4 a0_5 l0_6))))))) else ((privitylaw43_awake.f k).bind fun t310 => (some t310)))) = some r := h
 clear h
 replace H := Option.bind_eq_some_iff.mp H
 obtain ⟨t309,A20,H⟩ := H
 replace H : (if t309 = true then ((privitylaw43_one.f k a0_0 a0_1 a0_2 l0_3 a0_4 a0_5 l0_6).bind fun bt311 => (if a0_0 = 0 then (none) else ((tapeshift_Sharing.f k a0_0 a0_1 a0_2 l0_3 (Int.tmod a0_4 a0_0) bt311.1 bt311.2).bind fun bt317 => ((privityref10_New.f bt311.1 bt311.2).bind fun bt323 => ((privityref10_New.f bt317.1 bt317.2).bind fun bt327 => (if bt323.2 = 0 then (if bt327.2 = 0 then (if 0 < (bt327.1.length : Int) then (if 0 < ((rd_L4 bt327.1 0).length : Int) then (if 0 < (bt323.1.length : Int) then (if 0 < ((rd_L4 bt323.1 0).length : Int) then ((privityref01_Add.f a0_0 (rd (rd_L4 bt323.1 0) 0) (Int.tmod a0_4 a0_0)).bind fun t335 => (privitylaw43_TapeshiftSharingPrivacy.j0 k a0_0 bt323.1 bt327.1 ((rd (rd_L4 bt327.1 0) 0) != t335) a0_0 a0_1 a0_2 l0_3 a0_4 a0_5 l0_6)) else (none)) else (none)) else (none)) else (none)) else (privitylaw43_TapeshiftSharingPrivacy.j0 k a0_0 bt323.1 bt327.1 true a0_0 a0_1 a0_2 l0_3 a0_4 a0_5 l0_6)) else (privitylaw43_TapeshiftSharingPrivacy.j0 k a0_0 bt323.1 bt327.1 true a0_0 a0_1 a0_2 l0_3 a0_4 a0_5 l0_6))))))) else ((privitylaw43_awake.f k).bind fun t310 => (some t310))) = some r := H
 have A2 := Aside0.mk A20
 clear A20
 by_cases c3 : t309 = true
 ·subst c3
  have H1 : ((privitylaw43_one.f k a0_0 a0_1 a0_2 l0_3 a0_4 a0_5 l0_6).bind fun bt311 => (if a0_0 = 0 then (none) else ((tapeshift_Sharing.f k a0_0 a0_1 a0_2 l0_3 (Int.tmod a0_4 a0_0) bt311.1 bt311.2).bind fun bt317 => ((privityref10_New.f bt311.1 bt311.2).bind fun bt323 => ((privityref10_New.f bt317.1 bt317.2).bind fun bt327 => (if bt323.2 = 0 then (if bt327.2 = 0 then (if 0 < (bt327.1.length : Int) then (if 0 < ((rd_L4 bt327.1 0).length : Int) then (if 0 < (bt323.1.length : Int) then (if 0 < ((rd_L4 bt323.1 0).length : Int) then ((privityref01_Add.f a0_0 (rd (rd_L4 bt323.1 0) 0) (Int.tmod a0_4 a0_0)).bind fun t335 => (privitylaw43_TapeshiftSharingPrivacy.j0 k a0_0 bt323.1 bt327.1 ((rd (rd_L4 bt327.1 0) 0) != t335) a0_0 a0_1 a0_2 l0_3 a0_4 a0_5 l0_6)) else (none)) else (none)) else (none)) else (none)) else (privitylaw43_TapeshiftSharingPrivacy.j0 k a0_0 bt323.1 bt327.1 true a0_0 a0_1 a0_2 l0_3 a0_4 a0_5 l0_6)) else (privitylaw43_TapeshiftSharingPrivacy.j0 k a0_0 bt323.1 bt327.1 true a0_0 a0_1 a0_2 l0_3 a0_4 a0_5 l0_6))))))) = some r := by rw [if_pos rfl] at H;exact H
  clear H
  have H := H1
  clear H1
  replace H := Option.bind_eq_some_iff.mp H
  obtain ⟨⟨t311,t314⟩,A40,H⟩ := H
  replace H : (if a0_0 = 0 then (none) else ((tapeshift_Sharing.f k a0_0 a0_1 a0_2 l0_3 (Int.tmod a0_4 a0_0) t311 t314).bind fun bt317 => ((privityref10_New.f t311 t314).bind fun bt323 => ((privityref10_New.f bt317.1 bt317.2).bind fun bt327 => (if bt323.2 = 0 then (if bt327.2 = 0 then (if 0 < (bt327.1.length : Int) then (if 0 < ((rd_L4 bt327.1 0).length : Int) then (if 0 < (bt323.1.length : Int) then (if 0 < ((rd_L4 bt323.1 0).length : Int) then ((privityref01_Add.f a0_0 (rd (rd_L4 bt323.1 0) 0) (Int.tmod a0_4 a0_0)).bind fun t335 => (privitylaw43_TapeshiftSharingPrivacy.j0 k a0_0 bt323.1 bt327.1 ((rd (rd_L4 bt327.1 0) 0) != t335) a0_0 a0_1 a0_2 l0_3 a0_4 a0_5 l0_6)) else (none)) else (none)) else (none)) else (none)) else (privitylaw43_TapeshiftSharingPrivacy.j0 k a0_0 bt323.1 bt327.1 true a0_0 a0_1 a0_2 l0_3 a0_4 a0_5 l0_6)) else (privitylaw43_TapeshiftSharingPrivacy.j0 k a0_0 bt323.1 bt327.1 true a0_0 a0_1 a0_2 l0_3 a0_4 a0_5 l0_6)))))) = some r := H
  have A4 := Aside0.mk A40
  clear A40
  by_cases c5 : a0_0 = 0
  ·rw [if_pos c5] at H
   exact absurd H (by simp)
  ·rw [if_neg c5] at H
   have c5b0 : (a0_0 == 0) = false := beq_eq_false_iff_ne.mpr c5
   have c5b1 : (a0_0 != 0) = true := bne_iff_ne.mpr c5
   replace H := Option.bind_eq_some_iff.mp H
   obtain ⟨⟨t317,t320⟩,A60,H⟩ := H
   replace H : ((privityref10_New.f t311 t314).bind fun bt323 => ((privityref10_New.f t317 t320).bind fun bt327 => (if bt323.2 = 0 then (if bt327.2 = 0 then (if 0 < (bt327.1.length : Int) then (if 0 < ((rd_L4 bt327.1 0).length : Int) then (if 0 < (bt323.1.length : Int) then (if 0 < ((rd_L4 bt323.1 0).length : Int) then ((privityref01_Add.f a0_0 (rd (rd_L4 bt323.1 0) 0) (Int.tmod a0_4 a0_0)).bind fun t335 => (privitylaw43_TapeshiftSharingPrivacy.j0 k a0_0 bt323.1 bt327.1 ((rd (rd_L4 bt327.1 0) 0) != t335) a0_0 a0_1 a0_2 l0_3 a0_4 a0_5 l0_6)) else (none)) else (none)) else (none)) else (none)) else (privitylaw43_TapeshiftSharingPrivacy.j0 k a0_0 bt323.1 bt327.1 true a0_0 a0_1 a0_2 l0_3 a0_4 a0_5 l0_6)) else (privitylaw43_TapeshiftSharingPrivacy.j0 k a0_0 bt323.1 bt327.1 true a0_0 a0_1 a0_2 l0_3 a0_4 a0_5 l0_6)))) = some r := H
   have A6 := Aside0.mk A60
   clear A60
   replace H := Option.bind_eq_some_iff.mp H
   obtain ⟨⟨t323,t324⟩,A70,H⟩ := H
   replace H : ((privityref10_New.f t317 t320).bind fun bt327 => (if t324 = 0 then (if bt327.2 = 0 then (if 0 < (bt327.1.length : Int) then (if 0 < ((rd_L4 bt327.1 0).length : Int) then (if 0 < (t323.length : Int) then (if 0 < ((rd_L4 t323 0).length : Int) then ((privityref01_Add.f a0_0 (rd (rd_L4 t323 0) 0) (Int.tmod a0_4 a0_0)).bind fun t335 => (privitylaw43_TapeshiftSharingPrivacy.j0 k a0_0 t323 bt327.1 ((rd (rd_L4 bt327.1 0) 0) != t335) a0_0 a0_1 a0_2 l0_3 a0_4 a0_5 l0_6)) else (none)) else (none)) else (none)) else (none)) else (privitylaw43_TapeshiftSharingPrivacy.j0 k a0_0 t323 bt327.1 true a0_0 a0_1 a0_2 l0_3 a0_4 a0_5 l0_6)) else (privitylaw43_TapeshiftSharingPrivacy.j0 k a0_0 t323 bt327.1 true a0_0 a0_1 a0_2 l0_3 a0_4 a0_5 l0_6))) = some r := H
   have A7 := Aside0.mk A70
   clear A70
   replace H := Option.bind_eq_some_iff.mp H
   obtain ⟨⟨t327,t328⟩,A80,H⟩ := H
   replace H : (if t324 = 0 then (if t328 = 0 then (if 0 < (t327.length : Int) then (if 0 < ((rd_L4 t327 0).length : Int) then (if 0 < (t323.length : Int) then (if 0 < ((rd_L4 t323 0).length : Int) then ((privityref01_Add.f a0_0 (rd (rd_L4 t323 0) 0) (Int.tmod a0_4 a0_0)).bind fun t335 => (privitylaw43_TapeshiftSharingPrivacy.j0 k a0_0 t323 t327 ((rd (rd_L4 t327 0) 0) != t335) a0_0 a0_1 a0_2 l0_3 a0_4 a0_5 l0_6)) else (none)) else (none)) else (none)) else (none)) else (privitylaw43_TapeshiftSharingPrivacy.j0 k a0_0 t323 t327 true a0_0 a0_1 a0_2 l0_3 a0_4 a0_5 l0_6)) else (privitylaw43_TapeshiftSharingPrivacy.j0 k a0_0 t323 t327 true a0_0 a0_1 a0_2 l0_3 a0_4 a0_5 l0_6)) = some r := H
   have A8 := Aside0.mk A80
   clear A80
   have HC9 := Aside0.mk H
   clear H
   go_enter Try.func3,Try.ntmps3
   try go_wp2_with (first|((with_reducible refine gate_dst (N := 1) rfl ?_);refine box_event ?hg (N := 1) ?hd (cs := #[.int .u64 a0_0,.int .i64 a0_1,.int .i64 a0_2,.slice A0_3 l0_3.length c0_3,.int .u64 a0_4,.int .u64 a0_5,.slice A0_6 l0_6.length c0_6]) (t := 28) ?hr ?_;(case hd => rfl);(case hg => rfl);(case hr => first|(go_simp;done)|(go_simp;rfl));intro gb308 hg w10 hbox hb;have n0_ := Aside0.mk (below_step (by repeat (first|(with_reducible first|exact HB.out|apply below_alloc|apply pw_below_drewN|apply below_drew1)|exact HB.out)) hb);have n1_ := Aside0.mk (hbox);have n2_ := Aside0.mk ((by rw [hg];exact (below_size (by repeat (first|(with_reducible first|exact HB.out|apply below_alloc|apply pw_below_drewN|apply below_drew1)|exact HB.out))) : w.heap.size ≤ gb308));have n3_ := Aside0.mk ((by rw [hg];exact (below_size (by repeat (first|(with_reducible first|exact HB.out|apply below_alloc|apply pw_below_drewN|apply below_drew1)|exact HB.out))) : w.heap.size ≤ gb308));clear HB;have HB := n0_;have BK308 := n1_;have GW308 := n2_;have GE308 := n3_;clear n0_ n1_ n2_ n3_;clear hb hbox hg;have hcz11_0 : w10.cell? ⟨gb308,0,none⟩ = some (.int .u64 a0_0) := (blk_cell BK308.out 0).trans rfl;have hcz11_1 : w10.cell? ⟨gb308,1,none⟩ = some (.int .i64 a0_1) := (blk_cell BK308.out 1).trans rfl;have hcz11_2 : w10.cell? ⟨gb308,2,none⟩ = some (.int .i64 a0_2) := (blk_cell BK308.out 2).trans rfl;have hcz11_3 : w10.cell? ⟨gb308,3,none⟩ = some (.slice A0_3 l0_3.length c0_3) := (blk_cell BK308.out 3).trans rfl;have hcz11_4 : w10.cell? ⟨gb308,4,none⟩ = some (.int .u64 a0_4) := (blk_cell BK308.out 4).trans rfl;have hcz11_5 : w10.cell? ⟨gb308,5,none⟩ = some (.int .u64 a0_5) := (blk_cell BK308.out 5).trans rfl;have hcz11_6 : w10.cell? ⟨gb308,6,none⟩ = some (.slice A0_6 l0_6.length c0_6) := (blk_cell BK308.out 6).trans rfl;have hfz11_0 := blk_frozen BK308.out 0;have hfz11_1 := blk_frozen BK308.out 1;have hfz11_2 := blk_frozen BK308.out 2;have hfz11_3 := blk_frozen BK308.out 3;have hfz11_4 := blk_frozen BK308.out 4;have hfz11_5 := blk_frozen BK308.out 5;have hfz11_6 := blk_frozen BK308.out 6)|((with_reducible refine gate_callee (f := 12) rfl ?_);refine goesL_ (some 14) rfl rfl Try.func12 (by kernel_rfl) rfl #[.agg #[.int .u64 a0_0,.int .i64 a0_1,.int .i64 a0_2,.slice A0_3 l0_3.length c0_3,.int .u64 a0_4,.int .u64 a0_5,.slice A0_6 l0_6.length c0_6]] rfl (by (try simp only [List.map_toArray,List.map_cons,List.map_nil]);first|done|rfl|(simp only [List.length_drop,List.length_take];rfl)) ?_;(with_reducible refine (privitylaw43_may.calls k a0_0 a0_1 a0_2 _ _ l0_3 a0_4 a0_5 _ _ l0_6 true _ ?side1 ?side2 ?side3 ?side4 A2.out).mono ?_);(case side1 => repeat (first|exact (Kd.C_below HR0_3.out HB.out)|(with_reducible refine Kd.C_alloc ?_ _)|(with_reducible refine Kd.C_drewN ?_ _)|(with_reducible refine Kd.C_drew ?_)));(case side2 => exact HC0_3.out);(case side3 => repeat (first|exact (Kd.C_below HR0_6.out HB.out)|(with_reducible refine Kd.C_alloc ?_ _)|(with_reducible refine Kd.C_drewN ?_ _)|(with_reducible refine Kd.C_drew ?_)));(case side4 => exact HC0_6.out);rintro e w12 ⟨rfl,hb⟩;refine ⟨_,rfl,?_⟩;have n0_ := Aside0.mk (blk_below (g := gb308) (o := .cells #[.int .u64 a0_0,.int .i64 a0_1,.int .i64 a0_2,.slice A0_3 l0_3.length c0_3,.int .u64 a0_4,.int .u64 a0_5,.slice A0_6 l0_6.length c0_6] 28 (0,0)) (by (with_reducible repeat (first|refine blk_drewN ?_ _|refine blk_drew ?_|refine blk_alloc ?_ _));exact BK308.out) hb);have n1_ := Aside0.mk (below_step (by repeat (first|(with_reducible first|exact HB.out|apply below_alloc|apply pw_below_drewN|apply below_drew1|refine below_set ?_ GE308.out)|exact HB.out)) hb);clear BK308;clear HB;have BK308 := n0_;have HB := n1_;clear n0_ n1_;(try clear hb);(try clear hb2);(try clear hk);(try clear hi);have hcz13_0 : w12.cell? ⟨gb308,0,none⟩ = some (.int .u64 a0_0) := (blk_cell BK308.out 0).trans rfl;have hcz13_1 : w12.cell? ⟨gb308,1,none⟩ = some (.int .i64 a0_1) := (blk_cell BK308.out 1).trans rfl;have hcz13_2 : w12.cell? ⟨gb308,2,none⟩ = some (.int .i64 a0_2) := (blk_cell BK308.out 2).trans rfl;have hcz13_3 : w12.cell? ⟨gb308,3,none⟩ = some (.slice A0_3 l0_3.length c0_3) := (blk_cell BK308.out 3).trans rfl;have hcz13_4 : w12.cell? ⟨gb308,4,none⟩ = some (.int .u64 a0_4) := (blk_cell BK308.out 4).trans rfl;have hcz13_5 : w12.cell? ⟨gb308,5,none⟩ = some (.int .u64 a0_5) := (blk_cell BK308.out 5).trans rfl;have hcz13_6 : w12.cell? ⟨gb308,6,none⟩ = some (.slice A0_6 l0_6.length c0_6) := (blk_cell BK308.out 6).trans rfl;have hfz13_0 := blk_frozen BK308.out 0;have hfz13_1 := blk_frozen BK308.out 1;have hfz13_2 := blk_frozen BK308.out 2;have hfz13_3 := blk_frozen BK308.out 3;have hfz13_4 := blk_frozen BK308.out 4;have hfz13_5 := blk_frozen BK308.out 5;have hfz13_6 := blk_frozen BK308.out 6)|((with_reducible refine gate_callee (f := 14) rfl ?_);refine goesL_ (some 22) rfl rfl Try.func14 (by kernel_rfl) rfl #[.agg #[.int .u64 a0_0,.int .i64 a0_1,.int .i64 a0_2,.slice A0_3 l0_3.length c0_3,.int .u64 a0_4,.int .u64 a0_5,.slice A0_6 l0_6.length c0_6]] rfl (by (try simp only [List.map_toArray,List.map_cons,List.map_nil]);first|done|rfl|(simp only [List.length_drop,List.length_take];rfl)) ?_;(with_reducible refine (privitylaw43_one.calls k a0_0 a0_1 a0_2 _ _ l0_3 a0_4 a0_5 _ _ l0_6 t311 t314 _ ?side1 ?side2 ?side3 ?side4 A4.out).mono ?_);(case side1 => repeat (first|exact (Kd.C_below HR0_3.out HB.out)|(with_reducible refine Kd.C_alloc ?_ _)|(with_reducible refine Kd.C_drewN ?_ _)|(with_reducible refine Kd.C_drew ?_)));(case side2 => exact HC0_3.out);(case side3 => repeat (first|exact (Kd.C_below HR0_6.out HB.out)|(with_reducible refine Kd.C_alloc ?_ _)|(with_reducible refine Kd.C_drewN ?_ _)|(with_reducible refine Kd.C_drew ?_)));(case side4 => exact HC0_6.out);rintro e w14 ⟨v312,v315,rfl,ho0,ho1,hb⟩;refine ⟨_,rfl,?_⟩;have n0_ := Aside0.mk (Kd.R_lower ho0 (below_size (by repeat (first|(with_reducible first|exact HB.out|apply below_alloc|apply pw_below_drewN|apply below_drew1|refine below_set ?_ GE308.out)|exact HB.out))));have n1_ := Aside0.mk (Kd.R_lower ho1 (below_size (by repeat (first|(with_reducible first|exact HB.out|apply below_alloc|apply pw_below_drewN|apply below_drew1|refine below_set ?_ GE308.out)|exact HB.out))));have n2_ := Aside0.mk (blk_below (g := gb308) (o := .cells #[.int .u64 a0_0,.int .i64 a0_1,.int .i64 a0_2,.slice A0_3 l0_3.length c0_3,.int .u64 a0_4,.int .u64 a0_5,.slice A0_6 l0_6.length c0_6] 28 (0,0)) (by (with_reducible repeat (first|refine blk_drewN ?_ _|refine blk_drew ?_|refine blk_alloc ?_ _));exact BK308.out) hb);have n3_ := Aside0.mk (below_step (by repeat (first|(with_reducible first|exact HB.out|apply below_alloc|apply pw_below_drewN|apply below_drew1|refine below_set ?_ GE308.out)|exact HB.out)) hb);clear BK308;clear HB;have HO313 := n0_;have HO316 := n1_;have BK308 := n2_;have HB := n3_;clear n0_ n1_ n2_ n3_;(try clear hb);(try clear hb2);(try clear hk);(try clear hi);(try clear ho0);(try clear ho1)))
   have n0_ := Aside0.mk (Kd.R_drew HO313.out)
   have n1_ := Aside0.mk (Kd.R_drew HO316.out)
   have n2_ := Aside0.mk (blk_drew BK308.out)
   have n3_ := Aside0.mk (below_drew1 HB.out)
   clear HO313
   clear HO316
   clear BK308
   clear HB
   have HO313 := n0_
   have HO316 := n1_
   have BK308 := n2_
   have HB := n3_
   clear n0_ n1_ n2_ n3_
   obtain ⟨Ao16,co16,eo16⟩ := Kd.R_slice HO313.out
   (first|subst eo16|(injection eo16 with f1_ f2_ f3_;have f4_ := f1_.symm;have f5_ := f3_.symm;clear f1_ f2_ f3_;subst f4_;subst f5_))
   obtain ⟨Ao17,co17,eo17⟩ := Kd.R_slice HO316.out
   (first|subst eo17|(injection eo17 with f1_ f2_ f3_;have f4_ := f1_.symm;have f5_ := f3_.symm;clear f1_ f2_ f3_;subst f4_;subst f5_))
   refine start_ (n := 16) (S := fun w' => w'.cell? ⟨gb308,0,none⟩ = some (.int .u64 a0_0) ∧ w'.cell? ⟨gb308,1,none⟩ = some (.int .i64 a0_1) ∧ w'.cell? ⟨gb308,2,none⟩ = some (.int .i64 a0_2) ∧ w'.cell? ⟨gb308,3,none⟩ = some (.slice A0_3 l0_3.length c0_3) ∧ w'.cell? ⟨gb308,4,none⟩ = some (.int .u64 a0_4) ∧ w'.cell? ⟨gb308,5,none⟩ = some (.int .u64 a0_5) ∧ w'.cell? ⟨gb308,6,none⟩ = some (.slice A0_6 l0_6.length c0_6)) (ds := []) #[false,false,false,false,false,false,false,false,false,false,false,false,false,false,false,false] (by kernel_rfl) rfl rfl ⟨(blk_cell BK308.out 0).trans rfl,(blk_cell BK308.out 1).trans rfl,(blk_cell BK308.out 2).trans rfl,(blk_cell BK308.out 3).trans rfl,(blk_cell BK308.out 4).trans rfl,(blk_cell BK308.out 5).trans rfl,(blk_cell BK308.out 6).trans rfl⟩ (fun hHeld => ?_);refine with_tabW privitylaw43_TapeshiftSharingPrivacy.tab5 privitylaw43_TapeshiftSharingPrivacy.bits5 (fun HT_ HW_ => ?_)
   generalize w14.drew = w15 at HO313 HO316 BK308 HB hHeld ⊢
   refine pure_ (i := 0) (N := some 26) (v := ?_) (a' := ?_) #[true,false,false,false,false,false,false,false,false,false,false,false,false,false,false,false] rfl rfl (any_of HT_.out (by kernel_rfl)) (fun _ _ _ h => h) (Or.inl ⟨by rfl,?_⟩) ?_ ?_
   rotate_left
   ·intro w'
    go_simp
    with_reducible rfl
   rotate_left
   ·simp only [Act.put,List.setIfInBounds_toArray,List.set_cons_zero,List.set_cons_succ,i64_w,i32_w]
    rfl
   refine pure_ (i := 2) (N := some 28) (v := ?_) (a' := ?_) #[true,false,true,false,false,false,false,false,false,false,false,false,false,false,false,false] rfl rfl (any_of HT_.out (by kernel_rfl)) (fun _ _ _ h => h) (Or.inl ⟨by rfl,?_⟩) ?_ ?_
   rotate_left
   ·intro w'
    go_simp
    with_reducible rfl
   rotate_left
   ·simp only [Act.put,List.setIfInBounds_toArray,List.set_cons_zero,List.set_cons_succ,i64_w,i32_w]
    rfl
   refine pure_ (i := 4) (N := some 30) (v := ?_) (a' := ?_) #[true,false,true,false,true,false,false,false,false,false,false,false,false,false,false,false] rfl rfl (any_of HT_.out (by kernel_rfl)) (fun _ _ _ h => h) (Or.inl ⟨by rfl,?_⟩) ?_ ?_
   rotate_left
   ·intro w'
    go_simp
    with_reducible rfl
   rotate_left
   ·simp only [Act.put,List.setIfInBounds_toArray,List.set_cons_zero,List.set_cons_succ,i64_w,i32_w]
    rfl
   refine pure_ (i := 6) (N := some 32) (v := ?_) (a' := ?_) #[true,false,true,false,true,false,true,false,false,false,false,false,false,false,false,false] rfl rfl (any_of HT_.out (by kernel_rfl)) (fun _ _ _ h => h) (Or.inl ⟨by rfl,?_⟩) ?_ ?_
   rotate_left
   ·intro w'
    go_simp
    with_reducible rfl
   rotate_left
   ·simp only [Act.put,List.setIfInBounds_toArray,List.set_cons_zero,List.set_cons_succ,i64_w,i32_w]
    rfl
   refine pure_ (i := 8) (N := some 34) (v := ?_) (a' := ?_) #[true,false,true,false,true,false,true,false,true,false,false,false,false,false,false,false] rfl rfl (any_of HT_.out (by kernel_rfl)) (fun _ _ _ h => h) (Or.inl ⟨by rfl,?_⟩) ?_ ?_
   rotate_left
   ·intro w'
    go_simp
    with_reducible rfl
   rotate_left
   ·simp only [Act.put,List.setIfInBounds_toArray,List.set_cons_zero,List.set_cons_succ,i64_w,i32_w]
    rfl
   refine pure_ (i := 9) (N := some 35) (v := ?_) (a' := ?_) #[true,false,true,false,true,false,true,false,true,true,false,false,false,false,false,false] rfl rfl (any_of HT_.out (by kernel_rfl)) (fun _ _ _ h => h) (Or.inl ⟨by rfl,?_⟩) ?_ ?_
   rotate_left
   ·intro w'
    go_simp
    with_reducible rfl
   rotate_left
   ·simp only [Act.put,List.setIfInBounds_toArray,List.set_cons_zero,List.set_cons_succ,i64_w,i32_w]
    rfl
   refine take_ (i := 1) (N := some 27) (v := ?_) (a' := ?_) #[true,true,true,false,true,false,true,false,true,true,false,false,false,false,false,false] rfl rfl (take_ofW HT_.out HW_.out (by kernel_rfl)) (fun _ _ _ h => h) (Or.inl ⟨by rfl,?_⟩) hHeld ?_ ?_
   rotate_left
   ·rintro w' ⟨s0,s1,s2,s3,s4,s5,s6⟩
    go_simp
    with_reducible rfl
   rotate_left
   ·simp only [Act.put,List.setIfInBounds_toArray,List.set_cons_zero,List.set_cons_succ,i64_w,i32_w]
    rfl
   refine take_ (i := 3) (N := some 29) (v := ?_) (a' := ?_) #[true,true,true,true,true,false,true,false,true,true,false,false,false,false,false,false] rfl rfl (take_ofW HT_.out HW_.out (by kernel_rfl)) (fun _ _ _ h => h) (Or.inl ⟨by rfl,?_⟩) hHeld ?_ ?_
   rotate_left
   ·rintro w' ⟨s0,s1,s2,s3,s4,s5,s6⟩
    go_simp
    with_reducible rfl
   rotate_left
   ·simp only [Act.put,List.setIfInBounds_toArray,List.set_cons_zero,List.set_cons_succ,i64_w,i32_w]
    rfl
   refine take_ (i := 5) (N := some 31) (v := ?_) (a' := ?_) #[true,true,true,true,true,true,true,false,true,true,false,false,false,false,false,false] rfl rfl (take_ofW HT_.out HW_.out (by kernel_rfl)) (fun _ _ _ h => h) (Or.inl ⟨by rfl,?_⟩) hHeld ?_ ?_
   rotate_left
   ·rintro w' ⟨s0,s1,s2,s3,s4,s5,s6⟩
    go_simp
    with_reducible rfl
   rotate_left
   ·simp only [Act.put,List.setIfInBounds_toArray,List.set_cons_zero,List.set_cons_succ,i64_w,i32_w]
    rfl
   refine pure_ (i := 7) (N := some 33) (v := ?_) (a' := ?_) #[true,true,true,true,true,true,true,true,true,true,false,false,false,false,false,false] rfl rfl (any_of HT_.out (by kernel_rfl)) (fun _ _ _ h => h) (Or.inl ⟨by rfl,?_⟩) ?_ ?_
   rotate_left
   ·intro w'
    go_simp
    with_reducible rfl
   rotate_left
   ·simp only [Act.put,List.setIfInBounds_toArray,List.set_cons_zero,List.set_cons_succ,i64_w,i32_w]
    rfl
   refine one_ (i := 10) (N := some 36) #[true,true,true,true,true,true,true,true,true,true,true,false,false,false,false,false] rfl rfl (one_of HT_.out (by kernel_rfl)) (by decide) (fun K hK => ?_)
   refine goes_ Try.func15 (by kernel_rfl) rfl #[.agg #[.int .u64 a0_0,.int .i64 a0_1,.int .i64 a0_2],.slice A0_3 l0_3.length c0_3,.int .u64 (Int.tmod a0_4 a0_0),.slice Ao16 t311.length co16,.slice Ao17 t314.length co17] (by rfl) rfl rfl (by (try simp only [List.map_toArray,List.map_cons,List.map_nil]);first|done|rfl|(simp only [List.length_drop,List.length_take];rfl)) ?_
   with_reducible refine (tapeshift_Sharing.calls k a0_0 a0_1 a0_2 _ _ l0_3 (Int.tmod a0_4 a0_0) _ _ t311 _ _ t314 t317 t320 _ ?side1 ?side2 ?side3 ?side4 ?side5 ?side6 A6.out).mono ?_
   (case side1 => repeat (first|exact (Kd.C_below HR0_3.out HB.out)|(with_reducible refine Kd.C_alloc ?_ _)|(with_reducible refine Kd.C_drewN ?_ _)|(with_reducible refine Kd.C_drew ?_)))
   (case side2 => exact HC0_3.out)
   (case side3 => repeat (first|exact (Kd.R_reads' HO313.out).2.2|(with_reducible refine Kd.C_alloc ?_ _)|(with_reducible refine Kd.C_drewN ?_ _)|(with_reducible refine Kd.C_drew ?_)))
   (case side4 => exact (Kd.R_reads' HO313.out).2.1)
   (case side5 => repeat (first|exact (Kd.R_reads' HO316.out).2.2|(with_reducible refine Kd.C_alloc ?_ _)|(with_reducible refine Kd.C_drewN ?_ _)|(with_reducible refine Kd.C_drew ?_)))
   (case side6 => exact (Kd.R_reads' HO316.out).2.1)
   rintro e w18 ⟨v318,v321,rfl,ho0,ho1,hb⟩
   refine ⟨_,rfl,?_⟩
   have n0_ := Aside0.mk (Kd.R_mono (Kd.R_told (Kd.R_told (Kd.R_old (by (with_reducible repeat (first|apply Kd.R_alloc|apply Kd.R_drewN|apply Kd.R_drew));exact HO313.out) hb) (Kd.R_base ho0)) (Kd.R_base ho1)) (fun _ h_ => h_.1))
   have n1_ := Aside0.mk (Kd.R_mono (Kd.R_told (Kd.R_told (Kd.R_old (by (with_reducible repeat (first|apply Kd.R_alloc|apply Kd.R_drewN|apply Kd.R_drew));exact HO316.out) hb) (Kd.R_base ho0)) (Kd.R_base ho1)) (fun _ h_ => h_.1))
   have n2_ := Aside0.mk (Kd.R_lower (Kd.R_new' (Kd.R_new' ho0 (Kd.R_lt (by (with_reducible repeat (first|apply Kd.R_alloc|apply Kd.R_drewN|apply Kd.R_drew));exact HO313.out))) (Kd.R_lt (by (with_reducible repeat (first|apply Kd.R_alloc|apply Kd.R_drewN|apply Kd.R_drew));exact HO316.out))) (below_size (by repeat (first|(with_reducible first|exact HB.out|apply below_alloc|apply pw_below_drewN|apply below_drew1|refine below_set ?_ GE308.out)|exact HB.out))))
   have n3_ := Aside0.mk (Kd.R_lower (Kd.R_new' (Kd.R_new' ho1 (Kd.R_lt (by (with_reducible repeat (first|apply Kd.R_alloc|apply Kd.R_drewN|apply Kd.R_drew));exact HO313.out))) (Kd.R_lt (by (with_reducible repeat (first|apply Kd.R_alloc|apply Kd.R_drewN|apply Kd.R_drew));exact HO316.out))) (below_size (by repeat (first|(with_reducible first|exact HB.out|apply below_alloc|apply pw_below_drewN|apply below_drew1|refine below_set ?_ GE308.out)|exact HB.out))))
   have n4_ := Aside0.mk (blk_below (g := gb308) (o := .cells #[.int .u64 a0_0,.int .i64 a0_1,.int .i64 a0_2,.slice A0_3 l0_3.length c0_3,.int .u64 a0_4,.int .u64 a0_5,.slice A0_6 l0_6.length c0_6] 28 (0,0)) (by (with_reducible repeat (first|refine blk_drewN ?_ _|refine blk_drew ?_|refine blk_alloc ?_ _));exact BK308.out) hb)
   have n5_ := Aside0.mk (below_step (by repeat (first|(with_reducible first|exact HB.out|apply below_alloc|apply pw_below_drewN|apply below_drew1|refine below_set ?_ GE308.out)|exact HB.out)) hb)
   clear HO313
   clear HO316
   clear BK308
   clear HB
   have HO313 := n0_
   have HO316 := n1_
   have HO319 := n2_
   have HO322 := n3_
   have BK308 := n4_
   have HB := n5_
   clear n0_ n1_ n2_ n3_ n4_ n5_
   (try clear hb)
   (try clear hb2)
   (try clear hk)
   (try clear hi)
   (try clear ho0)
   (try clear ho1)
   refine hK.out _ _ ⟨(blk_cell BK308.out 0).trans rfl,(blk_cell BK308.out 1).trans rfl,(blk_cell BK308.out 2).trans rfl,(blk_cell BK308.out 3).trans rfl,(blk_cell BK308.out 4).trans rfl,(blk_cell BK308.out 5).trans rfl,(blk_cell BK308.out 6).trans rfl⟩ (fun hHeld => ?_)
   clear hK K
   refine norm_ (a' := ?_) ?_ ?_
   rotate_left
   ·show Act.put _ (some 36) _ = _
    simp only [Act.put,List.setIfInBounds_toArray,List.set_cons_zero,List.set_cons_succ,i64_w,i32_w]
    rfl
   refine pure_ (i := 11) (N := some 25) (v := ?_) (a' := ?_) #[true,true,true,true,true,true,true,true,true,true,true,true,false,false,false,false] rfl rfl (any_of HT_.out (by kernel_rfl)) (fun _ _ _ h => h) (Or.inl ⟨by rfl,?_⟩) ?_ ?_
   rotate_left
   ·intro w'
    go_simp
    with_reducible rfl
   rotate_left
   ·simp only [Act.put,List.setIfInBounds_toArray,List.set_cons_zero,List.set_cons_succ,i64_w,i32_w]
    rfl
   refine pure_ (i := 12) (N := some 37) (v := ?_) (a' := ?_) #[true,true,true,true,true,true,true,true,true,true,true,true,true,false,false,false] rfl rfl (any_of HT_.out (by kernel_rfl)) (fun _ _ _ h => h) (Or.inl ⟨by rfl,?_⟩) ?_ ?_
   rotate_left
   ·intro w'
    go_simp
    with_reducible rfl
   rotate_left
   ·simp only [Act.put,List.setIfInBounds_toArray,List.set_cons_zero,List.set_cons_succ,i64_w,i32_w]
    rfl
   refine pure_ (i := 13) (N := some 38) (v := ?_) (a' := ?_) #[true,true,true,true,true,true,true,true,true,true,true,true,true,true,false,false] rfl rfl (any_of HT_.out (by kernel_rfl)) (fun _ _ _ h => h) (Or.inl ⟨by rfl,?_⟩) ?_ ?_
   rotate_left
   ·intro w'
    go_simp
    with_reducible rfl
   rotate_left
   ·simp only [Act.put,List.setIfInBounds_toArray,List.set_cons_zero,List.set_cons_succ,i64_w,i32_w]
    rfl
   refine pure_ (i := 14) (N := some 6) (v := ?_) (a' := ?_) #[true,true,true,true,true,true,true,true,true,true,true,true,true,true,true,false] rfl rfl (any_of HT_.out (by kernel_rfl)) (fun _ _ _ h => h) (Or.inl ⟨by rfl,?_⟩) ?_ ?_
   rotate_left
   ·intro w'
    go_simp
    with_reducible rfl
   rotate_left
   ·simp only [Act.put,List.setIfInBounds_toArray,List.set_cons_zero,List.set_cons_succ,i64_w,i32_w]
    rfl
   refine pure_ (i := 15) (N := some 7) (v := ?_) (a' := ?_) #[true,true,true,true,true,true,true,true,true,true,true,true,true,true,true,true] rfl rfl (any_of HT_.out (by kernel_rfl)) (fun _ _ _ h => h) (Or.inl ⟨by rfl,?_⟩) ?_ ?_
   rotate_left
   ·intro w'
    go_simp
    with_reducible rfl
   rotate_left
   ·simp only [Act.put,List.setIfInBounds_toArray,List.set_cons_zero,List.set_cons_succ,i64_w,i32_w]
    rfl
   refine done_ (done_of HT_.out (by kernel_rfl)) ?_
   go_upto_region 8 with (first|((with_reducible refine gate_callee (f := 16) rfl ?_);refine goesL_ (some 42) rfl rfl Try.func16 (by kernel_rfl) rfl #[.slice Ao16 t311.length co16,.slice Ao17 t314.length co17] rfl (by (try simp only [List.map_toArray,List.map_cons,List.map_nil]);first|done|rfl|(simp only [List.length_drop,List.length_take];rfl)) ?_;(with_reducible refine (privityref10_New.calls _ _ t311 _ _ t314 t323 t324 _ ?side1 ?side2 ?side3 ?side4 A7.out).mono ?_);(case side1 => repeat (first|exact (Kd.R_reads' HO313.out).2.2|(with_reducible refine Kd.C_alloc ?_ _)|(with_reducible refine Kd.C_drewN ?_ _)|(with_reducible refine Kd.C_drew ?_)));(case side2 => exact (Kd.R_reads' HO313.out).2.1);(case side3 => repeat (first|exact (Kd.R_reads' HO316.out).2.2|(with_reducible refine Kd.C_alloc ?_ _)|(with_reducible refine Kd.C_drewN ?_ _)|(with_reducible refine Kd.C_drew ?_)));(case side4 => exact (Kd.R_reads' HO316.out).2.1);rintro e w19 ⟨v325,rfl,ho0,hb⟩;refine ⟨_,rfl,?_⟩;have n0_ := Aside0.mk (Kd.R_below (by (with_reducible repeat (first|apply Kd.R_alloc|apply Kd.R_drewN|apply Kd.R_drew));exact HO313.out) hb);have n1_ := Aside0.mk (Kd.R_below (by (with_reducible repeat (first|apply Kd.R_alloc|apply Kd.R_drewN|apply Kd.R_drew));exact HO316.out) hb);have n2_ := Aside0.mk (Kd.R_below (by (with_reducible repeat (first|apply Kd.R_alloc|apply Kd.R_drewN|apply Kd.R_drew));exact HO319.out) hb);have n3_ := Aside0.mk (Kd.R_below (by (with_reducible repeat (first|apply Kd.R_alloc|apply Kd.R_drewN|apply Kd.R_drew));exact HO322.out) hb);have n4_ := Aside0.mk (Kd.S_lower (Kd.S_new' (Kd.S_new' (Kd.S_new' (Kd.S_new' ho0 (Kd.R_lt (by (with_reducible repeat (first|apply Kd.R_alloc|apply Kd.R_drewN|apply Kd.R_drew));exact HO313.out))) (Kd.R_lt (by (with_reducible repeat (first|apply Kd.R_alloc|apply Kd.R_drewN|apply Kd.R_drew));exact HO316.out))) (Kd.R_lt (by (with_reducible repeat (first|apply Kd.R_alloc|apply Kd.R_drewN|apply Kd.R_drew));exact HO319.out))) (Kd.R_lt (by (with_reducible repeat (first|apply Kd.R_alloc|apply Kd.R_drewN|apply Kd.R_drew));exact HO322.out))) (below_size (by repeat (first|(with_reducible first|exact HB.out|apply below_alloc|apply pw_below_drewN|apply below_drew1|refine below_set ?_ GE308.out)|exact HB.out))));have n5_ := Aside0.mk (blk_below (g := gb308) (o := .cells #[.int .u64 a0_0,.int .i64 a0_1,.int .i64 a0_2,.slice A0_3 l0_3.length c0_3,.int .u64 a0_4,.int .u64 a0_5,.slice A0_6 l0_6.length c0_6] 28 (0,0)) (by (with_reducible repeat (first|refine blk_drewN ?_ _|refine blk_drew ?_|refine blk_alloc ?_ _));exact BK308.out) hb);have n6_ := Aside0.mk (below_step (by repeat (first|(with_reducible first|exact HB.out|apply below_alloc|apply pw_below_drewN|apply below_drew1|refine below_set ?_ GE308.out)|exact HB.out)) hb);clear HO313;clear HO316;clear HO319;clear HO322;clear BK308;clear HB;have HO313 := n0_;have HO316 := n1_;have HO319 := n2_;have HO322 := n3_;have HO326 := n4_;have BK308 := n5_;have HB := n6_;clear n0_ n1_ n2_ n3_ n4_ n5_ n6_;(try clear hb);(try clear hb2);(try clear hk);(try clear hi);(try clear ho0);obtain ⟨Ao20,co20,eo20⟩ := Kd.R_slice HO319.out;subst eo20;obtain ⟨Ao21,co21,eo21⟩ := Kd.R_slice HO322.out;subst eo21)|((with_reducible refine gate_callee (f := 16) rfl ?_);refine goesL_ (some 48) rfl rfl Try.func16 (by kernel_rfl) rfl #[.slice Ao20 t317.length co20,.slice Ao21 t320.length co21] rfl (by (try simp only [List.map_toArray,List.map_cons,List.map_nil]);first|done|rfl|(simp only [List.length_drop,List.length_take];rfl)) ?_;(with_reducible refine (privityref10_New.calls _ _ t317 _ _ t320 t327 t328 _ ?side1 ?side2 ?side3 ?side4 A8.out).mono ?_);(case side1 => repeat (first|exact (Kd.R_reads' HO319.out).2.2|(with_reducible refine Kd.C_alloc ?_ _)|(with_reducible refine Kd.C_drewN ?_ _)|(with_reducible refine Kd.C_drew ?_)));(case side2 => exact (Kd.R_reads' HO319.out).2.1);(case side3 => repeat (first|exact (Kd.R_reads' HO322.out).2.2|(with_reducible refine Kd.C_alloc ?_ _)|(with_reducible refine Kd.C_drewN ?_ _)|(with_reducible refine Kd.C_drew ?_)));(case side4 => exact (Kd.R_reads' HO322.out).2.1);rintro e w22 ⟨v329,rfl,ho0,hb⟩;refine ⟨_,rfl,?_⟩;have n0_ := Aside0.mk (Kd.R_below (by (with_reducible repeat (first|apply Kd.R_alloc|apply Kd.R_drewN|apply Kd.R_drew));exact HO313.out) hb);have n1_ := Aside0.mk (Kd.R_below (by (with_reducible repeat (first|apply Kd.R_alloc|apply Kd.R_drewN|apply Kd.R_drew));exact HO316.out) hb);have n2_ := Aside0.mk (Kd.R_below (by (with_reducible repeat (first|apply Kd.R_alloc|apply Kd.R_drewN|apply Kd.R_drew));exact HO319.out) hb);have n3_ := Aside0.mk (Kd.R_below (by (with_reducible repeat (first|apply Kd.R_alloc|apply Kd.R_drewN|apply Kd.R_drew));exact HO322.out) hb);have n4_ := Aside0.mk (Kd.S_elder' (by (with_reducible repeat (first|apply Kd.S_alloc|apply Kd.S_drewN|apply Kd.S_drew));exact HO326.out) (Kd.S_base ho0) hb);have n5_ := Aside0.mk (Kd.S_lower (Kd.S_new' (Kd.S_new' (Kd.S_new' (Kd.S_new' (Kd.S_new' ho0 (Kd.R_lt (by (with_reducible repeat (first|apply Kd.R_alloc|apply Kd.R_drewN|apply Kd.R_drew));exact HO313.out))) (Kd.R_lt (by (with_reducible repeat (first|apply Kd.R_alloc|apply Kd.R_drewN|apply Kd.R_drew));exact HO316.out))) (Kd.R_lt (by (with_reducible repeat (first|apply Kd.R_alloc|apply Kd.R_drewN|apply Kd.R_drew));exact HO319.out))) (Kd.R_lt (by (with_reducible repeat (first|apply Kd.R_alloc|apply Kd.R_drewN|apply Kd.R_drew));exact HO322.out))) (Kd.S_lt (by (with_reducible repeat (first|apply Kd.S_alloc|apply Kd.S_drewN|apply Kd.S_drew));exact HO326.out))) (below_size (by repeat (first|(with_reducible first|exact HB.out|apply below_alloc|apply pw_below_drewN|apply below_drew1|refine below_set ?_ GE308.out)|exact HB.out))));have n6_ := Aside0.mk (blk_below (g := gb308) (o := .cells #[.int .u64 a0_0,.int .i64 a0_1,.int .i64 a0_2,.slice A0_3 l0_3.length c0_3,.int .u64 a0_4,.int .u64 a0_5,.slice A0_6 l0_6.length c0_6] 28 (0,0)) (by (with_reducible repeat (first|refine blk_drewN ?_ _|refine blk_drew ?_|refine blk_alloc ?_ _));exact BK308.out) hb);have n7_ := Aside0.mk (below_step (by repeat (first|(with_reducible first|exact HB.out|apply below_alloc|apply pw_below_drewN|apply below_drew1|refine below_set ?_ GE308.out)|exact HB.out)) hb);clear HO313;clear HO316;clear HO319;clear HO322;clear HO326;clear BK308;clear HB;have HO313 := n0_;have HO316 := n1_;have HO319 := n2_;have HO322 := n3_;have HO326 := n4_;have HO330 := n5_;have BK308 := n6_;have HB := n7_;clear n0_ n1_ n2_ n3_ n4_ n5_ n6_ n7_;(try clear hb);(try clear hb2);(try clear hk);(try clear hi);(try clear ho0)))
   (try simp only [Act.put,List.setIfInBounds_toArray,List.set_cons_zero,List.set_cons_succ])
   go_cut [75] (fun v75 wc => ∃ (kq : Nat) (x75_8 : Bool),v75 = .bool x75_8 ∧ Aside0 (privitylaw43_TapeshiftSharingPrivacy.j0 kq a0_0 t323 t327 x75_8 a0_0 a0_1 a0_2 l0_3 a0_4 a0_5 l0_6 = some r) ∧ Aside0 (kq ≤ k) ∧ Aside0 (Kd.S (Kd.slice 22 (Kd.int .u64)) 26 wc w.heap.size (fun k_ => some k_ ≠ (v329 : Value).ownBlock) v325 t323) ∧ Aside0 (Kd.S (Kd.slice 22 (Kd.int .u64)) 26 wc w.heap.size (fun k_ => some k_ ≠ (v325 : Value).ownBlock) v329 t327) ∧ Aside0 (wc.heap[gb308]? = some (.cells #[.int .u64 a0_0,.int .i64 a0_1,.int .i64 a0_2,(.slice A0_3 l0_3.length c0_3),.int .u64 a0_4,.int .u64 a0_5,(.slice A0_6 l0_6.length c0_6)] 28 (0,0))) ∧ Aside0 (Below w.heap.size w wc))
   case first =>
    have H := HC9.out
    clear HC9
    by_cases c23 : t324 = 0
    ·rw [if_pos c23] at H
     have c23b0 : (t324 == 0) = true := beq_iff_eq.mpr c23
     have c23b1 : (t324 != 0) = false := bne_eq_false_iff_eq.mpr c23
     clear c23
     (first|rw [c23b0]|(simp only [i64_w,i32_w];rw [c23b0])|skip)
     by_cases c24 : t328 = 0
     ·rw [if_pos c24] at H
      have c24b0 : (t328 == 0) = true := beq_iff_eq.mpr c24
      have c24b1 : (t328 != 0) = false := bne_eq_false_iff_eq.mpr c24
      clear c24
      by_cases c25 : 0 < (t327.length : Int)
      ·rw [if_pos c25] at H
       have c25b0 : decide (0 < (t327.length : Int)) = true := decide_eq_true c25
       have c25b1 : decide (0 < t327.length) = true := decide_eq_true (by omega)
       clear c25
       by_cases c26 : 0 < ((rd_L4 t327 0).length : Int)
       ·rw [if_pos c26] at H
        have c26b0 : decide (0 < ((rd_L4 t327 0).length : Int)) = true := decide_eq_true c26
        have c26b1 : decide (0 < (rd_L4 t327 0).length) = true := decide_eq_true (by omega)
        clear c26
        by_cases c27 : 0 < (t323.length : Int)
        ·rw [if_pos c27] at H
         have c27b0 : decide (0 < (t323.length : Int)) = true := decide_eq_true c27
         have c27b1 : decide (0 < t323.length) = true := decide_eq_true (by omega)
         clear c27
         by_cases c28 : 0 < ((rd_L4 t323 0).length : Int)
         ·rw [if_pos c28] at H
          have c28b0 : decide (0 < ((rd_L4 t323 0).length : Int)) = true := decide_eq_true c28
          have c28b1 : decide (0 < (rd_L4 t323 0).length) = true := decide_eq_true (by omega)
          clear c28
          replace H := Option.bind_eq_some_iff.mp H
          obtain ⟨t335,A290,H⟩ := H
          replace H : (privitylaw43_TapeshiftSharingPrivacy.j0 k a0_0 t323 t327 ((rd (rd_L4 t327 0) 0) != t335) a0_0 a0_1 a0_2 l0_3 a0_4 a0_5 l0_6) = some r := H
          have A29 := Aside0.mk A290
          clear A290
          have H' := Aside0.mk H
          clear H
          try go_wp2
          have n0_ := Aside0.mk (Kd.R_drew HO313.out)
          have n1_ := Aside0.mk (Kd.R_drew HO316.out)
          have n2_ := Aside0.mk (Kd.R_drew HO319.out)
          have n3_ := Aside0.mk (Kd.R_drew HO322.out)
          have n4_ := Aside0.mk (Kd.S_drew HO326.out)
          have n5_ := Aside0.mk (Kd.S_drew HO330.out)
          have n6_ := Aside0.mk (blk_drew BK308.out)
          have n7_ := Aside0.mk (below_drew1 HB.out)
          clear HO313
          clear HO316
          clear HO319
          clear HO322
          clear HO326
          clear HO330
          clear BK308
          clear HB
          have HO313 := n0_
          have HO316 := n1_
          have HO319 := n2_
          have HO322 := n3_
          have HO326 := n4_
          have HO330 := n5_
          have BK308 := n6_
          have HB := n7_
          clear n0_ n1_ n2_ n3_ n4_ n5_ n6_ n7_
          obtain ⟨Ao31,co31,eo31⟩ := Kd.S_slice HO330.out
          (first|subst eo31|(injection eo31 with f1_ f2_ f3_;have f4_ := f1_.symm;have f5_ := f3_.symm;clear f1_ f2_ f3_;subst f4_;subst f5_))
          have p331 : 0 ≤ (0 : Int) := (by omega)
          have q331 : 0 < (t327.length : Int) := of_decide_eq_true (by first|(with_reducible assumption)|assumption)
          obtain ⟨ad331,A331_0,c331_0,e331,hx331_0,hl331_0,hi331_0⟩ := at_L4 (Kd.S_reads' HO330.out).2.2 0 p331 q331
          cases e331
          obtain ⟨ce331,hce331,hMe331,hcc331⟩ := Kd.S_get HO330.out [] 0 p331 (by first|exact q331|exact of_decide_eq_true (by first|(with_reducible assumption)|assumption)|(have e_ := (Kd.S_reads' HO330.out).1;omega))
          obtain ⟨ve331_0,rfl,ge331_0⟩ := hMe331
          have hv331_0 := hcc331 0 _ rfl
          rw [Nat.add_zero,show ((Kd.slice 22 (Kd.int .u64))).sz = 1 from rfl,Nat.mul_one] at hv331_0
          replace hv331_0 := Option.some.inj (hv331_0.symm.trans hx331_0)
          rw [hv331_0] at ge331_0
          have HL331_0 := Aside0.mk (show Kd.R (Kd.int .u64) 22 _ _ _ _ (rd_L4 t327 0) from ge331_0)
          clear hv331_0 ge331_0
          clear hcc331 hce331
          have qi331 : (0 < t327.length) = True := eq_true (by omega)
          (try rw [show ((0 : Int)).toNat = 0 from rfl] at hx331_0)
          (try rw [Addr.add_zero'] at hx331_0)
          have HR331_0 := Aside0.mk hi331_0
          have HC331_0 := Aside0.mk hl331_0
          clear hi331_0 hl331_0
          replace p331 := eq_true p331
          replace q331 := eq_true q331
          have p332 : 0 ≤ (0 : Int) := (by omega)
          have q332 : 0 < ((rd_L4 t327 0).length : Int) := of_decide_eq_true (by first|(with_reducible assumption)|assumption)
          obtain ⟨ad332,e332,hx332_0⟩ := Kd.at_int (by repeat (first|(with_reducible exact HR331_0.out)|(with_reducible refine Kd.C_alloc ?_ _)|(with_reducible refine Kd.C_drewN ?_ _)|(with_reducible refine Kd.C_drew ?_)|exact HR331_0.out)) 0 p332 q332
          cases e332
          have qi332 : (0 < (rd_L4 t327 0).length) = True := eq_true (by omega)
          (try rw [show ((0 : Int)).toNat = 0 from rfl] at hx332_0)
          (try rw [Addr.add_zero'] at hx332_0)
          replace p332 := eq_true p332
          replace q332 := eq_true q332
          obtain ⟨Ao32,co32,eo32⟩ := Kd.S_slice HO326.out
          (first|subst eo32|(injection eo32 with f1_ f2_ f3_;have f4_ := f1_.symm;have f5_ := f3_.symm;clear f1_ f2_ f3_;subst f4_;subst f5_))
          have p333 : 0 ≤ (0 : Int) := (by omega)
          have q333 : 0 < (t323.length : Int) := of_decide_eq_true (by first|(with_reducible assumption)|assumption)
          obtain ⟨ad333,A333_0,c333_0,e333,hx333_0,hl333_0,hi333_0⟩ := at_L4 (Kd.S_reads' HO326.out).2.2 0 p333 q333
          cases e333
          obtain ⟨ce333,hce333,hMe333,hcc333⟩ := Kd.S_get HO326.out [] 0 p333 (by first|exact q333|exact of_decide_eq_true (by first|(with_reducible assumption)|assumption)|(have e_ := (Kd.S_reads' HO326.out).1;omega))
          obtain ⟨ve333_0,rfl,ge333_0⟩ := hMe333
          have hv333_0 := hcc333 0 _ rfl
          rw [Nat.add_zero,show ((Kd.slice 22 (Kd.int .u64))).sz = 1 from rfl,Nat.mul_one] at hv333_0
          replace hv333_0 := Option.some.inj (hv333_0.symm.trans hx333_0)
          rw [hv333_0] at ge333_0
          have HL333_0 := Aside0.mk (show Kd.R (Kd.int .u64) 22 _ _ _ _ (rd_L4 t323 0) from ge333_0)
          clear hv333_0 ge333_0
          clear hcc333 hce333
          have qi333 : (0 < t323.length) = True := eq_true (by omega)
          (try rw [show ((0 : Int)).toNat = 0 from rfl] at hx333_0)
          (try rw [Addr.add_zero'] at hx333_0)
          have HR333_0 := Aside0.mk hi333_0
          have HC333_0 := Aside0.mk hl333_0
          clear hi333_0 hl333_0
          replace p333 := eq_true p333
          replace q333 := eq_true q333
          have p334 : 0 ≤ (0 : Int) := (by omega)
          have q334 : 0 < ((rd_L4 t323 0).length : Int) := of_decide_eq_true (by first|(with_reducible assumption)|assumption)
          obtain ⟨ad334,e334,hx334_0⟩ := Kd.at_int (by repeat (first|(with_reducible exact HR333_0.out)|(with_reducible refine Kd.C_alloc ?_ _)|(with_reducible refine Kd.C_drewN ?_ _)|(with_reducible refine Kd.C_drew ?_)|exact HR333_0.out)) 0 p334 q334
          cases e334
          have qi334 : (0 < (rd_L4 t323 0).length) = True := eq_true (by omega)
          (try rw [show ((0 : Int)).toNat = 0 from rfl] at hx334_0)
          (try rw [Addr.add_zero'] at hx334_0)
          replace p334 := eq_true p334
          replace q334 := eq_true q334
          refine start_ (n := 25) (S := fun w' => w'.cell? ⟨gb308,0,none⟩ = some (.int .u64 a0_0) ∧ w'.cell? ⟨gb308,1,none⟩ = some (.int .i64 a0_1) ∧ w'.cell? ⟨gb308,2,none⟩ = some (.int .i64 a0_2) ∧ w'.cell? ⟨gb308,3,none⟩ = some (.slice A0_3 l0_3.length c0_3) ∧ w'.cell? ⟨gb308,4,none⟩ = some (.int .u64 a0_4) ∧ w'.cell? ⟨gb308,5,none⟩ = some (.int .u64 a0_5) ∧ w'.cell? ⟨gb308,6,none⟩ = some (.slice A0_6 l0_6.length c0_6) ∧ w'.cell? ad331 = some (.slice (some ad332) (rd_L4 t327 0).length c331_0) ∧ w'.cell? ad332 = some (.int .u64 (rd (rd_L4 t327 0) 0)) ∧ w'.cell? ad333 = some (.slice (some ad334) (rd_L4 t323 0).length c333_0) ∧ w'.cell? ad334 = some (.int .u64 (rd (rd_L4 t323 0) 0))) (ds := []) #[false,false,false,false,false,false,false,false,false,false,false,false,false,false,false,false,false,false,false,false,false,false,false,false,false] (by kernel_rfl) rfl rfl ⟨(blk_cell BK308.out 0).trans rfl,(blk_cell BK308.out 1).trans rfl,(blk_cell BK308.out 2).trans rfl,(blk_cell BK308.out 3).trans rfl,(blk_cell BK308.out 4).trans rfl,(blk_cell BK308.out 5).trans rfl,(blk_cell BK308.out 6).trans rfl,hx331_0,hx332_0,hx333_0,hx334_0⟩ (fun hHeld => ?_);refine with_tabW privitylaw43_TapeshiftSharingPrivacy.tab8 privitylaw43_TapeshiftSharingPrivacy.bits8 (fun HT_ HW_ => ?_)
          generalize w22.drew = w30 at HO313 HO316 HO319 HO322 HO326 HO330 BK308 HB HL331_0 HL333_0 HR331_0 HR333_0 hx331_0 hx332_0 hx333_0 hx334_0 hHeld ⊢
          refine pure_ (i := 0) (N := some 51) (v := ?_) (a' := ?_) #[true,false,false,false,false,false,false,false,false,false,false,false,false,false,false,false,false,false,false,false,false,false,false,false,false] rfl rfl (any_of HT_.out (by kernel_rfl)) (fun _ _ _ h => h) (Or.inl ⟨by rfl,?_⟩) ?_ ?_
          rotate_left
          ·intro w'
           go_simp
           with_reducible rfl
          rotate_left
          ·simp only [Act.put,List.setIfInBounds_toArray,List.set_cons_zero,List.set_cons_succ,i64_w,i32_w]
           rfl
          refine pure_ (i := 1) (N := some 52) (v := ?_) (a' := ?_) #[true,true,false,false,false,false,false,false,false,false,false,false,false,false,false,false,false,false,false,false,false,false,false,false,false] rfl rfl (any_of HT_.out (by kernel_rfl)) (fun _ _ _ h => h) (Or.inl ⟨by rfl,?_⟩) ?_ ?_
          rotate_left
          ·intro w'
           go_simp
           with_reducible rfl
          rotate_left
          ·simp only [Act.put,List.setIfInBounds_toArray,List.set_cons_zero,List.set_cons_succ,i64_w,i32_w]
           rfl
          refine pure_ (i := 2) (N := some 53) (v := ?_) (a' := ?_) #[true,true,true,false,false,false,false,false,false,false,false,false,false,false,false,false,false,false,false,false,false,false,false,false,false] rfl rfl (any_of HT_.out (by kernel_rfl)) (fun _ _ _ h => h) (Or.inl ⟨by rfl,?_⟩) ?_ ?_
          rotate_left
          ·intro w'
           go_simp
           with_reducible rfl
          rotate_left
          ·simp only [Act.put,List.setIfInBounds_toArray,List.set_cons_zero,List.set_cons_succ,i64_w,i32_w]
           rfl
          refine pure_ (i := 3) (N := some 54) (v := ?_) (a' := ?_) #[true,true,true,true,false,false,false,false,false,false,false,false,false,false,false,false,false,false,false,false,false,false,false,false,false] rfl rfl (any_of HT_.out (by kernel_rfl)) (fun _ _ _ h => h) (Or.inl ⟨by rfl,?_⟩) ?_ ?_
          rotate_left
          ·intro w'
           go_simp
           with_reducible rfl
          rotate_left
          ·simp only [Act.put,List.setIfInBounds_toArray,List.set_cons_zero,List.set_cons_succ,i64_w,i32_w]
           rfl
          refine pure_ (i := 4) (N := some 55) (v := ?_) (a' := ?_) #[true,true,true,true,true,false,false,false,false,false,false,false,false,false,false,false,false,false,false,false,false,false,false,false,false] rfl rfl (any_of HT_.out (by kernel_rfl)) (fun _ _ _ h => h) (Or.inl ⟨by rfl,?_⟩) ?_ ?_
          rotate_left
          ·intro w'
           go_simp
           with_reducible rfl
          rotate_left
          ·simp only [Act.put,List.setIfInBounds_toArray,List.set_cons_zero,List.set_cons_succ,i64_w,i32_w]
           rfl
          refine pure_ (i := 5) (N := some 56) (v := ?_) (a' := ?_) #[true,true,true,true,true,true,false,false,false,false,false,false,false,false,false,false,false,false,false,false,false,false,false,false,false] rfl rfl (any_of HT_.out (by kernel_rfl)) (fun _ _ _ h => h) (Or.inl ⟨by rfl,?_⟩) ?_ ?_
          rotate_left
          ·intro w'
           go_simp
           with_reducible rfl
          rotate_left
          ·simp only [Act.put,List.setIfInBounds_toArray,List.set_cons_zero,List.set_cons_succ,i64_w,i32_w]
           rfl
          refine pure_ (i := 6) (N := some 57) (v := ?_) (a' := ?_) #[true,true,true,true,true,true,true,false,false,false,false,false,false,false,false,false,false,false,false,false,false,false,false,false,false] rfl rfl (any_of HT_.out (by kernel_rfl)) (fun _ _ _ h => h) (Or.inl ⟨by rfl,?_⟩) ?_ ?_
          rotate_left
          ·intro w'
           go_simp
           with_reducible rfl
          rotate_left
          ·simp only [Act.put,List.setIfInBounds_toArray,List.set_cons_zero,List.set_cons_succ,i64_w,i32_w]
           rfl
          refine pure_ (i := 7) (N := some 58) (v := ?_) (a' := ?_) #[true,true,true,true,true,true,true,true,false,false,false,false,false,false,false,false,false,false,false,false,false,false,false,false,false] rfl rfl (any_of HT_.out (by kernel_rfl)) (fun _ _ _ h => h) (Or.inl ⟨by rfl,?_⟩) ?_ ?_
          rotate_left
          ·intro w'
           go_simp
           with_reducible rfl
          rotate_left
          ·simp only [Act.put,List.setIfInBounds_toArray,List.set_cons_zero,List.set_cons_succ,i64_w,i32_w]
           rfl
          refine pure_ (i := 8) (N := some 59) (v := ?_) (a' := ?_) #[true,true,true,true,true,true,true,true,true,false,false,false,false,false,false,false,false,false,false,false,false,false,false,false,false] rfl rfl (any_of HT_.out (by kernel_rfl)) (fun _ _ _ h => h) (Or.inl ⟨by rfl,?_⟩) ?_ ?_
          rotate_left
          ·intro w'
           go_simp
           with_reducible rfl
          rotate_left
          ·simp only [Act.put,List.setIfInBounds_toArray,List.set_cons_zero,List.set_cons_succ,i64_w,i32_w]
           rfl
          refine pure_ (i := 12) (N := some 63) (v := ?_) (a' := ?_) #[true,true,true,true,true,true,true,true,true,false,false,false,true,false,false,false,false,false,false,false,false,false,false,false,false] rfl rfl (any_of HT_.out (by kernel_rfl)) (fun _ _ _ h => h) (Or.inl ⟨by rfl,?_⟩) ?_ ?_
          rotate_left
          ·intro w'
           go_simp
           with_reducible rfl
          rotate_left
          ·simp only [Act.put,List.setIfInBounds_toArray,List.set_cons_zero,List.set_cons_succ,i64_w,i32_w]
           rfl
          refine pure_ (i := 13) (N := some 64) (v := ?_) (a' := ?_) #[true,true,true,true,true,true,true,true,true,false,false,false,true,true,false,false,false,false,false,false,false,false,false,false,false] rfl rfl (any_of HT_.out (by kernel_rfl)) (fun _ _ _ h => h) (Or.inl ⟨by rfl,?_⟩) ?_ ?_
          rotate_left
          ·intro w'
           go_simp
           with_reducible rfl
          rotate_left
          ·simp only [Act.put,List.setIfInBounds_toArray,List.set_cons_zero,List.set_cons_succ,i64_w,i32_w]
           rfl
          refine pure_ (i := 14) (N := some 65) (v := ?_) (a' := ?_) #[true,true,true,true,true,true,true,true,true,false,false,false,true,true,true,false,false,false,false,false,false,false,false,false,false] rfl rfl (any_of HT_.out (by kernel_rfl)) (fun _ _ _ h => h) (Or.inl ⟨by rfl,?_⟩) ?_ ?_
          rotate_left
          ·intro w'
           go_simp
           with_reducible rfl
          rotate_left
          ·simp only [Act.put,List.setIfInBounds_toArray,List.set_cons_zero,List.set_cons_succ,i64_w,i32_w]
           rfl
          refine pure_ (i := 18) (N := some 69) (v := ?_) (a' := ?_) #[true,true,true,true,true,true,true,true,true,false,false,false,true,true,true,false,false,false,true,false,false,false,false,false,false] rfl rfl (any_of HT_.out (by kernel_rfl)) (fun _ _ _ h => h) (Or.inl ⟨by rfl,?_⟩) ?_ ?_
          rotate_left
          ·intro w'
           go_simp
           with_reducible rfl
          rotate_left
          ·simp only [Act.put,List.setIfInBounds_toArray,List.set_cons_zero,List.set_cons_succ,i64_w,i32_w]
           rfl
          refine pure_ (i := 20) (N := some 71) (v := ?_) (a' := ?_) #[true,true,true,true,true,true,true,true,true,false,false,false,true,true,true,false,false,false,true,false,true,false,false,false,false] rfl rfl (any_of HT_.out (by kernel_rfl)) (fun _ _ _ h => h) (Or.inl ⟨by rfl,?_⟩) ?_ ?_
          rotate_left
          ·intro w'
           go_simp
           with_reducible rfl
          rotate_left
          ·simp only [Act.put,List.setIfInBounds_toArray,List.set_cons_zero,List.set_cons_succ,i64_w,i32_w]
           rfl
          refine take_ (i := 9) (N := some 60) (v := ?_) (a' := ?_) #[true,true,true,true,true,true,true,true,true,true,false,false,true,true,true,false,false,false,true,false,true,false,false,false,false] rfl rfl (take_ofW HT_.out HW_.out (by kernel_rfl)) (fun _ _ _ h => h) (Or.inl ⟨by rfl,?_⟩) hHeld ?_ ?_
          rotate_left
          ·rintro w' ⟨s0,s1,s2,s3,s4,s5,s6,s7,s8,s9,s10⟩
           go_simp
           with_reducible rfl
          rotate_left
          ·simp only [Act.put,List.setIfInBounds_toArray,List.set_cons_zero,List.set_cons_succ,i64_w,i32_w]
           rfl
          refine pure_ (i := 10) (N := some 61) (v := ?_) (a' := ?_) #[true,true,true,true,true,true,true,true,true,true,true,false,true,true,true,false,false,false,true,false,true,false,false,false,false] rfl rfl (any_of HT_.out (by kernel_rfl)) (fun _ _ _ h => h) (Or.inl ⟨by rfl,?_⟩) ?_ ?_
          rotate_left
          ·intro w'
           go_simp
           with_reducible rfl
          rotate_left
          ·simp only [Act.put,List.setIfInBounds_toArray,List.set_cons_zero,List.set_cons_succ,i64_w,i32_w]
           rfl
          refine take_ (i := 11) (N := some 62) (v := ?_) (a' := ?_) #[true,true,true,true,true,true,true,true,true,true,true,true,true,true,true,false,false,false,true,false,true,false,false,false,false] rfl rfl (take_ofW HT_.out HW_.out (by kernel_rfl)) (fun _ _ _ h => h) (Or.inl ⟨by rfl,?_⟩) hHeld ?_ ?_
          rotate_left
          ·rintro w' ⟨s0,s1,s2,s3,s4,s5,s6,s7,s8,s9,s10⟩
           go_simp
           with_reducible rfl
          rotate_left
          ·simp only [Act.put,List.setIfInBounds_toArray,List.set_cons_zero,List.set_cons_succ,i64_w,i32_w]
           rfl
          refine take_ (i := 15) (N := some 66) (v := ?_) (a' := ?_) #[true,true,true,true,true,true,true,true,true,true,true,true,true,true,true,true,false,false,true,false,true,false,false,false,false] rfl rfl (take_ofW HT_.out HW_.out (by kernel_rfl)) (fun _ _ _ h => h) (Or.inl ⟨by rfl,?_⟩) hHeld ?_ ?_
          rotate_left
          ·rintro w' ⟨s0,s1,s2,s3,s4,s5,s6,s7,s8,s9,s10⟩
           go_simp
           with_reducible rfl
          rotate_left
          ·simp only [Act.put,List.setIfInBounds_toArray,List.set_cons_zero,List.set_cons_succ,i64_w,i32_w]
           rfl
          refine pure_ (i := 16) (N := some 67) (v := ?_) (a' := ?_) #[true,true,true,true,true,true,true,true,true,true,true,true,true,true,true,true,true,false,true,false,true,false,false,false,false] rfl rfl (any_of HT_.out (by kernel_rfl)) (fun _ _ _ h => h) (Or.inl ⟨by rfl,?_⟩) ?_ ?_
          rotate_left
          ·intro w'
           go_simp
           with_reducible rfl
          rotate_left
          ·simp only [Act.put,List.setIfInBounds_toArray,List.set_cons_zero,List.set_cons_succ,i64_w,i32_w]
           rfl
          refine take_ (i := 17) (N := some 68) (v := ?_) (a' := ?_) #[true,true,true,true,true,true,true,true,true,true,true,true,true,true,true,true,true,true,true,false,true,false,false,false,false] rfl rfl (take_ofW HT_.out HW_.out (by kernel_rfl)) (fun _ _ _ h => h) (Or.inl ⟨by rfl,?_⟩) hHeld ?_ ?_
          rotate_left
          ·rintro w' ⟨s0,s1,s2,s3,s4,s5,s6,s7,s8,s9,s10⟩
           go_simp
           with_reducible rfl
          rotate_left
          ·simp only [Act.put,List.setIfInBounds_toArray,List.set_cons_zero,List.set_cons_succ,i64_w,i32_w]
           rfl
          refine take_ (i := 19) (N := some 70) (v := ?_) (a' := ?_) #[true,true,true,true,true,true,true,true,true,true,true,true,true,true,true,true,true,true,true,true,true,false,false,false,false] rfl rfl (take_ofW HT_.out HW_.out (by kernel_rfl)) (fun _ _ _ h => h) (Or.inl ⟨by rfl,?_⟩) hHeld ?_ ?_
          rotate_left
          ·rintro w' ⟨s0,s1,s2,s3,s4,s5,s6,s7,s8,s9,s10⟩
           go_simp
           with_reducible rfl
          rotate_left
          ·simp only [Act.put,List.setIfInBounds_toArray,List.set_cons_zero,List.set_cons_succ,i64_w,i32_w]
           rfl
          refine pure_ (i := 21) (N := some 72) (v := ?_) (a' := ?_) #[true,true,true,true,true,true,true,true,true,true,true,true,true,true,true,true,true,true,true,true,true,true,false,false,false] rfl rfl (any_of HT_.out (by kernel_rfl)) (fun _ _ _ h => h) (Or.inl ⟨by rfl,?_⟩) ?_ ?_
          rotate_left
          ·intro w'
           go_simp
           with_reducible rfl
          rotate_left
          ·simp only [Act.put,List.setIfInBounds_toArray,List.set_cons_zero,List.set_cons_succ,i64_w,i32_w]
           rfl
          refine one_ (i := 22) (N := some 73) #[true,true,true,true,true,true,true,true,true,true,true,true,true,true,true,true,true,true,true,true,true,true,true,false,false] rfl rfl (one_of HT_.out (by kernel_rfl)) (by decide) (fun K hK => ?_)
          refine goes_ Try.func17 (by kernel_rfl) rfl #[.int .u64 a0_0,.int .u64 (rd (rd_L4 t323 0) 0),.int .u64 (Int.tmod a0_4 a0_0)] (by rfl) rfl rfl (by (try simp only [List.map_toArray,List.map_cons,List.map_nil]);first|done|rfl|(simp only [List.length_drop,List.length_take];rfl)) ?_
          with_reducible refine (privityref01_Add.calls a0_0 (rd (rd_L4 t323 0) 0) (Int.tmod a0_4 a0_0) t335 _ A29.out).mono ?_
          rintro e w' ⟨rfl,⟨nd,rfl⟩⟩
          refine ⟨_,rfl,?_⟩
          refine hK.out _ _ ⟨(blk_cell BK308.out 0).trans rfl,(blk_cell BK308.out 1).trans rfl,(blk_cell BK308.out 2).trans rfl,(blk_cell BK308.out 3).trans rfl,(blk_cell BK308.out 4).trans rfl,(blk_cell BK308.out 5).trans rfl,(blk_cell BK308.out 6).trans rfl,hHeld.2.2.2.2.2.2.2.1,hHeld.2.2.2.2.2.2.2.2.1,hHeld.2.2.2.2.2.2.2.2.2.1,hHeld.2.2.2.2.2.2.2.2.2.2⟩ (fun hHeld => ?_)
          clear hK K
          refine norm_ (a' := ?_) ?_ ?_
          rotate_left
          ·show Act.put _ (some 73) _ = _
           simp only [Act.put,List.setIfInBounds_toArray,List.set_cons_zero,List.set_cons_succ,i64_w,i32_w]
           rfl
          refine pure_ (i := 23) (N := some 74) (v := ?_) (a' := ?_) #[true,true,true,true,true,true,true,true,true,true,true,true,true,true,true,true,true,true,true,true,true,true,true,true,false] rfl rfl (any_of HT_.out (by kernel_rfl)) (fun _ _ _ h => h) (Or.inl ⟨by rfl,?_⟩) ?_ ?_
          rotate_left
          ·intro w'
           go_simp
           with_reducible rfl
          rotate_left
          ·simp only [Act.put,List.setIfInBounds_toArray,List.set_cons_zero,List.set_cons_succ,i64_w,i32_w]
           rfl
          refine pure_ (i := 24) (N := some 75) (v := ?_) (a' := ?_) #[true,true,true,true,true,true,true,true,true,true,true,true,true,true,true,true,true,true,true,true,true,true,true,true,true] rfl rfl (any_of HT_.out (by kernel_rfl)) (fun _ _ _ h => h) (Or.inl ⟨by rfl,?_⟩) ?_ ?_
          rotate_left
          ·intro w'
           go_simp
           with_reducible rfl
          rotate_left
          ·simp only [Act.put,List.setIfInBounds_toArray,List.set_cons_zero,List.set_cons_succ,i64_w,i32_w]
           rfl
          refine done_ (done_of HT_.out (by kernel_rfl)) ?_
          try go_wp2
          go_meet
          case rel => exact ⟨_,(((rd (rd_L4 t327 0) 0) != t335)),(by first|rfl|(simp;done)|(simp [*];done)),H',⟨by first|omega|exact Nat.le_refl _⟩,⟨by (with_reducible repeat (first|apply Kd.S_alloc|apply Kd.S_drewN|apply Kd.S_drew));exact Kd.S_mono HO326.out (fun _ hk => hk.2)⟩,⟨by (with_reducible repeat (first|apply Kd.S_alloc|apply Kd.S_drewN|apply Kd.S_drew));exact Kd.S_mono HO330.out (fun _ hk => hk.2)⟩,⟨by (with_reducible repeat (first|refine blk_drewN ?_ _|refine blk_drew ?_|refine blk_alloc ?_ _));exact BK308.out⟩,⟨by repeat (first|(with_reducible first|exact HB.out|apply below_alloc|apply pw_below_drewN|apply below_drew1|refine below_set ?_ GE308.out)|exact HB.out)⟩⟩
         ·rw [if_neg c28] at H
          exact absurd H (by simp)
        ·rw [if_neg c27] at H
         exact absurd H (by simp)
       ·rw [if_neg c26] at H
        exact absurd H (by simp)
      ·rw [if_neg c25] at H
       exact absurd H (by simp)
     ·rw [if_neg c24] at H
      have c24b0 : (t328 == 0) = false := beq_eq_false_iff_ne.mpr c24
      have c24b1 : (t328 != 0) = true := bne_iff_ne.mpr c24
      have H' := Aside0.mk H
      clear H
      try go_wp2
      have n0_ := Aside0.mk (Kd.R_drew HO313.out)
      have n1_ := Aside0.mk (Kd.R_drew HO316.out)
      have n2_ := Aside0.mk (Kd.R_drew HO319.out)
      have n3_ := Aside0.mk (Kd.R_drew HO322.out)
      have n4_ := Aside0.mk (Kd.S_drew HO326.out)
      have n5_ := Aside0.mk (Kd.S_drew HO330.out)
      have n6_ := Aside0.mk (blk_drew BK308.out)
      have n7_ := Aside0.mk (below_drew1 HB.out)
      clear HO313
      clear HO316
      clear HO319
      clear HO322
      clear HO326
      clear HO330
      clear BK308
      clear HB
      have HO313 := n0_
      have HO316 := n1_
      have HO319 := n2_
      have HO322 := n3_
      have HO326 := n4_
      have HO330 := n5_
      have BK308 := n6_
      have HB := n7_
      clear n0_ n1_ n2_ n3_ n4_ n5_ n6_ n7_
      refine start_ (n := 25) (S := fun w' => True) (ds := []) #[false,false,false,false,false,false,false,false,false,false,false,false,false,false,false,false,false,false,false,false,false,false,false,false,false] (by kernel_rfl) rfl rfl trivial (fun hHeld => ?_);refine with_tabW privitylaw43_TapeshiftSharingPrivacy.tab8 privitylaw43_TapeshiftSharingPrivacy.bits8 (fun HT_ HW_ => ?_)
      generalize w22.drew = w33 at HO313 HO316 HO319 HO322 HO326 HO330 BK308 HB hHeld ⊢
      refine pure_ (i := 0) (N := some 51) (v := ?_) (a' := ?_) #[true,false,false,false,false,false,false,false,false,false,false,false,false,false,false,false,false,false,false,false,false,false,false,false,false] rfl rfl (any_of HT_.out (by kernel_rfl)) (fun _ _ _ h => h) (Or.inl ⟨by rfl,?_⟩) ?_ ?_
      rotate_left
      ·intro w'
       go_simp
       with_reducible rfl
      rotate_left
      ·simp only [Act.put,List.setIfInBounds_toArray,List.set_cons_zero,List.set_cons_succ,i64_w,i32_w]
       rfl
      refine pure_ (i := 1) (N := some 52) (v := ?_) (a' := ?_) #[true,true,false,false,false,false,false,false,false,false,false,false,false,false,false,false,false,false,false,false,false,false,false,false,false] rfl rfl (any_of HT_.out (by kernel_rfl)) (fun _ _ _ h => h) (Or.inl ⟨by rfl,?_⟩) ?_ ?_
      rotate_left
      ·intro w'
       go_simp
       with_reducible rfl
      rotate_left
      ·simp only [Act.put,List.setIfInBounds_toArray,List.set_cons_zero,List.set_cons_succ,i64_w,i32_w]
       rfl
      refine pure_ (i := 2) (N := some 53) (v := ?_) (a' := ?_) #[true,true,true,false,false,false,false,false,false,false,false,false,false,false,false,false,false,false,false,false,false,false,false,false,false] rfl rfl (any_of HT_.out (by kernel_rfl)) (fun _ _ _ h => h) (Or.inl ⟨by rfl,?_⟩) ?_ ?_
      rotate_left
      ·intro w'
       go_simp
       with_reducible rfl
      rotate_left
      ·simp only [Act.put,List.setIfInBounds_toArray,List.set_cons_zero,List.set_cons_succ,i64_w,i32_w]
       rfl
      refine pure_ (i := 3) (N := some 54) (v := ?_) (a' := ?_) #[true,true,true,true,false,false,false,false,false,false,false,false,false,false,false,false,false,false,false,false,false,false,false,false,false] rfl rfl (any_of HT_.out (by kernel_rfl)) (fun _ _ _ h => h) (Or.inl ⟨by rfl,?_⟩) ?_ ?_
      rotate_left
      ·intro w'
       go_simp
       with_reducible rfl
      rotate_left
      ·simp only [Act.put,List.setIfInBounds_toArray,List.set_cons_zero,List.set_cons_succ,i64_w,i32_w]
       rfl
      refine pure_ (i := 4) (N := some 55) (v := ?_) (a' := ?_) #[true,true,true,true,true,false,false,false,false,false,false,false,false,false,false,false,false,false,false,false,false,false,false,false,false] rfl rfl (any_of HT_.out (by kernel_rfl)) (fun _ _ _ h => h) (Or.inl ⟨by rfl,?_⟩) ?_ ?_
      rotate_left
      ·intro w'
       go_simp
       with_reducible rfl
      rotate_left
      ·simp only [Act.put,List.setIfInBounds_toArray,List.set_cons_zero,List.set_cons_succ,i64_w,i32_w]
       rfl
      refine pure_ (i := 5) (N := some 56) (v := ?_) (a' := ?_) #[true,true,true,true,true,true,false,false,false,false,false,false,false,false,false,false,false,false,false,false,false,false,false,false,false] rfl rfl (any_of HT_.out (by kernel_rfl)) (fun _ _ _ h => h) (Or.inl ⟨by rfl,?_⟩) ?_ ?_
      rotate_left
      ·intro w'
       go_simp
       with_reducible rfl
      rotate_left
      ·simp only [Act.put,List.setIfInBounds_toArray,List.set_cons_zero,List.set_cons_succ,i64_w,i32_w]
       rfl
      refine pure_ (i := 6) (N := some 57) (v := ?_) (a' := ?_) #[true,true,true,true,true,true,true,false,false,false,false,false,false,false,false,false,false,false,false,false,false,false,false,false,false] rfl rfl (any_of HT_.out (by kernel_rfl)) (fun _ _ _ h => h) (Or.inl ⟨by rfl,?_⟩) ?_ ?_
      rotate_left
      ·intro w'
       go_simp
       with_reducible rfl
      rotate_left
      ·simp only [Act.put,List.setIfInBounds_toArray,List.set_cons_zero,List.set_cons_succ,i64_w,i32_w]
       rfl
      refine pure_ (i := 7) (N := some 58) (v := undef) (a' := ?_) #[true,true,true,true,true,true,true,true,false,false,false,false,false,false,false,false,false,false,false,false,false,false,false,false,false] rfl rfl (any_of HT_.out (by kernel_rfl)) (fun _ _ _ h => h) (Or.inr ⟨by rfl,rfl⟩) ?_ ?_
      rotate_left
      ·simp only [Act.put,List.setIfInBounds_toArray,List.set_cons_zero,List.set_cons_succ,i64_w,i32_w]
       rfl
      refine pure_ (i := 8) (N := some 59) (v := undef) (a' := ?_) #[true,true,true,true,true,true,true,true,true,false,false,false,false,false,false,false,false,false,false,false,false,false,false,false,false] rfl rfl (any_of HT_.out (by kernel_rfl)) (fun _ _ _ h => h) (Or.inr ⟨by rfl,rfl⟩) ?_ ?_
      rotate_left
      ·simp only [Act.put,List.setIfInBounds_toArray,List.set_cons_zero,List.set_cons_succ,i64_w,i32_w]
       rfl
      refine pure_ (i := 9) (N := some 60) (v := undef) (a' := ?_) #[true,true,true,true,true,true,true,true,true,true,false,false,false,false,false,false,false,false,false,false,false,false,false,false,false] rfl rfl (any_of HT_.out (by kernel_rfl)) (fun _ _ _ h => h) (Or.inr ⟨by rfl,rfl⟩) ?_ ?_
      rotate_left
      ·simp only [Act.put,List.setIfInBounds_toArray,List.set_cons_zero,List.set_cons_succ,i64_w,i32_w]
       rfl
      refine pure_ (i := 10) (N := some 61) (v := undef) (a' := ?_) #[true,true,true,true,true,true,true,true,true,true,true,false,false,false,false,false,false,false,false,false,false,false,false,false,false] rfl rfl (any_of HT_.out (by kernel_rfl)) (fun _ _ _ h => h) (Or.inr ⟨by rfl,rfl⟩) ?_ ?_
      rotate_left
      ·simp only [Act.put,List.setIfInBounds_toArray,List.set_cons_zero,List.set_cons_succ,i64_w,i32_w]
       rfl
      refine pure_ (i := 11) (N := some 62) (v := undef) (a' := ?_) #[true,true,true,true,true,true,true,true,true,true,true,true,false,false,false,false,false,false,false,false,false,false,false,false,false] rfl rfl (any_of HT_.out (by kernel_rfl)) (fun _ _ _ h => h) (Or.inr ⟨by rfl,rfl⟩) ?_ ?_
      rotate_left
      ·simp only [Act.put,List.setIfInBounds_toArray,List.set_cons_zero,List.set_cons_succ,i64_w,i32_w]
       rfl
      refine pure_ (i := 12) (N := some 63) (v := undef) (a' := ?_) #[true,true,true,true,true,true,true,true,true,true,true,true,true,false,false,false,false,false,false,false,false,false,false,false,false] rfl rfl (any_of HT_.out (by kernel_rfl)) (fun _ _ _ h => h) (Or.inr ⟨by rfl,rfl⟩) ?_ ?_
      rotate_left
      ·simp only [Act.put,List.setIfInBounds_toArray,List.set_cons_zero,List.set_cons_succ,i64_w,i32_w]
       rfl
      refine pure_ (i := 13) (N := some 64) (v := undef) (a' := ?_) #[true,true,true,true,true,true,true,true,true,true,true,true,true,true,false,false,false,false,false,false,false,false,false,false,false] rfl rfl (any_of HT_.out (by kernel_rfl)) (fun _ _ _ h => h) (Or.inr ⟨by rfl,rfl⟩) ?_ ?_
      rotate_left
      ·simp only [Act.put,List.setIfInBounds_toArray,List.set_cons_zero,List.set_cons_succ,i64_w,i32_w]
       rfl
      refine pure_ (i := 14) (N := some 65) (v := undef) (a' := ?_) #[true,true,true,true,true,true,true,true,true,true,true,true,true,true,true,false,false,false,false,false,false,false,false,false,false] rfl rfl (any_of HT_.out (by kernel_rfl)) (fun _ _ _ h => h) (Or.inr ⟨by rfl,rfl⟩) ?_ ?_
      rotate_left
      ·simp only [Act.put,List.setIfInBounds_toArray,List.set_cons_zero,List.set_cons_succ,i64_w,i32_w]
       rfl
      refine pure_ (i := 15) (N := some 66) (v := undef) (a' := ?_) #[true,true,true,true,true,true,true,true,true,true,true,true,true,true,true,true,false,false,false,false,false,false,false,false,false] rfl rfl (any_of HT_.out (by kernel_rfl)) (fun _ _ _ h => h) (Or.inr ⟨by rfl,rfl⟩) ?_ ?_
      rotate_left
      ·simp only [Act.put,List.setIfInBounds_toArray,List.set_cons_zero,List.set_cons_succ,i64_w,i32_w]
       rfl
      refine pure_ (i := 16) (N := some 67) (v := undef) (a' := ?_) #[true,true,true,true,true,true,true,true,true,true,true,true,true,true,true,true,true,false,false,false,false,false,false,false,false] rfl rfl (any_of HT_.out (by kernel_rfl)) (fun _ _ _ h => h) (Or.inr ⟨by rfl,rfl⟩) ?_ ?_
      rotate_left
      ·simp only [Act.put,List.setIfInBounds_toArray,List.set_cons_zero,List.set_cons_succ,i64_w,i32_w]
       rfl
      refine pure_ (i := 17) (N := some 68) (v := undef) (a' := ?_) #[true,true,true,true,true,true,true,true,true,true,true,true,true,true,true,true,true,true,false,false,false,false,false,false,false] rfl rfl (any_of HT_.out (by kernel_rfl)) (fun _ _ _ h => h) (Or.inr ⟨by rfl,rfl⟩) ?_ ?_
      rotate_left
      ·simp only [Act.put,List.setIfInBounds_toArray,List.set_cons_zero,List.set_cons_succ,i64_w,i32_w]
       rfl
      refine pure_ (i := 18) (N := some 69) (v := undef) (a' := ?_) #[true,true,true,true,true,true,true,true,true,true,true,true,true,true,true,true,true,true,true,false,false,false,false,false,false] rfl rfl (any_of HT_.out (by kernel_rfl)) (fun _ _ _ h => h) (Or.inr ⟨by rfl,rfl⟩) ?_ ?_
      rotate_left
      ·simp only [Act.put,List.setIfInBounds_toArray,List.set_cons_zero,List.set_cons_succ,i64_w,i32_w]
       rfl
      refine pure_ (i := 19) (N := some 70) (v := undef) (a' := ?_) #[true,true,true,true,true,true,true,true,true,true,true,true,true,true,true,true,true,true,true,true,false,false,false,false,false] rfl rfl (any_of HT_.out (by kernel_rfl)) (fun _ _ _ h => h) (Or.inr ⟨by rfl,rfl⟩) ?_ ?_
      rotate_left
      ·simp only [Act.put,List.setIfInBounds_toArray,List.set_cons_zero,List.set_cons_succ,i64_w,i32_w]
       rfl
      refine pure_ (i := 20) (N := some 71) (v := undef) (a' := ?_) #[true,true,true,true,true,true,true,true,true,true,true,true,true,true,true,true,true,true,true,true,true,false,false,false,false] rfl rfl (any_of HT_.out (by kernel_rfl)) (fun _ _ _ h => h) (Or.inr ⟨by rfl,rfl⟩) ?_ ?_
      rotate_left
      ·simp only [Act.put,List.setIfInBounds_toArray,List.set_cons_zero,List.set_cons_succ,i64_w,i32_w]
       rfl
      refine pure_ (i := 21) (N := some 72) (v := undef) (a' := ?_) #[true,true,true,true,true,true,true,true,true,true,true,true,true,true,true,true,true,true,true,true,true,true,false,false,false] rfl rfl (any_of HT_.out (by kernel_rfl)) (fun _ _ _ h => h) (Or.inr ⟨by rfl,rfl⟩) ?_ ?_
      rotate_left
      ·simp only [Act.put,List.setIfInBounds_toArray,List.set_cons_zero,List.set_cons_succ,i64_w,i32_w]
       rfl
      refine pure_ (i := 22) (N := some 73) (v := undef) (a' := ?_) #[true,true,true,true,true,true,true,true,true,true,true,true,true,true,true,true,true,true,true,true,true,true,true,false,false] rfl rfl (any_of HT_.out (by kernel_rfl)) (fun _ _ _ h => h) (Or.inr ⟨by rfl,rfl⟩) ?_ ?_
      rotate_left
      ·simp only [Act.put,List.setIfInBounds_toArray,List.set_cons_zero,List.set_cons_succ,i64_w,i32_w]
       rfl
      refine pure_ (i := 23) (N := some 74) (v := undef) (a' := ?_) #[true,true,true,true,true,true,true,true,true,true,true,true,true,true,true,true,true,true,true,true,true,true,true,true,false] rfl rfl (any_of HT_.out (by kernel_rfl)) (fun _ _ _ h => h) (Or.inr ⟨by rfl,rfl⟩) ?_ ?_
      rotate_left
      ·simp only [Act.put,List.setIfInBounds_toArray,List.set_cons_zero,List.set_cons_succ,i64_w,i32_w]
       rfl
      refine pure_ (i := 24) (N := some 75) (v := ?_) (a' := ?_) #[true,true,true,true,true,true,true,true,true,true,true,true,true,true,true,true,true,true,true,true,true,true,true,true,true] rfl rfl (any_of HT_.out (by kernel_rfl)) (fun _ _ _ h => h) (Or.inl ⟨by rfl,?_⟩) ?_ ?_
      rotate_left
      ·intro w'
       go_simp
       with_reducible rfl
      rotate_left
      ·simp only [Act.put,List.setIfInBounds_toArray,List.set_cons_zero,List.set_cons_succ,i64_w,i32_w]
       rfl
      refine done_ (done_of HT_.out (by kernel_rfl)) ?_
      try go_wp2
      go_meet
      case rel => exact ⟨_,(true),(by first|rfl|(simp;done)|(simp [*];done)),H',⟨by first|omega|exact Nat.le_refl _⟩,⟨by (with_reducible repeat (first|apply Kd.S_alloc|apply Kd.S_drewN|apply Kd.S_drew));exact Kd.S_mono HO326.out (fun _ hk => hk.2)⟩,⟨by (with_reducible repeat (first|apply Kd.S_alloc|apply Kd.S_drewN|apply Kd.S_drew));exact Kd.S_mono HO330.out (fun _ hk => hk.2)⟩,⟨by (with_reducible repeat (first|refine blk_drewN ?_ _|refine blk_drew ?_|refine blk_alloc ?_ _));exact BK308.out⟩,⟨by repeat (first|(with_reducible first|exact HB.out|apply below_alloc|apply pw_below_drewN|apply below_drew1|refine below_set ?_ GE308.out)|exact HB.out)⟩⟩
    ·rw [if_neg c23] at H
     have c23b0 : (t324 == 0) = false := beq_eq_false_iff_ne.mpr c23
     have c23b1 : (t324 != 0) = true := bne_iff_ne.mpr c23
     (first|rw [c23b0]|(simp only [i64_w,i32_w];rw [c23b0])|skip)
     have H' := Aside0.mk H
     clear H
     try go_wp2
     have n0_ := Aside0.mk (Kd.R_drew HO313.out)
     have n1_ := Aside0.mk (Kd.R_drew HO316.out)
     have n2_ := Aside0.mk (Kd.R_drew HO319.out)
     have n3_ := Aside0.mk (Kd.R_drew HO322.out)
     have n4_ := Aside0.mk (Kd.S_drew HO326.out)
     have n5_ := Aside0.mk (Kd.S_drew HO330.out)
     have n6_ := Aside0.mk (blk_drew BK308.out)
     have n7_ := Aside0.mk (below_drew1 HB.out)
     clear HO313
     clear HO316
     clear HO319
     clear HO322
     clear HO326
     clear HO330
     clear BK308
     clear HB
     have HO313 := n0_
     have HO316 := n1_
     have HO319 := n2_
     have HO322 := n3_
     have HO326 := n4_
     have HO330 := n5_
     have BK308 := n6_
     have HB := n7_
     clear n0_ n1_ n2_ n3_ n4_ n5_ n6_ n7_
     refine start_ (n := 25) (S := fun w' => True) (ds := []) #[false,false,false,false,false,false,false,false,false,false,false,false,false,false,false,false,false,false,false,false,false,false,false,false,false] (by kernel_rfl) rfl rfl trivial (fun hHeld => ?_);refine with_tabW privitylaw43_TapeshiftSharingPrivacy.tab8 privitylaw43_TapeshiftSharingPrivacy.bits8 (fun HT_ HW_ => ?_)
     generalize w22.drew = w34 at HO313 HO316 HO319 HO322 HO326 HO330 BK308 HB hHeld ⊢
     refine pure_ (i := 0) (N := some 51) (v := ?_) (a' := ?_) #[true,false,false,false,false,false,false,false,false,false,false,false,false,false,false,false,false,false,false,false,false,false,false,false,false] rfl rfl (any_of HT_.out (by kernel_rfl)) (fun _ _ _ h => h) (Or.inl ⟨by rfl,?_⟩) ?_ ?_
     rotate_left
     ·intro w'
      go_simp
      with_reducible rfl
     rotate_left
     ·simp only [Act.put,List.setIfInBounds_toArray,List.set_cons_zero,List.set_cons_succ,i64_w,i32_w]
      rfl
     refine pure_ (i := 1) (N := some 52) (v := ?_) (a' := ?_) #[true,true,false,false,false,false,false,false,false,false,false,false,false,false,false,false,false,false,false,false,false,false,false,false,false] rfl rfl (any_of HT_.out (by kernel_rfl)) (fun _ _ _ h => h) (Or.inl ⟨by rfl,?_⟩) ?_ ?_
     rotate_left
     ·intro w'
      go_simp
      with_reducible rfl
     rotate_left
     ·simp only [Act.put,List.setIfInBounds_toArray,List.set_cons_zero,List.set_cons_succ,i64_w,i32_w]
      rfl
     refine pure_ (i := 2) (N := some 53) (v := ?_) (a' := ?_) #[true,true,true,false,false,false,false,false,false,false,false,false,false,false,false,false,false,false,false,false,false,false,false,false,false] rfl rfl (any_of HT_.out (by kernel_rfl)) (fun _ _ _ h => h) (Or.inl ⟨by rfl,?_⟩) ?_ ?_
     rotate_left
     ·intro w'
      go_simp
      with_reducible rfl
     rotate_left
     ·simp only [Act.put,List.setIfInBounds_toArray,List.set_cons_zero,List.set_cons_succ,i64_w,i32_w]
      rfl
     refine pure_ (i := 3) (N := some 54) (v := undef) (a' := ?_) #[true,true,true,true,false,false,false,false,false,false,false,false,false,false,false,false,false,false,false,false,false,false,false,false,false] rfl rfl (any_of HT_.out (by kernel_rfl)) (fun _ _ _ h => h) (Or.inr ⟨by rfl,rfl⟩) ?_ ?_
     rotate_left
     ·simp only [Act.put,List.setIfInBounds_toArray,List.set_cons_zero,List.set_cons_succ,i64_w,i32_w]
      rfl
     refine pure_ (i := 4) (N := some 55) (v := undef) (a' := ?_) #[true,true,true,true,true,false,false,false,false,false,false,false,false,false,false,false,false,false,false,false,false,false,false,false,false] rfl rfl (any_of HT_.out (by kernel_rfl)) (fun _ _ _ h => h) (Or.inr ⟨by rfl,rfl⟩) ?_ ?_
     rotate_left
     ·simp only [Act.put,List.setIfInBounds_toArray,List.set_cons_zero,List.set_cons_succ,i64_w,i32_w]
      rfl
     refine pure_ (i := 5) (N := some 56) (v := ?_) (a' := ?_) #[true,true,true,true,true,true,false,false,false,false,false,false,false,false,false,false,false,false,false,false,false,false,false,false,false] rfl rfl (any_of HT_.out (by kernel_rfl)) (fun _ _ _ h => h) (Or.inl ⟨by rfl,?_⟩) ?_ ?_
     rotate_left
     ·intro w'
      go_simp
      with_reducible rfl
     rotate_left
     ·simp only [Act.put,List.setIfInBounds_toArray,List.set_cons_zero,List.set_cons_succ,i64_w,i32_w]
      rfl
     refine pure_ (i := 6) (N := some 57) (v := ?_) (a' := ?_) #[true,true,true,true,true,true,true,false,false,false,false,false,false,false,false,false,false,false,false,false,false,false,false,false,false] rfl rfl (any_of HT_.out (by kernel_rfl)) (fun _ _ _ h => h) (Or.inl ⟨by rfl,?_⟩) ?_ ?_
     rotate_left
     ·intro w'
      go_simp
      with_reducible rfl
     rotate_left
     ·simp only [Act.put,List.setIfInBounds_toArray,List.set_cons_zero,List.set_cons_succ,i64_w,i32_w]
      rfl
     refine pure_ (i := 7) (N := some 58) (v := undef) (a' := ?_) #[true,true,true,true,true,true,true,true,false,false,false,false,false,false,false,false,false,false,false,false,false,false,false,false,false] rfl rfl (any_of HT_.out (by kernel_rfl)) (fun _ _ _ h => h) (Or.inr ⟨by rfl,rfl⟩) ?_ ?_
     rotate_left
     ·simp only [Act.put,List.setIfInBounds_toArray,List.set_cons_zero,List.set_cons_succ,i64_w,i32_w]
      rfl
     refine pure_ (i := 8) (N := some 59) (v := undef) (a' := ?_) #[true,true,true,true,true,true,true,true,true,false,false,false,false,false,false,false,false,false,false,false,false,false,false,false,false] rfl rfl (any_of HT_.out (by kernel_rfl)) (fun _ _ _ h => h) (Or.inr ⟨by rfl,rfl⟩) ?_ ?_
     rotate_left
     ·simp only [Act.put,List.setIfInBounds_toArray,List.set_cons_zero,List.set_cons_succ,i64_w,i32_w]
      rfl
     refine pure_ (i := 9) (N := some 60) (v := undef) (a' := ?_) #[true,true,true,true,true,true,true,true,true,true,false,false,false,false,false,false,false,false,false,false,false,false,false,false,false] rfl rfl (any_of HT_.out (by kernel_rfl)) (fun _ _ _ h => h) (Or.inr ⟨by rfl,rfl⟩) ?_ ?_
     rotate_left
     ·simp only [Act.put,List.setIfInBounds_toArray,List.set_cons_zero,List.set_cons_succ,i64_w,i32_w]
      rfl
     refine pure_ (i := 10) (N := some 61) (v := undef) (a' := ?_) #[true,true,true,true,true,true,true,true,true,true,true,false,false,false,false,false,false,false,false,false,false,false,false,false,false] rfl rfl (any_of HT_.out (by kernel_rfl)) (fun _ _ _ h => h) (Or.inr ⟨by rfl,rfl⟩) ?_ ?_
     rotate_left
     ·simp only [Act.put,List.setIfInBounds_toArray,List.set_cons_zero,List.set_cons_succ,i64_w,i32_w]
      rfl
     refine pure_ (i := 11) (N := some 62) (v := undef) (a' := ?_) #[true,true,true,true,true,true,true,true,true,true,true,true,false,false,false,false,false,false,false,false,false,false,false,false,false] rfl rfl (any_of HT_.out (by kernel_rfl)) (fun _ _ _ h => h) (Or.inr ⟨by rfl,rfl⟩) ?_ ?_
     rotate_left
     ·simp only [Act.put,List.setIfInBounds_toArray,List.set_cons_zero,List.set_cons_succ,i64_w,i32_w]
      rfl
     refine pure_ (i := 12) (N := some 63) (v := undef) (a' := ?_) #[true,true,true,true,true,true,true,true,true,true,true,true,true,false,false,false,false,false,false,false,false,false,false,false,false] rfl rfl (any_of HT_.out (by kernel_rfl)) (fun _ _ _ h => h) (Or.inr ⟨by rfl,rfl⟩) ?_ ?_
     rotate_left
     ·simp only [Act.put,List.setIfInBounds_toArray,List.set_cons_zero,List.set_cons_succ,i64_w,i32_w]
      rfl
     refine pure_ (i := 13) (N := some 64) (v := undef) (a' := ?_) #[true,true,true,true,true,true,true,true,true,true,true,true,true,true,false,false,false,false,false,false,false,false,false,false,false] rfl rfl (any_of HT_.out (by kernel_rfl)) (fun _ _ _ h => h) (Or.inr ⟨by rfl,rfl⟩) ?_ ?_
     rotate_left
     ·simp only [Act.put,List.setIfInBounds_toArray,List.set_cons_zero,List.set_cons_succ,i64_w,i32_w]
      rfl
     refine pure_ (i := 14) (N := some 65) (v := undef) (a' := ?_) #[true,true,true,true,true,true,true,true,true,true,true,true,true,true,true,false,false,false,false,false,false,false,false,false,false] rfl rfl (any_of HT_.out (by kernel_rfl)) (fun _ _ _ h => h) (Or.inr ⟨by rfl,rfl⟩) ?_ ?_
     rotate_left
     ·simp only [Act.put,List.setIfInBounds_toArray,List.set_cons_zero,List.set_cons_succ,i64_w,i32_w]
      rfl
     refine pure_ (i := 15) (N := some 66) (v := undef) (a' := ?_) #[true,true,true,true,true,true,true,true,true,true,true,true,true,true,true,true,false,false,false,false,false,false,false,false,false] rfl rfl (any_of HT_.out (by kernel_rfl)) (fun _ _ _ h => h) (Or.inr ⟨by rfl,rfl⟩) ?_ ?_
     rotate_left
     ·simp only [Act.put,List.setIfInBounds_toArray,List.set_cons_zero,List.set_cons_succ,i64_w,i32_w]
      rfl
     refine pure_ (i := 16) (N := some 67) (v := undef) (a' := ?_) #[true,true,true,true,true,true,true,true,true,true,true,true,true,true,true,true,true,false,false,false,false,false,false,false,false] rfl rfl (any_of HT_.out (by kernel_rfl)) (fun _ _ _ h => h) (Or.inr ⟨by rfl,rfl⟩) ?_ ?_
     rotate_left
     ·simp only [Act.put,List.setIfInBounds_toArray,List.set_cons_zero,List.set_cons_succ,i64_w,i32_w]
      rfl
     refine pure_ (i := 17) (N := some 68) (v := undef) (a' := ?_) #[true,true,true,true,true,true,true,true,true,true,true,true,true,true,true,true,true,true,false,false,false,false,false,false,false] rfl rfl (any_of HT_.out (by kernel_rfl)) (fun _ _ _ h => h) (Or.inr ⟨by rfl,rfl⟩) ?_ ?_
     rotate_left
     ·simp only [Act.put,List.setIfInBounds_toArray,List.set_cons_zero,List.set_cons_succ,i64_w,i32_w]
      rfl
     refine pure_ (i := 18) (N := some 69) (v := undef) (a' := ?_) #[true,true,true,true,true,true,true,true,true,true,true,true,true,true,true,true,true,true,true,false,false,false,false,false,false] rfl rfl (any_of HT_.out (by kernel_rfl)) (fun _ _ _ h => h) (Or.inr ⟨by rfl,rfl⟩) ?_ ?_
     rotate_left
     ·simp only [Act.put,List.setIfInBounds_toArray,List.set_cons_zero,List.set_cons_succ,i64_w,i32_w]
      rfl
     refine pure_ (i := 19) (N := some 70) (v := undef) (a' := ?_) #[true,true,true,true,true,true,true,true,true,true,true,true,true,true,true,true,true,true,true,true,false,false,false,false,false] rfl rfl (any_of HT_.out (by kernel_rfl)) (fun _ _ _ h => h) (Or.inr ⟨by rfl,rfl⟩) ?_ ?_
     rotate_left
     ·simp only [Act.put,List.setIfInBounds_toArray,List.set_cons_zero,List.set_cons_succ,i64_w,i32_w]
      rfl
     refine pure_ (i := 20) (N := some 71) (v := undef) (a' := ?_) #[true,true,true,true,true,true,true,true,true,true,true,true,true,true,true,true,true,true,true,true,true,false,false,false,false] rfl rfl (any_of HT_.out (by kernel_rfl)) (fun _ _ _ h => h) (Or.inr ⟨by rfl,rfl⟩) ?_ ?_
     rotate_left
     ·simp only [Act.put,List.setIfInBounds_toArray,List.set_cons_zero,List.set_cons_succ,i64_w,i32_w]
      rfl
     refine pure_ (i := 21) (N := some 72) (v := undef) (a' := ?_) #[true,true,true,true,true,true,true,true,true,true,true,true,true,true,true,true,true,true,true,true,true,true,false,false,false] rfl rfl (any_of HT_.out (by kernel_rfl)) (fun _ _ _ h => h) (Or.inr ⟨by rfl,rfl⟩) ?_ ?_
     rotate_left
     ·simp only [Act.put,List.setIfInBounds_toArray,List.set_cons_zero,List.set_cons_succ,i64_w,i32_w]
      rfl
     refine pure_ (i := 22) (N := some 73) (v := undef) (a' := ?_) #[true,true,true,true,true,true,true,true,true,true,true,true,true,true,true,true,true,true,true,true,true,true,true,false,false] rfl rfl (any_of HT_.out (by kernel_rfl)) (fun _ _ _ h => h) (Or.inr ⟨by rfl,rfl⟩) ?_ ?_
     rotate_left
     ·simp only [Act.put,List.setIfInBounds_toArray,List.set_cons_zero,List.set_cons_succ,i64_w,i32_w]
      rfl
     refine pure_ (i := 23) (N := some 74) (v := undef) (a' := ?_) #[true,true,true,true,true,true,true,true,true,true,true,true,true,true,true,true,true,true,true,true,true,true,true,true,false] rfl rfl (any_of HT_.out (by kernel_rfl)) (fun _ _ _ h => h) (Or.inr ⟨by rfl,rfl⟩) ?_ ?_
     rotate_left
     ·simp only [Act.put,List.setIfInBounds_toArray,List.set_cons_zero,List.set_cons_succ,i64_w,i32_w]
      rfl
     refine pure_ (i := 24) (N := some 75) (v := ?_) (a' := ?_) #[true,true,true,true,true,true,true,true,true,true,true,true,true,true,true,true,true,true,true,true,true,true,true,true,true] rfl rfl (any_of HT_.out (by kernel_rfl)) (fun _ _ _ h => h) (Or.inl ⟨by rfl,?_⟩) ?_ ?_
     rotate_left
     ·intro w'
      go_simp
      with_reducible rfl
     rotate_left
     ·simp only [Act.put,List.setIfInBounds_toArray,List.set_cons_zero,List.set_cons_succ,i64_w,i32_w]
      rfl
     refine done_ (done_of HT_.out (by kernel_rfl)) ?_
     try go_wp2
     go_meet
     case rel => exact ⟨_,(true),(by first|rfl|(simp;done)|(simp [*];done)),H',⟨by first|omega|exact Nat.le_refl _⟩,⟨by (with_reducible repeat (first|apply Kd.S_alloc|apply Kd.S_drewN|apply Kd.S_drew));exact Kd.S_mono HO326.out (fun _ hk => hk.2)⟩,⟨by (with_reducible repeat (first|apply Kd.S_alloc|apply Kd.S_drewN|apply Kd.S_drew));exact Kd.S_mono HO330.out (fun _ hk => hk.2)⟩,⟨by (with_reducible repeat (first|refine blk_drewN ?_ _|refine blk_drew ?_|refine blk_alloc ?_ _));exact BK308.out⟩,⟨by repeat (first|(with_reducible first|exact HB.out|apply below_alloc|apply pw_below_drewN|apply below_drew1|refine below_set ?_ GE308.out)|exact HB.out)⟩⟩
   case rest =>
    clear HC9
    try clear c1
    try clear c2
    try clear p2
    try clear c3
    try clear p3
    try clear q3
    try clear hx3
    try clear qi3
    try clear c17
    try clear c23
    try clear c23b0
    try clear c23b1
    try clear c24
    try clear c24b0
    try clear c24b1
    try clear c25
    try clear c26
    try clear c27
    try clear c28
    try clear c33
    try clear p33
    try clear q33
    try clear hx33
    try clear qi33
    try clear hx331_0
    try clear hx332_0
    try clear hx333_0
    try clear hx334_0
    try clear p331
    try clear p332
    try clear p333
    try clear p334
    try clear q331
    try clear q332
    try clear q333
    try clear q334
    obtain ⟨kq,x75_8,rfl,HA,HJ8,HO_8,HO_10,BK308,HB⟩ := hcut
    cases kq with
    | zero => exact absurd HA.out (by simp [privitylaw43_TapeshiftSharingPrivacy.j0])
    | succ kj8 =>
     have H := HA.out
     clear HA
     simp only [privitylaw43_TapeshiftSharingPrivacy.j0] at H
     by_cases c35 : x75_8 = true
     ·subst c35
      have H1 : (some false) = some r := by rw [if_pos rfl] at H;exact H
      clear H
      have H := H1
      clear H1
      exact absurd (Option.some.inj H) (by rw [HRT_.out];simp)
     ·replace c35 := Bool.eq_false_iff.mpr c35
      subst c35
      have H1 : (privitylaw43_TapeshiftSharingPrivacy.l0 kj8 a0_0 t323 t327 0 a0_0 a0_1 a0_2 l0_3 a0_4 a0_5 l0_6) = some r := by rw [if_neg (show ¬ (false = true) by decide)] at H;exact H
      clear H
      have H := H1
      clear H1
      have H' := Aside0.mk H
      clear H
      go_wp2
      go_loopg [12] kj8 (fun kq v12 w' => ∃ (x12_2 : Int),v12 = .int .i64 x12_2 ∧ Aside0 (privitylaw43_TapeshiftSharingPrivacy.l0 kq a0_0 t323 t327 x12_2 a0_0 a0_1 a0_2 l0_3 a0_4 a0_5 l0_6 = some r) ∧ Aside0 (kq ≤ kj8) ∧ Aside0 (Kd.S (Kd.slice 22 (Kd.int .u64)) 26 w' w.heap.size (fun k_ => some k_ ≠ (v329 : Value).ownBlock) v325 t323) ∧ Aside0 (Kd.S (Kd.slice 22 (Kd.int .u64)) 26 w' w.heap.size (fun k_ => some k_ ≠ (v325 : Value).ownBlock) v329 t327) ∧ Aside0 (w'.heap[gb308]? = some (.cells #[.int .u64 a0_0,.int .i64 a0_1,.int .i64 a0_2,(.slice A0_3 l0_3.length c0_3),.int .u64 a0_4,.int .u64 a0_5,(.slice A0_6 l0_6.length c0_6)] 28 (0,0))) ∧ Aside0 (Below w.heap.size w w'))
      case atStart => exact ⟨(0),(by first|rfl|(simp;done)|(simp [*];done)),H',⟨Nat.le_refl _⟩,⟨by (with_reducible repeat (first|apply Kd.S_alloc|apply Kd.S_drewN|apply Kd.S_drew));exact HO_8.out⟩,⟨by (with_reducible repeat (first|apply Kd.S_alloc|apply Kd.S_drewN|apply Kd.S_drew));exact HO_10.out⟩,⟨by (with_reducible repeat (first|refine blk_drewN ?_ _|refine blk_drew ?_|refine blk_alloc ?_ _));exact BK308.out⟩,⟨by repeat (first|(with_reducible first|exact HB.out|apply below_alloc|apply pw_below_drewN|apply below_drew1|refine below_set ?_ GE308.out)|exact HB.out)⟩⟩
      case round =>
       clear H'
       try clear c1
       try clear c2
       try clear p2
       try clear c3
       try clear p3
       try clear q3
       try clear hx3
       try clear qi3
       try clear c17
       try clear c23
       try clear c23b0
       try clear c23b1
       try clear c24
       try clear c24b0
       try clear c24b1
       try clear c25
       try clear c26
       try clear c27
       try clear c28
       try clear c33
       try clear p33
       try clear q33
       try clear hx33
       try clear qi33
       try clear c35
       try clear hx331_0
       try clear hx332_0
       try clear hx333_0
       try clear hx334_0
       try clear p2
       try clear p3
       try clear p33
       try clear p331
       try clear p332
       try clear p333
       try clear p334
       try clear q3
       try clear q33
       try clear q331
       try clear q332
       try clear q333
       try clear q334
       obtain ⟨x12_2,rfl,HA,HK2,HO_8,HO_10,BK308,HB⟩ := hrel
       cases gk with
       | zero => exact absurd HA.out (by simp [privitylaw43_TapeshiftSharingPrivacy.l0])
       | succ k2 =>
        have H := HA.out
        clear HA
        simp only [privitylaw43_TapeshiftSharingPrivacy.l0] at H
        by_cases c36 : x12_2 < (l0_3.length : Int)
        ·rw [if_pos c36] at H
         have c36b0 : decide (x12_2 < (l0_3.length : Int)) = true := decide_eq_true c36
         clear c36
         by_cases c37 : 0 ≤ x12_2
         ·rw [if_pos c37] at H
          have c37b0 : decide (0 ≤ x12_2) = true := decide_eq_true c37
          clear c37
          replace H := Option.bind_eq_some_iff.mp H
          obtain ⟨t338,A380,H⟩ := H
          replace H : ((privityref10_Row.f k2 a0_0 t327 (IntKind.u64.wrap (rd l0_3 x12_2))).bind fun t342 => ((privityref14_Words.f k2 t338 t342).bind fun t345 => (if t345 = true then (privitylaw43_TapeshiftSharingPrivacy.l0 k2 a0_0 t323 t327 (wrap64 (x12_2 + 1)) a0_0 a0_1 a0_2 l0_3 a0_4 a0_5 l0_6) else (some false)))) = some r := H
          have A38 := Aside0.mk A380
          clear A380
          replace H := Option.bind_eq_some_iff.mp H
          obtain ⟨t342,A390,H⟩ := H
          replace H : ((privityref14_Words.f k2 t338 t342).bind fun t345 => (if t345 = true then (privitylaw43_TapeshiftSharingPrivacy.l0 k2 a0_0 t323 t327 (wrap64 (x12_2 + 1)) a0_0 a0_1 a0_2 l0_3 a0_4 a0_5 l0_6) else (some false))) = some r := H
          have A39 := Aside0.mk A390
          clear A390
          replace H := Option.bind_eq_some_iff.mp H
          obtain ⟨t345,A400,H⟩ := H
          replace H : (if t345 = true then (privitylaw43_TapeshiftSharingPrivacy.l0 k2 a0_0 t323 t327 (wrap64 (x12_2 + 1)) a0_0 a0_1 a0_2 l0_3 a0_4 a0_5 l0_6) else (some false)) = some r := H
          have A40 := Aside0.mk A400
          clear A400
          by_cases c41 : t345 = true
          ·subst c41
           have H1 : (privitylaw43_TapeshiftSharingPrivacy.l0 k2 a0_0 t323 t327 (wrap64 (x12_2 + 1)) a0_0 a0_1 a0_2 l0_3 a0_4 a0_5 l0_6) = some r := by rw [if_pos rfl] at H;exact H
           clear H
           have H := H1
           clear H1
           have H' := Aside0.mk H
           clear H
           have hcz42_0 : wr.cell? ⟨gb308,0,none⟩ = some (.int .u64 a0_0) := (blk_cell BK308.out 0).trans rfl
           have hcz42_1 : wr.cell? ⟨gb308,1,none⟩ = some (.int .i64 a0_1) := (blk_cell BK308.out 1).trans rfl
           have hcz42_2 : wr.cell? ⟨gb308,2,none⟩ = some (.int .i64 a0_2) := (blk_cell BK308.out 2).trans rfl
           have hcz42_3 : wr.cell? ⟨gb308,3,none⟩ = some (.slice A0_3 l0_3.length c0_3) := (blk_cell BK308.out 3).trans rfl
           have hcz42_4 : wr.cell? ⟨gb308,4,none⟩ = some (.int .u64 a0_4) := (blk_cell BK308.out 4).trans rfl
           have hcz42_5 : wr.cell? ⟨gb308,5,none⟩ = some (.int .u64 a0_5) := (blk_cell BK308.out 5).trans rfl
           have hcz42_6 : wr.cell? ⟨gb308,6,none⟩ = some (.slice A0_6 l0_6.length c0_6) := (blk_cell BK308.out 6).trans rfl
           have hfz42_0 := blk_frozen BK308.out 0
           have hfz42_1 := blk_frozen BK308.out 1
           have hfz42_2 := blk_frozen BK308.out 2
           have hfz42_3 := blk_frozen BK308.out 3
           have hfz42_4 := blk_frozen BK308.out 4
           have hfz42_5 := blk_frozen BK308.out 5
           have hfz42_6 := blk_frozen BK308.out 6
           try go_wp2
           have n0_ := Aside0.mk (Kd.S_drew HO_8.out)
           have n1_ := Aside0.mk (Kd.S_drew HO_10.out)
           have n2_ := Aside0.mk (blk_drew BK308.out)
           have n3_ := Aside0.mk (below_drew1 HB.out)
           clear HO_8
           clear HO_10
           clear BK308
           clear HB
           have HO_8 := n0_
           have HO_10 := n1_
           have BK308 := n2_
           have HB := n3_
           clear n0_ n1_ n2_ n3_
           have p337 : 0 ≤ (x12_2 : Int) := of_decide_eq_true (by first|(with_reducible assumption)|assumption)
           have q337 : x12_2 < (l0_3.length : Int) := of_decide_eq_true (by first|(with_reducible assumption)|assumption)
           obtain ⟨ad337,e337,hx337_0⟩ := Kd.at_int HR0_3.out x12_2 p337 q337
           have hw337_0 := hx337_0
           cases e337
           replace hx337_0 := (HB.out.cell (World.block_lt_of_cell? w _ hx337_0)).trans hx337_0
           replace p337 := eq_true p337
           replace q337 := eq_true q337
           have p341 : 0 ≤ (x12_2 : Int) := of_decide_eq_true (by first|(with_reducible assumption)|assumption)
           have q341 : x12_2 < (l0_3.length : Int) := of_decide_eq_true (by first|(with_reducible assumption)|assumption)
           obtain ⟨ad341,e341,hx341_0⟩ := Kd.at_int HR0_3.out x12_2 p341 q341
           have hw341_0 := hx341_0
           obtain rfl : ad337 = ad341 := (by injection e341)
           replace hx341_0 := (HB.out.cell (World.block_lt_of_cell? w _ hx341_0)).trans hx341_0
           replace p341 := eq_true p341
           replace q341 := eq_true q341
           obtain ⟨Ao44,co44,eo44⟩ := Kd.S_slice HO_8.out
           (first|subst eo44|(injection eo44 with f1_ f2_ f3_;have f4_ := f1_.symm;have f5_ := f3_.symm;clear f1_ f2_ f3_;subst f4_;subst f5_))
           refine start_ (n := 20) (S := fun w' => w'.cell? ⟨gb308,0,none⟩ = some (.int .u64 a0_0) ∧ w'.cell? ⟨gb308,1,none⟩ = some (.int .i64 a0_1) ∧ w'.cell? ⟨gb308,2,none⟩ = some (.int .i64 a0_2) ∧ w'.cell? ⟨gb308,3,none⟩ = some (.slice (some ad337) l0_3.length c0_3) ∧ w'.cell? ⟨gb308,4,none⟩ = some (.int .u64 a0_4) ∧ w'.cell? ⟨gb308,5,none⟩ = some (.int .u64 a0_5) ∧ w'.cell? ⟨gb308,6,none⟩ = some (.slice A0_6 l0_6.length c0_6) ∧ w'.cell? (ad337.add (x12_2).toNat) = some (.int .i64 (rd l0_3 x12_2)) ∧ w'.cell? (ad337.add (x12_2).toNat) = some (.int .i64 (rd l0_3 x12_2))) (ds := []) #[false,false,false,false,false,false,false,false,false,false,false,false,false,false,false,false,false,false,false,false] (by kernel_rfl) rfl rfl ⟨(blk_cell BK308.out 0).trans rfl,(blk_cell BK308.out 1).trans rfl,(blk_cell BK308.out 2).trans rfl,(blk_cell BK308.out 3).trans rfl,(blk_cell BK308.out 4).trans rfl,(blk_cell BK308.out 5).trans rfl,(blk_cell BK308.out 6).trans rfl,((HB.out.cell (World.block_lt_of_cell? w _ hw337_0)).trans hw337_0),((HB.out.cell (World.block_lt_of_cell? w _ hw341_0)).trans hw341_0)⟩ (fun hHeld => ?_);refine with_tabW privitylaw43_TapeshiftSharingPrivacy.tab13 privitylaw43_TapeshiftSharingPrivacy.bits13 (fun HT_ HW_ => ?_)
           generalize wr.drew = w43 at HO_8 HO_10 BK308 HB hx337_0 hx341_0 hHeld ⊢
           refine pure_ (i := 0) (N := some 83) (v := ?_) (a' := ?_) #[true,false,false,false,false,false,false,false,false,false,false,false,false,false,false,false,false,false,false,false] rfl rfl (any_of HT_.out (by kernel_rfl)) (fun _ _ _ h => h) (Or.inl ⟨by rfl,?_⟩) ?_ ?_
           rotate_left
           ·intro w'
            go_simp
            with_reducible rfl
           rotate_left
           ·simp only [Act.put,List.setIfInBounds_toArray,List.set_cons_zero,List.set_cons_succ,i64_w,i32_w]
            rfl
           refine pure_ (i := 1) (N := some 84) (v := ?_) (a' := ?_) #[true,true,false,false,false,false,false,false,false,false,false,false,false,false,false,false,false,false,false,false] rfl rfl (any_of HT_.out (by kernel_rfl)) (fun _ _ _ h => h) (Or.inl ⟨by rfl,?_⟩) ?_ ?_
           rotate_left
           ·intro w'
            go_simp
            with_reducible rfl
           rotate_left
           ·simp only [Act.put,List.setIfInBounds_toArray,List.set_cons_zero,List.set_cons_succ,i64_w,i32_w]
            rfl
           refine pure_ (i := 2) (N := some 85) (v := ?_) (a' := ?_) #[true,true,true,false,false,false,false,false,false,false,false,false,false,false,false,false,false,false,false,false] rfl rfl (any_of HT_.out (by kernel_rfl)) (fun _ _ _ h => h) (Or.inl ⟨by rfl,?_⟩) ?_ ?_
           rotate_left
           ·intro w'
            go_simp
            with_reducible rfl
           rotate_left
           ·simp only [Act.put,List.setIfInBounds_toArray,List.set_cons_zero,List.set_cons_succ,i64_w,i32_w]
            rfl
           refine pure_ (i := 4) (N := some 87) (v := ?_) (a' := ?_) #[true,true,true,false,true,false,false,false,false,false,false,false,false,false,false,false,false,false,false,false] rfl rfl (any_of HT_.out (by kernel_rfl)) (fun _ _ _ h => h) (Or.inl ⟨by rfl,?_⟩) ?_ ?_
           rotate_left
           ·intro w'
            go_simp
            with_reducible rfl
           rotate_left
           ·simp only [Act.put,List.setIfInBounds_toArray,List.set_cons_zero,List.set_cons_succ,i64_w,i32_w]
            rfl
           refine pure_ (i := 9) (N := some 92) (v := ?_) (a' := ?_) #[true,true,true,false,true,false,false,false,false,true,false,false,false,false,false,false,false,false,false,false] rfl rfl (any_of HT_.out (by kernel_rfl)) (fun _ _ _ h => h) (Or.inl ⟨by rfl,?_⟩) ?_ ?_
           rotate_left
           ·intro w'
            go_simp
            with_reducible rfl
           rotate_left
           ·simp only [Act.put,List.setIfInBounds_toArray,List.set_cons_zero,List.set_cons_succ,i64_w,i32_w]
            rfl
           refine pure_ (i := 10) (N := some 93) (v := ?_) (a' := ?_) #[true,true,true,false,true,false,false,false,false,true,true,false,false,false,false,false,false,false,false,false] rfl rfl (any_of HT_.out (by kernel_rfl)) (fun _ _ _ h => h) (Or.inl ⟨by rfl,?_⟩) ?_ ?_
           rotate_left
           ·intro w'
            go_simp
            with_reducible rfl
           rotate_left
           ·simp only [Act.put,List.setIfInBounds_toArray,List.set_cons_zero,List.set_cons_succ,i64_w,i32_w]
            rfl
           refine pure_ (i := 11) (N := some 94) (v := ?_) (a' := ?_) #[true,true,true,false,true,false,false,false,false,true,true,true,false,false,false,false,false,false,false,false] rfl rfl (any_of HT_.out (by kernel_rfl)) (fun _ _ _ h => h) (Or.inl ⟨by rfl,?_⟩) ?_ ?_
           rotate_left
           ·intro w'
            go_simp
            with_reducible rfl
           rotate_left
           ·simp only [Act.put,List.setIfInBounds_toArray,List.set_cons_zero,List.set_cons_succ,i64_w,i32_w]
            rfl
           refine pure_ (i := 13) (N := some 96) (v := ?_) (a' := ?_) #[true,true,true,false,true,false,false,false,false,true,true,true,false,true,false,false,false,false,false,false] rfl rfl (any_of HT_.out (by kernel_rfl)) (fun _ _ _ h => h) (Or.inl ⟨by rfl,?_⟩) ?_ ?_
           rotate_left
           ·intro w'
            go_simp
            with_reducible rfl
           rotate_left
           ·simp only [Act.put,List.setIfInBounds_toArray,List.set_cons_zero,List.set_cons_succ,i64_w,i32_w]
            rfl
           refine take_ (i := 3) (N := some 86) (v := ?_) (a' := ?_) #[true,true,true,true,true,false,false,false,false,true,true,true,false,true,false,false,false,false,false,false] rfl rfl (take_ofW HT_.out HW_.out (by kernel_rfl)) (fun _ _ _ h => h) (Or.inl ⟨by rfl,?_⟩) hHeld ?_ ?_
           rotate_left
           ·rintro w' ⟨s0,s1,s2,s3,s4,s5,s6,s7,s8⟩
            go_simp
            with_reducible rfl
           rotate_left
           ·simp only [Act.put,List.setIfInBounds_toArray,List.set_cons_zero,List.set_cons_succ,i64_w,i32_w]
            rfl
           refine pure_ (i := 5) (N := some 88) (v := ?_) (a' := ?_) #[true,true,true,true,true,true,false,false,false,true,true,true,false,true,false,false,false,false,false,false] rfl rfl (any_of HT_.out (by kernel_rfl)) (fun _ _ _ h => h) (Or.inl ⟨by rfl,?_⟩) ?_ ?_
           rotate_left
           ·intro w'
            go_simp
            with_reducible rfl
           rotate_left
           ·simp only [Act.put,List.setIfInBounds_toArray,List.set_cons_zero,List.set_cons_succ,i64_w,i32_w]
            rfl
           refine take_ (i := 6) (N := some 89) (v := ?_) (a' := ?_) #[true,true,true,true,true,true,true,false,false,true,true,true,false,true,false,false,false,false,false,false] rfl rfl (take_ofW HT_.out HW_.out (by kernel_rfl)) (fun _ _ _ h => h) (Or.inl ⟨by rfl,?_⟩) hHeld ?_ ?_
           rotate_left
           ·rintro w' ⟨s0,s1,s2,s3,s4,s5,s6,s7,s8⟩
            go_simp
            with_reducible rfl
           rotate_left
           ·simp only [Act.put,List.setIfInBounds_toArray,List.set_cons_zero,List.set_cons_succ,i64_w,i32_w]
            rfl
           refine pure_ (i := 7) (N := some 90) (v := ?_) (a' := ?_) #[true,true,true,true,true,true,true,true,false,true,true,true,false,true,false,false,false,false,false,false] rfl rfl (any_of HT_.out (by kernel_rfl)) (fun _ _ _ h => h) (Or.inl ⟨by rfl,?_⟩) ?_ ?_
           rotate_left
           ·intro w'
            go_simp
            with_reducible rfl
           rotate_left
           ·simp only [Act.put,List.setIfInBounds_toArray,List.set_cons_zero,List.set_cons_succ,i64_w,i32_w]
            rfl
           refine take_ (i := 12) (N := some 95) (v := ?_) (a' := ?_) #[true,true,true,true,true,true,true,true,false,true,true,true,true,true,false,false,false,false,false,false] rfl rfl (take_ofW HT_.out HW_.out (by kernel_rfl)) (fun _ _ _ h => h) (Or.inl ⟨by rfl,?_⟩) hHeld ?_ ?_
           rotate_left
           ·rintro w' ⟨s0,s1,s2,s3,s4,s5,s6,s7,s8⟩
            go_simp
            with_reducible rfl
           rotate_left
           ·simp only [Act.put,List.setIfInBounds_toArray,List.set_cons_zero,List.set_cons_succ,i64_w,i32_w]
            rfl
           refine pure_ (i := 14) (N := some 97) (v := ?_) (a' := ?_) #[true,true,true,true,true,true,true,true,false,true,true,true,true,true,true,false,false,false,false,false] rfl rfl (any_of HT_.out (by kernel_rfl)) (fun _ _ _ h => h) (Or.inl ⟨by rfl,?_⟩) ?_ ?_
           rotate_left
           ·intro w'
            go_simp
            with_reducible rfl
           rotate_left
           ·simp only [Act.put,List.setIfInBounds_toArray,List.set_cons_zero,List.set_cons_succ,i64_w,i32_w]
            rfl
           refine take_ (i := 15) (N := some 98) (v := ?_) (a' := ?_) #[true,true,true,true,true,true,true,true,false,true,true,true,true,true,true,true,false,false,false,false] rfl rfl (take_ofW HT_.out HW_.out (by kernel_rfl)) (fun _ _ _ h => h) (Or.inl ⟨by rfl,?_⟩) hHeld ?_ ?_
           rotate_left
           ·rintro w' ⟨s0,s1,s2,s3,s4,s5,s6,s7,s8⟩
            go_simp
            with_reducible rfl
           rotate_left
           ·simp only [Act.put,List.setIfInBounds_toArray,List.set_cons_zero,List.set_cons_succ,i64_w,i32_w]
            rfl
           refine pure_ (i := 16) (N := some 99) (v := ?_) (a' := ?_) #[true,true,true,true,true,true,true,true,false,true,true,true,true,true,true,true,true,false,false,false] rfl rfl (any_of HT_.out (by kernel_rfl)) (fun _ _ _ h => h) (Or.inl ⟨by rfl,?_⟩) ?_ ?_
           rotate_left
           ·intro w'
            go_simp
            with_reducible rfl
           rotate_left
           ·simp only [Act.put,List.setIfInBounds_toArray,List.set_cons_zero,List.set_cons_succ,i64_w,i32_w]
            rfl
           refine one_ (i := 8) (N := some 91) #[true,true,true,true,true,true,true,true,true,true,true,true,true,true,true,true,true,false,false,false] rfl rfl (one_of HT_.out (by kernel_rfl)) (by decide) (fun K hK => ?_)
           refine goes_ Try.func19 (by kernel_rfl) rfl #[.int .u64 a0_0,.slice Ao44 t323.length co44,.int .u64 (IntKind.u64.wrap (rd l0_3 x12_2))] (by rfl) rfl rfl (by (try simp only [List.map_toArray,List.map_cons,List.map_nil]);first|done|rfl|(simp only [List.length_drop,List.length_take];rfl)) ?_
           with_reducible refine (privityref10_Row.calls k2 a0_0 _ _ t323 (IntKind.u64.wrap (rd l0_3 x12_2)) t338 _ ?side1 ?side2 A38.out).mono ?_
           (case side1 => repeat (first|exact (Kd.S_reads' HO_8.out).2.2|(with_reducible refine Kd.C_alloc ?_ _)|(with_reducible refine Kd.C_drewN ?_ _)|(with_reducible refine Kd.C_drew ?_)))
           (case side2 => exact (Kd.S_reads' HO_8.out).2.1)
           rintro e w45 ⟨v339,rfl,ho0,hb⟩
           refine ⟨_,rfl,?_⟩
           have n0_ := Aside0.mk (Kd.S_elder' (by (with_reducible repeat (first|apply Kd.S_alloc|apply Kd.S_drewN|apply Kd.S_drew));exact HO_8.out) (Kd.R_base ho0) hb)
           have n1_ := Aside0.mk (Kd.S_elder' (by (with_reducible repeat (first|apply Kd.S_alloc|apply Kd.S_drewN|apply Kd.S_drew));exact HO_10.out) (Kd.R_base ho0) hb)
           have n2_ := Aside0.mk (Kd.R_lower ho0 (below_size (by repeat (first|(with_reducible first|exact HB.out|apply below_alloc|apply pw_below_drewN|apply below_drew1|refine below_set ?_ GE308.out)|exact HB.out))))
           have n3_ := Aside0.mk (blk_below (g := gb308) (o := .cells #[.int .u64 a0_0,.int .i64 a0_1,.int .i64 a0_2,.slice (some ad337) l0_3.length c0_3,.int .u64 a0_4,.int .u64 a0_5,.slice A0_6 l0_6.length c0_6] 28 (0,0)) (by (with_reducible repeat (first|refine blk_drewN ?_ _|refine blk_drew ?_|refine blk_alloc ?_ _));exact BK308.out) hb)
           have n4_ := Aside0.mk (below_step (by repeat (first|(with_reducible first|exact HB.out|apply below_alloc|apply pw_below_drewN|apply below_drew1|refine below_set ?_ GE308.out)|exact HB.out)) hb)
           clear HO_8
           clear HO_10
           clear BK308
           clear HB
           have HO_8 := n0_
           have HO_10 := n1_
           have HO340 := n2_
           have BK308 := n3_
           have HB := n4_
           clear n0_ n1_ n2_ n3_ n4_
           (try clear hb)
           (try clear hb2)
           (try clear hk)
           (try clear hi)
           (try clear ho0)
           obtain ⟨Ao46,co46,eo46⟩ := Kd.S_slice HO_10.out
           (first|subst eo46|(injection eo46 with f1_ f2_ f3_;have f4_ := f1_.symm;have f5_ := f3_.symm;clear f1_ f2_ f3_;subst f4_;subst f5_))
           refine hK.out _ _ ⟨(blk_cell BK308.out 0).trans rfl,(blk_cell BK308.out 1).trans rfl,(blk_cell BK308.out 2).trans rfl,(blk_cell BK308.out 3).trans rfl,(blk_cell BK308.out 4).trans rfl,(blk_cell BK308.out 5).trans rfl,(blk_cell BK308.out 6).trans rfl,((HB.out.cell (World.block_lt_of_cell? w _ hw337_0)).trans hw337_0),((HB.out.cell (World.block_lt_of_cell? w _ hw341_0)).trans hw341_0)⟩ (fun hHeld => ?_)
           clear hK K
           refine norm_ (a' := ?_) ?_ ?_
           rotate_left
           ·show Act.put _ (some 91) _ = _
            simp only [Act.put,List.setIfInBounds_toArray,List.set_cons_zero,List.set_cons_succ,i64_w,i32_w]
            rfl
           refine one_ (i := 17) (N := some 100) #[true,true,true,true,true,true,true,true,true,true,true,true,true,true,true,true,true,true,false,false] rfl rfl (one_of HT_.out (by kernel_rfl)) (by decide) (fun K hK => ?_)
           refine goes_ Try.func19 (by kernel_rfl) rfl #[.int .u64 a0_0,.slice Ao46 t327.length co46,.int .u64 (IntKind.u64.wrap (rd l0_3 x12_2))] (by rfl) rfl rfl (by (try simp only [List.map_toArray,List.map_cons,List.map_nil]);first|done|rfl|(simp only [List.length_drop,List.length_take];rfl)) ?_
           with_reducible refine (privityref10_Row.calls k2 a0_0 _ _ t327 (IntKind.u64.wrap (rd l0_3 x12_2)) t342 _ ?side1 ?side2 A39.out).mono ?_
           (case side1 => repeat (first|exact (Kd.S_reads' HO_10.out).2.2|(with_reducible refine Kd.C_alloc ?_ _)|(with_reducible refine Kd.C_drewN ?_ _)|(with_reducible refine Kd.C_drew ?_)))
           (case side2 => exact (Kd.S_reads' HO_10.out).2.1)
           rintro e w47 ⟨v343,rfl,ho0,hb⟩
           refine ⟨_,rfl,?_⟩
           have n0_ := Aside0.mk (Kd.S_elder' (by (with_reducible repeat (first|apply Kd.S_alloc|apply Kd.S_drewN|apply Kd.S_drew));exact HO_8.out) (Kd.R_base ho0) hb)
           have n1_ := Aside0.mk (Kd.S_elder' (by (with_reducible repeat (first|apply Kd.S_alloc|apply Kd.S_drewN|apply Kd.S_drew));exact HO_10.out) (Kd.R_base ho0) hb)
           have n2_ := Aside0.mk (Kd.R_elder' (by (with_reducible repeat (first|apply Kd.R_alloc|apply Kd.R_drewN|apply Kd.R_drew));exact HO340.out) (Kd.R_base ho0) hb)
           have n3_ := Aside0.mk (Kd.R_lower (Kd.R_new' ho0 (Kd.R_lt (by (with_reducible repeat (first|apply Kd.R_alloc|apply Kd.R_drewN|apply Kd.R_drew));exact HO340.out))) (below_size (by repeat (first|(with_reducible first|exact HB.out|apply below_alloc|apply pw_below_drewN|apply below_drew1|refine below_set ?_ GE308.out)|exact HB.out))))
           have n4_ := Aside0.mk (blk_below (g := gb308) (o := .cells #[.int .u64 a0_0,.int .i64 a0_1,.int .i64 a0_2,.slice (some ad337) l0_3.length c0_3,.int .u64 a0_4,.int .u64 a0_5,.slice A0_6 l0_6.length c0_6] 28 (0,0)) (by (with_reducible repeat (first|refine blk_drewN ?_ _|refine blk_drew ?_|refine blk_alloc ?_ _));exact BK308.out) hb)
           have n5_ := Aside0.mk (below_step (by repeat (first|(with_reducible first|exact HB.out|apply below_alloc|apply pw_below_drewN|apply below_drew1|refine below_set ?_ GE308.out)|exact HB.out)) hb)
           clear HO_8
           clear HO_10
           clear HO340
           clear BK308
           clear HB
           have HO_8 := n0_
           have HO_10 := n1_
           have HO340 := n2_
           have HO344 := n3_
           have BK308 := n4_
           have HB := n5_
           clear n0_ n1_ n2_ n3_ n4_ n5_
           (try clear hb)
           (try clear hb2)
           (try clear hk)
           (try clear hi)
           (try clear ho0)
           obtain ⟨Ao48,co48,eo48⟩ := Kd.R_slice HO340.out
           (first|subst eo48|(injection eo48 with f1_ f2_ f3_;have f4_ := f1_.symm;have f5_ := f3_.symm;clear f1_ f2_ f3_;subst f4_;subst f5_))
           obtain ⟨Ao49,co49,eo49⟩ := Kd.R_slice HO344.out
           (first|subst eo49|(injection eo49 with f1_ f2_ f3_;have f4_ := f1_.symm;have f5_ := f3_.symm;clear f1_ f2_ f3_;subst f4_;subst f5_))
           refine hK.out _ _ ⟨(blk_cell BK308.out 0).trans rfl,(blk_cell BK308.out 1).trans rfl,(blk_cell BK308.out 2).trans rfl,(blk_cell BK308.out 3).trans rfl,(blk_cell BK308.out 4).trans rfl,(blk_cell BK308.out 5).trans rfl,(blk_cell BK308.out 6).trans rfl,((HB.out.cell (World.block_lt_of_cell? w _ hw337_0)).trans hw337_0),((HB.out.cell (World.block_lt_of_cell? w _ hw341_0)).trans hw341_0)⟩ (fun hHeld => ?_)
           clear hK K
           refine norm_ (a' := ?_) ?_ ?_
           rotate_left
           ·show Act.put _ (some 100) _ = _
            simp only [Act.put,List.setIfInBounds_toArray,List.set_cons_zero,List.set_cons_succ,i64_w,i32_w]
            rfl
           refine one_ (i := 18) (N := some 101) #[true,true,true,true,true,true,true,true,true,true,true,true,true,true,true,true,true,true,true,false] rfl rfl (one_of HT_.out (by kernel_rfl)) (by decide) (fun K hK => ?_)
           refine goes_ Try.func18 (by kernel_rfl) rfl #[.slice Ao48 t338.length co48,.slice Ao49 t342.length co49] (by rfl) rfl rfl (by (try simp only [List.map_toArray,List.map_cons,List.map_nil]);first|done|rfl|(simp only [List.length_drop,List.length_take];rfl)) ?_
           with_reducible refine (privityref14_Words.calls k2 _ _ t338 _ _ t342 true _ ?side1 ?side2 ?side3 ?side4 A40.out).mono ?_
           (case side1 => repeat (first|exact (Kd.R_reads' HO340.out).2.2|(with_reducible refine Kd.C_alloc ?_ _)|(with_reducible refine Kd.C_drewN ?_ _)|(with_reducible refine Kd.C_drew ?_)))
           (case side2 => exact (Kd.R_reads' HO340.out).2.1)
           (case side3 => repeat (first|exact (Kd.R_reads' HO344.out).2.2|(with_reducible refine Kd.C_alloc ?_ _)|(with_reducible refine Kd.C_drewN ?_ _)|(with_reducible refine Kd.C_drew ?_)))
           (case side4 => exact (Kd.R_reads' HO344.out).2.1)
           rintro e w' ⟨rfl,⟨nd,rfl⟩⟩
           refine ⟨_,rfl,?_⟩
           refine hK.out _ _ ⟨(blk_cell BK308.out 0).trans rfl,(blk_cell BK308.out 1).trans rfl,(blk_cell BK308.out 2).trans rfl,(blk_cell BK308.out 3).trans rfl,(blk_cell BK308.out 4).trans rfl,(blk_cell BK308.out 5).trans rfl,(blk_cell BK308.out 6).trans rfl,((HB.out.cell (World.block_lt_of_cell? w _ hw337_0)).trans hw337_0),((HB.out.cell (World.block_lt_of_cell? w _ hw341_0)).trans hw341_0)⟩ (fun hHeld => ?_)
           clear hK K
           refine norm_ (a' := ?_) ?_ ?_
           rotate_left
           ·show Act.put _ (some 101) _ = _
            simp only [Act.put,List.setIfInBounds_toArray,List.set_cons_zero,List.set_cons_succ,i64_w,i32_w]
            rfl
           refine pure_ (i := 19) (N := some 102) (v := ?_) (a' := ?_) #[true,true,true,true,true,true,true,true,true,true,true,true,true,true,true,true,true,true,true,true] rfl rfl (any_of HT_.out (by kernel_rfl)) (fun _ _ _ h => h) (Or.inl ⟨by rfl,?_⟩) ?_ ?_
           rotate_left
           ·intro w'
            go_simp
            with_reducible rfl
           rotate_left
           ·simp only [Act.put,List.setIfInBounds_toArray,List.set_cons_zero,List.set_cons_succ,i64_w,i32_w]
            rfl
           refine done_ (done_of HT_.out (by kernel_rfl)) ?_
           try go_wp2
           go_roundg k2
           case measure => have := HJ8.out;have := HK2.out;omega
           case rel => exact ⟨(wrap64 (x12_2 + 1)),(by first|rfl|(simp;done)|(simp [*];done)),H',⟨by have := HJ8.out;have := HK2.out;omega⟩,⟨by (with_reducible repeat (first|apply Kd.S_alloc|apply Kd.S_drewN|apply Kd.S_drew));exact Kd.S_mono HO_8.out (fun _ hk => hk.1.1)⟩,⟨by (with_reducible repeat (first|apply Kd.S_alloc|apply Kd.S_drewN|apply Kd.S_drew));exact Kd.S_mono HO_10.out (fun _ hk => hk.1.1)⟩,⟨by (with_reducible repeat (first|refine blk_drewN ?_ _|refine blk_drew ?_|refine blk_alloc ?_ _));exact BK308.out⟩,⟨by repeat (first|(with_reducible first|exact HB.out|apply below_alloc|apply pw_below_drewN|apply below_drew1|refine below_set ?_ GE308.out)|exact HB.out)⟩⟩
          ·replace c41 := Bool.eq_false_iff.mpr c41
           subst c41
           have H1 : (some false) = some r := by rw [if_neg (show ¬ (false = true) by decide)] at H;exact H
           clear H
           have H := H1
           clear H1
           exact absurd (Option.some.inj H) (by rw [HRT_.out];simp)
         ·rw [if_neg c37] at H
          exact absurd H (by simp)
        ·rw [if_neg c36] at H
         have c36b0 : decide (x12_2 < (l0_3.length : Int)) = false := decide_eq_false c36
         clear c36
         replace H := Option.bind_eq_some_iff.mp H
         obtain ⟨t336,A580,H⟩ := H
         replace H : (some t336) = some r := H
         have A58 := Aside0.mk A580
         clear A580
         obtain rfl := Option.some.inj H
         have hcz59_0 : wr.cell? ⟨gb308,0,none⟩ = some (.int .u64 a0_0) := (blk_cell BK308.out 0).trans rfl
         have hcz59_1 : wr.cell? ⟨gb308,1,none⟩ = some (.int .i64 a0_1) := (blk_cell BK308.out 1).trans rfl
         have hcz59_2 : wr.cell? ⟨gb308,2,none⟩ = some (.int .i64 a0_2) := (blk_cell BK308.out 2).trans rfl
         have hcz59_3 : wr.cell? ⟨gb308,3,none⟩ = some (.slice A0_3 l0_3.length c0_3) := (blk_cell BK308.out 3).trans rfl
         have hcz59_4 : wr.cell? ⟨gb308,4,none⟩ = some (.int .u64 a0_4) := (blk_cell BK308.out 4).trans rfl
         have hcz59_5 : wr.cell? ⟨gb308,5,none⟩ = some (.int .u64 a0_5) := (blk_cell BK308.out 5).trans rfl
         have hcz59_6 : wr.cell? ⟨gb308,6,none⟩ = some (.slice A0_6 l0_6.length c0_6) := (blk_cell BK308.out 6).trans rfl
         have hfz59_0 := blk_frozen BK308.out 0
         have hfz59_1 := blk_frozen BK308.out 1
         have hfz59_2 := blk_frozen BK308.out 2
         have hfz59_3 := blk_frozen BK308.out 3
         have hfz59_4 := blk_frozen BK308.out 4
         have hfz59_5 := blk_frozen BK308.out 5
         have hfz59_6 := blk_frozen BK308.out 6
         go_wp2_with (first|((with_reducible refine gate_callee (f := 13) rfl ?_);refine goesL_ (some 103) rfl rfl Try.func13 (by kernel_rfl) rfl #[] rfl (by (try simp only [List.map_toArray,List.map_cons,List.map_nil]);first|done|rfl|(simp only [List.length_drop,List.length_take];rfl)) ?_;(with_reducible refine (privitylaw43_awake.calls k2  t336 _ A58.out).mono ?_);rintro e w60 ⟨rfl,hb⟩;refine ⟨_,rfl,?_⟩;have n0_ := Aside0.mk (Kd.S_below (by (with_reducible repeat (first|apply Kd.S_alloc|apply Kd.S_drewN|apply Kd.S_drew));exact HO_8.out) hb);have n1_ := Aside0.mk (Kd.S_below (by (with_reducible repeat (first|apply Kd.S_alloc|apply Kd.S_drewN|apply Kd.S_drew));exact HO_10.out) hb);have n2_ := Aside0.mk (blk_below (g := gb308) (o := .cells #[.int .u64 a0_0,.int .i64 a0_1,.int .i64 a0_2,.slice A0_3 l0_3.length c0_3,.int .u64 a0_4,.int .u64 a0_5,.slice A0_6 l0_6.length c0_6] 28 (0,0)) (by (with_reducible repeat (first|refine blk_drewN ?_ _|refine blk_drew ?_|refine blk_alloc ?_ _));exact BK308.out) hb);have n3_ := Aside0.mk (below_step (by repeat (first|(with_reducible first|exact HB.out|apply below_alloc|apply pw_below_drewN|apply below_drew1|refine below_set ?_ GE308.out)|exact HB.out)) hb);clear HO_8;clear HO_10;clear BK308;clear HB;have HO_8 := n0_;have HO_10 := n1_;have BK308 := n2_;have HB := n3_;clear n0_ n1_ n2_ n3_;(try clear hb);(try clear hb2);(try clear hk);(try clear hi)))
         go_ret
         exact ⟨by first|rfl|(simp [errW_none,errW_some] <;> rfl)|(simp [*,errW_none,errW_some] <;> rfl),by repeat (first|(with_reducible first|exact HB.out|apply below_alloc|apply pw_below_drewN|apply below_drew1|refine below_set ?_ GE308.out)|exact HB.out)⟩
 ·replace c3 := Bool.eq_false_iff.mpr c3
  subst c3
  have H1 : ((privitylaw43_awake.f k).bind fun t310 => (some t310)) = some r := by rw [if_neg (show ¬ (false = true) by decide)] at H;exact H
  clear H
  have H := H1
  clear H1
  replace H := Option.bind_eq_some_iff.mp H
  obtain ⟨t310,A610,H⟩ := H
  replace H : (some t310) = some r := H
  have A61 := Aside0.mk A610
  clear A610
  obtain rfl := Option.some.inj H
  go_enter Try.func3,Try.ntmps3
  go_wp2_with (first|((with_reducible refine gate_dst (N := 1) rfl ?_);refine box_event ?hg (N := 1) ?hd (cs := #[.int .u64 a0_0,.int .i64 a0_1,.int .i64 a0_2,.slice A0_3 l0_3.length c0_3,.int .u64 a0_4,.int .u64 a0_5,.slice A0_6 l0_6.length c0_6]) (t := 28) ?hr ?_;(case hd => rfl);(case hg => rfl);(case hr => first|(go_simp;done)|(go_simp;rfl));intro gb308 hg w62 hbox hb;have n0_ := Aside0.mk (below_step (by repeat (first|(with_reducible first|exact HB.out|apply below_alloc|apply pw_below_drewN|apply below_drew1)|exact HB.out)) hb);have n1_ := Aside0.mk (hbox);have n2_ := Aside0.mk ((by rw [hg];exact (below_size (by repeat (first|(with_reducible first|exact HB.out|apply below_alloc|apply pw_below_drewN|apply below_drew1)|exact HB.out))) : w.heap.size ≤ gb308));have n3_ := Aside0.mk ((by rw [hg];exact (below_size (by repeat (first|(with_reducible first|exact HB.out|apply below_alloc|apply pw_below_drewN|apply below_drew1)|exact HB.out))) : w.heap.size ≤ gb308));clear HB;have HB := n0_;have BK308 := n1_;have GW308 := n2_;have GE308 := n3_;clear n0_ n1_ n2_ n3_;clear hb hbox hg;have hcz63_0 : w62.cell? ⟨gb308,0,none⟩ = some (.int .u64 a0_0) := (blk_cell BK308.out 0).trans rfl;have hcz63_1 : w62.cell? ⟨gb308,1,none⟩ = some (.int .i64 a0_1) := (blk_cell BK308.out 1).trans rfl;have hcz63_2 : w62.cell? ⟨gb308,2,none⟩ = some (.int .i64 a0_2) := (blk_cell BK308.out 2).trans rfl;have hcz63_3 : w62.cell? ⟨gb308,3,none⟩ = some (.slice A0_3 l0_3.length c0_3) := (blk_cell BK308.out 3).trans rfl;have hcz63_4 : w62.cell? ⟨gb308,4,none⟩ = some (.int .u64 a0_4) := (blk_cell BK308.out 4).trans rfl;have hcz63_5 : w62.cell? ⟨gb308,5,none⟩ = some (.int .u64 a0_5) := (blk_cell BK308.out 5).trans rfl;have hcz63_6 : w62.cell? ⟨gb308,6,none⟩ = some (.slice A0_6 l0_6.length c0_6) := (blk_cell BK308.out 6).trans rfl;have hfz63_0 := blk_frozen BK308.out 0;have hfz63_1 := blk_frozen BK308.out 1;have hfz63_2 := blk_frozen BK308.out 2;have hfz63_3 := blk_frozen BK308.out 3;have hfz63_4 := blk_frozen BK308.out 4;have hfz63_5 := blk_frozen BK308.out 5;have hfz63_6 := blk_frozen BK308.out 6)|((with_reducible refine gate_callee (f := 12) rfl ?_);refine goesL_ (some 14) rfl rfl Try.func12 (by kernel_rfl) rfl #[.agg #[.int .u64 a0_0,.int .i64 a0_1,.int .i64 a0_2,.slice A0_3 l0_3.length c0_3,.int .u64 a0_4,.int .u64 a0_5,.slice A0_6 l0_6.length c0_6]] rfl (by (try simp only [List.map_toArray,List.map_cons,List.map_nil]);first|done|rfl|(simp only [List.length_drop,List.length_take];rfl)) ?_;(with_reducible refine (privitylaw43_may.calls k a0_0 a0_1 a0_2 _ _ l0_3 a0_4 a0_5 _ _ l0_6 false _ ?side1 ?side2 ?side3 ?side4 A2.out).mono ?_);(case side1 => repeat (first|exact (Kd.C_below HR0_3.out HB.out)|(with_reducible refine Kd.C_alloc ?_ _)|(with_reducible refine Kd.C_drewN ?_ _)|(with_reducible refine Kd.C_drew ?_)));(case side2 => exact HC0_3.out);(case side3 => repeat (first|exact (Kd.C_below HR0_6.out HB.out)|(with_reducible refine Kd.C_alloc ?_ _)|(with_reducible refine Kd.C_drewN ?_ _)|(with_reducible refine Kd.C_drew ?_)));(case side4 => exact HC0_6.out);rintro e w64 ⟨rfl,hb⟩;refine ⟨_,rfl,?_⟩;have n0_ := Aside0.mk (blk_below (g := gb308) (o := .cells #[.int .u64 a0_0,.int .i64 a0_1,.int .i64 a0_2,.slice A0_3 l0_3.length c0_3,.int .u64 a0_4,.int .u64 a0_5,.slice A0_6 l0_6.length c0_6] 28 (0,0)) (by (with_reducible repeat (first|refine blk_drewN ?_ _|refine blk_drew ?_|refine blk_alloc ?_ _));exact BK308.out) hb);have n1_ := Aside0.mk (below_step (by repeat (first|(with_reducible first|exact HB.out|apply below_alloc|apply pw_below_drewN|apply below_drew1|refine below_set ?_ GE308.out)|exact HB.out)) hb);clear BK308;clear HB;have BK308 := n0_;have HB := n1_;clear n0_ n1_;(try clear hb);(try clear hb2);(try clear hk);(try clear hi))|((with_reducible refine gate_callee (f := 13) rfl ?_);refine goesL_ (some 16) rfl rfl Try.func13 (by kernel_rfl) rfl #[] rfl (by (try simp only [List.map_toArray,List.map_cons,List.map_nil]);first|done|rfl|(simp only [List.length_drop,List.length_take];rfl)) ?_;(with_reducible refine (privitylaw43_awake.calls k  t310 _ A61.out).mono ?_);rintro e w65 ⟨rfl,hb⟩;refine ⟨_,rfl,?_⟩;have n0_ := Aside0.mk (blk_below (g := gb308) (o := .cells #[.int .u64 a0_0,.int .i64 a0_1,.int .i64 a0_2,.slice A0_3 l0_3.length c0_3,.int .u64 a0_4,.int .u64 a0_5,.slice A0_6 l0_6.length c0_6] 28 (0,0)) (by (with_reducible repeat (first|refine blk_drewN ?_ _|refine blk_drew ?_|refine blk_alloc ?_ _));exact BK308.out) hb);have n1_ := Aside0.mk (below_step (by repeat (first|(with_reducible first|exact HB.out|apply below_alloc|apply pw_below_drewN|apply below_drew1|refine below_set ?_ GE308.out)|exact HB.out)) hb);clear BK308;clear HB;have BK308 := n0_;have HB := n1_;clear n0_ n1_;(try clear hb);(try clear hb2);(try clear hk);(try clear hi)))
  go_ret
  exact ⟨by first|rfl|(simp [errW_none,errW_some] <;> rfl)|(simp [*,errW_none,errW_some] <;> rfl),by repeat (first|(with_reducible first|exact HB.out|apply below_alloc|apply pw_below_drewN|apply below_drew1|refine below_set ?_ GE308.out)|exact HB.out)⟩
end Go.Proofs.Ytejeelpnmdfibaa.Pr
end
