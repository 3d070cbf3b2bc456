/- Part 5 of the proof's texts, joined in build order. -/
import Derived.Test.YtejeelpnmdfibaaZRowAndEval4
import Derived.Test.YtejeelpnmdfibaaZRowAndEval0
import Derived.Laws.CopyOwn
import Derived.Test.YtejeelpnmdfibaaZRowAndEval2
import Derived.Test.YtejeelpnmdfibaaZRowAndEval3
section
/-
  New of package bivariate, proved by hand: the matrix that it makes.
-/
namespace Go.Proofs.Ytejeelpnmdfibaa.Hw
open Go.RowKit Go.Proofs.Ytejeelpnmdfibaa.Pr Go.Proofs.YtejeelpnmdfibaaW.PrintWords Go.Proofs.YtejeelpnmdfibaaW.PrintLast Go.Proofs.YtejeelpnmdfibaaW.PrintMore Go.Proofs.Ytejeelpnmdfibaa.E
set_option linter.unusedVariables false
set_option linter.unusedSimpArgs false

/-! A square matrix of the call's own: the outer row at block bo, row i at block bo + 1 + i. -/
def slR (bo n i : Nat) : Value := .slice (some ⟨bo + 1 + i, 0, none⟩) n n
def outC (bo n k : Nat) : List Value := (List.range n).map fun i => if i < k then slR bo n i else .slice none 0 0
def rowC (n : Nat) (h : Nat → Int) : List Value := (List.range n).map fun j => .int .u64 (h j)
theorem outC_get {bo n k i : Nat} (hi : i < n) : (outC bo n k)[i]? = some (if i < k then slR bo n i else .slice none 0 0) := by
  unfold outC; rw [List.getElem?_map, List.getElem?_range hi]; rfl
theorem rowC_get {n j : Nat} {h : Nat → Int} (hj : j < n) : (rowC n h)[j]? = some (.int .u64 (h j)) := by
  unfold rowC; rw [List.getElem?_map, List.getElem?_range hj]; rfl
theorem outC_length (bo n k : Nat) : (outC bo n k).length = n := by simp [outC]
theorem rowC_length (n : Nat) (h : Nat → Int) : (rowC n h).length = n := by simp [rowC]
structure Mx (w : World) (bo n k : Nat) (g : Nat → Nat → Int) : Prop where
  out : w.heap[bo]? = some (.cells (outC bo n k).toArray 26 (0, 0))
  row : ∀ i, i < k → w.heap[bo + 1 + i]? = some (.cells (rowC n (g i)).toArray 22 (0, 0))
def upd (g : Nat → Nat → Int) (i j : Nat) (x : Int) (a b : Nat) : Int := if a = i ∧ b = j then x else g a b
section
variable {w : World} {bo n k : Nat} {g : Nat → Nat → Int}
theorem Mx.cellO (h : Mx w bo n k g) {i : Nat} (hi : i < k) (hn : i < n) : w.cell? ⟨bo, i, none⟩ = some (slR bo n i) := by
  rw [blk_cell h.out, List.getElem?_toArray, outC_get hn, if_pos hi]
theorem Mx.cellR (h : Mx w bo n k g) {i j : Nat} (hi : i < k) (hj : j < n) : w.cell? ⟨bo + 1 + i, j, none⟩ = some (.int .u64 (g i j)) := by
  rw [blk_cell (h.row i hi), List.getElem?_toArray, rowC_get hj]
theorem Mx.frozR (h : Mx w bo n k g) {i : Nat} (hi : i < k) (j : Nat) : w.frozen? ⟨bo + 1 + i, j, none⟩ = false := blk_frozen (h.row i hi) j
theorem Mx.drew (h : Mx w bo n k g) : Mx w.drew bo n k g := ⟨h.out, h.row⟩
theorem Mx.drewN (h : Mx w bo n k g) (m : Nat) : Mx (w.drewN m) bo n k g := ⟨h.out, h.row⟩
theorem Mx.congr (h : Mx w bo n k g) {g' : Nat → Nat → Int} (e : ∀ i, i < k → ∀ j, j < n → g i j = g' i j) : Mx w bo n k g' :=
  ⟨h.out, fun i hi => by
    rw [h.row i hi]
    have : rowC n (g i) = rowC n (g' i) := List.map_congr_left fun j hj => by rw [e i hi j (List.mem_range.1 hj)]
    rw [this]⟩
theorem Mx.put (h : Mx w bo n k g) {i j : Nat} (hi : i < k) (hj : j < n) (x : Int) : Mx (w.setCell ⟨bo + 1 + i, j, none⟩ (.int .u64 x)) bo n k (upd g i j x) := by
  refine ⟨blk_far (p := ⟨bo + 1 + i, j, none⟩) h.out (by show bo ≠ bo + 1 + i; omega) _, fun a ha => ?_⟩
  by_cases e : a = i
  · subst e
    refine blk_put (h.row a ha) j _ ?_
    rw [List.setIfInBounds_toArray]
    congr 1
    refine List.ext_getElem? fun b => ?_
    by_cases hb : b < n
    · rw [rowC_get hb]
      by_cases e2 : b = j
      · subst e2
        rw [List.getElem?_set_self (by rw [rowC_length]; exact hb)]
        simp [upd]
      · rw [List.getElem?_set_ne (Ne.symm e2), rowC_get hb]
        simp [upd, e2]
    · rw [List.getElem?_eq_none (by rw [List.length_set, rowC_length]; omega), List.getElem?_eq_none (by rw [rowC_length]; omega)]
  · have h1 := blk_far (p := ⟨bo + 1 + i, j, none⟩) (h.row a ha) (by show bo + 1 + a ≠ bo + 1 + i; omega) (.int .u64 x)
    rw [h1]
    have : upd g i j x a = g a := by funext b; simp [upd, e]
    rw [this]
theorem Mx.more (h : Mx w bo n k g) (hk : k < n) (hs : w.heap.size = bo + 1 + k) (hz : ∀ j, g k j = 0) :
    Mx ((w.alloc (.cells (rowC n fun _ => 0).toArray 22)).setCell ⟨bo, k, none⟩ (slR bo n k)) bo n (k + 1) g := by
  refine ⟨?_, fun i hi => ?_⟩
  · refine blk_put (blk_alloc h.out _) k _ ?_
    rw [List.setIfInBounds_toArray]
    congr 1
    refine List.ext_getElem? fun b => ?_
    by_cases hb : b < n
    · rw [outC_get hb]
      by_cases e2 : b = k
      · subst e2
        rw [List.getElem?_set_self (by rw [outC_length]; exact hb), if_pos (by omega)]
      · rw [List.getElem?_set_ne (Ne.symm e2), outC_get hb]
        by_cases h3 : b < k
        · rw [if_pos h3, if_pos (by omega)]
        · rw [if_neg h3, if_neg (by omega)]
    · rw [List.getElem?_eq_none (by rw [List.length_set, outC_length]; omega), List.getElem?_eq_none (by rw [outC_length]; omega)]
  · by_cases e : i = k
    · subst e
      have h1 := blk_new w (Obj.cells (rowC n fun _ => 0).toArray 22)
      rw [hs] at h1
      have h2 : g i = fun _ => 0 := funext hz
      rw [h2]
      exact blk_far (p := ⟨bo, i, none⟩) h1 (by show bo + 1 + i ≠ bo; omega) _
    · exact blk_far (p := ⟨bo, k, none⟩) (blk_alloc (h.row i (by omega)) _) (by show bo + 1 + i ≠ bo; omega) _
theorem Mx.own (h : Mx w bo n n g) {base : Nat} (hb : base ≤ bo) (hn : n ≤ 1000000) : Kd.S (Kd.slice 22 (Kd.int .u64)) 26 w base (fun _ => True) (.slice (some ⟨bo, 0, none⟩) n n) (matL n g) := by
  have hl : (matL n g).length = n := (matL_sq n g).len
  refine ⟨fun b => b - (bo + 1), fun _ _ => trivial, outC bo n n, ?_, ?_, fun j p hj => ?_⟩
  · rw [List.length_zipIdx, hl]
    refine ⟨by show (outC bo n n).length = n * 1; rw [outC_length]; omega, .inr ⟨bo, n, (outC bo n n).toArray, rfl, hb, h.out, Nat.le_refl _, by simp only [maxLen]; omega, by show (outC bo n n).toArray.size = n * 1; rw [List.size_toArray, outC_length]; omega, ?_⟩⟩
    show ((outC bo n n).take (n * 1)) = outC bo n n
    exact List.take_of_length_le (by rw [outC_length]; omega)
  · rw [List.length_zipIdx, hl]; show (outC bo n n).length = n * 1; rw [outC_length]; omega
  · rw [List.getElem?_zipIdx, Nat.zero_add] at hj
    obtain ⟨r, hr, rfl⟩ := Option.map_eq_some_iff.1 hj
    have hjn : j < n := by have := (List.getElem?_eq_some_iff.1 hr).1; omega
    have hrow : r = tabL n (g j) := by
      unfold matL matP at hr
      rw [List.getElem?_map, List.getElem?_range hjn] at hr
      exact (Option.some.inj hr).symm
    have hcs : ((outC bo n n).drop (j * 1)).take 1 = [slR bo n j] := by
      refine List.ext_getElem? fun i => ?_
      rw [List.getElem?_take]
      cases i with
      | zero => rw [if_pos (by omega), List.getElem?_drop, Nat.add_zero, Nat.mul_one, outC_get hjn, if_pos hjn]; rfl
      | succ i => rw [if_neg (by omega)]; rfl
    show ∃ v, ((outC bo n n).drop (j * 1)).take 1 = [v] ∧ _
    refine ⟨slR bo n j, hcs, ?_⟩
    have hlen : (tabL n (g j)).length = n := tabL_length _ _
    show Kd.R (Kd.int .u64) 22 w base _ (slR bo n j) r
    rw [hrow]
    refine R_made ?_ (fun b hbk => ?_)
    · rw [hlen]
      have hnm : nums .u64 (tabL n (g j)) = rowC n (g j) := by simp [nums, tabL, rowC]
      rw [hnm]
      refine ⟨by rw [rowC_length]; omega, .inr ⟨bo + 1 + j, n, (rowC n (g j)).toArray, rfl, by omega, h.row j hjn, Nat.le_refl _, by simp only [maxLen]; omega, by rw [List.size_toArray, rowC_length]; omega, ?_⟩⟩
      show (rowC n (g j)).take (n * 1) = _
      exact List.take_of_length_le (by rw [rowC_length]; omega)
    · have e : b = bo + 1 + j := by
        have : (slR bo n j).ownBlock = some (bo + 1 + j) := rfl
        rw [this] at hbk; exact (Option.some.inj hbk).symm
      subst e
      refine ⟨⟨trivial, fun e => ?_⟩, by show bo + 1 + j - (bo + 1) = j; omega⟩
      have e2 : some (bo + 1 + j) = some bo := e
      injection e2 with e2; omega
end
/-- Where row i of the upper triangle (behind the first row) begins in the remaining coefficients. -/
def offs (n : Nat) : Nat → Nat
  | 0 => 0
  | 1 => 0
  | i + 2 => offs n (i + 1) + (n - (i + 1))
theorem offs_next (n i : Nat) (h : 1 ≤ i) : offs n (i + 1) = offs n i + (n - i) := by
  obtain ⟨m, rfl⟩ : ∃ m, i = m + 1 := ⟨i - 1, by omega⟩
  rfl
theorem offs_twice (n : Nat) : ∀ i : Nat, i + 1 ≤ n → (2 * offs n (i + 1) : Int) = i * (2 * n - i - 1)
  | 0, _ => by simp [offs]
  | i + 1, h => by
    have ih := offs_twice n i (by omega)
    rw [offs_next n (i + 1) (by omega)]
    have e : ((n - (i + 1) : Nat) : Int) = (n : Int) - i - 1 := by omega
    rw [Int.natCast_add, e]
    push_cast
    grind
theorem offs_last {n : Nat} (h : 1 ≤ n) : (2 * offs n n : Int) = n * (n - 1) := by
  obtain ⟨m, rfl⟩ : ∃ m, n = m + 1 := ⟨n - 1, by omega⟩
  have := offs_twice (m + 1) m (Nat.le_refl _)
  rw [this]; push_cast; grind
theorem offs_mono {n : Nat} : ∀ (d i : Nat), 1 ≤ i → offs n i ≤ offs n (i + d)
  | 0, i, _ => Nat.le_refl _
  | d + 1, i, h => by
    have := offs_mono (n := n) d i h
    rw [← Nat.add_assoc, offs_next n (i + d) (by omega)]; omega
/-- The coefficient at i and j. -/
def newG (n : Nat) (first rest : List Int) (i j : Nat) : Int :=
  if min i j = 0 then first.getD (max i j) 0 else rest.getD (offs n (min i j) + (max i j - min i j)) 0
/-- What is set when the loops stand at row i, column j. -/
def newS (n : Nat) (first rest : List Int) (i j a b : Nat) : Int := if min a b < i ∨ (min a b = i ∧ max a b < j) then newG n first rest a b else 0
theorem newS_first {n : Nat} {first rest : List Int} (j : Nat) : ∀ a, a < n → ∀ b, b < n → upd (upd (newS n first rest 0 j) 0 j (first.getD j 0)) j 0 (first.getD j 0) a b = newS n first rest 0 (j + 1) a b := by
  intro a ha b hb
  unfold upd newS newG
  by_cases h1 : a = j ∧ b = 0
  · obtain ⟨rfl, rfl⟩ := h1
    rw [if_pos ⟨rfl, rfl⟩, if_pos (by omega), if_pos (by omega), show max a 0 = a from by omega]
  · rw [if_neg h1]
    by_cases h2 : a = 0 ∧ b = j
    · obtain ⟨rfl, rfl⟩ := h2
      rw [if_pos ⟨rfl, rfl⟩, if_pos (by omega), if_pos (by omega), show max 0 b = b from by omega]
    · rw [if_neg h2]
      by_cases h3 : min a b < 0 ∨ (min a b = 0 ∧ max a b < j)
      · rw [if_pos h3, if_pos (show min a b < 0 ∨ (min a b = 0 ∧ max a b < j + 1) from by omega)]
      · rw [if_neg h3, if_neg (show ¬ (min a b < 0 ∨ (min a b = 0 ∧ max a b < j + 1)) from by omega)]
theorem newS_next {n : Nat} {first rest : List Int} {i : Nat} (h1 : 1 ≤ i) {j : Nat} (hij : i ≤ j) : ∀ a, a < n → ∀ b, b < n →
    upd (upd (newS n first rest i j) i j (rest.getD (offs n i + (j - i)) 0)) j i (rest.getD (offs n i + (j - i)) 0) a b = newS n first rest i (j + 1) a b := by
  intro a ha b hb
  unfold upd newS newG
  by_cases h1 : a = j ∧ b = i
  · obtain ⟨rfl, rfl⟩ := h1
    rw [if_pos ⟨rfl, rfl⟩, if_pos (by omega), if_neg (by omega), show min a b = b from by omega, show max a b = a from by omega]
  · rw [if_neg h1]
    by_cases h2 : a = i ∧ b = j
    · obtain ⟨rfl, rfl⟩ := h2
      rw [if_pos ⟨rfl, rfl⟩, if_pos (by omega), if_neg (by omega), show min a b = a from by omega, show max a b = b from by omega]
    · rw [if_neg h2]
      by_cases h3 : min a b < i ∨ (min a b = i ∧ max a b < j)
      · rw [if_pos h3, if_pos (show min a b < i ∨ (min a b = i ∧ max a b < j + 1) from by omega)]
      · rw [if_neg h3, if_neg (show ¬ (min a b < i ∨ (min a b = i ∧ max a b < j + 1)) from by omega)]
theorem newS_row {n : Nat} {first rest : List Int} (i : Nat) : ∀ a, a < n → ∀ b, b < n → newS n first rest i n a b = newS n first rest (i + 1) (i + 1) a b := by
  intro a ha b hb
  unfold newS
  by_cases h : min a b < i ∨ (min a b = i ∧ max a b < n)
  · rw [if_pos h, if_pos (show min a b < i + 1 ∨ (min a b = i + 1 ∧ max a b < i + 1) from by omega)]
  · rw [if_neg h, if_neg (show ¬ (min a b < i + 1 ∨ (min a b = i + 1 ∧ max a b < i + 1)) from by omega)]
theorem newS_all {n : Nat} {first rest : List Int} (j : Nat) : ∀ a, a < n → ∀ b, b < n → newS n first rest n j a b = newG n first rest a b := by
  intro a ha b hb
  unfold newS
  rw [if_pos (by omega)]
theorem infoSl : (Try.prog.info? 26).map (fun i => (i.zero, i.size, i.bytes)) = some (some (.slice none 0 0), 1, 24) := by kernel_rfl
theorem mk_run {t e : TypeId} {z : Value} {b : Nat} (ht : Try.prog.underlying t = some (.slice e)) (hinfo : (Try.prog.info? e).map (fun i => (i.zero, i.size, i.bytes)) = some (some z, 1, b)) (hz : z.cells = #[z]) (n : Nat) (hn : n ≤ 1000000) (hb : b ≤ 100) (w : World) :
    (Instr.makeSlice t (.int .i64 (n : Int)) (.int .i64 (n : Int))).run Try.prog w = .ok (.slice (some ⟨w.heap.size, 0, none⟩) n n) (w.alloc (.cells (List.replicate n z).toArray e)) := by
  obtain ⟨i0, hi, hzz⟩ := Option.map_eq_some_iff.1 hinfo
  simp only [Prod.mk.injEq] at hzz
  obtain ⟨hz0, hz1, hz2⟩ := hzz
  have hr := run_make (P := Try.prog) w t e i0 z ht hi hz0 .i64 .i64 (n : Int) (n : Int) (by omega) (by omega)
    (by
      have h3 : ((i0.bytes * n : Nat) : Int) ≤ 281474976710656 := by
        have : i0.bytes * n ≤ 100 * 1000000 := Nat.mul_le_mul (by omega) hn
        omega
      rwa [Int.natCast_mul] at h3) (by omega)
  simp only [Int.toNat_natCast] at hr
  rw [hz1, Nat.mul_one, hz] at hr
  rw [hr]
  have e : madeCells #[z] n = (List.replicate n z).toArray := by
    apply Array.ext'
    rw [toList_madeCells_one]
  rw [e]
theorem outC_zero (bo n : Nat) : List.replicate n (Value.slice none 0 0) = outC bo n 0 := by
  refine List.ext_getElem? fun i => ?_
  by_cases hi : i < n
  · rw [outC_get hi, List.getElem?_replicate, if_pos hi, if_neg (by omega)]
  · rw [List.getElem?_eq_none (by rw [List.length_replicate]; omega), List.getElem?_eq_none (by rw [outC_length]; omega)]
theorem rowC_zero (n : Nat) : List.replicate n (Value.int .u64 0) = rowC n fun _ => 0 := by
  refine List.ext_getElem? fun i => ?_
  by_cases hi : i < n
  · rw [rowC_get hi, List.getElem?_replicate, if_pos hi]
  · rw [List.getElem?_eq_none (by rw [List.length_replicate]; omega), List.getElem?_eq_none (by rw [rowC_length]; omega)]
theorem Mx.start (w : World) (n : Nat) : Mx (w.alloc (.cells (outC w.heap.size n 0).toArray 26)) w.heap.size n 0 (fun _ _ => 0) :=
  ⟨blk_new w _, fun i hi => by omega⟩
theorem alloc_size' (w : World) (o : Obj) : (w.alloc o).heap.size = w.heap.size + 1 := Array.size_push _
theorem size_setCell' (w : World) (a : Addr) (v : Value) : (w.setCell a v).heap.size = w.heap.size := by simp [World.setCell]
/-- Only the matrix' blocks may differ from the start's. -/
theorem below_alloc_set {w0 w : World} (h : Below w0.heap.size w0 w) (o : Obj) {b : Nat} (hb : w0.heap.size ≤ b) (i : Nat) (v : Value) : Below w0.heap.size w0 ((w.alloc o).setCell ⟨b, i, none⟩ v) := Below.setCell (below_alloc h o) (p := ⟨b, i, none⟩) hb v
set_option maxHeartbeats 2000000 in
set_option maxRecDepth 100000 in
theorem bnew_walk (A0 : Option Addr) (c0 : Nat) (first : List Int) (A1 : Option Addr) (c1 : Nat) (rest : List Int) (w : World) (hr0 : Kd.C (Kd.int .u64) w A0 first.length first) (hc0 : first.length ≤ c0) (hr1 : Kd.C (Kd.int .u64) w A1 rest.length rest) (hc1 : rest.length ≤ c1)
    (hn : 0 < first.length) (hn2 : first.length ≤ 1000) (hl : rest.length = offs first.length first.length) :
    Calls Try.prog 64 #[.slice A0 first.length c0, .slice A1 rest.length c1] w fun e w' => ∃ v0_ : Value, e = .returned (.tuple #[v0_, .int .i64 0]) ∧ Kd.S (Kd.slice 22 (Kd.int .u64)) 26 w' w.heap.size (fun _ => True) v0_ (matL first.length (newG first.length first rest)) ∧ Below w.heap.size w w' := by
  have HR0 := Aside0.mk hr0
  have HR1 := Aside0.mk hr1
  have hol := offs_last (n := first.length) hn
  obtain ⟨n, en⟩ : ∃ y, y = first.length := ⟨_, rfl⟩
  rw [← en] at hol hl hn hn2 ⊢
  have HEN := Aside0.mk en
  have HL := Aside0.mk hl
  have hq : ((rest.length : Int) != wrap64 ((wrap64 ((n : Int) * ((n : Int) - 1))).tdiv 2)) = false := by
    have h1 : (n : Int) * ((n : Int) - 1) = 2 * (rest.length : Int) := by rw [hl, hol]
    have h2 : (n : Int) * ((n : Int) - 1) ≤ 1000 * 1000 := Int.mul_le_mul (by omega) (by omega) (by omega) (by omega)
    have h3 : wrap64 ((n : Int) * ((n : Int) - 1)) = 2 * (rest.length : Int) := by rw [h1, w64' (by omega) (by omega)]
    rw [h3, Int.mul_tdiv_cancel_left _ (by omega), w64' (by omega) (by omega)]
    simp
  have hq0 : ((n : Int) == 0) = false := beq_eq_false_iff_ne.mpr (by omega)
  have hmk := mk_run (t := 34) (e := 26) (z := .slice none 0 0) Try.underlying34 infoSl rfl n (by omega) (by decide) w
  rw [outC_zero w.heap.size] at hmk
  clear hr0 hr1 hl hol en
  go_enter Try.func64, Try.ntmps64
  go_wp2
  obtain ⟨bo, hbo⟩ : ∃ y, y = w.heap.size := ⟨_, rfl⟩
  rw [← hbo]
  have HBO := Aside0.mk hbo
  clear hmk hq hq0 hbo
  go_loopg [31] n (fun kq v31 w' => ∃ i : Nat, v31 = .int .i64 (i : Int) ∧ Aside0 (kq + i = n) ∧ Aside0 (Mx w' bo n i fun _ _ => 0) ∧ Aside0 (w'.heap.size = bo + 1 + i) ∧ Aside0 (Below w.heap.size w w'))
  case atStart => exact ⟨0, rfl, ⟨rfl⟩, ⟨by rw [HBO.out]; exact Mx.start w n⟩, ⟨by rw [HBO.out]; exact Array.size_push _⟩, ⟨below_alloc (Below.refl _ _) _⟩⟩
  case round =>
    obtain ⟨i, rfl, HK, HM, HS, HB⟩ := hrel
    by_cases hlt : i < n
    · have q1 : decide ((i : Int) < (n : Int)) = true := decide_eq_true (by omega)
      have q2 : decide (i < n) = true := decide_eq_true hlt
      have p1 : ((0 : Int) ≤ (i : Int)) = True := eq_true (by omega)
      have p2 : ((i : Int) < (n : Int)) = True := eq_true (by omega)
      have hmk := mk_run (t := 26) (e := 22) (z := .int .u64 0) Try.underlying26 info22 rfl n (by omega) (by decide) wr
      rw [rowC_zero, HS.out] at hmk
      have h1 := blk_alloc HM.out.out (Obj.cells (rowC n fun _ => 0).toArray 22)
      have c1 := blk_cell h1 i
      have f1 := blk_frozen h1 i
      rw [List.getElem?_toArray, outC_get hlt, if_neg (Nat.lt_irrefl i)] at c1
      clear h1
      go_wp2
      go_roundg (n - (i + 1))
      case measure => have := HK.out; omega
      case rel => exact ⟨i + 1, by go_num, ⟨by omega⟩, ⟨HM.out.more hlt HS.out fun _ => rfl⟩, ⟨by rw [size_setCell', alloc_size', HS.out]; omega⟩, ⟨below_alloc_set HB.out _ (by rw [← HBO.out]; exact Nat.le_refl _) _ _⟩⟩
    · have q1 : decide ((i : Int) < (n : Int)) = false := decide_eq_false (by omega)
      have q2 : decide (i < n) = false := decide_eq_false hlt
      have hin : n = i := by have := HK.out; omega
      subst hin
      have HR0' := Aside0.mk HR0.out
      go_wp2
      have HM0 := Aside0.mk (show Mx wr bo n n (newS n first rest 0 0) from HM.out.congr fun a ha b hb => by unfold newS; rw [if_neg (by omega)])
      clear HM HS
      go_loopg [42] n (fun kq v42 w' => ∃ j : Nat, v42 = .int .i64 (j : Int) ∧ Aside0 (kq + j = n) ∧ Aside0 (Mx w' bo n n (newS n first rest 0 j)) ∧ Aside0 (Below w.heap.size w w'))
      case atStart => exact ⟨0, rfl, ⟨rfl⟩, HM0, HB⟩
      case round =>
        clear HM0 HB
        obtain ⟨j, rfl, HK2, HM, HB⟩ := hrel
        by_cases hlt : j < n
        · have q1 : decide ((j : Int) < (n : Int)) = true := decide_eq_true (by omega)
          have q2 : decide (j < n) = true := decide_eq_true (by omega)
          have p1 : ((0 : Int) ≤ (j : Int)) = True := eq_true (by omega)
          have p2 : ((j : Int) < (n : Int)) = True := eq_true (by omega)
          have p3 : ((0 : Int) < (n : Int)) = True := eq_true (by omega)
          obtain ⟨ad0, e0, hx0⟩ := Kd.at_int (Kd.C_below HR0.out HB.out) (j : Int) (by omega) (by have := HEN.out; omega)
          cases e0
          rw [Int.toNat_natCast] at hx0
          have hfj : rd first (j : Int) = first.getD j 0 := rd_nat first j
          rw [hfj] at hx0
          obtain ⟨x, hx⟩ : ∃ x, x = first.getD j 0 := ⟨_, rfl⟩
          rw [← hx] at hx0
          have HX := Aside0.mk hx
          have c1 : wr.cell? ⟨bo, 0, none⟩ = some (.slice (some ⟨bo + 1, 0, none⟩) n n) := HM.out.cellO (i := 0) (by omega) (by omega)
          have c2 : wr.cell? ⟨bo, j, none⟩ = some (.slice (some ⟨bo + 1 + j, 0, none⟩) n n) := HM.out.cellO hlt hlt
          clear hx hfj
          go_wp2
          have d1 : wr.cell? ⟨bo + 1, j, none⟩ = some _ := HM.out.cellR (i := 0) (by omega) hlt
          have g1 : wr.frozen? ⟨bo + 1, j, none⟩ = false := HM.out.frozR (i := 0) (by omega) j
          have hm2 := HM.out.put (i := 0) (j := j) (by omega) hlt x
          have d2 : (wr.setCell ⟨bo + 1, j, none⟩ (.int .u64 x)).cell? ⟨bo + 1 + j, 0, none⟩ = some _ := hm2.cellR hlt (by omega)
          have g2 : wr.frozen? ⟨bo + 1 + j, 0, none⟩ = false := HM.out.frozR hlt 0
          have HM2 := Aside0.mk (hm2.put (i := j) (j := 0) hlt (by omega) x)
          clear hm2
          refine start_ (n := 14) (S := (fun w' => w'.cell? ⟨bo, 0, none⟩ = some (.slice (some ⟨bo + 1, 0, none⟩) n n) ∧ w'.cell? ⟨bo, j, none⟩ = some (.slice (some ⟨bo + 1 + j, 0, none⟩) n n))) (ds := [11,13]) #[false, false, false, false, false, false, false, false, false, false, false, false, false, false] (by kernel_rfl) rfl rfl ⟨c1, c2⟩ (fun hHeld => ?_)
          refine pure_ (i := 0) (N := some 47) (v := ?_) (a' := ?_) #[true, false, false, false, false, false, false, false, false, false, false, false, false, false] rfl rfl (by kernel_rfl) (fun _ _ _ h => h) (Or.inl ⟨by rfl, ?_⟩) ?_ ?_
          rotate_left
          · intro w'
            go_simp
            with_reducible rfl
          rotate_left
          · simp only [Act.put, List.setIfInBounds_toArray, List.set_cons_zero, List.set_cons_succ, i64_w, i32_w]
            rfl
          refine pure_ (i := 1) (N := some 48) (v := ?_) (a' := ?_) #[true, true, false, false, false, false, false, false, false, false, false, false, false, false] rfl rfl (by kernel_rfl) (fun _ _ _ h => h) (Or.inl ⟨by rfl, ?_⟩) ?_ ?_
          rotate_left
          · intro w'
            go_simp
            with_reducible rfl
          rotate_left
          · simp only [Act.put, List.setIfInBounds_toArray, List.set_cons_zero, List.set_cons_succ, i64_w, i32_w]
            rfl
          refine take_ (i := 2) (N := some 49) (v := ?_) (a' := ?_) #[true, true, true, false, false, false, false, false, false, false, false, false, false, false] rfl rfl (by kernel_rfl) (fun _ _ _ h => h) (Or.inl ⟨by rfl, ?_⟩) hHeld ?_ ?_
          rotate_left
          · rintro w' ⟨s0, s1⟩
            go_simp
            with_reducible rfl
          rotate_left
          · simp only [Act.put, List.setIfInBounds_toArray, List.set_cons_zero, List.set_cons_succ, i64_w, i32_w]
            rfl
          refine pure_ (i := 3) (N := some 50) (v := ?_) (a' := ?_) #[true, true, true, true, false, false, false, false, false, false, false, false, false, false] rfl rfl (by kernel_rfl) (fun _ _ _ h => h) (Or.inl ⟨by rfl, ?_⟩) ?_ ?_
          rotate_left
          · intro w'
            go_simp
            with_reducible rfl
          rotate_left
          · simp only [Act.put, List.setIfInBounds_toArray, List.set_cons_zero, List.set_cons_succ, i64_w, i32_w]
            rfl
          refine pure_ (i := 4) (N := some 51) (v := ?_) (a' := ?_) #[true, true, true, true, true, false, false, false, false, false, false, false, false, false] rfl rfl (by kernel_rfl) (fun _ _ _ h => h) (Or.inl ⟨by rfl, ?_⟩) ?_ ?_
          rotate_left
          · intro w'
            go_simp
            with_reducible rfl
          rotate_left
          · simp only [Act.put, List.setIfInBounds_toArray, List.set_cons_zero, List.set_cons_succ, i64_w, i32_w]
            rfl
          refine pure_ (i := 5) (N := some 52) (v := ?_) (a' := ?_) #[true, true, true, true, true, true, false, false, false, false, false, false, false, false] rfl rfl (by kernel_rfl) (fun _ _ _ h => h) (Or.inl ⟨by rfl, ?_⟩) ?_ ?_
          rotate_left
          · intro w'
            go_simp
            with_reducible rfl
          rotate_left
          · simp only [Act.put, List.setIfInBounds_toArray, List.set_cons_zero, List.set_cons_succ, i64_w, i32_w]
            rfl
          refine pure_ (i := 6) (N := some 53) (v := ?_) (a' := ?_) #[true, true, true, true, true, true, true, false, false, false, false, false, false, false] rfl rfl (by kernel_rfl) (fun _ _ _ h => h) (Or.inl ⟨by rfl, ?_⟩) ?_ ?_
          rotate_left
          · intro w'
            go_simp
            with_reducible rfl
          rotate_left
          · simp only [Act.put, List.setIfInBounds_toArray, List.set_cons_zero, List.set_cons_succ, i64_w, i32_w]
            rfl
          refine take_ (i := 7) (N := some 54) (v := ?_) (a' := ?_) #[true, true, true, true, true, true, true, true, false, false, false, false, false, false] rfl rfl (by kernel_rfl) (fun _ _ _ h => h) (Or.inl ⟨by rfl, ?_⟩) hHeld ?_ ?_
          rotate_left
          · rintro w' ⟨s0, s1⟩
            go_simp
            with_reducible rfl
          rotate_left
          · simp only [Act.put, List.setIfInBounds_toArray, List.set_cons_zero, List.set_cons_succ, i64_w, i32_w]
            rfl
          refine pure_ (i := 8) (N := some 55) (v := ?_) (a' := ?_) #[true, true, true, true, true, true, true, true, true, false, false, false, false, false] rfl rfl (by kernel_rfl) (fun _ _ _ h => h) (Or.inl ⟨by rfl, ?_⟩) ?_ ?_
          rotate_left
          · intro w'
            go_simp
            with_reducible rfl
          rotate_left
          · simp only [Act.put, List.setIfInBounds_toArray, List.set_cons_zero, List.set_cons_succ, i64_w, i32_w]
            rfl
          refine pure_ (i := 9) (N := some 56) (v := ?_) (a' := ?_) #[true, true, true, true, true, true, true, true, true, true, false, false, false, false] rfl rfl (by kernel_rfl) (fun _ _ _ h => h) (Or.inl ⟨by rfl, ?_⟩) ?_ ?_
          rotate_left
          · intro w'
            go_simp
            with_reducible rfl
          rotate_left
          · simp only [Act.put, List.setIfInBounds_toArray, List.set_cons_zero, List.set_cons_succ, i64_w, i32_w]
            rfl
          refine pure_ (i := 10) (N := some 57) (v := ?_) (a' := ?_) #[true, true, true, true, true, true, true, true, true, true, true, false, false, false] rfl rfl (by kernel_rfl) (fun _ _ _ h => h) (Or.inl ⟨by rfl, ?_⟩) ?_ ?_
          rotate_left
          · intro w'
            go_simp
            with_reducible rfl
          rotate_left
          · simp only [Act.put, List.setIfInBounds_toArray, List.set_cons_zero, List.set_cons_succ, i64_w, i32_w]
            rfl
          refine last_ (i := 11) (N := none) #[true, true, true, true, true, true, true, true, true, true, true, true, false, false] rfl rfl (by kernel_rfl) (by decide) (fun K hK => ?_)
          refine skip_ (w1 := ?_) (by rfl) rfl ?_ ?_
          rotate_left
          · go_simp
            rfl
          refine hK.out _ _ ?_
          clear hK K
          refine pure_ (i := 12) (N := some 58) (v := ?_) (a' := ?_) #[true, true, true, true, true, true, true, true, true, true, true, true, true, false] rfl rfl (by kernel_rfl) (fun _ _ _ h => h) (Or.inl ⟨by rfl, ?_⟩) ?_ ?_
          rotate_left
          · intro w'
            go_simp
            with_reducible rfl
          rotate_left
          · simp only [Act.put, List.setIfInBounds_toArray, List.set_cons_zero, List.set_cons_succ, i64_w, i32_w]
            rfl
          refine last_ (i := 13) (N := none) #[true, true, true, true, true, true, true, true, true, true, true, true, true, true] rfl rfl (by kernel_rfl) (by decide) (fun K hK => ?_)
          refine skip_ (w1 := ?_) (by rfl) rfl ?_ ?_
          rotate_left
          · go_simp
            rfl
          refine hK.out _ _ ?_
          clear hK K
          refine done_ (by kernel_rfl) ?_
          go_wp2
          go_roundg (n - (j + 1))
          case measure => have := HK2.out; omega
          case rel =>
            refine ⟨j + 1, by go_num, ⟨by omega⟩, ⟨Mx.drew (HM2.out.congr fun a ha b hb => ?_)⟩, ⟨?_⟩⟩
            · rw [HX.out]; exact newS_first j a ha b hb
            · have hbo : w.heap.size ≤ bo := by rw [← HBO.out]; exact Nat.le_refl _
              exact below_drew (Below.setCell (Below.setCell HB.out (p := ⟨bo + 1, j, none⟩) (by show w.heap.size ≤ bo + 1; omega) _) (p := ⟨bo + 1 + j, 0, none⟩) (by show w.heap.size ≤ bo + 1 + j; omega) _)
        · have q1 : decide ((j : Int) < (n : Int)) = false := decide_eq_false (by omega)
          have q2 : decide (j < n) = false := decide_eq_false hlt
          have hji : n = j := by have := HK2.out; omega
          subst hji
          go_wp2
          have HM1 := Aside0.mk (HM.out.congr (newS_row (n := n) (first := first) (rest := rest) 0))
          clear HM q1 q2
          go_loopg [1, 11] n (fun kq v1 v11 w' => ∃ (i : Nat) (A' : Option Addr) (c' : Nat) (L : List Int), v11 = .int .i64 (i : Int) ∧ v1 = .slice A' L.length c' ∧ Aside0 (kq + i = n + 1 ∧ 1 ≤ i ∧ i ≤ n) ∧ Aside0 (L = rest.drop (offs n i)) ∧ Aside0 (L.length ≤ c' ∧ Kd.C (Kd.int .u64) w A' L.length L) ∧ Aside0 (Mx w' bo n n (newS n first rest i i)) ∧ Aside0 (Below w.heap.size w w'))
          case atStart => exact ⟨1, A1, c1, rest, rfl, rfl, ⟨by omega, by omega, by omega⟩, ⟨rfl⟩, ⟨hc1, HR1.out⟩, HM1, HB⟩
          case round =>
            clear HM1 HB HK2 HK
            obtain ⟨i, A', c', L, rfl, rfl, HK, HLd, HC, HM, HB⟩ := hrel
            by_cases hlt : i < n
            · have q1 : decide ((i : Int) < (n : Int)) = true := decide_eq_true (by omega)
              have q2 : decide (i < n) = true := decide_eq_true (by omega)
              go_wp2
              go_loopg [1, 12] (n - i) (fun kq v1 v12 w' => ∃ (j : Nat) (A' : Option Addr) (c' : Nat) (L : List Int), v12 = .int .i64 (j : Int) ∧ v1 = .slice A' L.length c' ∧ Aside0 (kq + j = n ∧ i ≤ j) ∧ Aside0 (L = rest.drop (offs n i + (j - i))) ∧ Aside0 (L.length ≤ c' ∧ Kd.C (Kd.int .u64) w A' L.length L) ∧ Aside0 (Mx w' bo n n (newS n first rest i j)) ∧ Aside0 (Below w.heap.size w w'))
              case atStart => exact ⟨i, A', c', L, rfl, rfl, ⟨by omega, Nat.le_refl _⟩, ⟨by rw [HLd.out, Nat.sub_self]; rfl⟩, HC, HM, HB⟩
              case round =>
                clear HLd HC HM HB
                obtain ⟨j, A', c', L, rfl, rfl, HK2, HLd, HC, HM, HB⟩ := hrel
                by_cases hlj : j < n
                · have q3 : decide ((j : Int) < (n : Int)) = true := decide_eq_true (by omega)
                  have q4 : decide (j < n) = true := decide_eq_true (by omega)
                  have hkk := HK2.out.2
                  have hi1 := HK.out.2.1
                  have hq : offs n i + (j - i) < rest.length := by
                    have h1 := offs_next n i hi1
                    have h2 := offs_mono (n := n) (n - (i + 1)) (i + 1) (by omega)
                    rw [show i + 1 + (n - (i + 1)) = n from by omega] at h2
                    have := HL.out
                    omega
                  have hLl : L.length = rest.length - (offs n i + (j - i)) := by rw [HLd.out, List.length_drop]
                  obtain ⟨ad, e1, hx0⟩ := Kd.at_int (Kd.C_below HC.out.2 HB.out) 0 (by omega) (by omega)
                  cases e1
                  have hxe : rd L 0 = rest.getD (offs n i + (j - i)) 0 := by
                    rw [show rd L 0 = L.getD 0 0 from rd_nat L 0, HLd.out, List.getD_eq_getElem?_getD, List.getElem?_drop, Nat.add_zero, ← List.getD_eq_getElem?_getD]
                  rw [hxe] at hx0
                  obtain ⟨x, hx⟩ : ∃ x, x = rest.getD (offs n i + (j - i)) 0 := ⟨_, rfl⟩
                  rw [← hx] at hx0
                  have HX := Aside0.mk hx
                  have p1 : ((0 : Int) ≤ (j : Int)) = True := eq_true (by omega)
                  have p2 : ((j : Int) < (n : Int)) = True := eq_true (by omega)
                  have p3 : ((0 : Int) ≤ (i : Int)) = True := eq_true (by omega)
                  have p4 : ((i : Int) < (n : Int)) = True := eq_true (by omega)
                  have p5 : (0 < L.length) = True := eq_true (by omega)
                  have p6 : ((0 : Int) < (L.length : Int)) = True := eq_true (by omega)
                  have hdrop := Aside0.mk (Kd.C_drop (m := 1) (c := c') HC.out.2 (by omega) HC.out.1)
                  have HLL := Aside0.mk hLl
                  have HCL := Aside0.mk HC.out.1
                  have c1 : wr.cell? ⟨bo, i, none⟩ = some (.slice (some ⟨bo + 1 + i, 0, none⟩) n n) := HM.out.cellO hlt hlt
                  have c2 : wr.cell? ⟨bo, j, none⟩ = some (.slice (some ⟨bo + 1 + j, 0, none⟩) n n) := HM.out.cellO hlj hlj
                  have d1 : wr.cell? ⟨bo + 1 + i, j, none⟩ = some _ := HM.out.cellR hlt hlj
                  have g1 : wr.frozen? ⟨bo + 1 + i, j, none⟩ = false := HM.out.frozR hlt j
                  have hm2 := HM.out.put (i := i) (j := j) hlt hlj x
                  have d2 : (wr.setCell ⟨bo + 1 + i, j, none⟩ (.int .u64 x)).cell? ⟨bo + 1 + j, i, none⟩ = some _ := hm2.cellR hlj hlt
                  have g2 : wr.frozen? ⟨bo + 1 + j, i, none⟩ = false := HM.out.frozR hlj i
                  have HM2 := Aside0.mk (hm2.put (i := j) (j := i) hlj hlt x)
                  have hx0' : wr.cell? ad = some (.int .u64 x) := hx0
                  have HP := Aside0.mk (show 0 < L.length from by omega)
                  have HLJ := Aside0.mk hlj
                  clear hm2 hx hxe hLl hq
                  go_wp2
                  refine start_ (n := 20) (S := (fun w' => w'.cell? ⟨bo, i, none⟩ = some (.slice (some ⟨bo + 1 + i, 0, none⟩) n n) ∧ w'.cell? ⟨bo, j, none⟩ = some (.slice (some ⟨bo + 1 + j, 0, none⟩) n n) ∧ w'.cell? ad = some (.int .u64 x))) (ds := [17,19]) #[false, false, false, false, false, false, false, false, false, false, false, false, false, false, false, false, false, false, false, false] (by kernel_rfl) rfl rfl ⟨c1, c2, hx0'⟩ (fun hHeld => ?_)
                  refine pure_ (i := 0) (N := some 71) (v := ?_) (a' := ?_) #[true, false, false, false, false, false, false, false, false, false, false, false, false, false, false, false, false, false, false, false] rfl rfl (by kernel_rfl) (fun _ _ _ h => h) (Or.inl ⟨by rfl, ?_⟩) ?_ ?_
                  rotate_left
                  · intro w'
                    go_simp
                    with_reducible rfl
                  rotate_left
                  · simp only [Act.put, List.setIfInBounds_toArray, List.set_cons_zero, List.set_cons_succ, i64_w, i32_w]
                    rfl
                  refine pure_ (i := 1) (N := some 72) (v := ?_) (a' := ?_) #[true, true, false, false, false, false, false, false, false, false, false, false, false, false, false, false, false, false, false, false] rfl rfl (by kernel_rfl) (fun _ _ _ h => h) (Or.inl ⟨by rfl, ?_⟩) ?_ ?_
                  rotate_left
                  · intro w'
                    go_simp
                    with_reducible rfl
                  rotate_left
                  · simp only [Act.put, List.setIfInBounds_toArray, List.set_cons_zero, List.set_cons_succ, i64_w, i32_w]
                    rfl
                  refine pure_ (i := 2) (N := some 73) (v := ?_) (a' := ?_) #[true, true, true, false, false, false, false, false, false, false, false, false, false, false, false, false, false, false, false, false] rfl rfl (by kernel_rfl) (fun _ _ _ h => h) (Or.inl ⟨by rfl, ?_⟩) ?_ ?_
                  rotate_left
                  · intro w'
                    go_simp
                    with_reducible rfl
                  rotate_left
                  · simp only [Act.put, List.setIfInBounds_toArray, List.set_cons_zero, List.set_cons_succ, i64_w, i32_w]
                    rfl
                  refine take_ (i := 3) (N := some 74) (v := ?_) (a' := ?_) #[true, true, true, true, false, false, false, false, false, false, false, false, false, false, false, false, false, false, false, false] rfl rfl (by kernel_rfl) (fun _ _ _ h => h) (Or.inl ⟨by rfl, ?_⟩) hHeld ?_ ?_
                  rotate_left
                  · rintro w' ⟨s0, s1, s2⟩
                    go_simp
                    with_reducible rfl
                  rotate_left
                  · simp only [Act.put, List.setIfInBounds_toArray, List.set_cons_zero, List.set_cons_succ, i64_w, i32_w]
                    rfl
                  refine pure_ (i := 4) (N := some 75) (v := ?_) (a' := ?_) #[true, true, true, true, true, false, false, false, false, false, false, false, false, false, false, false, false, false, false, false] rfl rfl (by kernel_rfl) (fun _ _ _ h => h) (Or.inl ⟨by rfl, ?_⟩) ?_ ?_
                  rotate_left
                  · intro w'
                    go_simp
                    with_reducible rfl
                  rotate_left
                  · simp only [Act.put, List.setIfInBounds_toArray, List.set_cons_zero, List.set_cons_succ, i64_w, i32_w]
                    rfl
                  refine pure_ (i := 5) (N := some 76) (v := ?_) (a' := ?_) #[true, true, true, true, true, true, false, false, false, false, false, false, false, false, false, false, false, false, false, false] rfl rfl (by kernel_rfl) (fun _ _ _ h => h) (Or.inl ⟨by rfl, ?_⟩) ?_ ?_
                  rotate_left
                  · intro w'
                    go_simp
                    with_reducible rfl
                  rotate_left
                  · simp only [Act.put, List.setIfInBounds_toArray, List.set_cons_zero, List.set_cons_succ, i64_w, i32_w]
                    rfl
                  refine pure_ (i := 6) (N := some 77) (v := ?_) (a' := ?_) #[true, true, true, true, true, true, true, false, false, false, false, false, false, false, false, false, false, false, false, false] rfl rfl (by kernel_rfl) (fun _ _ _ h => h) (Or.inl ⟨by rfl, ?_⟩) ?_ ?_
                  rotate_left
                  · intro w'
                    go_simp
                    with_reducible rfl
                  rotate_left
                  · simp only [Act.put, List.setIfInBounds_toArray, List.set_cons_zero, List.set_cons_succ, i64_w, i32_w]
                    rfl
                  refine pure_ (i := 7) (N := some 78) (v := ?_) (a' := ?_) #[true, true, true, true, true, true, true, true, false, false, false, false, false, false, false, false, false, false, false, false] rfl rfl (by kernel_rfl) (fun _ _ _ h => h) (Or.inl ⟨by rfl, ?_⟩) ?_ ?_
                  rotate_left
                  · intro w'
                    go_simp
                    with_reducible rfl
                  rotate_left
                  · simp only [Act.put, List.setIfInBounds_toArray, List.set_cons_zero, List.set_cons_succ, i64_w, i32_w]
                    rfl
                  refine take_ (i := 8) (N := some 79) (v := ?_) (a' := ?_) #[true, true, true, true, true, true, true, true, true, false, false, false, false, false, false, false, false, false, false, false] rfl rfl (by kernel_rfl) (fun _ _ _ h => h) (Or.inl ⟨by rfl, ?_⟩) hHeld ?_ ?_
                  rotate_left
                  · rintro w' ⟨s0, s1, s2⟩
                    go_simp
                    with_reducible rfl
                  rotate_left
                  · simp only [Act.put, List.setIfInBounds_toArray, List.set_cons_zero, List.set_cons_succ, i64_w, i32_w]
                    rfl
                  refine pure_ (i := 9) (N := some 80) (v := ?_) (a' := ?_) #[true, true, true, true, true, true, true, true, true, true, false, false, false, false, false, false, false, false, false, false] rfl rfl (by kernel_rfl) (fun _ _ _ h => h) (Or.inl ⟨by rfl, ?_⟩) ?_ ?_
                  rotate_left
                  · intro w'
                    go_simp
                    with_reducible rfl
                  rotate_left
                  · simp only [Act.put, List.setIfInBounds_toArray, List.set_cons_zero, List.set_cons_succ, i64_w, i32_w]
                    rfl
                  refine pure_ (i := 10) (N := some 81) (v := ?_) (a' := ?_) #[true, true, true, true, true, true, true, true, true, true, true, false, false, false, false, false, false, false, false, false] rfl rfl (by kernel_rfl) (fun _ _ _ h => h) (Or.inl ⟨by rfl, ?_⟩) ?_ ?_
                  rotate_left
                  · intro w'
                    go_simp
                    with_reducible rfl
                  rotate_left
                  · simp only [Act.put, List.setIfInBounds_toArray, List.set_cons_zero, List.set_cons_succ, i64_w, i32_w]
                    rfl
                  refine pure_ (i := 11) (N := some 82) (v := ?_) (a' := ?_) #[true, true, true, true, true, true, true, true, true, true, true, true, false, false, false, false, false, false, false, false] rfl rfl (by kernel_rfl) (fun _ _ _ h => h) (Or.inl ⟨by rfl, ?_⟩) ?_ ?_
                  rotate_left
                  · intro w'
                    go_simp
                    with_reducible rfl
                  rotate_left
                  · simp only [Act.put, List.setIfInBounds_toArray, List.set_cons_zero, List.set_cons_succ, i64_w, i32_w]
                    rfl
                  refine take_ (i := 12) (N := some 83) (v := ?_) (a' := ?_) #[true, true, true, true, true, true, true, true, true, true, true, true, true, false, false, false, false, false, false, false] rfl rfl (by kernel_rfl) (fun _ _ _ h => h) (Or.inl ⟨by rfl, ?_⟩) hHeld ?_ ?_
                  rotate_left
                  · rintro w' ⟨s0, s1, s2⟩
                    go_simp
                    with_reducible rfl
                  rotate_left
                  · simp only [Act.put, List.setIfInBounds_toArray, List.set_cons_zero, List.set_cons_succ, i64_w, i32_w]
                    rfl
                  refine pure_ (i := 13) (N := some 84) (v := ?_) (a' := ?_) #[true, true, true, true, true, true, true, true, true, true, true, true, true, true, false, false, false, false, false, false] rfl rfl (by kernel_rfl) (fun _ _ _ h => h) (Or.inl ⟨by rfl, ?_⟩) ?_ ?_
                  rotate_left
                  · intro w'
                    go_simp
                    with_reducible rfl
                  rotate_left
                  · simp only [Act.put, List.setIfInBounds_toArray, List.set_cons_zero, List.set_cons_succ, i64_w, i32_w]
                    rfl
                  refine pure_ (i := 14) (N := some 85) (v := ?_) (a' := ?_) #[true, true, true, true, true, true, true, true, true, true, true, true, true, true, true, false, false, false, false, false] rfl rfl (by kernel_rfl) (fun _ _ _ h => h) (Or.inl ⟨by rfl, ?_⟩) ?_ ?_
                  rotate_left
                  · intro w'
                    go_simp
                    with_reducible rfl
                  rotate_left
                  · simp only [Act.put, List.setIfInBounds_toArray, List.set_cons_zero, List.set_cons_succ, i64_w, i32_w]
                    rfl
                  refine take_ (i := 15) (N := some 86) (v := ?_) (a' := ?_) #[true, true, true, true, true, true, true, true, true, true, true, true, true, true, true, true, false, false, false, false] rfl rfl (by kernel_rfl) (fun _ _ _ h => h) (Or.inl ⟨by rfl, ?_⟩) hHeld ?_ ?_
                  rotate_left
                  · rintro w' ⟨s0, s1, s2⟩
                    go_simp
                    with_reducible rfl
                  rotate_left
                  · simp only [Act.put, List.setIfInBounds_toArray, List.set_cons_zero, List.set_cons_succ, i64_w, i32_w]
                    rfl
                  refine pure_ (i := 16) (N := some 87) (v := ?_) (a' := ?_) #[true, true, true, true, true, true, true, true, true, true, true, true, true, true, true, true, true, false, false, false] rfl rfl (by kernel_rfl) (fun _ _ _ h => h) (Or.inl ⟨by rfl, ?_⟩) ?_ ?_
                  rotate_left
                  · intro w'
                    go_simp
                    with_reducible rfl
                  rotate_left
                  · simp only [Act.put, List.setIfInBounds_toArray, List.set_cons_zero, List.set_cons_succ, i64_w, i32_w]
                    rfl
                  refine last_ (i := 17) (N := none) #[true, true, true, true, true, true, true, true, true, true, true, true, true, true, true, true, true, true, false, false] rfl rfl (by kernel_rfl) (by decide) (fun K hK => ?_)
                  refine skip_ (w1 := ?_) (by rfl) rfl ?_ ?_
                  rotate_left
                  · go_simp
                    rfl
                  refine hK.out _ _ ?_
                  clear hK K
                  refine pure_ (i := 18) (N := some 88) (v := ?_) (a' := ?_) #[true, true, true, true, true, true, true, true, true, true, true, true, true, true, true, true, true, true, true, false] rfl rfl (by kernel_rfl) (fun _ _ _ h => h) (Or.inl ⟨by rfl, ?_⟩) ?_ ?_
                  rotate_left
                  · intro w'
                    go_simp
                    with_reducible rfl
                  rotate_left
                  · simp only [Act.put, List.setIfInBounds_toArray, List.set_cons_zero, List.set_cons_succ, i64_w, i32_w]
                    rfl
                  refine last_ (i := 19) (N := none) #[true, true, true, true, true, true, true, true, true, true, true, true, true, true, true, true, true, true, true, true] rfl rfl (by kernel_rfl) (by decide) (fun K hK => ?_)
                  refine skip_ (w1 := ?_) (by rfl) rfl ?_ ?_
                  rotate_left
                  · go_simp
                    rfl
                  refine hK.out _ _ ?_
                  clear hK K
                  refine done_ (by kernel_rfl) ?_
                  clear c1 c2 d1 d2 g1 g2 hx0 hx0' p1 p2 p3 p4 q3 q4 hlj
                  have q6 : ((1 : Int) ≤ (L.length : Int)) = True := eq_true (by have := HP.out; omega)
                  have q7 : (1 ≤ L.length) = True := eq_true (by have := HP.out; omega)
                  have q8 : (L.length ≤ c') = True := eq_true HCL.out
                  have q9 : ((L.length : Int) ≤ (c' : Int)) = True := eq_true (by have := HCL.out; omega)
                  have q5 : (c' = 1) = True ∨ (c' = 1) = False := by
                    by_cases h : c' = 1
                    · exact .inl (eq_true h)
                    · exact .inr (eq_false h)
                  rcases q5 with q5 | q5
                  · have hd := hdrop.out
                    simp only [q5, if_true] at hd
                    go_wp2
                    go_roundg (n - (j + 1))
                    case measure => have := HK2.out; have := HLJ.out; omega
                    case rel =>
                      have hlj2 := HLJ.out
                      refine ⟨j + 1, _, c' - 1, L.drop 1, (by rw [show wrap64 ((j : Int) + 1) = ((j + 1 : Nat) : Int) from by rw [w64' (by omega) (by omega)]; omega]), (by rw [List.length_drop] <;> rfl), ⟨by have := HK2.out; have := HLJ.out; omega, by have := HK2.out; omega⟩, ⟨?_⟩, ⟨by rw [List.length_drop]; have := HCL.out; omega, hd⟩, ⟨Mx.drew (HM2.out.congr fun a ha b hb => ?_)⟩, ⟨?_⟩⟩
                      · rw [HLd.out, List.drop_drop, show offs n i + (j - i) + 1 = offs n i + (j + 1 - i) from by omega]
                      · rw [HX.out]; exact newS_next hi1 hkk a ha b hb
                      · have hbo : w.heap.size ≤ bo := by rw [← HBO.out]; exact Nat.le_refl _
                        exact below_drew (Below.setCell (Below.setCell HB.out (p := ⟨bo + 1 + i, j, none⟩) (by show w.heap.size ≤ bo + 1 + i; omega) _) (p := ⟨bo + 1 + j, i, none⟩) (by show w.heap.size ≤ bo + 1 + j; omega) _)
                  · have hd := hdrop.out
                    simp only [q5, if_false] at hd
                    go_wp2
                    go_roundg (n - (j + 1))
                    case measure => have := HK2.out; have := HLJ.out; omega
                    case rel =>
                      have hlj2 := HLJ.out
                      refine ⟨j + 1, _, c' - 1, L.drop 1, (by rw [show wrap64 ((j : Int) + 1) = ((j + 1 : Nat) : Int) from by rw [w64' (by omega) (by omega)]; omega]), (by rw [List.length_drop] <;> rfl), ⟨by have := HK2.out; have := HLJ.out; omega, by have := HK2.out; omega⟩, ⟨?_⟩, ⟨by rw [List.length_drop]; have := HCL.out; omega, hd⟩, ⟨Mx.drew (HM2.out.congr fun a ha b hb => ?_)⟩, ⟨?_⟩⟩
                      · rw [HLd.out, List.drop_drop, show offs n i + (j - i) + 1 = offs n i + (j + 1 - i) from by omega]
                      · rw [HX.out]; exact newS_next hi1 hkk a ha b hb
                      · have hbo : w.heap.size ≤ bo := by rw [← HBO.out]; exact Nat.le_refl _
                        exact below_drew (Below.setCell (Below.setCell HB.out (p := ⟨bo + 1 + i, j, none⟩) (by show w.heap.size ≤ bo + 1 + i; omega) _) (p := ⟨bo + 1 + j, i, none⟩) (by show w.heap.size ≤ bo + 1 + j; omega) _)
                · have q3 : decide ((j : Int) < (n : Int)) = false := decide_eq_false (by omega)
                  have q4 : decide (j < n) = false := decide_eq_false hlj
                  have hji : n = j := by have := HK2.out; omega
                  subst hji
                  go_wp2
                  go_roundg (n - i)
                  case measure => have := HK.out; omega
                  case rel => exact ⟨i + 1, A', c', L, by go_num, rfl, ⟨by have := HK.out; omega, by omega, by omega⟩, ⟨by rw [HLd.out, offs_next n i HK.out.2.1]⟩, HC, ⟨HM.out.congr (newS_row i)⟩, HB⟩
            · have q1 : decide ((i : Int) < (n : Int)) = false := decide_eq_false (by omega)
              have q2 : decide (i < n) = false := decide_eq_false hlt
              have hij : i = n := by have := HK.out; omega
              go_wp2
              first | go_ret2 | ((try simp only [Exit.inBlock, Exit.then]); refine bodyPost_ret (results_tmp2 rfl _ _ _) rfl ?_)
              have hM := HM.out
              rw [hij] at hM
              exact ⟨_, rfl, (hM.congr (newS_all n)).own (by rw [← HBO.out]; exact Nat.le_refl _) (by omega), HB.out⟩
set_option maxHeartbeats 2000000 in
set_option maxRecDepth 100000 in
theorem bnew_err (A0 : Option Addr) (c0 : Nat) (first : List Int) (A1 : Option Addr) (c1 : Nat) (rest : List Int) (w : World) (hn2 : first.length ≤ 1000) (hlr : rest.length ≤ 1000000000) (hbad : first.length = 0 ∨ rest.length ≠ offs first.length first.length) :
    Calls Try.prog 64 #[.slice A0 first.length c0, .slice A1 rest.length c1] w fun e w' => ∃ v0_ : Value, e = .returned (.tuple #[v0_, .int .i64 1]) ∧ Kd.S (Kd.slice 22 (Kd.int .u64)) 26 w' w.heap.size (fun _ => True) v0_ [] ∧ Below w.heap.size w w' := by
  by_cases hn : first.length = 0
  · have hq0 : ((first.length : Int) == 0) = true := beq_iff_eq.mpr (by omega)
    have hq1 : (first.length == 0) = true := beq_iff_eq.mpr hn
    have HN := Aside0.mk hn
    clear hbad hn
    go_enter Try.func64, Try.ntmps64
    go_wp2
    first | go_ret2 | ((try simp only [Exit.inBlock, Exit.then]); refine bodyPost_ret (results_tmp2 rfl _ _ _) rfl ?_)
    exact ⟨_, rfl, Kd.S_nil _ _ _ _ _, Below.refl _ _⟩
  · have hl : rest.length ≠ offs first.length first.length := hbad.resolve_left hn
    have hol := offs_last (n := first.length) (by omega)
    have hq : ((rest.length : Int) != wrap64 ((wrap64 ((first.length : Int) * ((first.length : Int) - 1))).tdiv 2)) = true := by
      have h1 : (first.length : Int) * ((first.length : Int) - 1) = 2 * (offs first.length first.length : Int) := by rw [hol]
      have h2 : (first.length : Int) * ((first.length : Int) - 1) ≤ 1000 * 1000 := Int.mul_le_mul (by omega) (by omega) (by omega) (by omega)
      have h3 : wrap64 ((first.length : Int) * ((first.length : Int) - 1)) = 2 * (offs first.length first.length : Int) := by rw [h1, w64' (by omega) (by omega)]
      rw [h3, Int.mul_tdiv_cancel_left _ (by omega), w64' (by omega) (by omega)]
      exact bne_iff_ne.mpr (by omega)
    have hq0 : ((first.length : Int) == 0) = false := beq_eq_false_iff_ne.mpr (by omega)
    have hq1 : (first.length == 0) = false := beq_eq_false_iff_ne.mpr hn
    clear hbad hl hol hn
    go_enter Try.func64, Try.ntmps64
    go_wp2
    first | go_ret2 | ((try simp only [Exit.inBlock, Exit.then]); refine bodyPost_ret (results_tmp2 rfl _ _ _) rfl ?_)
    exact ⟨_, rfl, Kd.S_nil _ _ _ _ _, Below.refl _ _⟩
/-- The first row and the rest do not fit. -/
def newBad (first rest : List Int) : Bool := decide (first.length = 0) || decide (rest.length ≠ offs first.length first.length)
theorem newBad_iff {first rest : List Int} : newBad first rest = true ↔ (first.length = 0 ∨ rest.length ≠ offs first.length first.length) := by simp [newBad]
def bivariate_New.f (l0 l1 : List Int) : Option (List (List Int) × Int) :=
  if l0.length ≤ 1000 then (if l1.length ≤ 1000000000 then (if newBad l0 l1 = true then some ([], 1) else some (matL l0.length (newG l0.length l0 l1), 0)) else none) else none
theorem bivariate_New.calls (A0 : Option Addr) (c0 : Nat) (l0 : List Int) (A1 : Option Addr) (c1 : Nat) (l1 : List Int) (r1 : List (List Int)) (r2 : Int) (w : World) (hr0 : Kd.C (Kd.int .u64) w A0 l0.length l0) (hc0 : l0.length ≤ c0) (hr1 : Kd.C (Kd.int .u64) w A1 l1.length l1) (hc1 : l1.length ≤ c1) (h : bivariate_New.f l0 l1 = some (r1, r2)) :
    Calls Try.prog 64 #[.slice A0 l0.length c0, .slice A1 l1.length c1] w fun e w' => ∃ v0_ : Value, e = .returned (.tuple #[v0_, .int .i64 r2]) ∧ Kd.S (Kd.slice 22 (Kd.int .u64)) 26 w' w.heap.size (fun _ => True) v0_ r1 ∧ Below w.heap.size w w' := by
  unfold bivariate_New.f at h
  obtain ⟨h1, h⟩ := ifs h
  obtain ⟨h2, h⟩ := ifs h
  by_cases hb : newBad l0 l1 = true
  · rw [if_pos hb] at h
    have h := Option.some.inj h
    rw [← (Prod.mk.inj h).1, ← (Prod.mk.inj h).2]
    exact bnew_err A0 c0 l0 A1 c1 l1 w h1 h2 (newBad_iff.1 hb)
  · rw [if_neg hb] at h
    have h := Option.some.inj h
    rw [← (Prod.mk.inj h).1, ← (Prod.mk.inj h).2]
    have hg : ¬ (l0.length = 0 ∨ l1.length ≠ offs l0.length l0.length) := fun hx => hb (newBad_iff.2 hx)
    exact bnew_walk A0 c0 l0 A1 c1 l1 w hr0 hc0 hr1 hc1 (by omega) h1 (Classical.byContradiction fun hx => hg (Or.inr hx))
end Go.Proofs.Ytejeelpnmdfibaa.Hw
end
section
/-
  column of package bivariate, proved by hand: one column, interpolated.
-/
namespace Go.Proofs.Ytejeelpnmdfibaa.Hw
open Go.RowKit Go.Proofs.Ytejeelpnmdfibaa.Pr Go.Proofs.YtejeelpnmdfibaaW.PrintWords Go.Proofs.YtejeelpnmdfibaaW.PrintLast Go.Proofs.YtejeelpnmdfibaaW.PrintMore Go.Proofs.Ytejeelpnmdfibaa.E
set_option linter.unusedVariables false
set_option linter.unusedSimpArgs false

/-- The points of column j. -/
def colP (xs : List Int) (rows : List (List Int)) (j : Int) (n : Nat) : List S97 := (List.range n).map fun (i : Nat) => ⟨rd xs (i : Int), rd (rd_L4 rows (i : Int)) j⟩
theorem colP_succ (xs : List Int) (rows : List (List Int)) (j : Int) (n : Nat) : colP xs rows j (n + 1) = colP xs rows j n ++ [⟨rd xs (n : Int), rd (rd_L4 rows (n : Int)) j⟩] := by simp [colP, List.range_succ]
theorem colP_length (xs : List Int) (rows : List (List Int)) (j : Int) (n : Nat) : (colP xs rows j n).length = n := by simp [colP]
/-- A list, filled up with zeros. -/
def padL (f : List Int) (n : Nat) : List Int := f ++ List.replicate (n - f.length) 0
theorem padL_length {f : List Int} {n : Nat} (h : f.length ≤ n) : (padL f n).length = n := by unfold padL; rw [List.length_append, List.length_replicate]; omega
theorem splice_pad {f : List Int} {n : Nat} (h : f.length ≤ n) : Go.splice (List.replicate n (Value.int .u64 0)) 0 (nums .u64 f) = nums .u64 (padL f n) := by
  have hl : (nums .u64 f).length = f.length := by simp [nums]
  unfold Go.splice padL
  rw [List.take_zero, List.nil_append, hl, Nat.zero_add, List.drop_replicate]
  simp [nums]
theorem col_src {w : World} {base : Nat} {A : Option Addr} {c : Nat} {f : List Int} {ok : Nat → Prop} {o : Obj} {g : Nat} (h : Kd.R (Kd.int .u64) 22 w base ok (.slice A f.length c) f) :
    0 < (nums .u64 f).length → (some (⟨g, 0, none⟩ : Addr)) = some ⟨g, 0, none⟩ ∧ ∃ ad, A = some ad ∧ ∀ j v, (nums .u64 f)[j]? = some v → (w.alloc o).cell? (ad.add j) = some v := by
  intro hp
  have hl : (nums .u64 f).length = f.length := by simp [nums]
  obtain ⟨b, q, hv, hb0, how⟩ := R_open (Kd.R_alloc h o) (by omega)
  cases hv
  refine ⟨rfl, ⟨b, 0, none⟩, rfl, fun j v hj => ?_⟩
  have hjl : j < f.length := by have := (List.getElem?_eq_some_iff.1 hj).1; omega
  have h1 := how.cellAt j (by omega)
  rw [← hj, ← h1]
  have e : (⟨b, 0, none⟩ : Addr).add j = ⟨b, j, none⟩ := by
    cases j with
    | zero => rfl
    | succ j => simp [Addr.add]
  rw [e]
/-- copy(out, f) into a new row of zeros. -/
theorem copy_pad {w : World} {base : Nat} {A : Option Addr} {c n : Nat} {f : List Int} {ok : Nat → Prop} (h : Kd.R (Kd.int .u64) 22 w base ok (.slice A f.length c) f) (hf : f.length ≤ n) :
    ∃ w5, (∀ ty, (Builtin.copy_ #[26, 26] ty #[.slice (some ⟨w.heap.size, 0, none⟩) n n, .slice A f.length c]).run Try.prog (w.alloc (.cells (Array.replicate n (.int .u64 0)) 22)) = .ok (goInt f.length) w5) ∧
      w5.heap[w.heap.size]? = some (.cells (nums .u64 (padL f n)).toArray 22 (0, 0)) ∧ Below w.heap.size w w5 := by
  have hl : (nums .u64 f).length = f.length := by simp [nums]
  have hsz : (Try.prog.info? 22).map (·.size) = some 1 := by kernel_rfl
  have hg : (w.alloc (.cells (Array.replicate n (.int .u64 0)) 22)).heap[w.heap.size]? = some (.cells (List.replicate n (Value.int .u64 0)).toArray 22 (0, 0)) := (blk_new w _).trans (by rw [List.toArray_replicate])
  by_cases h0 : f.length = 0
  · refine ⟨w.alloc (.cells (Array.replicate n (.int .u64 0)) 22), fun ty => ?_, ?_, below_alloc (Below.refl _ _) _⟩
    · rw [run_copy_none (P := Try.prog) _ 26 26 ty 22 _ _ _ _ _ _ Try.underlying26 hsz (by rw [h0]; exact Nat.zero_min n), h0]
      rfl
    · rw [hg, ← splice_pad hf]
      have : nums .u64 f = [] := List.eq_nil_of_length_eq_zero (by omega)
      rw [this]
      simp [Go.splice]
  · obtain ⟨_, ad, rfl, hsrc⟩ := col_src (o := .cells (Array.replicate n (.int .u64 0)) 22) (g := 0) h (by omega)
    have hrun := fun ty => run_copy_row (P := Try.prog) (w.alloc (.cells (Array.replicate n (.int .u64 0)) 22)) 26 26 ty 22 w.heap.size 0 n n ad f.length c _ _ (nums .u64 f) Try.underlying26 hsz hg (by rw [hl]; exact (Nat.min_eq_left hf).symm) hsrc (by simp [hl]; omega) (by intro v hv; simp only [nums, List.mem_map] at hv; obtain ⟨y, _, rfl⟩ := hv; rfl)
    refine ⟨_, fun ty => by rw [hrun ty, hl], ?_, Go.below_setRow (below_alloc (Below.refl _ _) _) (Nat.le_refl _) _⟩
    rw [← splice_pad hf]
    rw [setRow_heap _ w.heap.size _ _ 22 _ hg]
    simp [Go.splice, hl]
set_option maxHeartbeats 2000000 in
set_option maxRecDepth 100000 in
theorem col_walk {p : Int} (hp : Supp p) (t : Nat) (ht : t ≤ 11) (A2 : Option Addr) (c2 : Nat) (xs : List Int) (A3 : Option Addr) (c3 : Nat) (rows : List (List Int)) (j : Int) (w : World)
    (hr2 : Kd.C (Kd.int .u64) w A2 xs.length xs) (hc2 : xs.length ≤ c2) (hr3 : Kd.C (Kd.slice 22 (Kd.int .u64)) w A3 rows.length rows) (hc3 : rows.length ≤ c3)
    (hx : t < xs.length) (hrw : t < rows.length) (hj0 : 0 ≤ j) (hj : ∀ i, i ≤ t → j < (rd_L4 rows (i : Int)).length) (hok : PtsOk p (colP xs rows j (t + 1))) (hnd : (xsOf (colP xs rows j (t + 1))).Nodup) :
    Calls Try.prog 93 #[.int .u64 p, .int .i64 (t : Int), .slice A2 xs.length c2, .slice A3 rows.length c3, .int .i64 j] w fun e w' => ∃ v0_ : Value, e = .returned (.tuple #[v0_, .int .i64 0]) ∧ Kd.R (Kd.int .u64) 22 w' w.heap.size (fun _ => True) v0_ (padL (polL p (colP xs rows j (t + 1))) (t + 1)) ∧ Below w.heap.size w w' := by
  have HR2 := Aside0.mk hr2
  have HR3 := Aside0.mk hr3
  have HJ := Aside0.mk hj
  have HOK := Aside0.mk hok
  have HND := Aside0.mk hnd
  have hw : IntKind.i64.wrap ((t : Int) + 1) = ((t + 1 : Nat) : Int) := by rw [wrapI_id (by omega) (by omega)]; omega
  have hpl := polL_len hp (pts := colP xs rows j (t + 1))
  rw [colP_length] at hpl
  clear hr2 hr3 hj hok hnd
  go_enter Try.func93, Try.ntmps93
  go_wp2
  go_loopg [12, 19] (t + 1) (fun kq v12 v19 w' => ∃ n : Nat, v19 = .int .i64 (n : Int) ∧ Aside0 (kq + n = t + 1) ∧ Aside0 (Kd.R k97 97 w' w.heap.size (fun _ => True) v12 (colP xs rows j n)) ∧ Aside0 (Below w.heap.size w w'))
  case atStart => exact ⟨0, rfl, ⟨rfl⟩, ⟨Kd.R_nil _ _ _ _ _⟩, ⟨Below.refl _ _⟩⟩
  case round =>
    obtain ⟨n, rfl, HK, HO, HB⟩ := hrel
    by_cases hlt : n < t + 1
    · have q1 : decide ((n : Int) < (t : Int) + 1) = true := decide_eq_true (by omega)
      have q2 : decide (n < t + 1) = true := decide_eq_true hlt
      obtain ⟨ad2, e2, hy2⟩ := Kd.at_int HR2.out (n : Int) (by omega) (by omega)
      cases e2
      obtain ⟨ad3, A4, c4, e3, hy3, hc4, hC4⟩ := at_L4 HR3.out (n : Int) (by omega) (by omega)
      cases e3
      have hjn := HJ.out n (by omega)
      obtain ⟨ad4, e4, hy4⟩ := Kd.at_int hC4 j hj0 hjn
      cases e4
      rw [Int.toNat_natCast] at hy2 hy3
      have HY2 := Aside0.mk hy2
      have HY3 := Aside0.mk hy3
      have HY4 := Aside0.mk hy4
      have hx2 := pw_cell_below HB.out hy2
      have hx3 := pw_cell_below HB.out hy3
      have hx4 := pw_cell_below HB.out hy4
      clear hy2 hy3 hy4
      have p1 : ((0 : Int) ≤ (n : Int)) = True := eq_true (by omega)
      have p2 : ((n : Int) < (xs.length : Int)) = True := eq_true (by omega)
      have p3 : ((n : Int) < (rows.length : Int)) = True := eq_true (by omega)
      have p4 : ((0 : Int) ≤ j) = True := eq_true hj0
      have p5 : (j < ((rd_L4 rows (n : Int)).length : Int)) = True := eq_true hjn
      have HN := Aside0.mk hlt
      clear hlt hc4 hC4 hjn
      go_wp2
      refine start_ (n := 16) (S := (fun w' => w'.cell? (ad2.add n) = some (.int .u64 (rd xs (n : Int))) ∧ w'.cell? (ad3.add n) = some (.slice (some ad4) (rd_L4 rows (n : Int)).length c4) ∧ w'.cell? (ad4.add j.toNat) = some (.int .u64 (rd (rd_L4 rows (n : Int)) j)))) (ds := []) #[false, false, false, false, false, false, false, false, false, false, false, false, false, false, false, false] (by kernel_rfl) rfl rfl ⟨hx2, hx3, hx4⟩ (fun hHeld => ?_)
      refine pure_ (i := 0) (N := some 22) (v := ?_) (a' := ?_) #[true, false, false, false, false, false, false, false, false, false, false, false, false, false, false, false] rfl rfl (by kernel_rfl) (fun _ _ _ h => h) (Or.inl ⟨by rfl, ?_⟩) ?_ ?_
      rotate_left
      · intro w'
        go_simp
        with_reducible rfl
      rotate_left
      · simp only [Act.put, List.setIfInBounds_toArray, List.set_cons_zero, List.set_cons_succ, i64_w, i32_w]
        rfl
      refine pure_ (i := 1) (N := some 23) (v := ?_) (a' := ?_) #[true, true, false, false, false, false, false, false, false, false, false, false, false, false, false, false] rfl rfl (by kernel_rfl) (fun _ _ _ h => h) (Or.inl ⟨by rfl, ?_⟩) ?_ ?_
      rotate_left
      · intro w'
        go_simp
        with_reducible rfl
      rotate_left
      · simp only [Act.put, List.setIfInBounds_toArray, List.set_cons_zero, List.set_cons_succ, i64_w, i32_w]
        rfl
      refine pure_ (i := 2) (N := some 24) (v := ?_) (a' := ?_) #[true, true, true, false, false, false, false, false, false, false, false, false, false, false, false, false] rfl rfl (by kernel_rfl) (fun _ _ _ h => h) (Or.inl ⟨by rfl, ?_⟩) ?_ ?_
      rotate_left
      · intro w'
        go_simp
        with_reducible rfl
      rotate_left
      · simp only [Act.put, List.setIfInBounds_toArray, List.set_cons_zero, List.set_cons_succ, i64_w, i32_w]
        rfl
      refine pure_ (i := 3) (N := some 25) (v := ?_) (a' := ?_) #[true, true, true, true, false, false, false, false, false, false, false, false, false, false, false, false] rfl rfl (by kernel_rfl) (fun _ _ _ h => h) (Or.inl ⟨by rfl, ?_⟩) ?_ ?_
      rotate_left
      · intro w'
        go_simp
        with_reducible rfl
      rotate_left
      · simp only [Act.put, List.setIfInBounds_toArray, List.set_cons_zero, List.set_cons_succ, i64_w, i32_w]
        rfl
      refine take_ (i := 4) (N := some 26) (v := ?_) (a' := ?_) #[true, true, true, true, true, false, false, false, false, false, false, false, false, false, false, false] rfl rfl (by kernel_rfl) (fun _ _ _ h => h) (Or.inl ⟨by rfl, ?_⟩) hHeld ?_ ?_
      rotate_left
      · rintro w' ⟨s0, s1, s2⟩
        go_simp
        with_reducible rfl
      rotate_left
      · simp only [Act.put, List.setIfInBounds_toArray, List.set_cons_zero, List.set_cons_succ, i64_w, i32_w]
        rfl
      refine pure_ (i := 5) (N := some 27) (v := ?_) (a' := ?_) #[true, true, true, true, true, true, false, false, false, false, false, false, false, false, false, false] rfl rfl (by kernel_rfl) (fun _ _ _ h => h) (Or.inl ⟨by rfl, ?_⟩) ?_ ?_
      rotate_left
      · intro w'
        go_simp
        with_reducible rfl
      rotate_left
      · simp only [Act.put, List.setIfInBounds_toArray, List.set_cons_zero, List.set_cons_succ, i64_w, i32_w]
        rfl
      refine pure_ (i := 6) (N := some 28) (v := ?_) (a' := ?_) #[true, true, true, true, true, true, true, false, false, false, false, false, false, false, false, false] rfl rfl (by kernel_rfl) (fun _ _ _ h => h) (Or.inl ⟨by rfl, ?_⟩) ?_ ?_
      rotate_left
      · intro w'
        go_simp
        with_reducible rfl
      rotate_left
      · simp only [Act.put, List.setIfInBounds_toArray, List.set_cons_zero, List.set_cons_succ, i64_w, i32_w]
        rfl
      refine pure_ (i := 7) (N := some 29) (v := ?_) (a' := ?_) #[true, true, true, true, true, true, true, true, false, false, false, false, false, false, false, false] rfl rfl (by kernel_rfl) (fun _ _ _ h => h) (Or.inl ⟨by rfl, ?_⟩) ?_ ?_
      rotate_left
      · intro w'
        go_simp
        with_reducible rfl
      rotate_left
      · simp only [Act.put, List.setIfInBounds_toArray, List.set_cons_zero, List.set_cons_succ, i64_w, i32_w]
        rfl
      refine take_ (i := 8) (N := some 30) (v := ?_) (a' := ?_) #[true, true, true, true, true, true, true, true, true, false, false, false, false, false, false, false] rfl rfl (by kernel_rfl) (fun _ _ _ h => h) (Or.inl ⟨by rfl, ?_⟩) hHeld ?_ ?_
      rotate_left
      · rintro w' ⟨s0, s1, s2⟩
        go_simp
        with_reducible rfl
      rotate_left
      · simp only [Act.put, List.setIfInBounds_toArray, List.set_cons_zero, List.set_cons_succ, i64_w, i32_w]
        rfl
      refine pure_ (i := 9) (N := some 31) (v := ?_) (a' := ?_) #[true, true, true, true, true, true, true, true, true, true, false, false, false, false, false, false] rfl rfl (by kernel_rfl) (fun _ _ _ h => h) (Or.inl ⟨by rfl, ?_⟩) ?_ ?_
      rotate_left
      · intro w'
        go_simp
        with_reducible rfl
      rotate_left
      · simp only [Act.put, List.setIfInBounds_toArray, List.set_cons_zero, List.set_cons_succ, i64_w, i32_w]
        rfl
      refine pure_ (i := 10) (N := some 32) (v := ?_) (a' := ?_) #[true, true, true, true, true, true, true, true, true, true, true, false, false, false, false, false] rfl rfl (by kernel_rfl) (fun _ _ _ h => h) (Or.inl ⟨by rfl, ?_⟩) ?_ ?_
      rotate_left
      · intro w'
        go_simp
        with_reducible rfl
      rotate_left
      · simp only [Act.put, List.setIfInBounds_toArray, List.set_cons_zero, List.set_cons_succ, i64_w, i32_w]
        rfl
      refine take_ (i := 11) (N := some 33) (v := ?_) (a' := ?_) #[true, true, true, true, true, true, true, true, true, true, true, true, false, false, false, false] rfl rfl (by kernel_rfl) (fun _ _ _ h => h) (Or.inl ⟨by rfl, ?_⟩) hHeld ?_ ?_
      rotate_left
      · rintro w' ⟨s0, s1, s2⟩
        go_simp
        with_reducible rfl
      rotate_left
      · simp only [Act.put, List.setIfInBounds_toArray, List.set_cons_zero, List.set_cons_succ, i64_w, i32_w]
        rfl
      refine pure_ (i := 12) (N := some 34) (v := ?_) (a' := ?_) #[true, true, true, true, true, true, true, true, true, true, true, true, true, false, false, false] rfl rfl (by kernel_rfl) (fun _ _ _ h => h) (Or.inl ⟨by rfl, ?_⟩) ?_ ?_
      rotate_left
      · intro w'
        go_simp
        with_reducible rfl
      rotate_left
      · simp only [Act.put, List.setIfInBounds_toArray, List.set_cons_zero, List.set_cons_succ, i64_w, i32_w]
        rfl
      refine one_ (i := 13) (N := some 35) #[true, true, true, true, true, true, true, true, true, true, true, true, true, true, false, false] rfl rfl (by kernel_rfl) (by decide) (fun K hK => ?_)
      refine value_ (v := .slice (some ⟨wr.heap.size, 0, none⟩) 1 1) (w1 := wr.drew.alloc (.cells #[.int .u64 (rd xs (n : Int)), .int .u64 (rd (rd_L4 rows (n : Int)) j)] 97)) (by rfl) rfl (by go_simp) ?_
      refine hK.out _ _ ⟨cell_alloc_of (n := 1) hx2 _, cell_alloc_of (n := 1) hx3 _, cell_alloc_of (n := 1) hx4 _⟩ (fun hHeld => ?_)
      clear hK K
      refine norm_ (a' := ?_) ?_ ?_
      rotate_left
      · show Act.put _ (some 35) _ = _
        simp only [Act.put, List.setIfInBounds_toArray, List.set_cons_zero, List.set_cons_succ, i64_w, i32_w]
        rfl
      refine one_ (i := 14) (N := some 36) #[true, true, true, true, true, true, true, true, true, true, true, true, true, true, true, false] rfl rfl (by kernel_rfl) (by decide) (fun K hK => ?_)
      refine Kd.R_append_step k97 (w0 := w) w.heap.size (by rfl) (.tmp 22) (.tmp 35) 98 97 (.agg #[(.int .u64 0), (.int .u64 0)]) 16 rfl Try.underlying98 info97 rfl (by decide) (by omega) u12 (colP xs rows j n) (⟨rd xs (n : Int), rd (rd_L4 rows (n : Int)) j⟩ : S97) [.int .u64 (rd xs (n : Int)), .int .u64 (rd (rd_L4 rows (n : Int)) j)] (fun _ => True) (fun _ => False) rfl rfl ?aP (fun _ hk => hk.elim) ?aF ?aO ?aB ?aS ?aL ?_
      (case aP => exact k97_mkM _ _ _ (⟨rd xs (n : Int), rd (rd_L4 rows (n : Int)) j⟩ : S97))
      (case aB => exact below_drew HB.out)
      (case aF => exact (fun _ _ => trivial))
      (case aO => exact Kd.R_drew HO.out)
      (case aS => exact below_size (below_drew HB.out))
      (case aL => rw [colP_length]; have := HN.out; omega)
      intro v2 w2 ho hb hg hat
      rw [← colP_succ] at ho
      refine hK.out _ _ ⟨pw_cell_below hb HY2.out, pw_cell_below hb HY3.out, pw_cell_below hb HY4.out⟩ (fun hHeld => ?_)
      clear hK K
      refine norm_ (a' := ?_) ?_ ?_
      rotate_left
      · show Act.put _ (some 36) _ = _
        simp only [Act.put, List.setIfInBounds_toArray, List.set_cons_zero, List.set_cons_succ, i64_w, i32_w]
        rfl
      refine pure_ (i := 15) (N := some 12) (v := ?_) (a' := ?_) #[true, true, true, true, true, true, true, true, true, true, true, true, true, true, true, true] rfl rfl (by kernel_rfl) (fun _ _ _ h => h) (Or.inl ⟨by rfl, ?_⟩) ?_ ?_
      rotate_left
      · intro w'
        go_simp
        with_reducible rfl
      rotate_left
      · simp only [Act.put, List.setIfInBounds_toArray, List.set_cons_zero, List.set_cons_succ, i64_w, i32_w]
        rfl
      refine done_ (by kernel_rfl) ?_
      have HO2 := Aside0.mk ho
      have HB2 := Aside0.mk hb
      clear ho hb hg hat
      go_wp2
      go_roundg (t - n)
      case measure => have := HK.out; have := HN.out; omega
      case rel =>
        have hn2 := HN.out
        exact ⟨n + 1, (by rw [show wrap64 ((n : Int) + 1) = ((n + 1 : Nat) : Int) from by rw [w64' (by omega) (by omega)]; omega]), ⟨by have := HK.out; omega⟩, HO2, HB2⟩
    · have q1 : decide ((n : Int) < (t : Int) + 1) = false := decide_eq_false (by omega)
      have q2 : decide (n < t + 1) = false := decide_eq_false hlt
      have hnt : n = t + 1 := by have := HK.out; omega
      subst hnt
      obtain ⟨A5, c5, e5, hc5, hC5⟩ := Kd.R_reads HO.out
      cases e5
      have hpf : interpolate_Polynomial.f p (colP xs rows j (t + 1)) = some (polL p (colP xs rows j (t + 1)), 0) := by
        unfold interpolate_Polynomial.f
        rw [if_pos (supB_iff.2 hp), if_pos (ptsB_iff.2 HOK.out), if_pos (by rw [colP_length]; omega), if_pos HND.out, if_pos HND.out]
      have hP := interpolate_Polynomial.calls p A5 c5 _ _ 0 wr hC5 hc5 hpf
      obtain ⟨f, hf⟩ : ∃ f, f = polL p (colP xs rows j (t + 1)) := ⟨_, rfl⟩
      rw [← hf] at hP hpl
      rw [colP_length] at hP
      have HP2 := Aside0.mk hP
      have HF := Aside0.mk hf
      clear hP hf hpf hC5 hc5 HO
      rw [colP_length]
      go_wp2_with (first
        | (go_at_call 99; (with_reducible refine HP2.out.mono ?_); rintro e w4 ⟨v4, rfl, ho4, hb4⟩; have HO4 := Aside0.mk ho4; have HB4 := Aside0.mk (below_step HB.out hb4); clear ho4 hb4; obtain ⟨A4, c4, e4⟩ := Kd.R_slice HO4.out; subst e4; have hmk := mk_run (t := 26) (e := 22) (z := .int .u64 0) Try.underlying26 info22 rfl (t + 1) (by omega) (by decide) w4; rw [show ((t + 1 : Nat) : Int) = (t : Int) + 1 from rfl] at hmk; obtain ⟨w5, hcp, hg5, hb5⟩ := copy_pad HO4.out hpl; have HG5 := Aside0.mk hg5; have HB5 := Aside0.mk (below_step HB4.out hb5); clear hg5 hb5))
      first | go_ret2 | ((try simp only [Exit.inBlock, Exit.then]); refine bodyPost_ret (results_tmp2 rfl _ _ _) rfl ?_)
      have hg5 : w5.heap[w4.heap.size]? = some (.cells (nums .u64 (padL f (t + 1))).toArray 22 (0, 0)) := HG5.out
      have hbs := below_size HB4.out
      have hpl2 := padL_length hpl
      have hnl : (nums .u64 (padL f (t + 1))).length = t + 1 := by unfold nums; rw [List.length_map, hpl2]
      refine ⟨_, rfl, ?_, HB5.out⟩
      rw [← HF.out]
      refine R_made ?_ (fun _ _ => trivial)
      rw [hpl2]
      refine ⟨by rw [hnl]; omega, .inr ⟨w4.heap.size, t + 1, (nums .u64 (padL f (t + 1))).toArray, rfl, hbs, hg5, Nat.le_refl _, by simp only [maxLen]; omega, by rw [List.size_toArray, hnl]; omega, ?_⟩⟩
      show (nums .u64 (padL f (t + 1))).take ((t + 1) * 1) = _
      exact List.take_of_length_le (by rw [hnl]; omega)
def bivariate_column.f (a0 a1 : Int) (l2 : List Int) (l3 : List (List Int)) (a4 : Int) : Option (List Int × Int) :=
  if supB a0 = true then (if 0 ≤ a1 then (if a1 ≤ 11 then (if a1 < (l2.length : Int) then (if a1 < (l3.length : Int) then (if 0 ≤ a4 then (if ((List.range (a1.toNat + 1)).all fun (i : Nat) => decide (a4 < (rd_L4 l3 (i : Int)).length)) = true then
    (if ptsB a0 (colP l2 l3 a4 (a1.toNat + 1)) = true then (if (xsOf (colP l2 l3 a4 (a1.toNat + 1))).Nodup then some (padL (polL a0 (colP l2 l3 a4 (a1.toNat + 1))) (a1.toNat + 1), 0) else none) else none) else none) else none) else none) else none) else none) else none) else none
theorem bivariate_column.calls (a0 a1 : Int) (A2 : Option Addr) (c2 : Nat) (l2 : List Int) (A3 : Option Addr) (c3 : Nat) (l3 : List (List Int)) (a4 : Int) (r1 : List Int) (r2 : Int) (w : World) (hr2 : Kd.C (Kd.int .u64) w A2 l2.length l2) (hc2 : l2.length ≤ c2) (hr3 : Kd.C (Kd.slice 22 (Kd.int .u64)) w A3 l3.length l3) (hc3 : l3.length ≤ c3) (h : bivariate_column.f a0 a1 l2 l3 a4 = some (r1, r2)) :
    Calls Try.prog 93 #[.int .u64 a0, .int .i64 a1, .slice A2 l2.length c2, .slice A3 l3.length c3, .int .i64 a4] w fun e w' => ∃ v0_ : Value, e = .returned (.tuple #[v0_, .int .i64 r2]) ∧ Kd.R (Kd.int .u64) 22 w' w.heap.size (fun _ => True) v0_ r1 ∧ Below w.heap.size w w' := by
  unfold bivariate_column.f at h
  obtain ⟨h1, h⟩ := ifs h
  obtain ⟨h2, h⟩ := ifs h
  obtain ⟨h3, h⟩ := ifs h
  obtain ⟨h4, h⟩ := ifs h
  obtain ⟨h5, h⟩ := ifs h
  obtain ⟨h6, h⟩ := ifs h
  obtain ⟨h7, h⟩ := ifs h
  obtain ⟨h8, h⟩ := ifs h
  obtain ⟨h9, h⟩ := ifs h
  have h := Option.some.inj h
  rw [← (Prod.mk.inj h).1, ← (Prod.mk.inj h).2]
  have e : ((a1.toNat : Nat) : Int) = a1 := Int.toNat_of_nonneg h2
  have hg := col_walk (supB_of h1) a1.toNat (by omega) A2 c2 l2 A3 c3 l3 a4 w hr2 hc2 hr3 hc3 (by omega) (by omega) h6 (fun i hi => of_decide_eq_true (List.all_eq_true.1 h7 i (List.mem_range.2 (by omega)))) (ptsB_iff.1 h8) h9
  rw [e] at hg
  exact hg
end Go.Proofs.Ytejeelpnmdfibaa.Hw
end
section
/- Printed by a program of this seat (the kit's printer, with the functions that were proved by hand given to it). What stands here: the functions that the statements reach, as plain functions, and that the Go code computes them. -/
namespace Go.Proofs.Ytejeelpnmdfibaa.Pr
open Go.RowKit Go.Proofs.YtejeelpnmdfibaaW.PrintWords Go.Proofs.YtejeelpnmdfibaaW.PrintLast Go.Proofs.YtejeelpnmdfibaaW.PrintMore
attribute [local go_sem] max2_int min2_int max_two min_two max_three min_three max_four min_four   -- for this text's walks alone
set_option linter.unusedVariables false
set_option linter.unusedSimpArgs false

open Go.Proofs.Ytejeelpnmdfibaa.Hw
/-! ### bivariate_Interpolate: function 66 -/
mutual
def bivariate_Interpolate.l0 : Nat → Int → Int → List Int → List (List Int) → List (List Int) → Int → Int → Option ((List (List Int)) × Int)
 | 0,_,_,_,_,_,_,_ => none
 | k + 1,x0,x1,x2,x3,x10,x26,x27 => if x27 < x26 then ((bivariate_column.f x0 x1 x2 x3 x27).bind fun bt514 => (if bt514.2 = 0 then (bivariate_Interpolate.l1 k x0 x1 x2 x3 x10 bt514.1 x26 x27 (x10.length : Int) 0) else (some (([] : List (List Int)),6)))) else ((bivariate_IsSymmetric.f k x10).bind fun t524 => (if t524 = true then (bivariate_Interpolate.l2 k x0 x3 x10 x2 (x2.length : Int) 0) else (some (([] : List (List Int)),6))))
def bivariate_Interpolate.l1 : Nat → Int → Int → List Int → List (List Int) → List (List Int) → List Int → Int → Int → Int → Int → Option ((List (List Int)) × Int)
 | 0,_,_,_,_,_,_,_,_,_,_ => none
 | k + 1,x0,x1,x2,x3,x10,x12,x26,x27,x42,x43 => if x43 < x42 then (if 0 ≤ x43 then (if x43 < (x10.length : Int) then (if x43 < (x12.length : Int) then (if (rd_L4 x10 x43).length < 17592186044416 then (bivariate_Interpolate.l1 k x0 x1 x2 x3 (x10.set (x43 : Int).toNat ((rd_L4 x10 x43) ++ [rd x12 x43])) x12 x26 x27 x42 (wrap64 (x43 + 1))) else (none)) else (none)) else (none)) else (none)) else (bivariate_Interpolate.l0 k x0 x1 x2 x3 x10 x26 (wrap64 (x27 + 1)))
def bivariate_Interpolate.l2 : Nat → Int → List (List Int) → List (List Int) → List Int → Int → Int → Option ((List (List Int)) × Int)
 | 0,_,_,_,_,_,_ => none
 | k + 1,x0,x3,x10,x64,x65,x66 => if x66 < x65 then (if 0 ≤ x66 then (if x66 < (x64.length : Int) then ((bivariate_Row.f k x0 x10 (rd x64 x66)).bind fun t526 => (if x66 < (x3.length : Int) then ((slices_Equal_uint64_uint64.f k t526 (rd_L4 x3 x66)).bind fun t530 => (if t530 = true then (bivariate_Interpolate.l2 k x0 x3 x10 x64 x65 (wrap64 (x66 + 1))) else (some (([] : List (List Int)),6)))) else (none))) else (none)) else (none)) else (some (x10,0))
end
def bivariate_Interpolate.f (k : Nat) (a0 : Int) (a1 : Int) (l2 : List Int) (l3 : List (List Int)) : Option ((List (List Int)) × Int) := (bivariate_may.f k a1 l2 l3).bind fun t510 => (if t510 = true then (if 0 ≤ (wrap64 (a1 + 1)) then (if (wrap64 (a1 + 1) : Int).toNat ≤ 11728124029610 then ((some (List.replicate (wrap64 (a1 + 1) : Int).toNat [] : List (List Int))).bind fun y511 => (bivariate_Interpolate.l0 k a0 a1 l2 l3 y511 (y511.length : Int) 0)) else (none)) else (none)) else (some (([] : List (List Int)), 1)))
theorem bivariate_Interpolate.mono_l : ∀ k, (∀ y0 y1 y2 y3 y4 y5 y6, LeO (bivariate_Interpolate.l0 k y0 y1 y2 y3 y4 y5 y6) (bivariate_Interpolate.l0 (k + 1) y0 y1 y2 y3 y4 y5 y6)) ∧ (∀ y0 y1 y2 y3 y4 y5 y6 y7 y8 y9, LeO (bivariate_Interpolate.l1 k y0 y1 y2 y3 y4 y5 y6 y7 y8 y9) (bivariate_Interpolate.l1 (k + 1) y0 y1 y2 y3 y4 y5 y6 y7 y8 y9)) ∧ (∀ y0 y1 y2 y3 y4 y5, LeO (bivariate_Interpolate.l2 k y0 y1 y2 y3 y4 y5) (bivariate_Interpolate.l2 (k + 1) y0 y1 y2 y3 y4 y5))
 | 0 => ⟨fun _ _ _ _ _ _ _ r h => by simp [bivariate_Interpolate.l0] at h,fun _ _ _ _ _ _ _ _ _ _ r h => by simp [bivariate_Interpolate.l1] at h,fun _ _ _ _ _ _ r h => by simp [bivariate_Interpolate.l2] at h⟩
 | k + 1 => by
  obtain ⟨ih0,ih1,ih2⟩ := bivariate_Interpolate.mono_l k
  refine ⟨?_,?_,?_⟩
  ·intro y0 y1 y2 y3 y4 y5 y6
   unfold bivariate_Interpolate.l0
   repeat' first
   | (with_reducible exact ih0 _ _ _ _ _ _ _)
   | (with_reducible exact ih1 _ _ _ _ _ _ _ _ _ _)
   | (with_reducible exact ih2 _ _ _ _ _ _)
   | (with_reducible exact bivariate_IsSymmetric.mono _ _)
   | (with_reducible exact bivariate_Row.mono _ _ _ _)
   | (with_reducible exact bivariate_may.mono _ _ _ _)
   | (with_reducible exact slices_Equal_uint64_uint64.mono _ _ _)
   | (with_reducible exact LeO.refl _)
   | (with_reducible exact LeO.none _)
   | (with_reducible refine LeO.ite ?_ ?_)
   | (with_reducible refine LeO.bind ?_ (fun _ => ?_))
   | exact ih0 _ _ _ _ _ _ _
   | exact ih1 _ _ _ _ _ _ _ _ _ _
   | exact ih2 _ _ _ _ _ _
   | exact bivariate_IsSymmetric.mono _ _
   | exact bivariate_Row.mono _ _ _ _
   | exact bivariate_may.mono _ _ _ _
   | exact slices_Equal_uint64_uint64.mono _ _ _
   | exact LeO.none _
   | refine LeO.ite ?_ ?_
   | refine LeO.bind ?_ (fun _ => ?_)
  ·intro y0 y1 y2 y3 y4 y5 y6 y7 y8 y9
   unfold bivariate_Interpolate.l1
   repeat' first
   | (with_reducible exact ih0 _ _ _ _ _ _ _)
   | (with_reducible exact ih1 _ _ _ _ _ _ _ _ _ _)
   | (with_reducible exact ih2 _ _ _ _ _ _)
   | (with_reducible exact bivariate_IsSymmetric.mono _ _)
   | (with_reducible exact bivariate_Row.mono _ _ _ _)
   | (with_reducible exact bivariate_may.mono _ _ _ _)
   | (with_reducible exact slices_Equal_uint64_uint64.mono _ _ _)
   | (with_reducible exact LeO.refl _)
   | (with_reducible exact LeO.none _)
   | (with_reducible refine LeO.ite ?_ ?_)
   | (with_reducible refine LeO.bind ?_ (fun _ => ?_))
   | exact ih0 _ _ _ _ _ _ _
   | exact ih1 _ _ _ _ _ _ _ _ _ _
   | exact ih2 _ _ _ _ _ _
   | exact bivariate_IsSymmetric.mono _ _
   | exact bivariate_Row.mono _ _ _ _
   | exact bivariate_may.mono _ _ _ _
   | exact slices_Equal_uint64_uint64.mono _ _ _
   | exact LeO.none _
   | refine LeO.ite ?_ ?_
   | refine LeO.bind ?_ (fun _ => ?_)
  ·intro y0 y1 y2 y3 y4 y5
   unfold bivariate_Interpolate.l2
   repeat' first
   | (with_reducible exact ih0 _ _ _ _ _ _ _)
   | (with_reducible exact ih1 _ _ _ _ _ _ _ _ _ _)
   | (with_reducible exact ih2 _ _ _ _ _ _)
   | (with_reducible exact bivariate_IsSymmetric.mono _ _)
   | (with_reducible exact bivariate_Row.mono _ _ _ _)
   | (with_reducible exact bivariate_may.mono _ _ _ _)
   | (with_reducible exact slices_Equal_uint64_uint64.mono _ _ _)
   | (with_reducible exact LeO.refl _)
   | (with_reducible exact LeO.none _)
   | (with_reducible refine LeO.ite ?_ ?_)
   | (with_reducible refine LeO.bind ?_ (fun _ => ?_))
   | exact ih0 _ _ _ _ _ _ _
   | exact ih1 _ _ _ _ _ _ _ _ _ _
   | exact ih2 _ _ _ _ _ _
   | exact bivariate_IsSymmetric.mono _ _
   | exact bivariate_Row.mono _ _ _ _
   | exact bivariate_may.mono _ _ _ _
   | exact slices_Equal_uint64_uint64.mono _ _ _
   | exact LeO.none _
   | refine LeO.ite ?_ ?_
   | refine LeO.bind ?_ (fun _ => ?_)
theorem bivariate_Interpolate.mono : ∀ a0 a1 a2 a3 k, LeO (bivariate_Interpolate.f k a0 a1 a2 a3) (bivariate_Interpolate.f (k + 1) a0 a1 a2 a3) := by
 intro a0 a1 a2 a3 k
 obtain ⟨ih0,ih1,ih2⟩ := bivariate_Interpolate.mono_l k
 unfold bivariate_Interpolate.f
 repeat' first
   | (with_reducible exact ih0 _ _ _ _ _ _ _)
   | (with_reducible exact ih1 _ _ _ _ _ _ _ _ _ _)
   | (with_reducible exact ih2 _ _ _ _ _ _)
   | (with_reducible exact bivariate_IsSymmetric.mono _ _)
   | (with_reducible exact bivariate_Row.mono _ _ _ _)
   | (with_reducible exact bivariate_may.mono _ _ _ _)
   | (with_reducible exact slices_Equal_uint64_uint64.mono _ _ _)
   | (with_reducible exact LeO.refl _)
   | (with_reducible exact LeO.none _)
   | (with_reducible refine LeO.ite ?_ ?_)
   | (with_reducible refine LeO.bind ?_ (fun _ => ?_))
   | exact ih0 _ _ _ _ _ _ _
   | exact ih1 _ _ _ _ _ _ _ _ _ _
   | exact ih2 _ _ _ _ _ _
   | exact bivariate_IsSymmetric.mono _ _
   | exact bivariate_Row.mono _ _ _ _
   | exact bivariate_may.mono _ _ _ _
   | exact slices_Equal_uint64_uint64.mono _ _ _
   | exact LeO.none _
   | refine LeO.ite ?_ ?_
   | refine LeO.bind ?_ (fun _ => ?_)
def bivariate_Interpolate.T13 : Bool × List (List Nat × List Nat) := (true, [([], []), ([], []), ([], []), ([], []), ([2, 3], [2, 3]), ([4], [4]), ([], []), ([], []), ([6, 7], [6, 7]), ([8], [8]), ([9], [9]), ([5, 10], [5, 10]), ([0, 1, 0, 1, 2, 3, 4, 5, 6, 7, 8, 9, 10, 11], [0, 1]), ([12, 11, 11, 0, 1, 2, 3, 4, 5, 6, 7, 8, 9, 10, 11], [11, 12])])
def bivariate_Interpolate.B13 : List Nat := [0, 0, 0, 0, 12, 28, 0, 0, 192, 448, 960, 2044, 4095, 8191]
theorem bivariate_Interpolate.tab13 : rtab .any (opsOf Try.f66 13) = bivariate_Interpolate.T13 := by kernel_rfl
theorem bivariate_Interpolate.bits13 : waitsOk bivariate_Interpolate.T13.2 bivariate_Interpolate.B13 = true := by kernel_rfl
def bivariate_Interpolate.T21 : Bool × List (List Nat × List Nat) := (true, [([], []), ([], []), ([], []), ([0, 1, 2], [0, 1, 2]), ([], []), ([], []), ([4, 5], [4, 5]), ([6], [6]), ([3, 7, 3], [3, 7]), ([8], [8])])
def bivariate_Interpolate.B21 : List Nat := [0, 0, 0, 7, 0, 0, 48, 112, 255, 511]
theorem bivariate_Interpolate.tab21 : rtab .any (opsOf Try.f66 21) = bivariate_Interpolate.T21 := by kernel_rfl
theorem bivariate_Interpolate.bits21 : waitsOk bivariate_Interpolate.T21.2 bivariate_Interpolate.B21 = true := by kernel_rfl
set_option maxHeartbeats 8000000 in
set_option maxRecDepth 100000 in
theorem bivariate_Interpolate.calls (k : Nat) (a0 : Int) (a1 : Int) (A2 : Option Addr) (c2 : Nat) (l2 : List Int) (A3 : Option Addr) (c3 : Nat) (l3 : List (List Int)) (r1 : List (List Int)) (r2 : Int) (w : World) (hr2 : Kd.C (Kd.int .u64) w A2 l2.length l2) (hc2 : l2.length ≤ c2) (hr3 : Kd.C (Kd.slice 22 (Kd.int .u64)) w A3 l3.length l3) (hc3 : l3.length ≤ c3) (h : bivariate_Interpolate.f k a0 a1 l2 l3 = some (r1, r2)) :
  Calls Try.prog 66 #[.int .u64 a0,.int .i64 a1,.slice A2 l2.length c2,.slice A3 l3.length c3] w fun e w' => ∃ v0_ : Value,e = .returned (.tuple #[v0_,.int .i64 r2]) ∧ Kd.S (Kd.slice 22 (Kd.int .u64)) 26 w' w.heap.size (fun _ => True) v0_ r1 ∧ Below w.heap.size w w' := by
 have HR2 := Aside0.mk hr2
 have HC2 := Aside0.mk hc2
 clear hr2 hc2
 have HR3 := Aside0.mk hr3
 have HC3 := Aside0.mk hc3
 clear hr3 hc3
 have HB := Aside0.mk (Below.refl w.heap.size w)
 have H : ((bivariate_may.f k a1 l2 l3).bind fun t510 => (if t510 = true then (if 0 ≤ (wrap64 (a1 + 1)) then (if (wrap64 (a1 + 1) : Int).toNat ≤ 11728124029610 then ((some (List.replicate (wrap64 (a1 + 1) : Int).toNat [] : List (List Int))).bind fun y511 => (bivariate_Interpolate.l0 k a0 a1 l2 l3 y511 (y511.length : Int) 0)) else (none)) else (none)) else (some (([] : List (List Int)),1)))) = some (r1,r2) := h
 clear h
 replace H := Option.bind_eq_some_iff.mp H
 obtain ⟨t510,A50,H⟩ := H
 replace H : (if t510 = true then (if 0 ≤ (wrap64 (a1 + 1)) then (if (wrap64 (a1 + 1) : Int).toNat ≤ 11728124029610 then ((some (List.replicate (wrap64 (a1 + 1) : Int).toNat [] : List (List Int))).bind fun y511 => (bivariate_Interpolate.l0 k a0 a1 l2 l3 y511 (y511.length : Int) 0)) else (none)) else (none)) else (some (([] : List (List Int)),1))) = some (r1,r2) := H
 have A5 := Aside0.mk A50
 clear A50
 by_cases c6 : t510 = true
 ·subst c6
  have H1 : (if 0 ≤ (wrap64 (a1 + 1)) then (if (wrap64 (a1 + 1) : Int).toNat ≤ 11728124029610 then ((some (List.replicate (wrap64 (a1 + 1) : Int).toNat [] : List (List Int))).bind fun y511 => (bivariate_Interpolate.l0 k a0 a1 l2 l3 y511 (y511.length : Int) 0)) else (none)) else (none)) = some (r1,r2) := by rw [if_pos rfl] at H;exact H
  clear H
  have H := H1
  clear H1
  obtain ⟨ji7,hji7⟩ : ∃ j_ : Int,(wrap64 (a1 + 1)) = j_ := ⟨_,rfl⟩
  replace H : (if 0 ≤ (ji7) then (if (ji7 : Int).toNat ≤ 11728124029610 then ((some (List.replicate (ji7 : Int).toNat [] : List (List Int))).bind fun y511 => (bivariate_Interpolate.l0 k a0 a1 l2 l3 y511 (y511.length : Int) 0)) else (none)) else (none)) = some (r1,r2) := by first|(rw [hji7] at H;exact H)|(simp only [hji7] at H ⊢;exact H)
  (try rw [hji7] at A5)
  have hji7w : (IntKind.i64.wrap (a1 + 1)) = ji7 := (i64_w _).trans hji7
  by_cases c8 : 0 ≤ (ji7)
  ·rw [if_pos c8] at H
   have c8b0 := eq_true c8
   have c8b1 : decide (0 ≤ (ji7)) = true := decide_eq_true c8
   clear c8
   by_cases c9 : (ji7 : Int).toNat ≤ 11728124029610
   ·rw [if_pos c9] at H
    have c9b0 := eq_true c9
    have c9b1 : decide ((ji7 : Int).toNat ≤ 11728124029610) = true := decide_eq_true c9
    clear c9
    obtain ⟨y511,hy511⟩ : ∃ y_ : List (List Int),y_ = (List.replicate (ji7 : Int).toNat []) := ⟨_,rfl⟩
    replace H : (bivariate_Interpolate.l0 k a0 a1 l2 l3 y511 (y511.length : Int) 0) = some (r1,r2) := by first|(rw [hy511];with_reducible exact H)|(have H2_ := (Option.bind_some _ _).symm.trans H;rw [hy511];with_reducible exact H2_)|(have H2_ := (Option.bind_some _ _).symm.trans H;with_reducible exact H2_)|with_reducible exact H|(rw [hy511];exact H)|exact H
    have Ny511 := Aside0.mk hy511
    clear hy511
    have H' := Aside0.mk H
    clear H
    go_enter Try.func66,Try.ntmps66
    go_wp2_with (first|((with_reducible refine gate_callee (f := 92) rfl ?_);refine goesL_ (some 20) rfl rfl Try.func92 (by kernel_rfl) rfl #[.int .i64 a1,.slice A2 l2.length c2,.slice A3 l3.length c3] rfl (by (try simp only [List.map_toArray,List.map_cons,List.map_nil]);first|done|rfl|(simp only [List.length_drop,List.length_take];rfl)) ?_;(with_reducible refine (bivariate_may.calls k a1 _ _ l2 _ _ l3 true _ ?side1 ?side2 ?side3 ?side4 A5.out).mono ?_);(case side1 => repeat (first|exact HR2.out|(with_reducible refine Kd.C_alloc ?_ _)|(with_reducible refine Kd.C_drewN ?_ _)|(with_reducible refine Kd.C_drew ?_)));(case side2 => exact HC2.out);(case side3 => repeat (first|exact HR3.out|(with_reducible refine Kd.C_alloc ?_ _)|(with_reducible refine Kd.C_drewN ?_ _)|(with_reducible refine Kd.C_drew ?_)));(case side4 => exact HC3.out);rintro e w' ⟨rfl,⟨nd,rfl⟩⟩;refine ⟨_,rfl,?_⟩)|((with_reducible refine gate_dst (N := 24) rfl ?_);refine Kd.S_make (Kd.slice 22 (Kd.int .u64)) _ 26 rfl (N := 24) rfl 34 _ _ rfl ji7 rfl rfl Try.underlying34 (.slice none 0 0) 24 info26 rfl (by decide) (by omega) [] (ok := fun _ => True) (okp := fun _ => True) ⟨_,rfl,Kd.R_nil _ _ _ _ _⟩ (fun _ hk => hk) trivial (of_decide_eq_true (by first|(with_reducible assumption)|assumption)) (Nat.le_trans (Nat.mul_le_mul_right _ (of_decide_eq_true (by first|(with_reducible assumption)|assumption) : ji7.toNat ≤ 11728124029610)) (by omega)) (Below.refl _ _) (Nat.le_refl _) ?_;intro v512 w10 ho11 hb hg_ hnew_;clear hg_ hnew_;(first|rw [← Ny511.out] at ho11|(simp only [Int.reduceToNat] at ho11;rw [← Ny511.out] at ho11));have n0_ := Aside0.mk (Kd.S_lower ho11 (below_size (by repeat (first|(with_reducible first|exact HB.out|apply below_alloc|apply pw_below_drewN|apply below_drew1)|exact HB.out))));have n1_ := Aside0.mk (below_step (by repeat (first|(with_reducible first|exact HB.out|apply below_alloc|apply pw_below_drewN|apply below_drew1)|exact HB.out)) hb);clear HB;have HO513 := n0_;have HB := n1_;clear n0_ n1_;clear hb ho11;obtain ⟨Ao12,co12,eo12⟩ := Kd.S_slice HO513.out;subst eo12))
    go_loopg [27] k (fun kq v27 w' => ∃ (x10_1 : List (List Int)) (x27_1 : Int),v27 = .int .i64 x27_1 ∧ Aside0 (bivariate_Interpolate.l0 kq a0 a1 l2 l3 x10_1 (y511.length : Int) x27_1 = some (r1,r2)) ∧ Aside0 (kq ≤ k) ∧ Aside0 (Kd.S (Kd.slice 22 (Kd.int .u64)) 26 w' w.heap.size (fun _ => True) (.slice Ao12 y511.length co12) x10_1) ∧ Aside0 (Below w.heap.size w w'))
    case atStart => exact ⟨(y511),(0),(by first|rfl|(simp;done)|(simp [*];done)),H',⟨Nat.le_refl _⟩,⟨by (with_reducible repeat (first|apply Kd.S_alloc|apply Kd.S_drewN|apply Kd.S_drew));exact HO513.out⟩,⟨by repeat (first|(with_reducible first|exact HB.out|apply below_alloc|apply pw_below_drewN|apply below_drew1)|exact HB.out)⟩⟩
    case round =>
     clear H'
     try clear c2
     try clear p2
     try clear c3
     try clear c6
     try clear p6
     try clear c8
     try clear c8b0
     try clear c8b1
     try clear c9
     try clear c9b0
     try clear c9b1
     obtain ⟨x10_1,x27_1,rfl,HA,HK1,HO_10,HB⟩ := hrel
     have hl10_1 := (Kd.S_reads' HO_10.out).1
     rw [hl10_1] at HO_10
     (try simp only [hl10_1])
     cases gk with
     | zero => exact absurd HA.out (by simp [bivariate_Interpolate.l0])
     | succ k1 =>
      have H := HA.out
      clear HA
      simp only [bivariate_Interpolate.l0] at H
      by_cases c13 : x27_1 < (y511.length : Int)
      ·rw [if_pos c13] at H
       have c13b0 : decide (x27_1 < (y511.length : Int)) = true := decide_eq_true c13
       try have c13b0_ : decide (x27_1 < (x10_1.length : Int)) = true := by rw [← hl10_1];exact c13b0
       clear c13
       replace H := Option.bind_eq_some_iff.mp H
       obtain ⟨⟨t514,t515⟩,A140,H⟩ := H
       replace H : (if t515 = 0 then (bivariate_Interpolate.l1 k1 a0 a1 l2 l3 x10_1 t514 (y511.length : Int) x27_1 (x10_1.length : Int) 0) else (some (([] : List (List Int)),6))) = some (r1,r2) := H
       have A14 := Aside0.mk A140
       clear A140
       by_cases c15 : t515 = 0
       ·rw [if_pos c15] at H
        have c15b0 : (t515 == 0) = true := beq_iff_eq.mpr c15
        have c15b1 : (t515 != 0) = false := bne_eq_false_iff_eq.mpr c15
        clear c15
        have H' := Aside0.mk H
        clear H
        go_wp2_with (first|((with_reducible refine gate_callee (f := 93) rfl ?_);refine goesL_ (some 36) rfl rfl Try.func93 (by kernel_rfl) rfl #[.int .u64 a0,.int .i64 a1,.slice A2 l2.length c2,.slice A3 l3.length c3,.int .i64 x27_1] rfl (by (try simp only [List.map_toArray,List.map_cons,List.map_nil]);first|done|rfl|(simp only [List.length_drop,List.length_take];rfl)) ?_;(with_reducible refine (bivariate_column.calls a0 a1 _ _ l2 _ _ l3 x27_1 t514 t515 _ ?side1 ?side2 ?side3 ?side4 A14.out).mono ?_);(case side1 => repeat (first|exact (Kd.C_below HR2.out HB.out)|(with_reducible refine Kd.C_alloc ?_ _)|(with_reducible refine Kd.C_drewN ?_ _)|(with_reducible refine Kd.C_drew ?_)));(case side2 => exact HC2.out);(case side3 => repeat (first|exact (Kd.C_below HR3.out HB.out)|(with_reducible refine Kd.C_alloc ?_ _)|(with_reducible refine Kd.C_drewN ?_ _)|(with_reducible refine Kd.C_drew ?_)));(case side4 => exact HC3.out);rintro e w16 ⟨v516,rfl,ho0,hb⟩;refine ⟨_,rfl,?_⟩;have n0_ := Aside0.mk (Kd.S_elder' (by (with_reducible repeat (first|apply Kd.S_alloc|apply Kd.S_drewN|apply Kd.S_drew));exact HO_10.out) (Kd.R_base ho0) hb);have n1_ := Aside0.mk (Kd.R_lower ho0 (below_size (by repeat (first|(with_reducible first|exact HB.out|apply below_alloc|apply pw_below_drewN|apply below_drew1)|exact HB.out))));have n2_ := Aside0.mk (below_step (by repeat (first|(with_reducible first|exact HB.out|apply below_alloc|apply pw_below_drewN|apply below_drew1)|exact HB.out)) hb);clear HO_10;clear HB;have HO_10 := n0_;have HO517 := n1_;have HB := n2_;clear n0_ n1_ n2_;(try clear hb);(try clear hb2);(try clear hk);(try clear hi);(try clear ho0)))
        go_loopg [43] k1 (fun kq v43 w' => ∃ (x10_2 : List (List Int)) (x43_2 : Int),v43 = .int .i64 x43_2 ∧ Aside0 (bivariate_Interpolate.l1 kq a0 a1 l2 l3 x10_2 t514 (y511.length : Int) x27_1 (x10_1.length : Int) x43_2 = some (r1,r2)) ∧ Aside0 (kq ≤ k1) ∧ Aside0 (Kd.S (Kd.slice 22 (Kd.int .u64)) 26 w' w.heap.size (fun k_ => some k_ ≠ (v516 : Value).ownBlock) (.slice Ao12 x10_1.length co12) x10_2) ∧ Aside0 (Kd.R (Kd.int .u64) 22 w' w.heap.size (fun _ => True) v516 t514) ∧ Aside0 (Below w.heap.size w w'))
        case atStart => exact ⟨(x10_1),(0),(by first|rfl|(simp;done)|(simp [*];done)),H',⟨Nat.le_refl _⟩,⟨by (try simp only [hl10_1]);(with_reducible repeat (first|apply Kd.S_alloc|apply Kd.S_drewN|apply Kd.S_drew));exact Kd.S_mono HO_10.out (fun _ hk => hk.2)⟩,⟨by (try simp only [hl10_1]);(with_reducible repeat (first|apply Kd.R_alloc|apply Kd.R_drewN|apply Kd.R_drew));exact HO517.out⟩,⟨by repeat (first|(with_reducible first|exact HB.out|apply below_alloc|apply pw_below_drewN|apply below_drew1)|exact HB.out)⟩⟩
        case round =>
         clear H'
         try clear c1
         try clear c2
         try clear p2
         try clear c3
         try clear c6
         try clear p6
         try clear c8
         try clear c8b0
         try clear c8b1
         try clear c9
         try clear c9b0
         try clear c9b1
         try clear c13
         try clear c13b0
         try clear c15
         try clear c15b0
         try clear c15b1
         try clear p2
         try clear p6
         obtain ⟨x10_2,x43_2,rfl,HA,HK2,HO_10,HO_12,HB⟩ := hrel
         have hl10_2 := (Kd.S_reads' HO_10.out).1
         rw [hl10_2] at HO_10
         (try simp only [hl10_2])
         (try simp only [hl10_2] at HO_12)
         cases gk with
         | zero => exact absurd HA.out (by simp [bivariate_Interpolate.l1])
         | succ k2 =>
          have H := HA.out
          clear HA
          simp only [bivariate_Interpolate.l1] at H
          by_cases c17 : x43_2 < (x10_1.length : Int)
          ·rw [if_pos c17] at H
           have c17b0 : decide (x43_2 < (x10_1.length : Int)) = true := decide_eq_true c17
           try have c17b0_ : decide (x43_2 < (x10_2.length : Int)) = true := by rw [← hl10_2];exact c17b0
           clear c17
           by_cases c18 : 0 ≤ x43_2
           ·rw [if_pos c18] at H
            have c18b0 : decide (0 ≤ x43_2) = true := decide_eq_true c18
            clear c18
            by_cases c19 : x43_2 < (x10_2.length : Int)
            ·rw [if_pos c19] at H
             have c19b0 : decide (x43_2 < (x10_2.length : Int)) = true := decide_eq_true c19
             clear c19
             by_cases c20 : x43_2 < (t514.length : Int)
             ·rw [if_pos c20] at H
              have c20b0 : decide (x43_2 < (t514.length : Int)) = true := decide_eq_true c20
              clear c20
              by_cases c21 : (rd_L4 x10_2 x43_2).length < 17592186044416
              ·rw [if_pos c21] at H
               have LMc21 := Aside0.mk c21
               clear c21
               obtain ⟨y520,hy520⟩ : ∃ y_ : List Int,y_ = ((rd_L4 x10_2 x43_2) ++ [rd t514 x43_2]) := ⟨_,rfl⟩
               replace H : (bivariate_Interpolate.l1 k2 a0 a1 l2 l3 (x10_2.set (x43_2 : Int).toNat y520) t514 (y511.length : Int) x27_1 (x10_1.length : Int) (wrap64 (x43_2 + 1))) = some (r1,r2) := by first|(rw [hy520];with_reducible exact H)|(have H2_ := (Option.bind_some _ _).symm.trans H;rw [hy520];with_reducible exact H2_)|(have H2_ := (Option.bind_some _ _).symm.trans H;with_reducible exact H2_)|with_reducible exact H|(rw [hy520];exact H)|exact H
               have Ny520 := Aside0.mk hy520
               clear hy520
               obtain ⟨y523,hy523⟩ : ∃ y_ : List (List Int),y_ = (x10_2.set (x43_2 : Int).toNat y520) := ⟨_,rfl⟩
               replace H : (bivariate_Interpolate.l1 k2 a0 a1 l2 l3 y523 t514 (y511.length : Int) x27_1 (x10_1.length : Int) (wrap64 (x43_2 + 1))) = some (r1,r2) := by first|(rw [hy523];with_reducible exact H)|(have H2_ := (Option.bind_some _ _).symm.trans H;rw [hy523];with_reducible exact H2_)|(have H2_ := (Option.bind_some _ _).symm.trans H;with_reducible exact H2_)|with_reducible exact H|(rw [hy523];exact H)|exact H
               have Ny523 := Aside0.mk hy523
               clear hy523
               have H' := Aside0.mk H
               clear H
               try go_wp2
               have n0_ := Aside0.mk (Kd.S_drew HO_10.out)
               have n1_ := Aside0.mk (Kd.R_drew HO_12.out)
               have n2_ := Aside0.mk (below_drew1 HB.out)
               clear HO_10
               clear HO_12
               clear HB
               have HO_10 := n0_
               have HO_12 := n1_
               have HB := n2_
               clear n0_ n1_ n2_
               have p518 : 0 ≤ (x43_2 : Int) := of_decide_eq_true (by first|(with_reducible assumption)|assumption)
               have q518 : x43_2 < (x10_2.length : Int) := of_decide_eq_true (by first|(with_reducible assumption)|assumption)
               obtain ⟨ad518,A518_0,c518_0,e518,hx518_0,hl518_0,hi518_0⟩ := at_L4 (Kd.S_reads' HO_10.out).2.2 x43_2 p518 q518
               cases e518
               obtain ⟨ce518,hce518,hMe518,hcc518⟩ := Kd.S_get HO_10.out [] x43_2 p518 (by first|exact q518|exact of_decide_eq_true (by first|(with_reducible assumption)|assumption)|(have e_ := (Kd.S_reads' HO_10.out).1;omega))
               obtain ⟨ve518_0,rfl,ge518_0⟩ := hMe518
               have hv518_0 := hcc518 0 _ rfl
               rw [Nat.add_zero,show ((Kd.slice 22 (Kd.int .u64))).sz = 1 from rfl,Nat.mul_one] at hv518_0
               replace hv518_0 := Option.some.inj (hv518_0.symm.trans hx518_0)
               rw [hv518_0] at ge518_0
               have HL518_0 := Aside0.mk (show Kd.R (Kd.int .u64) 22 _ _ _ _ (rd_L4 x10_2 x43_2) from ge518_0)
               clear hv518_0 ge518_0
               have HX518_0 := Aside0.mk hx518_0
               clear hcc518 hce518
               have HR518_0 := Aside0.mk hi518_0
               have HC518_0 := Aside0.mk hl518_0
               clear hi518_0 hl518_0
               replace p518 := eq_true p518
               replace q518 := eq_true q518
               obtain ⟨Ao24,co24,eo24⟩ := Kd.R_slice HO_12.out
               (first|subst eo24|(injection eo24 with f1_ f2_ f3_;have f4_ := f1_.symm;have f5_ := f3_.symm;clear f1_ f2_ f3_;subst f4_;subst f5_))
               have p519 : 0 ≤ (x43_2 : Int) := of_decide_eq_true (by first|(with_reducible assumption)|assumption)
               have q519 : x43_2 < (t514.length : Int) := of_decide_eq_true (by first|(with_reducible assumption)|assumption)
               obtain ⟨ad519,e519,hx519_0⟩ := Kd.at_int (Kd.R_reads' HO_12.out).2.2 x43_2 p519 q519
               cases e519
               replace p519 := eq_true p519
               replace q519 := eq_true q519
               obtain ⟨go25,co25,eo25,gb25,gl25,cl25,HG25⟩ := Kd.S_form HO_10.out (by have h_ : (x43_2 : Int) < ((x10_2.length : Int) : Int) := of_decide_eq_true (by first|(with_reducible assumption)|assumption);have h2_ : 0 ≤ (x43_2 : Int) := (of_decide_eq_true (by first|(with_reducible assumption)|assumption));omega)
               (first|cases eo25|(injection eo25 with ea_ en_ ec_;(first|subst ea_|(injection ea_ with ea_;subst ea_));subst ec_;clear en_))
               have GB25 := Aside0.mk gb25
               have GG25 := Aside0.mk HG25
               clear gb25 gl25 HG25
               (first|simp only [add_plain] at hx518_0|skip)
               obtain ⟨oki25,ce25,hcl25,hM25,hcc25,_,_,hH25⟩ := Kd.S_elem HO_10.out [] (x43_2 : Int) (of_decide_eq_true (by first|(with_reducible assumption)|assumption)) (by have h_ : (x43_2 : Int) < ((x10_2.length : Int) : Int) := of_decide_eq_true (by first|(with_reducible assumption)|assumption);first|exact h_|(have e_ := (Kd.S_reads' HO_10.out).1;omega)|simpa using h_)
               obtain ⟨ve25_0,rfl,ge25_0⟩ := hM25
               have hv25 := hcc25 0 _ rfl
               have hX25 := HX518_0.out
               (try simp only [add_plain] at hX25)
               (try simp only [Nat.add_zero] at hv25)
               (try rw [show ((Kd.slice 22 (Kd.int .u64))).sz = 1 from rfl,Nat.mul_one] at hv25)
               replace hv25 := Option.some.inj (hv25.symm.trans hX25)
               subst hv25
               clear hX25 hcc25 hcl25
               have UU25 := Aside0.mk (show Kd.R (Kd.int .u64) 22 _ w.heap.size oki25 (.slice A518_0 (rd_L4 x10_2 x43_2).length c518_0) (rd_L4 x10_2 x43_2) from ge25_0)
               have HH25 := Aside0.mk hH25
               have HN25 := Aside0.mk (Kd.S_reads' HO_10.out).1
               clear hH25 ge25_0
               refine start_ (n := 14) (S := fun w' => w'.cell? ⟨go25,(x43_2).toNat,none⟩ = some (.slice A518_0 (rd_L4 x10_2 x43_2).length c518_0) ∧ w'.cell? (ad519.add (x43_2).toNat) = some (.int .u64 (rd t514 x43_2))) (ds := [11,13]) #[false,false,false,false,false,false,false,false,false,false,false,false,false,false] (by kernel_rfl) rfl rfl ⟨hx518_0,hx519_0⟩ (fun hHeld => ?_);refine with_tabW bivariate_Interpolate.tab13 bivariate_Interpolate.bits13 (fun HT_ HW_ => ?_)
               generalize wr.drew = w23 at HO_10 HO_12 HB GG25 HH25 HL518_0 HR518_0 HX518_0 UU25 hx518_0 hx519_0 hHeld ⊢
               refine pure_ (i := 0) (N := some 46) (v := ?_) (a' := ?_) #[true,false,false,false,false,false,false,false,false,false,false,false,false,false] rfl rfl (any_of HT_.out (by kernel_rfl)) (fun _ _ _ h => h) (Or.inl ⟨by rfl,?_⟩) ?_ ?_
               rotate_left
               ·intro w'
                go_simp
                with_reducible rfl
               rotate_left
               ·simp only [Act.put,List.setIfInBounds_toArray,List.set_cons_zero,List.set_cons_succ,i64_w,i32_w]
                rfl
               refine pure_ (i := 1) (N := some 47) (v := ?_) (a' := ?_) #[true,true,false,false,false,false,false,false,false,false,false,false,false,false] rfl rfl (any_of HT_.out (by kernel_rfl)) (fun _ _ _ h => h) (Or.inl ⟨by rfl,?_⟩) ?_ ?_
               rotate_left
               ·intro w'
                go_simp
                with_reducible rfl
               rotate_left
               ·simp only [Act.put,List.setIfInBounds_toArray,List.set_cons_zero,List.set_cons_succ,i64_w,i32_w]
                rfl
               refine pure_ (i := 2) (N := some 48) (v := ?_) (a' := ?_) #[true,true,true,false,false,false,false,false,false,false,false,false,false,false] rfl rfl (any_of HT_.out (by kernel_rfl)) (fun _ _ _ h => h) (Or.inl ⟨by rfl,?_⟩) ?_ ?_
               rotate_left
               ·intro w'
                go_simp
                with_reducible rfl
               rotate_left
               ·simp only [Act.put,List.setIfInBounds_toArray,List.set_cons_zero,List.set_cons_succ,i64_w,i32_w]
                rfl
               refine pure_ (i := 3) (N := some 49) (v := ?_) (a' := ?_) #[true,true,true,true,false,false,false,false,false,false,false,false,false,false] rfl rfl (any_of HT_.out (by kernel_rfl)) (fun _ _ _ h => h) (Or.inl ⟨by rfl,?_⟩) ?_ ?_
               rotate_left
               ·intro w'
                go_simp
                with_reducible rfl
               rotate_left
               ·simp only [Act.put,List.setIfInBounds_toArray,List.set_cons_zero,List.set_cons_succ,i64_w,i32_w]
                rfl
               refine pure_ (i := 4) (N := some 50) (v := ?_) (a' := ?_) #[true,true,true,true,true,false,false,false,false,false,false,false,false,false] rfl rfl (any_of HT_.out (by kernel_rfl)) (fun _ _ _ h => h) (Or.inl ⟨by rfl,?_⟩) ?_ ?_
               rotate_left
               ·intro w'
                go_simp
                with_reducible rfl
               rotate_left
               ·simp only [Act.put,List.setIfInBounds_toArray,List.set_cons_zero,List.set_cons_succ,i64_w,i32_w]
                rfl
               refine pure_ (i := 6) (N := some 52) (v := ?_) (a' := ?_) #[true,true,true,true,true,false,true,false,false,false,false,false,false,false] rfl rfl (any_of HT_.out (by kernel_rfl)) (fun _ _ _ h => h) (Or.inl ⟨by rfl,?_⟩) ?_ ?_
               rotate_left
               ·intro w'
                go_simp
                with_reducible rfl
               rotate_left
               ·simp only [Act.put,List.setIfInBounds_toArray,List.set_cons_zero,List.set_cons_succ,i64_w,i32_w]
                rfl
               refine pure_ (i := 7) (N := some 53) (v := ?_) (a' := ?_) #[true,true,true,true,true,false,true,true,false,false,false,false,false,false] rfl rfl (any_of HT_.out (by kernel_rfl)) (fun _ _ _ h => h) (Or.inl ⟨by rfl,?_⟩) ?_ ?_
               rotate_left
               ·intro w'
                go_simp
                with_reducible rfl
               rotate_left
               ·simp only [Act.put,List.setIfInBounds_toArray,List.set_cons_zero,List.set_cons_succ,i64_w,i32_w]
                rfl
               refine pure_ (i := 8) (N := some 54) (v := ?_) (a' := ?_) #[true,true,true,true,true,false,true,true,true,false,false,false,false,false] rfl rfl (any_of HT_.out (by kernel_rfl)) (fun _ _ _ h => h) (Or.inl ⟨by rfl,?_⟩) ?_ ?_
               rotate_left
               ·intro w'
                go_simp
                with_reducible rfl
               rotate_left
               ·simp only [Act.put,List.setIfInBounds_toArray,List.set_cons_zero,List.set_cons_succ,i64_w,i32_w]
                rfl
               refine take_ (i := 5) (N := some 51) (v := ?_) (a' := ?_) #[true,true,true,true,true,true,true,true,true,false,false,false,false,false] rfl rfl (take_ofW HT_.out HW_.out (by kernel_rfl)) (fun _ _ _ h => h) (Or.inl ⟨by rfl,?_⟩) hHeld ?_ ?_
               rotate_left
               ·rintro w' ⟨s0,s1⟩
                go_simp
                with_reducible rfl
               rotate_left
               ·simp only [Act.put,List.setIfInBounds_toArray,List.set_cons_zero,List.set_cons_succ,i64_w,i32_w]
                rfl
               refine take_ (i := 9) (N := some 55) (v := ?_) (a' := ?_) #[true,true,true,true,true,true,true,true,true,true,false,false,false,false] rfl rfl (take_ofW HT_.out HW_.out (by kernel_rfl)) (fun _ _ _ h => h) (Or.inl ⟨by rfl,?_⟩) hHeld ?_ ?_
               rotate_left
               ·rintro w' ⟨s0,s1⟩
                go_simp
                with_reducible rfl
               rotate_left
               ·simp only [Act.put,List.setIfInBounds_toArray,List.set_cons_zero,List.set_cons_succ,i64_w,i32_w]
                rfl
               refine one_ (i := 10) (N := some 56) #[true,true,true,true,true,true,true,true,true,true,true,false,false,false] rfl rfl (one_of HT_.out (by kernel_rfl)) (by decide) (fun K hK => ?_)
               refine value_ (w1 := ?_) (v := ?_) (by rfl) rfl ?_ ?_
               rotate_left 2
               ·go_simp
                constructor
                ·rfl
                ·rfl
               refine hK.out _ _ ⟨(World.cell?_alloc_lt _ _ _ (World.block_lt_of_cell? _ _ (hHeld.1))).trans (hHeld.1),(World.cell?_alloc_lt _ _ _ (World.block_lt_of_cell? _ _ (hHeld.2))).trans (hHeld.2)⟩ (fun hHeld => ?_)
               clear hK K
               refine norm_ (a' := ?_) ?_ ?_
               rotate_left
               ·show Act.put _ (some 56) _ = _
                simp only [Act.put,List.setIfInBounds_toArray,List.set_cons_zero,List.set_cons_succ,i64_w,i32_w]
                rfl
               refine last_ (i := 11) (N := some 57) #[true,true,true,true,true,true,true,true,true,true,true,true,false,false] rfl rfl (one_of HT_.out (by kernel_rfl)) (by decide) (fun K hK => ?_)
               refine Kd.R_append_step (Kd.int .u64) (w0 := w) w.heap.size (by rfl) (.tmp 51) (.tmp 56) 26 22 (.int .u64 0) 8 rfl Try.underlying26 info22 rfl (by decide) (by omega) (.slice A518_0 (rd_L4 x10_2 x43_2).length c518_0) (rd_L4 x10_2 x43_2) (rd t514 x43_2) [.int .u64 (rd t514 x43_2)] (fun k_ => oki25 k_ ∨ ((fun k_ => some k_ ≠ (.slice (some ad519) t514.length co24 : Value).ownBlock)) k_ ∧ w23.heap.size ≤ k_) (fun _ => False) rfl rfl ?aP (fun _ hk => hk.elim) ?aF ?aO ?aB ?aS ?aL ?_
               (case aP => exact rfl)
               (case aB => exact (by repeat (first|(with_reducible first|exact HB.out|apply below_alloc|apply pw_below_drewN|apply below_drew1)|exact HB.out)))
               (case aF => exact (fun k_ hk => .inr ⟨Kd.fresh' (Kd.R_lt (by (with_reducible repeat (first|apply Kd.R_alloc|apply Kd.R_drewN|apply Kd.R_drew));exact HO_12.out)) k_ hk,hk⟩))
               (case aO => exact (by (with_reducible repeat (first|apply Kd.R_alloc|apply Kd.R_drewN|apply Kd.R_drew));exact Kd.R_mono UU25.out (fun _ hk => .inl hk)))
               (case aS => exact (below_size (by repeat (first|(with_reducible first|exact HB.out|apply below_alloc|apply pw_below_drewN|apply below_drew1)|exact HB.out))))
               (case aL => have := LMc21.out;omega)
               intro v521 w26 ho hb hg hat
               rw [← Ny520.out] at ho
               have n0_ := Aside0.mk (Kd.R_grown2 (by (with_reducible repeat (first|apply Kd.R_alloc|apply Kd.R_drewN|apply Kd.R_drew));exact HO_12.out) rfl hg (fun k_ e_ => (HL518_0.out.1 k_ e_).1))
               have n1_ := Aside0.mk (hb)
               have n2_ := Aside0.mk (Kd.H_grown (Kd.H_widen (by repeat (first|exact HH25.out|refine Kd.H_alloc ?_ _|refine Kd.H_drewN ?_ _|refine Kd.H_drew ?_))) hg (fun k_ e_ => .inl (UU25.out.1 k_ e_)))
               have n3_ := Aside0.mk (ho)
               clear HO_12
               clear HB
               clear HH25
               clear HO_10
               clear UU25
               clear HL518_0
               have HO_12 := n0_
               have HB := n1_
               have HH25 := n2_
               have HO522 := n3_
               clear n0_ n1_ n2_ n3_
               clear ho hb hg hat
               have p22 : 0 ≤ (x43_2 : Int) := of_decide_eq_true (by first|(with_reducible assumption)|assumption)
               have q22 : (x43_2 : Int) < ((x10_2.length : Int) : Int) := of_decide_eq_true (by first|(with_reducible assumption)|assumption)
               replace p22 := eq_true p22
               replace q22 := eq_true q22
               obtain ⟨Ao29,co29,eo29⟩ := Kd.R_slice HO522.out
               (first|subst eo29|(injection eo29 with f1_ f2_ f3_;have f4_ := f1_.symm;have f5_ := f3_.symm;clear f1_ f2_ f3_;subst f4_;subst f5_))
               obtain ⟨_,_,hraw27,_,_,hcc27,_⟩ := Kd.H_raw HH25.out (of_decide_eq_true (by first|(with_reducible assumption)|assumption)) (by have h_ : (x43_2 : Int) < ((x10_2.length : Int) : Int) := of_decide_eq_true (by first|(with_reducible assumption)|assumption);first|exact h_|(have e_ := (HN25.out);omega)|simpa using h_)
               obtain ⟨_,hfr27⟩ := Kd.H_at HH25.out (of_decide_eq_true (by first|(with_reducible assumption)|assumption)) (by have h_ : (x43_2 : Int) < ((x10_2.length : Int) : Int) := of_decide_eq_true (by first|(with_reducible assumption)|assumption);first|exact h_|(have e_ := (HN25.out);omega)|simpa using h_)
               have hx27_0 := hcc27 0 _ rfl
               have hf27_0 := hfr27 0
               (try simp only [Nat.add_zero] at hx27_0 hf27_0)
               (try rw [show ((Kd.slice 22 (Kd.int .u64))).sz = 1 from rfl,Nat.mul_one] at hx27_0)
               (try rw [show ((Kd.slice 22 (Kd.int .u64))).sz = 1 from rfl,Nat.mul_one] at hf27_0)
               have HP27 := Kd.S_seg0 HH25.out (of_decide_eq_true (by first|(with_reducible assumption)|assumption)) (by have h_ : (x43_2 : Int) < ((x10_2.length : Int) : Int) := of_decide_eq_true (by first|(with_reducible assumption)|assumption);first|exact h_|(have e_ := (HN25.out);omega)|simpa using h_) (seg := [.slice Ao29 y520.length co29]) (j := 0) (show 1 ≤ 1 from by decide) (x' := y520) (Kd.M_row HO522.out) (fun _ hk => hk)
               (try simp only [show ((Kd.slice 22 (Kd.int .u64))).sz = 1 from rfl,Nat.mul_one,Nat.add_zero] at HP27)
               clear hcc27 hfr27
               have HS27 := HP27.1
               rw [← Ny523.out] at HS27
               have HQ27 := Aside0.mk HS27
               obtain ⟨_,hgg27⟩ := Kd.R_typed hraw27 go25 rfl
               have GG27_ := Aside0.mk hgg27
               clear HP27 HS27 hgg27
               refine hK.out _ _ ?_
               clear hK K
               refine norm_ (a' := ?_) ?_ ?_
               rotate_left
               ·show Act.put _ (some 57) _ = _
                simp only [Act.put,List.setIfInBounds_toArray,List.set_cons_zero,List.set_cons_succ,i64_w,i32_w]
                rfl
               refine pure_ (i := 12) (N := some 58) (v := ?_) (a' := ?_) #[true,true,true,true,true,true,true,true,true,true,true,true,true,false] rfl rfl (any_of HT_.out (by kernel_rfl)) (fun _ _ _ h => h) (Or.inl ⟨by rfl,?_⟩) ?_ ?_
               rotate_left
               ·intro w'
                go_simp
                with_reducible rfl
               rotate_left
               ·simp only [Act.put,List.setIfInBounds_toArray,List.set_cons_zero,List.set_cons_succ,i64_w,i32_w]
                rfl
               refine last_ (i := 13) (N := none) #[true,true,true,true,true,true,true,true,true,true,true,true,true,true] rfl rfl (one_of HT_.out (by kernel_rfl)) (by decide) (fun K hK => ?_)
               refine skip_ (w1 := ?_) (by rfl) rfl ?_ ?_
               rotate_left
               ·go_simp
                rfl
               refine hK.out _ _ ?_
               clear hK K
               refine done_ (done_of HT_.out (by kernel_rfl)) ?_
               try go_wp2
               (try simp only [← hl10_2])
               go_roundg k2
               case measure => have := HK1.out;have := HK2.out;omega
               case rel => exact ⟨(y523),(wrap64 (x43_2 + 1)),(by first|rfl|(simp;done)|(simp [*];done)),H',⟨by have := HK1.out;have := HK2.out;omega⟩,⟨by (try simp only [hl10_1]);(try simp only [hl10_2]);(with_reducible repeat (first|apply Kd.S_alloc|apply Kd.S_drewN|apply Kd.S_drew));exact HQ27.out⟩,⟨by (try simp only [hl10_1]);(try simp only [hl10_2]);(with_reducible repeat (first|apply Kd.R_alloc|apply Kd.R_drewN|apply Kd.R_drew));exact Kd.R_mono (Kd.R_far (p := ⟨go25,(x43_2 : Int).toNat,none⟩) (Kd.R_types HO_12.out GG27_.out (by decide)) (fun _ hk => hk.2) (.slice Ao29 y520.length co29)) (fun _ hk => trivial)⟩,⟨by repeat (first|(with_reducible first|exact HB.out|apply below_alloc|apply pw_below_drewN|apply below_drew1|refine below_set ?_ GB25.out)|exact HB.out)⟩⟩
              ·rw [if_neg c21] at H
               exact absurd H (by simp)
             ·rw [if_neg c20] at H
              exact absurd H (by simp)
            ·rw [if_neg c19] at H
             exact absurd H (by simp)
           ·rw [if_neg c18] at H
            exact absurd H (by simp)
          ·rw [if_neg c17] at H
           have c17b0 : decide (x43_2 < (x10_1.length : Int)) = false := decide_eq_false c17
           try have c17b0_ : decide (x43_2 < (x10_2.length : Int)) = false := by rw [← hl10_2];exact c17b0
           clear c17
           have H' := Aside0.mk H
           clear H
           go_wp2
           (try simp only [← hl10_1,← hl10_2])
           go_roundg k2
           case measure => have := HK1.out;have := HK2.out;omega
           case rel => exact ⟨(x10_2),(wrap64 (x27_1 + 1)),(by first|rfl|(simp;done)|(simp [*];done)),H',⟨by have := HK1.out;have := HK2.out;omega⟩,⟨by (try simp only [hl10_1]);(try simp only [hl10_2]);(with_reducible repeat (first|apply Kd.S_alloc|apply Kd.S_drewN|apply Kd.S_drew));exact Kd.S_mono HO_10.out (fun _ hk => trivial)⟩,⟨by repeat (first|(with_reducible first|exact HB.out|apply below_alloc|apply pw_below_drewN|apply below_drew1)|exact HB.out)⟩⟩
       ·rw [if_neg c15] at H
        have c15b0 : (t515 == 0) = false := beq_eq_false_iff_ne.mpr c15
        have c15b1 : (t515 != 0) = true := bne_iff_ne.mpr c15
        simp only [Option.some.injEq,Prod.mk.injEq] at H
        obtain ⟨rfl,rfl⟩ := H
        go_wp2_with (first|((with_reducible refine gate_callee (f := 93) rfl ?_);refine goesL_ (some 36) rfl rfl Try.func93 (by kernel_rfl) rfl #[.int .u64 a0,.int .i64 a1,.slice A2 l2.length c2,.slice A3 l3.length c3,.int .i64 x27_1] rfl (by (try simp only [List.map_toArray,List.map_cons,List.map_nil]);first|done|rfl|(simp only [List.length_drop,List.length_take];rfl)) ?_;(with_reducible refine (bivariate_column.calls a0 a1 _ _ l2 _ _ l3 x27_1 t514 t515 _ ?side1 ?side2 ?side3 ?side4 A14.out).mono ?_);(case side1 => repeat (first|exact (Kd.C_below HR2.out HB.out)|(with_reducible refine Kd.C_alloc ?_ _)|(with_reducible refine Kd.C_drewN ?_ _)|(with_reducible refine Kd.C_drew ?_)));(case side2 => exact HC2.out);(case side3 => repeat (first|exact (Kd.C_below HR3.out HB.out)|(with_reducible refine Kd.C_alloc ?_ _)|(with_reducible refine Kd.C_drewN ?_ _)|(with_reducible refine Kd.C_drew ?_)));(case side4 => exact HC3.out);rintro e w30 ⟨v516,rfl,ho0,hb⟩;refine ⟨_,rfl,?_⟩;have n0_ := Aside0.mk (Kd.S_elder' (by (with_reducible repeat (first|apply Kd.S_alloc|apply Kd.S_drewN|apply Kd.S_drew));exact HO_10.out) (Kd.R_base ho0) hb);have n1_ := Aside0.mk (Kd.R_lower ho0 (below_size (by repeat (first|(with_reducible first|exact HB.out|apply below_alloc|apply pw_below_drewN|apply below_drew1)|exact HB.out))));have n2_ := Aside0.mk (below_step (by repeat (first|(with_reducible first|exact HB.out|apply below_alloc|apply pw_below_drewN|apply below_drew1)|exact HB.out)) hb);clear HO_10;clear HB;have HO_10 := n0_;have HO517 := n1_;have HB := n2_;clear n0_ n1_ n2_;(try clear hb);(try clear hb2);(try clear hk);(try clear hi);(try clear ho0)))
        go_ret2
        exact ⟨_,by first|rfl|(simp [errW_none,errW_some] <;> rfl)|(simp only [← hji7];first|rfl|(simp [errW_none,errW_some] <;> rfl))|(simp [*,errW_none,errW_some] <;> rfl),by first|exact Kd.S_nil _ _ _ _ _|exact Kd.N_nil _ _ _ _ _|exact Kd.V_nil _ _ _ _ _|exact Kd.Q_nil _ _ _ _ _|exact Kd.R_nil _ _ _ _ _,by repeat (first|(with_reducible first|exact HB.out|apply below_alloc|apply pw_below_drewN|apply below_drew1)|exact HB.out)⟩
      ·rw [if_neg c13] at H
       have c13b0 : decide (x27_1 < (y511.length : Int)) = false := decide_eq_false c13
       try have c13b0_ : decide (x27_1 < (x10_1.length : Int)) = false := by rw [← hl10_1];exact c13b0
       clear c13
       replace H := Option.bind_eq_some_iff.mp H
       obtain ⟨t524,A310,H⟩ := H
       replace H : (if t524 = true then (bivariate_Interpolate.l2 k1 a0 l3 x10_1 l2 (l2.length : Int) 0) else (some (([] : List (List Int)),6))) = some (r1,r2) := H
       have A31 := Aside0.mk A310
       clear A310
       by_cases c32 : t524 = true
       ·subst c32
        have H1 : (bivariate_Interpolate.l2 k1 a0 l3 x10_1 l2 (l2.length : Int) 0) = some (r1,r2) := by rw [if_pos rfl] at H;exact H
        clear H
        have H := H1
        clear H1
        have H' := Aside0.mk H
        clear H
        go_wp2_with (first|((with_reducible refine gate_callee (f := 67) rfl ?_);refine goesL_ (some 62) rfl rfl Try.func67 (by kernel_rfl) rfl #[.slice Ao12 x10_1.length co12] rfl (by (try simp only [List.map_toArray,List.map_cons,List.map_nil]);first|done|rfl|(simp only [List.length_drop,List.length_take];rfl)) ?_;(with_reducible refine (bivariate_IsSymmetric.calls k1 _ _ x10_1 true _ ?side1 ?side2 A31.out).mono ?_);(case side1 => repeat (first|exact (Kd.S_reads' HO_10.out).2.2|(with_reducible refine Kd.C_alloc ?_ _)|(with_reducible refine Kd.C_drewN ?_ _)|(with_reducible refine Kd.C_drew ?_)));(case side2 => exact (Kd.S_reads' HO_10.out).2.1);rintro e w' ⟨rfl,⟨nd,rfl⟩⟩;refine ⟨_,rfl,?_⟩))
        go_loopg [66] k1 (fun kq v66 w' => ∃ (x66_2 : Int),v66 = .int .i64 x66_2 ∧ Aside0 (bivariate_Interpolate.l2 kq a0 l3 x10_1 l2 (l2.length : Int) x66_2 = some (r1,r2)) ∧ Aside0 (kq ≤ k1) ∧ Aside0 (Kd.S (Kd.slice 22 (Kd.int .u64)) 26 w' w.heap.size (fun _ => True) (.slice Ao12 x10_1.length co12) x10_1) ∧ Aside0 (Below w.heap.size w w'))
        case atStart => exact ⟨(0),(by first|rfl|(simp;done)|(simp [*];done)),H',⟨Nat.le_refl _⟩,⟨by (try simp only [hl10_1]);(with_reducible repeat (first|apply Kd.S_alloc|apply Kd.S_drewN|apply Kd.S_drew));exact HO_10.out⟩,⟨by repeat (first|(with_reducible first|exact HB.out|apply below_alloc|apply pw_below_drewN|apply below_drew1)|exact HB.out)⟩⟩
        case round =>
         clear H'
         try clear c1
         try clear c2
         try clear p2
         try clear q2
         try clear hx2
         try clear c3
         try clear c5
         try clear p5
         try clear q5
         try clear hx5
         try clear c6
         try clear p6
         try clear c8
         try clear c8b0
         try clear c8b1
         try clear c9
         try clear c9b0
         try clear c9b1
         try clear c13
         try clear c13b0
         try clear c15
         try clear c15b0
         try clear c15b1
         try clear c17
         try clear c17b0
         try clear c18
         try clear c18b0
         try clear c19
         try clear c19b0
         try clear c20
         try clear c20b0
         try clear c21
         try clear p22
         try clear q22
         try clear c25
         try clear c27
         try clear hx27
         try clear hf27
         try clear c32
         try clear hx27_0
         try clear hx518_0
         try clear hx519_0
         try clear p2
         try clear p22
         try clear p518
         try clear p519
         try clear p6
         try clear q22
         try clear q518
         try clear q519
         obtain ⟨x66_2,rfl,HA,HK2,HO_10,HB⟩ := hrel
         cases gk with
         | zero => exact absurd HA.out (by simp [bivariate_Interpolate.l2])
         | succ k2 =>
          have H := HA.out
          clear HA
          simp only [bivariate_Interpolate.l2] at H
          by_cases c33 : x66_2 < (l2.length : Int)
          ·rw [if_pos c33] at H
           have c33b0 : decide (x66_2 < (l2.length : Int)) = true := decide_eq_true c33
           clear c33
           by_cases c34 : 0 ≤ x66_2
           ·rw [if_pos c34] at H
            have c34b0 : decide (0 ≤ x66_2) = true := decide_eq_true c34
            clear c34
            by_cases c35 : x66_2 < (l2.length : Int)
            ·rw [if_pos c35] at H
             have c35b0 : decide (x66_2 < (l2.length : Int)) = true := decide_eq_true c35
             clear c35
             replace H := Option.bind_eq_some_iff.mp H
             obtain ⟨t526,A360,H⟩ := H
             replace H : (if x66_2 < (l3.length : Int) then ((slices_Equal_uint64_uint64.f k2 t526 (rd_L4 l3 x66_2)).bind fun t530 => (if t530 = true then (bivariate_Interpolate.l2 k2 a0 l3 x10_1 l2 (l2.length : Int) (wrap64 (x66_2 + 1))) else (some (([] : List (List Int)),6)))) else (none)) = some (r1,r2) := H
             have A36 := Aside0.mk A360
             clear A360
             by_cases c37 : x66_2 < (l3.length : Int)
             ·rw [if_pos c37] at H
              have c37b0 : decide (x66_2 < (l3.length : Int)) = true := decide_eq_true c37
              clear c37
              replace H := Option.bind_eq_some_iff.mp H
              obtain ⟨t530,A380,H⟩ := H
              replace H : (if t530 = true then (bivariate_Interpolate.l2 k2 a0 l3 x10_1 l2 (l2.length : Int) (wrap64 (x66_2 + 1))) else (some (([] : List (List Int)),6))) = some (r1,r2) := H
              have A38 := Aside0.mk A380
              clear A380
              by_cases c39 : t530 = true
              ·subst c39
               have H1 : (bivariate_Interpolate.l2 k2 a0 l3 x10_1 l2 (l2.length : Int) (wrap64 (x66_2 + 1))) = some (r1,r2) := by rw [if_pos rfl] at H;exact H
               clear H
               have H := H1
               clear H1
               have H' := Aside0.mk H
               clear H
               have p525 : 0 ≤ (x66_2 : Int) := of_decide_eq_true (by first|(with_reducible assumption)|assumption)
               have q525 : x66_2 < (l2.length : Int) := of_decide_eq_true (by first|(with_reducible assumption)|assumption)
               obtain ⟨ad525,e525,hx525_0⟩ := Kd.at_int HR2.out x66_2 p525 q525
               cases e525
               replace hx525_0 := (HB.out.cell (World.block_lt_of_cell? w _ hx525_0)).trans hx525_0
               replace p525 := eq_true p525
               replace q525 := eq_true q525
               try go_wp2
               have n0_ := Aside0.mk (Kd.S_drew HO_10.out)
               have n1_ := Aside0.mk (below_drew1 HB.out)
               clear HO_10
               clear HB
               have HO_10 := n0_
               have HB := n1_
               clear n0_ n1_
               have p529 : 0 ≤ (x66_2 : Int) := of_decide_eq_true (by first|(with_reducible assumption)|assumption)
               have q529 : x66_2 < (l3.length : Int) := of_decide_eq_true (by first|(with_reducible assumption)|assumption)
               obtain ⟨ad529,A529_0,c529_0,e529,hx529_0,hl529_0,hi529_0⟩ := at_L4 HR3.out x66_2 p529 q529
               have hw529_0 := hx529_0
               cases e529
               replace hx529_0 := (HB.out.cell (World.block_lt_of_cell? w _ hx529_0)).trans hx529_0
               have HR529_0 := Aside0.mk hi529_0
               have HC529_0 := Aside0.mk hl529_0
               clear hi529_0 hl529_0
               replace p529 := eq_true p529
               replace q529 := eq_true q529
               refine start_ (n := 10) (S := fun w' => w'.cell? (ad529.add (x66_2).toNat) = some (.slice A529_0 (rd_L4 l3 x66_2).length c529_0)) (ds := []) #[false,false,false,false,false,false,false,false,false,false] (by kernel_rfl) rfl rfl (((HB.out.cell (World.block_lt_of_cell? w _ hw529_0)).trans hw529_0)) (fun hHeld => ?_);refine with_tabW bivariate_Interpolate.tab21 bivariate_Interpolate.bits21 (fun HT_ HW_ => ?_)
               generalize wr.drew = w40 at HO_10 HB HR529_0 hx529_0 hHeld ⊢
               refine pure_ (i := 0) (N := some 71) (v := ?_) (a' := ?_) #[true,false,false,false,false,false,false,false,false,false] rfl rfl (any_of HT_.out (by kernel_rfl)) (fun _ _ _ h => h) (Or.inl ⟨by rfl,?_⟩) ?_ ?_
               rotate_left
               ·intro w'
                go_simp
                with_reducible rfl
               rotate_left
               ·simp only [Act.put,List.setIfInBounds_toArray,List.set_cons_zero,List.set_cons_succ,i64_w,i32_w]
                rfl
               refine pure_ (i := 1) (N := some 72) (v := ?_) (a' := ?_) #[true,true,false,false,false,false,false,false,false,false] rfl rfl (any_of HT_.out (by kernel_rfl)) (fun _ _ _ h => h) (Or.inl ⟨by rfl,?_⟩) ?_ ?_
               rotate_left
               ·intro w'
                go_simp
                with_reducible rfl
               rotate_left
               ·simp only [Act.put,List.setIfInBounds_toArray,List.set_cons_zero,List.set_cons_succ,i64_w,i32_w]
                rfl
               refine pure_ (i := 2) (N := some 73) (v := ?_) (a' := ?_) #[true,true,true,false,false,false,false,false,false,false] rfl rfl (any_of HT_.out (by kernel_rfl)) (fun _ _ _ h => h) (Or.inl ⟨by rfl,?_⟩) ?_ ?_
               rotate_left
               ·intro w'
                go_simp
                with_reducible rfl
               rotate_left
               ·simp only [Act.put,List.setIfInBounds_toArray,List.set_cons_zero,List.set_cons_succ,i64_w,i32_w]
                rfl
               refine pure_ (i := 4) (N := some 75) (v := ?_) (a' := ?_) #[true,true,true,false,true,false,false,false,false,false] rfl rfl (any_of HT_.out (by kernel_rfl)) (fun _ _ _ h => h) (Or.inl ⟨by rfl,?_⟩) ?_ ?_
               rotate_left
               ·intro w'
                go_simp
                with_reducible rfl
               rotate_left
               ·simp only [Act.put,List.setIfInBounds_toArray,List.set_cons_zero,List.set_cons_succ,i64_w,i32_w]
                rfl
               refine pure_ (i := 5) (N := some 76) (v := ?_) (a' := ?_) #[true,true,true,false,true,true,false,false,false,false] rfl rfl (any_of HT_.out (by kernel_rfl)) (fun _ _ _ h => h) (Or.inl ⟨by rfl,?_⟩) ?_ ?_
               rotate_left
               ·intro w'
                go_simp
                with_reducible rfl
               rotate_left
               ·simp only [Act.put,List.setIfInBounds_toArray,List.set_cons_zero,List.set_cons_succ,i64_w,i32_w]
                rfl
               refine pure_ (i := 6) (N := some 77) (v := ?_) (a' := ?_) #[true,true,true,false,true,true,true,false,false,false] rfl rfl (any_of HT_.out (by kernel_rfl)) (fun _ _ _ h => h) (Or.inl ⟨by rfl,?_⟩) ?_ ?_
               rotate_left
               ·intro w'
                go_simp
                with_reducible rfl
               rotate_left
               ·simp only [Act.put,List.setIfInBounds_toArray,List.set_cons_zero,List.set_cons_succ,i64_w,i32_w]
                rfl
               refine take_ (i := 7) (N := some 78) (v := ?_) (a' := ?_) #[true,true,true,false,true,true,true,true,false,false] rfl rfl (take_ofW HT_.out HW_.out (by kernel_rfl)) (fun _ _ _ h => h) (Or.inl ⟨by rfl,?_⟩) hHeld ?_ ?_
               rotate_left
               ·intro w' s0
                go_simp
                with_reducible rfl
               rotate_left
               ·simp only [Act.put,List.setIfInBounds_toArray,List.set_cons_zero,List.set_cons_succ,i64_w,i32_w]
                rfl
               refine one_ (i := 3) (N := some 74) #[true,true,true,true,true,true,true,true,false,false] rfl rfl (one_of HT_.out (by kernel_rfl)) (by decide) (fun K hK => ?_)
               refine goes_ Try.func35 (by kernel_rfl) rfl #[.int .u64 a0,.slice Ao12 x10_1.length co12,.int .u64 (rd l2 x66_2)] (by rfl) rfl rfl (by (try simp only [List.map_toArray,List.map_cons,List.map_nil]);first|done|rfl|(simp only [List.length_drop,List.length_take];rfl)) ?_
               with_reducible refine (bivariate_Row.calls k2 a0 _ _ x10_1 (rd l2 x66_2) t526 _ ?side1 ?side2 A36.out).mono ?_
               (case side1 => repeat (first|exact (Kd.S_reads' HO_10.out).2.2|(with_reducible refine Kd.C_alloc ?_ _)|(with_reducible refine Kd.C_drewN ?_ _)|(with_reducible refine Kd.C_drew ?_)))
               (case side2 => exact (Kd.S_reads' HO_10.out).2.1)
               rintro e w41 ⟨v527,rfl,ho0,hb⟩
               refine ⟨_,rfl,?_⟩
               have n0_ := Aside0.mk (Kd.S_elder' (by (with_reducible repeat (first|apply Kd.S_alloc|apply Kd.S_drewN|apply Kd.S_drew));exact HO_10.out) (Kd.R_base ho0) hb)
               have n1_ := Aside0.mk (Kd.R_lower ho0 (below_size (by repeat (first|(with_reducible first|exact HB.out|apply below_alloc|apply pw_below_drewN|apply below_drew1)|exact HB.out))))
               have n2_ := Aside0.mk (below_step (by repeat (first|(with_reducible first|exact HB.out|apply below_alloc|apply pw_below_drewN|apply below_drew1)|exact HB.out)) hb)
               clear HO_10
               clear HB
               have HO_10 := n0_
               have HO528 := n1_
               have HB := n2_
               clear n0_ n1_ n2_
               (try clear hb)
               (try clear hb2)
               (try clear hk)
               (try clear hi)
               (try clear ho0)
               obtain ⟨Ao42,co42,eo42⟩ := Kd.R_slice HO528.out
               (first|subst eo42|(injection eo42 with f1_ f2_ f3_;have f4_ := f1_.symm;have f5_ := f3_.symm;clear f1_ f2_ f3_;subst f4_;subst f5_))
               refine hK.out _ _ (((HB.out.cell (World.block_lt_of_cell? w _ hw529_0)).trans hw529_0)) (fun hHeld => ?_)
               clear hK K
               refine norm_ (a' := ?_) ?_ ?_
               rotate_left
               ·show Act.put _ (some 74) _ = _
                simp only [Act.put,List.setIfInBounds_toArray,List.set_cons_zero,List.set_cons_succ,i64_w,i32_w]
                rfl
               refine one_ (i := 8) (N := some 79) #[true,true,true,true,true,true,true,true,true,false] rfl rfl (one_of HT_.out (by kernel_rfl)) (by decide) (fun K hK => ?_)
               refine goes_ Try.func94 (by kernel_rfl) rfl #[.slice Ao42 t526.length co42,.slice A529_0 (rd_L4 l3 x66_2).length c529_0] (by rfl) rfl rfl (by (try simp only [List.map_toArray,List.map_cons,List.map_nil]);first|done|rfl|(simp only [List.length_drop,List.length_take];rfl)) ?_
               with_reducible refine (slices_Equal_uint64_uint64.calls k2 _ _ t526 _ _ (rd_L4 l3 x66_2) true _ ?side1 ?side2 ?side3 ?side4 A38.out).mono ?_
               (case side1 => repeat (first|exact (Kd.R_reads' HO528.out).2.2|(with_reducible refine Kd.C_alloc ?_ _)|(with_reducible refine Kd.C_drewN ?_ _)|(with_reducible refine Kd.C_drew ?_)))
               (case side2 => exact (Kd.R_reads' HO528.out).2.1)
               (case side3 => repeat (first|exact (Kd.C_below HR529_0.out HB.out)|(with_reducible refine Kd.C_alloc ?_ _)|(with_reducible refine Kd.C_drewN ?_ _)|(with_reducible refine Kd.C_drew ?_)))
               (case side4 => exact HC529_0.out)
               rintro e w' ⟨rfl,⟨nd,rfl⟩⟩
               refine ⟨_,rfl,?_⟩
               refine hK.out _ _ (((HB.out.cell (World.block_lt_of_cell? w _ hw529_0)).trans hw529_0)) (fun hHeld => ?_)
               clear hK K
               refine norm_ (a' := ?_) ?_ ?_
               rotate_left
               ·show Act.put _ (some 79) _ = _
                simp only [Act.put,List.setIfInBounds_toArray,List.set_cons_zero,List.set_cons_succ,i64_w,i32_w]
                rfl
               refine pure_ (i := 9) (N := some 80) (v := ?_) (a' := ?_) #[true,true,true,true,true,true,true,true,true,true] rfl rfl (any_of HT_.out (by kernel_rfl)) (fun _ _ _ h => h) (Or.inl ⟨by rfl,?_⟩) ?_ ?_
               rotate_left
               ·intro w'
                go_simp
                with_reducible rfl
               rotate_left
               ·simp only [Act.put,List.setIfInBounds_toArray,List.set_cons_zero,List.set_cons_succ,i64_w,i32_w]
                rfl
               refine done_ (done_of HT_.out (by kernel_rfl)) ?_
               try go_wp2
               go_roundg k2
               case measure => have := HK1.out;have := HK2.out;omega
               case rel => exact ⟨(wrap64 (x66_2 + 1)),(by first|rfl|(simp;done)|(simp [*];done)),H',⟨by have := HK1.out;have := HK2.out;omega⟩,⟨by (try simp only [hl10_1]);(with_reducible repeat (first|apply Kd.S_alloc|apply Kd.S_drewN|apply Kd.S_drew));exact Kd.S_mono HO_10.out (fun _ hk => trivial)⟩,⟨by repeat (first|(with_reducible first|exact HB.out|apply below_alloc|apply pw_below_drewN|apply below_drew1)|exact HB.out)⟩⟩
              ·replace c39 := Bool.eq_false_iff.mpr c39
               subst c39
               have H1 : (some (([] : List (List Int)),6)) = some (r1,r2) := by rw [if_neg (show ¬ (false = true) by decide)] at H;exact H
               clear H
               have H := H1
               clear H1
               simp only [Option.some.injEq,Prod.mk.injEq] at H
               obtain ⟨rfl,rfl⟩ := H
               have p525 : 0 ≤ (x66_2 : Int) := of_decide_eq_true (by first|(with_reducible assumption)|assumption)
               have q525 : x66_2 < (l2.length : Int) := of_decide_eq_true (by first|(with_reducible assumption)|assumption)
               obtain ⟨ad525,e525,hx525_0⟩ := Kd.at_int HR2.out x66_2 p525 q525
               cases e525
               replace hx525_0 := (HB.out.cell (World.block_lt_of_cell? w _ hx525_0)).trans hx525_0
               replace p525 := eq_true p525
               replace q525 := eq_true q525
               try go_wp2
               have n0_ := Aside0.mk (Kd.S_drew HO_10.out)
               have n1_ := Aside0.mk (below_drew1 HB.out)
               clear HO_10
               clear HB
               have HO_10 := n0_
               have HB := n1_
               clear n0_ n1_
               have p529 : 0 ≤ (x66_2 : Int) := of_decide_eq_true (by first|(with_reducible assumption)|assumption)
               have q529 : x66_2 < (l3.length : Int) := of_decide_eq_true (by first|(with_reducible assumption)|assumption)
               obtain ⟨ad529,A529_0,c529_0,e529,hx529_0,hl529_0,hi529_0⟩ := at_L4 HR3.out x66_2 p529 q529
               have hw529_0 := hx529_0
               cases e529
               replace hx529_0 := (HB.out.cell (World.block_lt_of_cell? w _ hx529_0)).trans hx529_0
               have HR529_0 := Aside0.mk hi529_0
               have HC529_0 := Aside0.mk hl529_0
               clear hi529_0 hl529_0
               replace p529 := eq_true p529
               replace q529 := eq_true q529
               refine start_ (n := 10) (S := fun w' => w'.cell? (ad529.add (x66_2).toNat) = some (.slice A529_0 (rd_L4 l3 x66_2).length c529_0)) (ds := []) #[false,false,false,false,false,false,false,false,false,false] (by kernel_rfl) rfl rfl (((HB.out.cell (World.block_lt_of_cell? w _ hw529_0)).trans hw529_0)) (fun hHeld => ?_);refine with_tabW bivariate_Interpolate.tab21 bivariate_Interpolate.bits21 (fun HT_ HW_ => ?_)
               generalize wr.drew = w43 at HO_10 HB HR529_0 hx529_0 hHeld ⊢
               refine pure_ (i := 0) (N := some 71) (v := ?_) (a' := ?_) #[true,false,false,false,false,false,false,false,false,false] rfl rfl (any_of HT_.out (by kernel_rfl)) (fun _ _ _ h => h) (Or.inl ⟨by rfl,?_⟩) ?_ ?_
               rotate_left
               ·intro w'
                go_simp
                with_reducible rfl
               rotate_left
               ·simp only [Act.put,List.setIfInBounds_toArray,List.set_cons_zero,List.set_cons_succ,i64_w,i32_w]
                rfl
               refine pure_ (i := 1) (N := some 72) (v := ?_) (a' := ?_) #[true,true,false,false,false,false,false,false,false,false] rfl rfl (any_of HT_.out (by kernel_rfl)) (fun _ _ _ h => h) (Or.inl ⟨by rfl,?_⟩) ?_ ?_
               rotate_left
               ·intro w'
                go_simp
                with_reducible rfl
               rotate_left
               ·simp only [Act.put,List.setIfInBounds_toArray,List.set_cons_zero,List.set_cons_succ,i64_w,i32_w]
                rfl
               refine pure_ (i := 2) (N := some 73) (v := ?_) (a' := ?_) #[true,true,true,false,false,false,false,false,false,false] rfl rfl (any_of HT_.out (by kernel_rfl)) (fun _ _ _ h => h) (Or.inl ⟨by rfl,?_⟩) ?_ ?_
               rotate_left
               ·intro w'
                go_simp
                with_reducible rfl
               rotate_left
               ·simp only [Act.put,List.setIfInBounds_toArray,List.set_cons_zero,List.set_cons_succ,i64_w,i32_w]
                rfl
               refine pure_ (i := 4) (N := some 75) (v := ?_) (a' := ?_) #[true,true,true,false,true,false,false,false,false,false] rfl rfl (any_of HT_.out (by kernel_rfl)) (fun _ _ _ h => h) (Or.inl ⟨by rfl,?_⟩) ?_ ?_
               rotate_left
               ·intro w'
                go_simp
                with_reducible rfl
               rotate_left
               ·simp only [Act.put,List.setIfInBounds_toArray,List.set_cons_zero,List.set_cons_succ,i64_w,i32_w]
                rfl
               refine pure_ (i := 5) (N := some 76) (v := ?_) (a' := ?_) #[true,true,true,false,true,true,false,false,false,false] rfl rfl (any_of HT_.out (by kernel_rfl)) (fun _ _ _ h => h) (Or.inl ⟨by rfl,?_⟩) ?_ ?_
               rotate_left
               ·intro w'
                go_simp
                with_reducible rfl
               rotate_left
               ·simp only [Act.put,List.setIfInBounds_toArray,List.set_cons_zero,List.set_cons_succ,i64_w,i32_w]
                rfl
               refine pure_ (i := 6) (N := some 77) (v := ?_) (a' := ?_) #[true,true,true,false,true,true,true,false,false,false] rfl rfl (any_of HT_.out (by kernel_rfl)) (fun _ _ _ h => h) (Or.inl ⟨by rfl,?_⟩) ?_ ?_
               rotate_left
               ·intro w'
                go_simp
                with_reducible rfl
               rotate_left
               ·simp only [Act.put,List.setIfInBounds_toArray,List.set_cons_zero,List.set_cons_succ,i64_w,i32_w]
                rfl
               refine take_ (i := 7) (N := some 78) (v := ?_) (a' := ?_) #[true,true,true,false,true,true,true,true,false,false] rfl rfl (take_ofW HT_.out HW_.out (by kernel_rfl)) (fun _ _ _ h => h) (Or.inl ⟨by rfl,?_⟩) hHeld ?_ ?_
               rotate_left
               ·intro w' s0
                go_simp
                with_reducible rfl
               rotate_left
               ·simp only [Act.put,List.setIfInBounds_toArray,List.set_cons_zero,List.set_cons_succ,i64_w,i32_w]
                rfl
               refine one_ (i := 3) (N := some 74) #[true,true,true,true,true,true,true,true,false,false] rfl rfl (one_of HT_.out (by kernel_rfl)) (by decide) (fun K hK => ?_)
               refine goes_ Try.func35 (by kernel_rfl) rfl #[.int .u64 a0,.slice Ao12 x10_1.length co12,.int .u64 (rd l2 x66_2)] (by rfl) rfl rfl (by (try simp only [List.map_toArray,List.map_cons,List.map_nil]);first|done|rfl|(simp only [List.length_drop,List.length_take];rfl)) ?_
               with_reducible refine (bivariate_Row.calls k2 a0 _ _ x10_1 (rd l2 x66_2) t526 _ ?side1 ?side2 A36.out).mono ?_
               (case side1 => repeat (first|exact (Kd.S_reads' HO_10.out).2.2|(with_reducible refine Kd.C_alloc ?_ _)|(with_reducible refine Kd.C_drewN ?_ _)|(with_reducible refine Kd.C_drew ?_)))
               (case side2 => exact (Kd.S_reads' HO_10.out).2.1)
               rintro e w44 ⟨v527,rfl,ho0,hb⟩
               refine ⟨_,rfl,?_⟩
               have n0_ := Aside0.mk (Kd.S_elder' (by (with_reducible repeat (first|apply Kd.S_alloc|apply Kd.S_drewN|apply Kd.S_drew));exact HO_10.out) (Kd.R_base ho0) hb)
               have n1_ := Aside0.mk (Kd.R_lower ho0 (below_size (by repeat (first|(with_reducible first|exact HB.out|apply below_alloc|apply pw_below_drewN|apply below_drew1)|exact HB.out))))
               have n2_ := Aside0.mk (below_step (by repeat (first|(with_reducible first|exact HB.out|apply below_alloc|apply pw_below_drewN|apply below_drew1)|exact HB.out)) hb)
               clear HO_10
               clear HB
               have HO_10 := n0_
               have HO528 := n1_
               have HB := n2_
               clear n0_ n1_ n2_
               (try clear hb)
               (try clear hb2)
               (try clear hk)
               (try clear hi)
               (try clear ho0)
               obtain ⟨Ao45,co45,eo45⟩ := Kd.R_slice HO528.out
               (first|subst eo45|(injection eo45 with f1_ f2_ f3_;have f4_ := f1_.symm;have f5_ := f3_.symm;clear f1_ f2_ f3_;subst f4_;subst f5_))
               refine hK.out _ _ (((HB.out.cell (World.block_lt_of_cell? w _ hw529_0)).trans hw529_0)) (fun hHeld => ?_)
               clear hK K
               refine norm_ (a' := ?_) ?_ ?_
               rotate_left
               ·show Act.put _ (some 74) _ = _
                simp only [Act.put,List.setIfInBounds_toArray,List.set_cons_zero,List.set_cons_succ,i64_w,i32_w]
                rfl
               refine one_ (i := 8) (N := some 79) #[true,true,true,true,true,true,true,true,true,false] rfl rfl (one_of HT_.out (by kernel_rfl)) (by decide) (fun K hK => ?_)
               refine goes_ Try.func94 (by kernel_rfl) rfl #[.slice Ao45 t526.length co45,.slice A529_0 (rd_L4 l3 x66_2).length c529_0] (by rfl) rfl rfl (by (try simp only [List.map_toArray,List.map_cons,List.map_nil]);first|done|rfl|(simp only [List.length_drop,List.length_take];rfl)) ?_
               with_reducible refine (slices_Equal_uint64_uint64.calls k2 _ _ t526 _ _ (rd_L4 l3 x66_2) false _ ?side1 ?side2 ?side3 ?side4 A38.out).mono ?_
               (case side1 => repeat (first|exact (Kd.R_reads' HO528.out).2.2|(with_reducible refine Kd.C_alloc ?_ _)|(with_reducible refine Kd.C_drewN ?_ _)|(with_reducible refine Kd.C_drew ?_)))
               (case side2 => exact (Kd.R_reads' HO528.out).2.1)
               (case side3 => repeat (first|exact (Kd.C_below HR529_0.out HB.out)|(with_reducible refine Kd.C_alloc ?_ _)|(with_reducible refine Kd.C_drewN ?_ _)|(with_reducible refine Kd.C_drew ?_)))
               (case side4 => exact HC529_0.out)
               rintro e w' ⟨rfl,⟨nd,rfl⟩⟩
               refine ⟨_,rfl,?_⟩
               refine hK.out _ _ (((HB.out.cell (World.block_lt_of_cell? w _ hw529_0)).trans hw529_0)) (fun hHeld => ?_)
               clear hK K
               refine norm_ (a' := ?_) ?_ ?_
               rotate_left
               ·show Act.put _ (some 79) _ = _
                simp only [Act.put,List.setIfInBounds_toArray,List.set_cons_zero,List.set_cons_succ,i64_w,i32_w]
                rfl
               refine pure_ (i := 9) (N := some 80) (v := ?_) (a' := ?_) #[true,true,true,true,true,true,true,true,true,true] rfl rfl (any_of HT_.out (by kernel_rfl)) (fun _ _ _ h => h) (Or.inl ⟨by rfl,?_⟩) ?_ ?_
               rotate_left
               ·intro w'
                go_simp
                with_reducible rfl
               rotate_left
               ·simp only [Act.put,List.setIfInBounds_toArray,List.set_cons_zero,List.set_cons_succ,i64_w,i32_w]
                rfl
               refine done_ (done_of HT_.out (by kernel_rfl)) ?_
               try go_wp2
               go_ret2
               exact ⟨_,by first|rfl|(simp [errW_none,errW_some] <;> rfl)|(simp only [← hji7];first|rfl|(simp [errW_none,errW_some] <;> rfl))|(simp [*,errW_none,errW_some] <;> rfl),by first|exact Kd.S_nil _ _ _ _ _|exact Kd.N_nil _ _ _ _ _|exact Kd.V_nil _ _ _ _ _|exact Kd.Q_nil _ _ _ _ _|exact Kd.R_nil _ _ _ _ _,by repeat (first|(with_reducible first|exact HB.out|apply below_alloc|apply pw_below_drewN|apply below_drew1)|exact HB.out)⟩
             ·rw [if_neg c37] at H
              exact absurd H (by simp)
            ·rw [if_neg c35] at H
             exact absurd H (by simp)
           ·rw [if_neg c34] at H
            exact absurd H (by simp)
          ·rw [if_neg c33] at H
           have c33b0 : decide (x66_2 < (l2.length : Int)) = false := decide_eq_false c33
           clear c33
           simp only [Option.some.injEq,Prod.mk.injEq] at H
           obtain ⟨rfl,rfl⟩ := H
           go_wp2
           go_ret2
           exact ⟨_,by first|rfl|(simp [errW_none,errW_some] <;> rfl)|(simp only [← hji7];first|rfl|(simp [errW_none,errW_some] <;> rfl))|(simp [*,errW_none,errW_some] <;> rfl),by (with_reducible repeat (first|apply Kd.S_alloc|apply Kd.S_drewN|apply Kd.S_drew));exact HO_10.out,by repeat (first|(with_reducible first|exact HB.out|apply below_alloc|apply pw_below_drewN|apply below_drew1)|exact HB.out)⟩
       ·replace c32 := Bool.eq_false_iff.mpr c32
        subst c32
        have H1 : (some (([] : List (List Int)),6)) = some (r1,r2) := by rw [if_neg (show ¬ (false = true) by decide)] at H;exact H
        clear H
        have H := H1
        clear H1
        simp only [Option.some.injEq,Prod.mk.injEq] at H
        obtain ⟨rfl,rfl⟩ := H
        go_wp2_with (first|((with_reducible refine gate_callee (f := 67) rfl ?_);refine goesL_ (some 62) rfl rfl Try.func67 (by kernel_rfl) rfl #[.slice Ao12 x10_1.length co12] rfl (by (try simp only [List.map_toArray,List.map_cons,List.map_nil]);first|done|rfl|(simp only [List.length_drop,List.length_take];rfl)) ?_;(with_reducible refine (bivariate_IsSymmetric.calls k1 _ _ x10_1 false _ ?side1 ?side2 A31.out).mono ?_);(case side1 => repeat (first|exact (Kd.S_reads' HO_10.out).2.2|(with_reducible refine Kd.C_alloc ?_ _)|(with_reducible refine Kd.C_drewN ?_ _)|(with_reducible refine Kd.C_drew ?_)));(case side2 => exact (Kd.S_reads' HO_10.out).2.1);rintro e w' ⟨rfl,⟨nd,rfl⟩⟩;refine ⟨_,rfl,?_⟩))
        go_ret2
        exact ⟨_,by first|rfl|(simp [errW_none,errW_some] <;> rfl)|(simp only [← hji7];first|rfl|(simp [errW_none,errW_some] <;> rfl))|(simp [*,errW_none,errW_some] <;> rfl),by first|exact Kd.S_nil _ _ _ _ _|exact Kd.N_nil _ _ _ _ _|exact Kd.V_nil _ _ _ _ _|exact Kd.Q_nil _ _ _ _ _|exact Kd.R_nil _ _ _ _ _,by repeat (first|(with_reducible first|exact HB.out|apply below_alloc|apply pw_below_drewN|apply below_drew1)|exact HB.out)⟩
   ·rw [if_neg c9] at H
    exact absurd H (by simp)
  ·rw [if_neg c8] at H
   exact absurd H (by simp)
 ·replace c6 := Bool.eq_false_iff.mpr c6
  subst c6
  have H1 : (some (([] : List (List Int)),1)) = some (r1,r2) := by rw [if_neg (show ¬ (false = true) by decide)] at H;exact H
  clear H
  have H := H1
  clear H1
  simp only [Option.some.injEq,Prod.mk.injEq] at H
  obtain ⟨rfl,rfl⟩ := H
  go_enter Try.func66,Try.ntmps66
  go_wp2_with (first|((with_reducible refine gate_callee (f := 92) rfl ?_);refine goesL_ (some 20) rfl rfl Try.func92 (by kernel_rfl) rfl #[.int .i64 a1,.slice A2 l2.length c2,.slice A3 l3.length c3] rfl (by (try simp only [List.map_toArray,List.map_cons,List.map_nil]);first|done|rfl|(simp only [List.length_drop,List.length_take];rfl)) ?_;(with_reducible refine (bivariate_may.calls k a1 _ _ l2 _ _ l3 false _ ?side1 ?side2 ?side3 ?side4 A5.out).mono ?_);(case side1 => repeat (first|exact HR2.out|(with_reducible refine Kd.C_alloc ?_ _)|(with_reducible refine Kd.C_drewN ?_ _)|(with_reducible refine Kd.C_drew ?_)));(case side2 => exact HC2.out);(case side3 => repeat (first|exact HR3.out|(with_reducible refine Kd.C_alloc ?_ _)|(with_reducible refine Kd.C_drewN ?_ _)|(with_reducible refine Kd.C_drew ?_)));(case side4 => exact HC3.out);rintro e w' ⟨rfl,⟨nd,rfl⟩⟩;refine ⟨_,rfl,?_⟩))
  go_ret2
  exact ⟨_,by first|rfl|(simp [errW_none,errW_some] <;> rfl)|(simp [*,errW_none,errW_some] <;> rfl),by first|exact Kd.S_nil _ _ _ _ _|exact Kd.N_nil _ _ _ _ _|exact Kd.V_nil _ _ _ _ _|exact Kd.Q_nil _ _ _ _ _|exact Kd.R_nil _ _ _ _ _,by repeat (first|(with_reducible first|exact HB.out|apply below_alloc|apply pw_below_drewN|apply below_drew1)|exact HB.out)⟩
end Go.Proofs.Ytejeelpnmdfibaa.Pr
end
section
/- Printed by a program of this seat (the kit's printer, with the functions that were proved by hand given to it). What stands here: the functions that the statements reach, as plain functions, and that the Go code computes them. -/
namespace Go.Proofs.Ytejeelpnmdfibaa.Pr
open Go.RowKit Go.Proofs.YtejeelpnmdfibaaW.PrintWords Go.Proofs.YtejeelpnmdfibaaW.PrintLast Go.Proofs.YtejeelpnmdfibaaW.PrintMore
attribute [local go_sem] max2_int min2_int max_two min_two max_three min_three max_four min_four   -- for this text's walks alone
set_option linter.unusedVariables false
set_option linter.unusedSimpArgs false

open Go.Proofs.Ytejeelpnmdfibaa.Hw
/-! ### bivariate_Translate: function 68 -/
mutual
def bivariate_Translate.l0 : Nat → Int → Int → List Int → List (List Int) → List (List Int) → Int → Int → Option ((List (List Int)))
 | 0,_,_,_,_,_,_,_ => none
 | k + 1,x0,x2,x3,x9,x15,x16,x17 => if x17 < x16 then (if 0 ≤ x17 then (if x17 < (x15.length : Int) then (bivariate_Translate.l1 k x0 x2 x3 x9 x17 ([] : List Int) x15 x16 x17 (rd_L4 x15 x17) ((rd_L4 x15 x17).length : Int) 0) else (none)) else (none)) else (some x9)
def bivariate_Translate.l1 : Nat → Int → Int → List Int → List (List Int) → Int → List Int → List (List Int) → Int → Int → List Int → Int → Int → Option ((List (List Int)))
 | 0,_,_,_,_,_,_,_,_,_,_,_,_ => none
 | k + 1,x0,x2,x3,x9,x10,x12,x15,x16,x17,x22,x23,x24 => if x24 < x23 then (if 0 ≤ x24 then (if x24 < (x22.length : Int) then (if 0 ≤ x10 then (if x10 < (x3.length : Int) then (if x24 < (x3.length : Int) then ((field_Mul.f k x0 (rd x3 x10) (rd x3 x24)).bind fun t535 => ((field_Mul.f k x0 x2 t535).bind fun t536 => ((field_Add.f k x0 (rd x22 x24) t536).bind fun t537 => (if x12.length < 17592186044416 then (bivariate_Translate.l1 k x0 x2 x3 x9 x10 (x12 ++ [t537]) x15 x16 x17 x22 x23 (wrap64 (x24 + 1))) else (none))))) else (none)) else (none)) else (none)) else (none)) else (none)) else (if x9.length < 5864062014805 then (bivariate_Translate.l0 k x0 x2 x3 (x9 ++ [x12]) x15 x16 (wrap64 (x17 + 1))) else (none))
end
def bivariate_Translate.f (k : Nat) (a0 : Int) (l1 : List (List Int)) (a2 : Int) (l3 : List Int) : Option ((List (List Int))) := bivariate_Translate.l0 k a0 a2 l3 ([] : List (List Int)) l1 (l1.length : Int) 0
theorem bivariate_Translate.mono_l : ∀ k, (∀ y0 y1 y2 y3 y4 y5 y6, LeO (bivariate_Translate.l0 k y0 y1 y2 y3 y4 y5 y6) (bivariate_Translate.l0 (k + 1) y0 y1 y2 y3 y4 y5 y6)) ∧ (∀ y0 y1 y2 y3 y4 y5 y6 y7 y8 y9 y10 y11, LeO (bivariate_Translate.l1 k y0 y1 y2 y3 y4 y5 y6 y7 y8 y9 y10 y11) (bivariate_Translate.l1 (k + 1) y0 y1 y2 y3 y4 y5 y6 y7 y8 y9 y10 y11))
 | 0 => ⟨fun _ _ _ _ _ _ _ r h => by simp [bivariate_Translate.l0] at h,fun _ _ _ _ _ _ _ _ _ _ _ _ r h => by simp [bivariate_Translate.l1] at h⟩
 | k + 1 => by
  obtain ⟨ih0,ih1⟩ := bivariate_Translate.mono_l k
  refine ⟨?_,?_⟩
  ·intro y0 y1 y2 y3 y4 y5 y6
   unfold bivariate_Translate.l0
   repeat' first
   | (with_reducible exact ih0 _ _ _ _ _ _ _)
   | (with_reducible exact ih1 _ _ _ _ _ _ _ _ _ _ _ _)
   | (with_reducible exact field_Add.mono _ _ _ _)
   | (with_reducible exact field_Mul.mono _ _ _ _)
   | (with_reducible exact LeO.refl _)
   | (with_reducible exact LeO.none _)
   | (with_reducible refine LeO.ite ?_ ?_)
   | (with_reducible refine LeO.bind ?_ (fun _ => ?_))
   | exact ih0 _ _ _ _ _ _ _
   | exact ih1 _ _ _ _ _ _ _ _ _ _ _ _
   | exact field_Add.mono _ _ _ _
   | exact field_Mul.mono _ _ _ _
   | exact LeO.none _
   | refine LeO.ite ?_ ?_
   | refine LeO.bind ?_ (fun _ => ?_)
  ·intro y0 y1 y2 y3 y4 y5 y6 y7 y8 y9 y10 y11
   unfold bivariate_Translate.l1
   repeat' first
   | (with_reducible exact ih0 _ _ _ _ _ _ _)
   | (with_reducible exact ih1 _ _ _ _ _ _ _ _ _ _ _ _)
   | (with_reducible exact field_Add.mono _ _ _ _)
   | (with_reducible exact field_Mul.mono _ _ _ _)
   | (with_reducible exact LeO.refl _)
   | (with_reducible exact LeO.none _)
   | (with_reducible refine LeO.ite ?_ ?_)
   | (with_reducible refine LeO.bind ?_ (fun _ => ?_))
   | exact ih0 _ _ _ _ _ _ _
   | exact ih1 _ _ _ _ _ _ _ _ _ _ _ _
   | exact field_Add.mono _ _ _ _
   | exact field_Mul.mono _ _ _ _
   | exact LeO.none _
   | refine LeO.ite ?_ ?_
   | refine LeO.bind ?_ (fun _ => ?_)
theorem bivariate_Translate.mono : ∀ a0 a1 a2 a3 k, LeO (bivariate_Translate.f k a0 a1 a2 a3) (bivariate_Translate.f (k + 1) a0 a1 a2 a3) := by
 intro a0 a1 a2 a3 k
 obtain ⟨ih0,ih1⟩ := bivariate_Translate.mono_l k
 unfold bivariate_Translate.f
 repeat' first
   | (with_reducible exact ih0 _ _ _ _ _ _ _)
   | (with_reducible exact ih1 _ _ _ _ _ _ _ _ _ _ _ _)
   | (with_reducible exact field_Add.mono _ _ _ _)
   | (with_reducible exact field_Mul.mono _ _ _ _)
   | (with_reducible exact LeO.refl _)
   | (with_reducible exact LeO.none _)
   | (with_reducible refine LeO.ite ?_ ?_)
   | (with_reducible refine LeO.bind ?_ (fun _ => ?_))
   | exact ih0 _ _ _ _ _ _ _
   | exact ih1 _ _ _ _ _ _ _ _ _ _ _ _
   | exact field_Add.mono _ _ _ _
   | exact field_Mul.mono _ _ _ _
   | exact LeO.none _
   | refine LeO.ite ?_ ?_
   | refine LeO.bind ?_ (fun _ => ?_)
def bivariate_Translate.T9 : Bool × List (List Nat × List Nat) := (true, [([], []), ([], []), ([], []), ([], []), ([], []), ([], []), ([], []), ([], []), ([6, 7], [6, 7]), ([8], [8]), ([], []), ([], []), ([10, 11], [10, 11]), ([12], [12]), ([5, 9, 13], [5, 9, 13]), ([3, 4, 14, 14], [3, 4, 14]), ([1, 2, 15, 15], [1, 2, 15]), ([16], [16]), ([0, 17, 16], [0, 17]), ([18, 18, 0, 1, 2, 3, 4, 5, 6, 7, 8, 9, 10, 11, 12, 13, 14, 15, 16, 17, 18], [0, 18])])
def bivariate_Translate.B9 : List Nat := [0, 0, 0, 0, 0, 0, 0, 0, 192, 448, 0, 0, 3072, 7168, 16352, 32760, 65534, 131070, 262143, 524287]
theorem bivariate_Translate.tab9 : rtab .any (opsOf Try.f68 9) = bivariate_Translate.T9 := by kernel_rfl
theorem bivariate_Translate.bits9 : waitsOk bivariate_Translate.T9.2 bivariate_Translate.B9 = true := by kernel_rfl
set_option maxHeartbeats 8000000 in
set_option maxRecDepth 100000 in
theorem bivariate_Translate.calls (k : Nat) (a0 : Int) (A1 : Option Addr) (c1 : Nat) (l1 : List (List Int)) (a2 : Int) (A3 : Option Addr) (c3 : Nat) (l3 : List Int) (r : List (List Int)) (w : World) (hr1 : Kd.C (Kd.slice 22 (Kd.int .u64)) w A1 l1.length l1) (hc1 : l1.length ≤ c1) (hr3 : Kd.C (Kd.int .u64) w A3 l3.length l3) (hc3 : l3.length ≤ c3) (h : bivariate_Translate.f k a0 l1 a2 l3 = some r) :
  Calls Try.prog 68 #[.int .u64 a0,.slice A1 l1.length c1,.int .u64 a2,.slice A3 l3.length c3] w fun e w' => ∃ v0_ : Value,e = .returned (v0_) ∧ Kd.S (Kd.slice 22 (Kd.int .u64)) 26 w' w.heap.size (fun _ => True) v0_ r ∧ Below w.heap.size w w' := by
 have HR1 := Aside0.mk hr1
 have HC1 := Aside0.mk hc1
 clear hr1 hc1
 have HR3 := Aside0.mk hr3
 have HC3 := Aside0.mk hc3
 clear hr3 hc3
 have HB := Aside0.mk (Below.refl w.heap.size w)
 have H : (bivariate_Translate.l0 k a0 a2 l3 ([] : List (List Int)) l1 (l1.length : Int) 0) = some r := h
 clear h
 have H' := Aside0.mk H
 clear H
 go_enter Try.func68,Try.ntmps68
 go_wp2
 go_loopg [9,17] k (fun kq v9 v17 w' => ∃ (x9_1 : List (List Int)) (x17_1 : Int),v17 = .int .i64 x17_1 ∧ Aside0 (bivariate_Translate.l0 kq a0 a2 l3 x9_1 l1 (l1.length : Int) x17_1 = some r) ∧ Aside0 (kq ≤ k) ∧ Aside0 (Kd.S (Kd.slice 22 (Kd.int .u64)) 26 w' w.heap.size (fun _ => True) v9 x9_1) ∧ Aside0 (Below w.heap.size w w'))
 case atStart => exact ⟨(([] : List (List Int))),(0),(by first|rfl|(simp;done)|(simp [*];done)),H',⟨Nat.le_refl _⟩,⟨by first|exact Kd.S_nil _ _ _ _ _|exact Kd.N_nil _ _ _ _ _|exact Kd.V_nil _ _ _ _ _|exact Kd.Q_nil _ _ _ _ _|exact Kd.R_nil _ _ _ _ _⟩,⟨by repeat (first|(with_reducible first|exact HB.out|apply below_alloc|apply pw_below_drewN|apply below_drew1)|exact HB.out)⟩⟩
 case round =>
  clear H'
  try clear c1
  try clear p2
  try clear c3
  obtain ⟨x9_1,x17_1,rfl,HA,HK1,HO_9,HB⟩ := hrel
  cases gk with
  | zero => exact absurd HA.out (by simp [bivariate_Translate.l0])
  | succ k1 =>
   have H := HA.out
   clear HA
   simp only [bivariate_Translate.l0] at H
   by_cases c5 : x17_1 < (l1.length : Int)
   ·rw [if_pos c5] at H
    have c5b0 : decide (x17_1 < (l1.length : Int)) = true := decide_eq_true c5
    clear c5
    by_cases c6 : 0 ≤ x17_1
    ·rw [if_pos c6] at H
     have c6b0 : decide (0 ≤ x17_1) = true := decide_eq_true c6
     clear c6
     by_cases c7 : x17_1 < (l1.length : Int)
     ·rw [if_pos c7] at H
      have c7b0 : decide (x17_1 < (l1.length : Int)) = true := decide_eq_true c7
      clear c7
      have H' := Aside0.mk H
      clear H
      have p531 : 0 ≤ (x17_1 : Int) := of_decide_eq_true (by first|(with_reducible assumption)|assumption)
      have q531 : x17_1 < (l1.length : Int) := of_decide_eq_true (by first|(with_reducible assumption)|assumption)
      obtain ⟨ad531,A531_0,c531_0,e531,hx531_0,hl531_0,hi531_0⟩ := at_L4 HR1.out x17_1 p531 q531
      cases e531
      replace hx531_0 := (HB.out.cell (World.block_lt_of_cell? w _ hx531_0)).trans hx531_0
      have HR531_0 := Aside0.mk hi531_0
      have HC531_0 := Aside0.mk hl531_0
      clear hi531_0 hl531_0
      replace p531 := eq_true p531
      replace q531 := eq_true q531
      go_wp2
      go_loopg [12,24] k1 (fun kq v12 v24 w' => ∃ (x12_2 : List Int) (x24_2 : Int),v24 = .int .i64 x24_2 ∧ Aside0 (bivariate_Translate.l1 kq a0 a2 l3 x9_1 x17_1 x12_2 l1 (l1.length : Int) x17_1 (rd_L4 l1 x17_1) ((rd_L4 l1 x17_1).length : Int) x24_2 = some r) ∧ Aside0 (kq ≤ k1) ∧ Aside0 (Kd.S (Kd.slice 22 (Kd.int .u64)) 26 w' w.heap.size (fun k_ => some k_ ≠ (v12 : Value).ownBlock) u9 x9_1) ∧ Aside0 (Kd.R (Kd.int .u64) 22 w' w.heap.size (fun _ => True) v12 x12_2) ∧ Aside0 (Below w.heap.size w w'))
      case atStart => exact ⟨(([] : List Int)),(0),(by first|rfl|(simp;done)|(simp [*];done)),H',⟨Nat.le_refl _⟩,⟨by (with_reducible repeat (first|apply Kd.S_alloc|apply Kd.S_drewN|apply Kd.S_drew));exact Kd.S_mono HO_9.out (fun _ hk => (by simp [Value.ownBlock]))⟩,⟨by first|exact Kd.R_nil _ _ _ _ _|exact Kd.N_nil _ _ _ _ _|exact Kd.V_nil _ _ _ _ _|exact Kd.Q_nil _ _ _ _ _|exact Kd.S_nil _ _ _ _ _⟩,⟨by repeat (first|(with_reducible first|exact HB.out|apply below_alloc|apply pw_below_drewN|apply below_drew1)|exact HB.out)⟩⟩
      case round =>
       clear H'
       try clear c1
       try clear p2
       try clear c3
       try clear c5
       try clear c5b0
       try clear p5
       try clear q5
       try clear hx5
       try clear c6
       try clear c6b0
       try clear c7
       try clear c7b0
       try clear hx531_0
       try clear p2
       try clear p531
       try clear q531
       obtain ⟨x12_2,x24_2,rfl,HA,HK2,HO_9,HO_12,HB⟩ := hrel
       cases gk with
       | zero => exact absurd HA.out (by simp [bivariate_Translate.l1])
       | succ k2 =>
        have H := HA.out
        clear HA
        simp only [bivariate_Translate.l1] at H
        by_cases c8 : x24_2 < ((rd_L4 l1 x17_1).length : Int)
        ·rw [if_pos c8] at H
         have c8b0 : decide (x24_2 < ((rd_L4 l1 x17_1).length : Int)) = true := decide_eq_true c8
         clear c8
         by_cases c9 : 0 ≤ x24_2
         ·rw [if_pos c9] at H
          have c9b0 : decide (0 ≤ x24_2) = true := decide_eq_true c9
          clear c9
          by_cases c10 : x24_2 < ((rd_L4 l1 x17_1).length : Int)
          ·rw [if_pos c10] at H
           have c10b0 : decide (x24_2 < ((rd_L4 l1 x17_1).length : Int)) = true := decide_eq_true c10
           clear c10
           by_cases c11 : 0 ≤ x17_1
           ·rw [if_pos c11] at H
            have c11b0 : decide (0 ≤ x17_1) = true := decide_eq_true c11
            clear c11
            by_cases c12 : x17_1 < (l3.length : Int)
            ·rw [if_pos c12] at H
             have c12b0 : decide (x17_1 < (l3.length : Int)) = true := decide_eq_true c12
             clear c12
             by_cases c13 : x24_2 < (l3.length : Int)
             ·rw [if_pos c13] at H
              have c13b0 : decide (x24_2 < (l3.length : Int)) = true := decide_eq_true c13
              clear c13
              replace H := Option.bind_eq_some_iff.mp H
              obtain ⟨t535,A140,H⟩ := H
              replace H : ((field_Mul.f k2 a0 a2 t535).bind fun t536 => ((field_Add.f k2 a0 (rd (rd_L4 l1 x17_1) x24_2) t536).bind fun t537 => (if x12_2.length < 17592186044416 then (bivariate_Translate.l1 k2 a0 a2 l3 x9_1 x17_1 (x12_2 ++ [t537]) l1 (l1.length : Int) x17_1 (rd_L4 l1 x17_1) ((rd_L4 l1 x17_1).length : Int) (wrap64 (x24_2 + 1))) else (none)))) = some r := H
              have A14 := Aside0.mk A140
              clear A140
              replace H := Option.bind_eq_some_iff.mp H
              obtain ⟨t536,A150,H⟩ := H
              replace H : ((field_Add.f k2 a0 (rd (rd_L4 l1 x17_1) x24_2) t536).bind fun t537 => (if x12_2.length < 17592186044416 then (bivariate_Translate.l1 k2 a0 a2 l3 x9_1 x17_1 (x12_2 ++ [t537]) l1 (l1.length : Int) x17_1 (rd_L4 l1 x17_1) ((rd_L4 l1 x17_1).length : Int) (wrap64 (x24_2 + 1))) else (none))) = some r := H
              have A15 := Aside0.mk A150
              clear A150
              replace H := Option.bind_eq_some_iff.mp H
              obtain ⟨t537,A160,H⟩ := H
              replace H : (if x12_2.length < 17592186044416 then (bivariate_Translate.l1 k2 a0 a2 l3 x9_1 x17_1 (x12_2 ++ [t537]) l1 (l1.length : Int) x17_1 (rd_L4 l1 x17_1) ((rd_L4 l1 x17_1).length : Int) (wrap64 (x24_2 + 1))) else (none)) = some r := H
              have A16 := Aside0.mk A160
              clear A160
              by_cases c17 : x12_2.length < 17592186044416
              ·rw [if_pos c17] at H
               have LMc17 := Aside0.mk c17
               clear c17
               obtain ⟨y538,hy538⟩ : ∃ y_ : List Int,y_ = (x12_2 ++ [t537]) := ⟨_,rfl⟩
               replace H : (bivariate_Translate.l1 k2 a0 a2 l3 x9_1 x17_1 y538 l1 (l1.length : Int) x17_1 (rd_L4 l1 x17_1) ((rd_L4 l1 x17_1).length : Int) (wrap64 (x24_2 + 1))) = some r := by first|(rw [hy538];with_reducible exact H)|(have H2_ := (Option.bind_some _ _).symm.trans H;rw [hy538];with_reducible exact H2_)|(have H2_ := (Option.bind_some _ _).symm.trans H;with_reducible exact H2_)|with_reducible exact H|(rw [hy538];exact H)|exact H
               have Ny538 := Aside0.mk hy538
               clear hy538
               have H' := Aside0.mk H
               clear H
               have p532 : 0 ≤ (x24_2 : Int) := of_decide_eq_true (by first|(with_reducible assumption)|assumption)
               have q532 : x24_2 < ((rd_L4 l1 x17_1).length : Int) := of_decide_eq_true (by first|(with_reducible assumption)|assumption)
               obtain ⟨ad532,e532,hx532_0⟩ := Kd.at_int HR531_0.out x24_2 p532 q532
               cases e532
               replace hx532_0 := (HB.out.cell (World.block_lt_of_cell? w _ hx532_0)).trans hx532_0
               replace p532 := eq_true p532
               replace q532 := eq_true q532
               try go_wp2
               have n0_ := Aside0.mk (Kd.S_drew HO_9.out)
               have n1_ := Aside0.mk (Kd.R_drew HO_12.out)
               have n2_ := Aside0.mk (below_drew1 HB.out)
               clear HO_9
               clear HO_12
               clear HB
               have HO_9 := n0_
               have HO_12 := n1_
               have HB := n2_
               clear n0_ n1_ n2_
               have p533 : 0 ≤ (x17_1 : Int) := of_decide_eq_true (by first|(with_reducible assumption)|assumption)
               have q533 : x17_1 < (l3.length : Int) := of_decide_eq_true (by first|(with_reducible assumption)|assumption)
               obtain ⟨ad533,e533,hx533_0⟩ := Kd.at_int HR3.out x17_1 p533 q533
               have hw533_0 := hx533_0
               cases e533
               replace hx533_0 := (HB.out.cell (World.block_lt_of_cell? w _ hx533_0)).trans hx533_0
               replace p533 := eq_true p533
               replace q533 := eq_true q533
               have p534 : 0 ≤ (x24_2 : Int) := of_decide_eq_true (by first|(with_reducible assumption)|assumption)
               have q534 : x24_2 < (l3.length : Int) := of_decide_eq_true (by first|(with_reducible assumption)|assumption)
               obtain ⟨ad534,e534,hx534_0⟩ := Kd.at_int HR3.out x24_2 p534 q534
               have hw534_0 := hx534_0
               obtain rfl : ad533 = ad534 := (by injection e534)
               replace hx534_0 := (HB.out.cell (World.block_lt_of_cell? w _ hx534_0)).trans hx534_0
               replace p534 := eq_true p534
               replace q534 := eq_true q534
               refine start_ (n := 20) (S := fun w' => w'.cell? (ad533.add (x17_1).toNat) = some (.int .u64 (rd l3 x17_1)) ∧ w'.cell? (ad533.add (x24_2).toNat) = some (.int .u64 (rd l3 x24_2))) (ds := []) #[false,false,false,false,false,false,false,false,false,false,false,false,false,false,false,false,false,false,false,false] (by kernel_rfl) rfl rfl ⟨((HB.out.cell (World.block_lt_of_cell? w _ hw533_0)).trans hw533_0),((HB.out.cell (World.block_lt_of_cell? w _ hw534_0)).trans hw534_0)⟩ (fun hHeld => ?_);refine with_tabW bivariate_Translate.tab9 bivariate_Translate.bits9 (fun HT_ HW_ => ?_)
               generalize wr.drew = w18 at HO_9 HO_12 HB hx533_0 hx534_0 hHeld ⊢
               refine pure_ (i := 0) (N := some 29) (v := ?_) (a' := ?_) #[true,false,false,false,false,false,false,false,false,false,false,false,false,false,false,false,false,false,false,false] rfl rfl (any_of HT_.out (by kernel_rfl)) (fun _ _ _ h => h) (Or.inl ⟨by rfl,?_⟩) ?_ ?_
               rotate_left
               ·intro w'
                go_simp
                with_reducible rfl
               rotate_left
               ·simp only [Act.put,List.setIfInBounds_toArray,List.set_cons_zero,List.set_cons_succ,i64_w,i32_w]
                rfl
               refine pure_ (i := 1) (N := some 30) (v := ?_) (a' := ?_) #[true,true,false,false,false,false,false,false,false,false,false,false,false,false,false,false,false,false,false,false] rfl rfl (any_of HT_.out (by kernel_rfl)) (fun _ _ _ h => h) (Or.inl ⟨by rfl,?_⟩) ?_ ?_
               rotate_left
               ·intro w'
                go_simp
                with_reducible rfl
               rotate_left
               ·simp only [Act.put,List.setIfInBounds_toArray,List.set_cons_zero,List.set_cons_succ,i64_w,i32_w]
                rfl
               refine pure_ (i := 2) (N := some 31) (v := ?_) (a' := ?_) #[true,true,true,false,false,false,false,false,false,false,false,false,false,false,false,false,false,false,false,false] rfl rfl (any_of HT_.out (by kernel_rfl)) (fun _ _ _ h => h) (Or.inl ⟨by rfl,?_⟩) ?_ ?_
               rotate_left
               ·intro w'
                go_simp
                with_reducible rfl
               rotate_left
               ·simp only [Act.put,List.setIfInBounds_toArray,List.set_cons_zero,List.set_cons_succ,i64_w,i32_w]
                rfl
               refine pure_ (i := 3) (N := some 32) (v := ?_) (a' := ?_) #[true,true,true,true,false,false,false,false,false,false,false,false,false,false,false,false,false,false,false,false] rfl rfl (any_of HT_.out (by kernel_rfl)) (fun _ _ _ h => h) (Or.inl ⟨by rfl,?_⟩) ?_ ?_
               rotate_left
               ·intro w'
                go_simp
                with_reducible rfl
               rotate_left
               ·simp only [Act.put,List.setIfInBounds_toArray,List.set_cons_zero,List.set_cons_succ,i64_w,i32_w]
                rfl
               refine pure_ (i := 4) (N := some 33) (v := ?_) (a' := ?_) #[true,true,true,true,true,false,false,false,false,false,false,false,false,false,false,false,false,false,false,false] rfl rfl (any_of HT_.out (by kernel_rfl)) (fun _ _ _ h => h) (Or.inl ⟨by rfl,?_⟩) ?_ ?_
               rotate_left
               ·intro w'
                go_simp
                with_reducible rfl
               rotate_left
               ·simp only [Act.put,List.setIfInBounds_toArray,List.set_cons_zero,List.set_cons_succ,i64_w,i32_w]
                rfl
               refine pure_ (i := 5) (N := some 34) (v := ?_) (a' := ?_) #[true,true,true,true,true,true,false,false,false,false,false,false,false,false,false,false,false,false,false,false] rfl rfl (any_of HT_.out (by kernel_rfl)) (fun _ _ _ h => h) (Or.inl ⟨by rfl,?_⟩) ?_ ?_
               rotate_left
               ·intro w'
                go_simp
                with_reducible rfl
               rotate_left
               ·simp only [Act.put,List.setIfInBounds_toArray,List.set_cons_zero,List.set_cons_succ,i64_w,i32_w]
                rfl
               refine pure_ (i := 6) (N := some 35) (v := ?_) (a' := ?_) #[true,true,true,true,true,true,true,false,false,false,false,false,false,false,false,false,false,false,false,false] rfl rfl (any_of HT_.out (by kernel_rfl)) (fun _ _ _ h => h) (Or.inl ⟨by rfl,?_⟩) ?_ ?_
               rotate_left
               ·intro w'
                go_simp
                with_reducible rfl
               rotate_left
               ·simp only [Act.put,List.setIfInBounds_toArray,List.set_cons_zero,List.set_cons_succ,i64_w,i32_w]
                rfl
               refine pure_ (i := 7) (N := some 36) (v := ?_) (a' := ?_) #[true,true,true,true,true,true,true,true,false,false,false,false,false,false,false,false,false,false,false,false] rfl rfl (any_of HT_.out (by kernel_rfl)) (fun _ _ _ h => h) (Or.inl ⟨by rfl,?_⟩) ?_ ?_
               rotate_left
               ·intro w'
                go_simp
                with_reducible rfl
               rotate_left
               ·simp only [Act.put,List.setIfInBounds_toArray,List.set_cons_zero,List.set_cons_succ,i64_w,i32_w]
                rfl
               refine pure_ (i := 8) (N := some 37) (v := ?_) (a' := ?_) #[true,true,true,true,true,true,true,true,true,false,false,false,false,false,false,false,false,false,false,false] rfl rfl (any_of HT_.out (by kernel_rfl)) (fun _ _ _ h => h) (Or.inl ⟨by rfl,?_⟩) ?_ ?_
               rotate_left
               ·intro w'
                go_simp
                with_reducible rfl
               rotate_left
               ·simp only [Act.put,List.setIfInBounds_toArray,List.set_cons_zero,List.set_cons_succ,i64_w,i32_w]
                rfl
               refine pure_ (i := 10) (N := some 39) (v := ?_) (a' := ?_) #[true,true,true,true,true,true,true,true,true,false,true,false,false,false,false,false,false,false,false,false] rfl rfl (any_of HT_.out (by kernel_rfl)) (fun _ _ _ h => h) (Or.inl ⟨by rfl,?_⟩) ?_ ?_
               rotate_left
               ·intro w'
                go_simp
                with_reducible rfl
               rotate_left
               ·simp only [Act.put,List.setIfInBounds_toArray,List.set_cons_zero,List.set_cons_succ,i64_w,i32_w]
                rfl
               refine pure_ (i := 11) (N := some 40) (v := ?_) (a' := ?_) #[true,true,true,true,true,true,true,true,true,false,true,true,false,false,false,false,false,false,false,false] rfl rfl (any_of HT_.out (by kernel_rfl)) (fun _ _ _ h => h) (Or.inl ⟨by rfl,?_⟩) ?_ ?_
               rotate_left
               ·intro w'
                go_simp
                with_reducible rfl
               rotate_left
               ·simp only [Act.put,List.setIfInBounds_toArray,List.set_cons_zero,List.set_cons_succ,i64_w,i32_w]
                rfl
               refine pure_ (i := 12) (N := some 41) (v := ?_) (a' := ?_) #[true,true,true,true,true,true,true,true,true,false,true,true,true,false,false,false,false,false,false,false] rfl rfl (any_of HT_.out (by kernel_rfl)) (fun _ _ _ h => h) (Or.inl ⟨by rfl,?_⟩) ?_ ?_
               rotate_left
               ·intro w'
                go_simp
                with_reducible rfl
               rotate_left
               ·simp only [Act.put,List.setIfInBounds_toArray,List.set_cons_zero,List.set_cons_succ,i64_w,i32_w]
                rfl
               refine take_ (i := 9) (N := some 38) (v := ?_) (a' := ?_) #[true,true,true,true,true,true,true,true,true,true,true,true,true,false,false,false,false,false,false,false] rfl rfl (take_ofW HT_.out HW_.out (by kernel_rfl)) (fun _ _ _ h => h) (Or.inl ⟨by rfl,?_⟩) hHeld ?_ ?_
               rotate_left
               ·rintro w' ⟨s0,s1⟩
                go_simp
                with_reducible rfl
               rotate_left
               ·simp only [Act.put,List.setIfInBounds_toArray,List.set_cons_zero,List.set_cons_succ,i64_w,i32_w]
                rfl
               refine take_ (i := 13) (N := some 42) (v := ?_) (a' := ?_) #[true,true,true,true,true,true,true,true,true,true,true,true,true,true,false,false,false,false,false,false] rfl rfl (take_ofW HT_.out HW_.out (by kernel_rfl)) (fun _ _ _ h => h) (Or.inl ⟨by rfl,?_⟩) hHeld ?_ ?_
               rotate_left
               ·rintro w' ⟨s0,s1⟩
                go_simp
                with_reducible rfl
               rotate_left
               ·simp only [Act.put,List.setIfInBounds_toArray,List.set_cons_zero,List.set_cons_succ,i64_w,i32_w]
                rfl
               refine one_ (i := 14) (N := some 43) #[true,true,true,true,true,true,true,true,true,true,true,true,true,true,true,false,false,false,false,false] rfl rfl (one_of HT_.out (by kernel_rfl)) (by decide) (fun K hK => ?_)
               refine goes_ Try.func70 (by kernel_rfl) rfl #[.int .u64 a0,.int .u64 (rd l3 x17_1),.int .u64 (rd l3 x24_2)] (by rfl) rfl rfl (by (try simp only [List.map_toArray,List.map_cons,List.map_nil]);first|done|rfl|(simp only [List.length_drop,List.length_take];rfl)) ?_
               with_reducible refine (field_Mul.calls k2 a0 (rd l3 x17_1) (rd l3 x24_2) t535 _ A14.out).mono ?_
               rintro e w' ⟨rfl,⟨nd,rfl⟩⟩
               refine ⟨_,rfl,?_⟩
               refine hK.out _ _ ⟨((HB.out.cell (World.block_lt_of_cell? w _ hw533_0)).trans hw533_0),((HB.out.cell (World.block_lt_of_cell? w _ hw534_0)).trans hw534_0)⟩ (fun hHeld => ?_)
               clear hK K
               refine norm_ (a' := ?_) ?_ ?_
               rotate_left
               ·show Act.put _ (some 43) _ = _
                simp only [Act.put,List.setIfInBounds_toArray,List.set_cons_zero,List.set_cons_succ,i64_w,i32_w]
                rfl
               refine one_ (i := 15) (N := some 44) #[true,true,true,true,true,true,true,true,true,true,true,true,true,true,true,true,false,false,false,false] rfl rfl (one_of HT_.out (by kernel_rfl)) (by decide) (fun K hK => ?_)
               refine goes_ Try.func70 (by kernel_rfl) rfl #[.int .u64 a0,.int .u64 a2,.int .u64 t535] (by rfl) rfl rfl (by (try simp only [List.map_toArray,List.map_cons,List.map_nil]);first|done|rfl|(simp only [List.length_drop,List.length_take];rfl)) ?_
               with_reducible refine (field_Mul.calls k2 a0 a2 t535 t536 _ A15.out).mono ?_
               rintro e w' ⟨rfl,⟨nd,rfl⟩⟩
               refine ⟨_,rfl,?_⟩
               refine hK.out _ _ ⟨((HB.out.cell (World.block_lt_of_cell? w _ hw533_0)).trans hw533_0),((HB.out.cell (World.block_lt_of_cell? w _ hw534_0)).trans hw534_0)⟩ (fun hHeld => ?_)
               clear hK K
               refine norm_ (a' := ?_) ?_ ?_
               rotate_left
               ·show Act.put _ (some 44) _ = _
                simp only [Act.put,List.setIfInBounds_toArray,List.set_cons_zero,List.set_cons_succ,i64_w,i32_w]
                rfl
               refine one_ (i := 16) (N := some 45) #[true,true,true,true,true,true,true,true,true,true,true,true,true,true,true,true,true,false,false,false] rfl rfl (one_of HT_.out (by kernel_rfl)) (by decide) (fun K hK => ?_)
               refine goes_ Try.func69 (by kernel_rfl) rfl #[.int .u64 a0,.int .u64 (rd (rd_L4 l1 x17_1) x24_2),.int .u64 t536] (by rfl) rfl rfl (by (try simp only [List.map_toArray,List.map_cons,List.map_nil]);first|done|rfl|(simp only [List.length_drop,List.length_take];rfl)) ?_
               with_reducible refine (field_Add.calls k2 a0 (rd (rd_L4 l1 x17_1) x24_2) t536 t537 _ A16.out).mono ?_
               rintro e w' ⟨rfl,⟨nd,rfl⟩⟩
               refine ⟨_,rfl,?_⟩
               refine hK.out _ _ ⟨((HB.out.cell (World.block_lt_of_cell? w _ hw533_0)).trans hw533_0),((HB.out.cell (World.block_lt_of_cell? w _ hw534_0)).trans hw534_0)⟩ (fun hHeld => ?_)
               clear hK K
               refine norm_ (a' := ?_) ?_ ?_
               rotate_left
               ·show Act.put _ (some 45) _ = _
                simp only [Act.put,List.setIfInBounds_toArray,List.set_cons_zero,List.set_cons_succ,i64_w,i32_w]
                rfl
               refine one_ (i := 17) (N := some 46) #[true,true,true,true,true,true,true,true,true,true,true,true,true,true,true,true,true,true,false,false] rfl rfl (one_of HT_.out (by kernel_rfl)) (by decide) (fun K hK => ?_)
               refine value_ (w1 := ?_) (v := ?_) (by rfl) rfl ?_ ?_
               rotate_left 2
               ·go_simp
                constructor
                ·rfl
                ·rfl
               refine hK.out _ _ ⟨(World.cell?_alloc_lt _ _ _ (World.block_lt_of_cell? _ _ (((HB.out.cell (World.block_lt_of_cell? w _ hw533_0)).trans hw533_0)))).trans (((HB.out.cell (World.block_lt_of_cell? w _ hw533_0)).trans hw533_0)),(World.cell?_alloc_lt _ _ _ (World.block_lt_of_cell? _ _ (((HB.out.cell (World.block_lt_of_cell? w _ hw534_0)).trans hw534_0)))).trans (((HB.out.cell (World.block_lt_of_cell? w _ hw534_0)).trans hw534_0))⟩ (fun hHeld => ?_)
               clear hK K
               refine norm_ (a' := ?_) ?_ ?_
               rotate_left
               ·show Act.put _ (some 46) _ = _
                simp only [Act.put,List.setIfInBounds_toArray,List.set_cons_zero,List.set_cons_succ,i64_w,i32_w]
                rfl
               refine one_ (i := 18) (N := some 47) #[true,true,true,true,true,true,true,true,true,true,true,true,true,true,true,true,true,true,true,false] rfl rfl (one_of HT_.out (by kernel_rfl)) (by decide) (fun K hK => ?_)
               refine Kd.R_append_step (Kd.int .u64) (w0 := w) w.heap.size (by rfl) (.tmp 29) (.tmp 46) 26 22 (.int .u64 0) 8 rfl Try.underlying26 info22 rfl (by decide) (by omega) u12 x12_2 t537 [.int .u64 t537] (fun _ => True) (fun _ => False) rfl rfl ?aP (fun _ hk => hk.elim) ?aF ?aO ?aB ?aS ?aL ?_
               (case aP => exact rfl)
               (case aB => exact (by repeat (first|(with_reducible first|exact HB.out|apply below_alloc|apply pw_below_drewN|apply below_drew1)|exact HB.out)))
               (case aF => exact (fun _ _ => trivial))
               (case aO => exact (by (with_reducible repeat (first|apply Kd.R_alloc|apply Kd.R_drewN|apply Kd.R_drew));exact HO_12.out))
               (case aS => exact (below_size (by repeat (first|(with_reducible first|exact HB.out|apply below_alloc|apply pw_below_drewN|apply below_drew1)|exact HB.out))))
               (case aL => have := LMc17.out;omega)
               intro v539 w19 ho hb hg hat
               rw [← Ny538.out] at ho
               have n0_ := Aside0.mk (Kd.S_after (ok := (fun _ => True)) (by (with_reducible repeat (first|apply Kd.S_alloc|apply Kd.S_drewN|apply Kd.S_drew));exact Kd.S_mono HO_9.out (fun _ hk => ⟨trivial,hk⟩)) hg hat)
               have n1_ := Aside0.mk (hb)
               have n2_ := Aside0.mk (ho)
               clear HO_9
               clear HB
               clear HO_12
               have HO_9 := n0_
               have HB := n1_
               have HO540 := n2_
               clear n0_ n1_ n2_
               clear ho hb hg hat
               refine hK.out _ _ ⟨((HB.out.cell (World.block_lt_of_cell? w _ hw533_0)).trans hw533_0),((HB.out.cell (World.block_lt_of_cell? w _ hw534_0)).trans hw534_0)⟩ (fun hHeld => ?_)
               clear hK K
               refine norm_ (a' := ?_) ?_ ?_
               rotate_left
               ·show Act.put _ (some 47) _ = _
                simp only [Act.put,List.setIfInBounds_toArray,List.set_cons_zero,List.set_cons_succ,i64_w,i32_w]
                rfl
               refine pure_ (i := 19) (N := some 12) (v := ?_) (a' := ?_) #[true,true,true,true,true,true,true,true,true,true,true,true,true,true,true,true,true,true,true,true] rfl rfl (any_of HT_.out (by kernel_rfl)) (fun _ _ _ h => h) (Or.inl ⟨by rfl,?_⟩) ?_ ?_
               rotate_left
               ·intro w'
                go_simp
                with_reducible rfl
               rotate_left
               ·simp only [Act.put,List.setIfInBounds_toArray,List.set_cons_zero,List.set_cons_succ,i64_w,i32_w]
                rfl
               refine done_ (done_of HT_.out (by kernel_rfl)) ?_
               try go_wp2
               go_roundg k2
               case measure => have := HK1.out;have := HK2.out;omega
               case rel => exact ⟨(y538),(wrap64 (x24_2 + 1)),(by first|rfl|(simp;done)|(simp [*];done)),H',⟨by have := HK1.out;have := HK2.out;omega⟩,⟨by (with_reducible repeat (first|apply Kd.S_alloc|apply Kd.S_drewN|apply Kd.S_drew));exact Kd.S_mono HO_9.out (fun _ hk => hk.2)⟩,⟨by (with_reducible repeat (first|apply Kd.R_alloc|apply Kd.R_drewN|apply Kd.R_drew));exact HO540.out⟩,⟨by repeat (first|(with_reducible first|exact HB.out|apply below_alloc|apply pw_below_drewN|apply below_drew1)|exact HB.out)⟩⟩
              ·rw [if_neg c17] at H
               exact absurd H (by simp)
             ·rw [if_neg c13] at H
              exact absurd H (by simp)
            ·rw [if_neg c12] at H
             exact absurd H (by simp)
           ·rw [if_neg c11] at H
            exact absurd H (by simp)
          ·rw [if_neg c10] at H
           exact absurd H (by simp)
         ·rw [if_neg c9] at H
          exact absurd H (by simp)
        ·rw [if_neg c8] at H
         have c8b0 : decide (x24_2 < ((rd_L4 l1 x17_1).length : Int)) = false := decide_eq_false c8
         clear c8
         by_cases c20 : x9_1.length < 5864062014805
         ·rw [if_pos c20] at H
          have LMc20 := Aside0.mk c20
          clear c20
          obtain ⟨y541,hy541⟩ : ∃ y_ : List (List Int),y_ = (x9_1 ++ [x12_2]) := ⟨_,rfl⟩
          replace H : (bivariate_Translate.l0 k2 a0 a2 l3 y541 l1 (l1.length : Int) (wrap64 (x17_1 + 1))) = some r := by first|(rw [hy541];with_reducible exact H)|(have H2_ := (Option.bind_some _ _).symm.trans H;rw [hy541];with_reducible exact H2_)|(have H2_ := (Option.bind_some _ _).symm.trans H;with_reducible exact H2_)|with_reducible exact H|(rw [hy541];exact H)|exact H
          have Ny541 := Aside0.mk hy541
          clear hy541
          have H' := Aside0.mk H
          clear H
          obtain ⟨Ao22,co22,eo22⟩ := Kd.R_slice HO_12.out
          subst eo22
          go_wp2_with (first|((with_reducible refine gate_builtin (b := .append) (xs := #[.tmp 49,.tmp 51]) rfl ?_);at_builtin;refine Kd.S_append (Kd.slice 22 (Kd.int .u64)) (w0 := w) w.heap.size rfl (.tmp 49) (.tmp 51) 34 26 (.slice none 0 0) 24 rfl Try.underlying34 info26 rfl (by decide) (by omega) u9 x9_1 x12_2 [.slice Ao22 x12_2.length co22] (fun _ => True) (fun k_ => some k_ = (.slice Ao22 x12_2.length co22 : Value).ownBlock) rfl rfl ?aP (fun k_ hk_ => ((Kd.R_mono (ok' := fun k_ => ((fun _ => True)) k_ ∧ some k_ ≠ (u9 : Value).ownBlock) (Kd.R_apart' (HO_12.out) (Kd.S_typed HO_9.out) (by decide)) (fun k_ hk => ⟨trivial,hk.2⟩))).1 k_ hk_.symm) ?aF ?aO ?aB ?aS ?aL ?_;(case aP => exact Kd.M_row (Kd.R_mono (Kd.R_tight rfl (Kd.R_mono (ok' := fun k_ => ((fun _ => True)) k_ ∧ some k_ ≠ (u9 : Value).ownBlock) (Kd.R_apart' (HO_12.out) (Kd.S_typed HO_9.out) (by decide)) (fun k_ hk => ⟨trivial,hk.2⟩))) (fun _ h_ => h_)));(case aB => exact (by repeat (first|(with_reducible first|exact HB.out|apply below_alloc|apply pw_below_drewN|apply below_drew1)|exact HB.out)));(case aF => exact (fun _ _ => trivial));(case aO => exact (by (with_reducible repeat (first|apply Kd.S_alloc|apply Kd.S_drewN|apply Kd.S_drew));exact Kd.S_mono HO_9.out (fun k_ hk => ⟨trivial,fun e_ => hk e_⟩)));(case aS => exact (below_size (by repeat (first|(with_reducible first|exact HB.out|apply below_alloc|apply pw_below_drewN|apply below_drew1)|exact HB.out))));(case aL => have := LMc20.out;omega);intro v542 w21 ho hb hg hat;rw [← Ny541.out] at ho;have n0_ := Aside0.mk (hb);have n1_ := Aside0.mk (ho);clear HB;clear HO_9;clear HO_12;have HB := n0_;have HO543 := n1_;clear n0_ n1_;clear ho hb hg hat))
          go_roundg k2
          case measure => have := HK1.out;have := HK2.out;omega
          case rel => exact ⟨(y541),(wrap64 (x17_1 + 1)),(by first|rfl|(simp;done)|(simp [*];done)),H',⟨by have := HK1.out;have := HK2.out;omega⟩,⟨by (with_reducible repeat (first|apply Kd.S_alloc|apply Kd.S_drewN|apply Kd.S_drew));exact HO543.out⟩,⟨by repeat (first|(with_reducible first|exact HB.out|apply below_alloc|apply pw_below_drewN|apply below_drew1)|exact HB.out)⟩⟩
         ·rw [if_neg c20] at H
          exact absurd H (by simp)
     ·rw [if_neg c7] at H
      exact absurd H (by simp)
    ·rw [if_neg c6] at H
     exact absurd H (by simp)
   ·rw [if_neg c5] at H
    have c5b0 : decide (x17_1 < (l1.length : Int)) = false := decide_eq_false c5
    clear c5
    obtain rfl := Option.some.inj H
    go_wp2
    go_ret
    exact ⟨_,by first|rfl|(simp [errW_none,errW_some] <;> rfl)|(simp [*,errW_none,errW_some] <;> rfl),by (with_reducible repeat (first|apply Kd.S_alloc|apply Kd.S_drewN|apply Kd.S_drew));exact HO_9.out,by repeat (first|(with_reducible first|exact HB.out|apply below_alloc|apply pw_below_drewN|apply below_drew1)|exact HB.out)⟩
end Go.Proofs.Ytejeelpnmdfibaa.Pr
end
