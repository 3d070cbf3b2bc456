/- Part 4 of the proof's texts, joined in build order. -/
import Derived.Test.YtakaonojfpkhnaaDoorZScenarioWithExtraDeviation1
import Derived.Lib.Hide
import Derived.Lib.SliceRun
import Derived.Test.YtakaonojfpkhnaaDoorZScenarioWithExtraDeviation3
import Derived.Deep.RegionHeld3
import Derived.Test.YtakaonojfpkhnaaDoorZScenarioWithExtraDeviation2
import Derived.Test.YtakaonojfpkhnaaDoorZScenarioWithExtraDeviation0
import Derived.Laws.CopyOwn
import Derived.Deep.WholeRow
section
/-
  slices.Clone, slices.Sort (at most twelve words) and slices.Compact at uint64, and unlike of package interpolate, proved by hand.
-/
namespace Go.Proofs.YtakaonojfpkhnaaDoor.Hw
open Go.RowKit Go.Proofs.YtakaonojfpkhnaaDoor.Pr Go.Proofs.YtakaonojfpkhnaaDoorW.PrintWords Go.Proofs.YtakaonojfpkhnaaDoorW.PrintLast Go.Proofs.YtakaonojfpkhnaaDoorW.PrintMore Go.Proofs.YtakaonojfpkhnaaDoor.E
set_option linter.unusedVariables false
set_option linter.unusedSimpArgs false

theorem wrapI_id {n : Int} (h0 : -9223372036854775808 ≤ n) (h1 : n < 9223372036854775808) : IntKind.i64.wrap n = n := by rw [IntKind.wrap_i64]; omega
theorem C_none {k : IntKind} {w : World} {xs : List Int} (h : Kd.C (Kd.int k) w none xs.length xs) : xs = [] := by
  rcases xs with _ | ⟨x, xs⟩
  · rfl
  · obtain ⟨ad, e, _⟩ := Kd.at_int h 0 (by omega) (by simp)
    cases e
set_option maxHeartbeats 1000000 in
set_option maxRecDepth 100000 in
theorem clone_u64 (A : Option Addr) (c : Nat) (l : List Int) (w : World) (hr : Kd.C (Kd.int .u64) w A l.length l) (hc : l.length ≤ c) (hl : l.length ≤ 1099511627776) :
    Calls Tryd.prog 67 #[.slice A l.length c] w fun e w' => ∃ v0_ : Value, e = .returned (v0_) ∧ Kd.R (Kd.int .u64) 22 w' w.heap.size (fun _ => True) v0_ l ∧ Below w.heap.size w w' := by
  have HR := Aside0.mk hr
  clear hr
  rcases A with _ | a
  · obtain rfl := C_none HR.out
    have heq : ∀ W : World, (binOp .eql 33 (.slice none 0 c) (.slice none 0 0)).run Tryd.prog W = .ok (.bool true) W := fun W => Lib.run_eql_slice_nil W 33 22 none 0 c 0 0 Tryd.underlying33
    go_enter Tryd.func67, Tryd.ntmps67
    go_wp2
    go_ret
    exact ⟨_, rfl, Kd.R_nil _ _ _ _ _, Below.refl _ _⟩
  · have heq : ∀ W : World, (binOp .eql 33 (.slice (some a) l.length c) (.slice none 0 0)).run Tryd.prog W = .ok (.bool false) W := fun W => Lib.run_eql_slice_nil W 33 22 (some a) l.length c 0 0 Tryd.underlying33
    go_enter Tryd.func67, Tryd.ntmps67
    go_wp2_with (first
      | ((with_reducible refine gate_dst (N := 5) rfl ?_); refine Kd.R_lit (Kd.int .u64) _ 22 ?hg (N := 5) ?hd (xs := ([] : List Int)) (inner := []) (ok := fun _ => True) (okp := fun _ => True) ?hr ?hp (fun _ hk => hk) trivial (Below.refl _ _) (Nat.le_refl _) (by simp) ?_; (case hd => rfl); (case hg => rfl); (case hr => first | (go_simp; done) | (go_simp; rfl)); (case hp => exact (Reps.none _ _)); intro v1 w1 ho1 hb1 hg1 hn1; clear hg1 hn1; have HO1 := Aside0.mk ho1; have HB1 := Aside0.mk hb1; clear ho1 hb1)
      | ((with_reducible refine gate_builtin (b := .append) (xs := #[.tmp 5, .tmp 6]) rfl ?_); at_builtin; refine Kd.R_append_rows (Kd.int .u64) (w0 := w) w.heap.size rfl (.tmp 5) (.tmp 6) 33 22 (.int .u64 0) 8 rfl Tryd.underlying33 info22 rfl (by decide) (by omega) v1 [] l _ _ _ (fun _ => True) (fun _ => False) rfl rfl HO1.out (Kd.C_below HR.out HB1.out) (fun _ _ h => h) (fun _ h => h.elim) (fun _ _ => trivial) HB1.out (below_size HB1.out) (by simp; omega) ?_; intro v2 w2 ho2 hb2 hg2 ha2; clear hg2 ha2; have HO2 := Aside0.mk ho2; have HB2 := Aside0.mk hb2; clear ho2 hb2))
    go_ret
    exact ⟨_, rfl, by simpa using HO2.out, HB2.out⟩
set_option maxHeartbeats 1000000 in
set_option maxRecDepth 100000 in
/-- At most twelve words: the insertion sort alone. -/
theorem pdq_small (k : Nat) (P0_ : Nat → Prop) (v : Value) (l r : List Int) (L : Int) (hl : l.length ≤ 12) (w0 w : World) (hB : Below w0.heap.size w0 w) (ho : Kd.R (Kd.int .u64) 22 w w0.heap.size P0_ v l)
    (h : slices_insertionSortOrdered_uint64.f k l 0 (l.length : Int) = some r) :
    Calls Tryd.prog 75 #[v, .int .i64 0, .int .i64 (l.length : Int), .int .i64 L] w fun e w' => e = .returned (.tuple #[]) ∧ Kd.R (Kd.int .u64) 22 w' w0.heap.size (fun k_ => (P0_ k_ ∨ w.heap.size ≤ k_)) v r ∧ Below w0.heap.size w0 w' ∧ Kept w w' (fun k_ => P0_ k_) := by
  have hc := Aside0.mk (slices_insertionSortOrdered_uint64.calls k P0_ v l 0 (l.length : Int) r w0 w hB ho h)
  have hle : decide ((l.length : Int) ≤ 12) = true := decide_eq_true (by omega)
  have hle' : decide (l.length ≤ 12) = true := decide_eq_true hl
  clear hB ho h
  go_enter Tryd.func75, Tryd.ntmps75
  go_wp2
  go_loopg [1, 2] 0 (fun kq v1 v2 w' => v1 = .int .i64 0 ∧ v2 = .int .i64 (l.length : Int) ∧ w' = w)
  case atStart => exact ⟨rfl, rfl, rfl⟩
  case round =>
    obtain ⟨rfl, rfl, rfl⟩ := hrel
    go_wp2_with (first | (go_at_call 79; (with_reducible refine hc.out.mono ?_); rintro e w' ⟨rfl, h1, h2, h3⟩; have H1 := Aside0.mk h1; have H2 := Aside0.mk h2; have H3 := Aside0.mk h3; clear h1 h2 h3))
    first | go_end0 | ((try simp only [Exit.inBlock, Exit.then]); refine bodyPost_ret (results_none rfl _ _ _) rfl ?_)
    exact ⟨rfl, H1.out, H2.out, H3.out⟩
set_option maxHeartbeats 1000000 in
set_option maxRecDepth 100000 in
theorem sort_small (k k2 : Nat) (P0_ : Nat → Prop) (A : Option Addr) (c : Nat) (l r : List Int) (L : Int) (hl : l.length ≤ 12) (w0 w : World) (hB : Below w0.heap.size w0 w) (ho : Kd.R (Kd.int .u64) 22 w w0.heap.size P0_ (.slice A l.length c) l)
    (h : slices_insertionSortOrdered_uint64.f k l 0 (l.length : Int) = some r) (hL : bits_Len.f k2 (l.length : Int) = some L) :
    Calls Tryd.prog 68 #[.slice A l.length c] w fun e w' => e = .returned (.tuple #[]) ∧ Kd.R (Kd.int .u64) 22 w' w0.heap.size (fun _ => True) (.slice A l.length c) r ∧ Below w0.heap.size w0 w' := by
  have HL := Aside0.mk hL
  have HO := Aside0.mk ho
  have HB := Aside0.mk hB
  have HH := Aside0.mk h
  clear hL ho hB h
  go_enter Tryd.func68, Tryd.ntmps68
  go_wp2_with (first
    | (go_at_call 76; (refine (bits_Len.calls k2 _ L _ HL.out).mono ?_); rintro e w' ⟨rfl, ⟨nd, rfl⟩⟩; have hc := Aside0.mk (pdq_small k P0_ _ l r L hl w0 (w.drewN nd) (pw_below_drewN HB.out nd) (Kd.R_drewN HO.out nd) HH.out))
    | (go_at_call 75; (with_reducible refine hc.out.mono ?_); rintro e w' ⟨rfl, h1, h2, h3⟩; clear h3; have H1 := Aside0.mk h1; have H2 := Aside0.mk h2; clear h1 h2))
  first | go_end0 | ((try simp only [Exit.inBlock, Exit.then]); refine bodyPost_ret (results_none rfl _ _ _) rfl ?_)
  exact ⟨rfl, Kd.R_mono H1.out (fun _ _ => trivial), H2.out⟩
theorem below_cells {B : Nat} {w W : World} (h : Below B w W) {b : Nat} (hb : B ≤ b) : ∀ (vs : List Value) (o : Nat), Below B w (W.setCells b o vs) := by
  intro vs
  induction vs generalizing W with
  | nil => intro o; exact h
  | cons v vs ih => intro o; exact ih (h.setCell (p := ⟨b, o, none⟩) hb v) _
/-- No two neighbours are equal, up to n. -/
def Diff (l : List Int) (n : Nat) : Prop := ∀ i, i + 1 < n → rd l ((i : Int) + 1) ≠ rd l (i : Int)
set_option maxHeartbeats 1000000 in
set_option maxRecDepth 100000 in
theorem compact_u64 (A : Option Addr) (c : Nat) (l : List Int) (hl : l.length ≤ 1099511627776) (w0 w : World) (hB : Below w0.heap.size w0 w) (ho : Kd.R (Kd.int .u64) 22 w w0.heap.size (fun _ => True) (.slice A l.length c) l) :
    Calls Tryd.prog 69 #[.slice A l.length c] w fun e w' => Aside0 (∃ A' m c', e = .returned (.slice A' m c') ∧ (m = l.length ↔ Diff l l.length)) ∧ Below w0.heap.size w0 w' := by
  have HO := Aside0.mk ho
  have HB := Aside0.mk hB
  clear ho hB
  by_cases h2 : l.length < 2
  · have hd : decide (l.length < 2) = true := decide_eq_true h2
    have hd' : decide ((l.length : Int) < 2) = true := decide_eq_true (by omega)
    go_enter Tryd.func69, Tryd.ntmps69
    go_wp2
    first | go_ret | ((try simp only [Exit.inBlock, Exit.then]); refine bodyPost_ret (results_tmp rfl _ _ rfl) rfl ?_)
    exact ⟨⟨_, _, _, rfl, ⟨fun _ i hi => absurd hi (by omega), fun _ => rfl⟩⟩, HB.out⟩
  · have hd : decide (l.length < 2) = false := decide_eq_false h2
    have hd' : decide ((l.length : Int) < 2) = false := decide_eq_false (by omega)
    obtain ⟨b, q, hv, hb0, how⟩ := R_open HO.out (by omega)
    cases hv
    have HW := Aside0.mk how
    clear how
    have hcl := own_le HW.out
    go_enter Tryd.func69, Tryd.ntmps69
    go_wp2
    go_loopg [3] l.length (fun kq v3 w' => ∃ (j nd : Nat), v3 = .int .i64 ((j + 1 : Nat) : Int) ∧ Aside0 (kq + j + 1 = l.length + 1) ∧ Aside0 (j + 1 ≤ l.length ∧ Diff l (j + 1)) ∧ w' = w.drewN nd)
    case atStart => exact ⟨0, 0, rfl, ⟨by omega⟩, ⟨by omega, fun i hi => absurd hi (by omega)⟩, rfl⟩
    case round =>
      obtain ⟨j, nd, rfl, HK, HD, rfl⟩ := hrel
      by_cases hlt : j + 1 < l.length
      · have c1 := (own_at HW.out (j : Int) (by omega) (by omega)).1
        have c2 := (own_at HW.out ((j : Int) + 1) (by omega) (by omega)).1
        rw [Int.toNat_natCast] at c1
        rw [show ((j : Int) + 1).toNat = j + 1 from by omega] at c2
        have t1 : decide ((j : Int) + 1 < (l.length : Int)) = true := decide_eq_true (by omega)
        have p1 : ((0 : Int) ≤ (j : Int)) = True := eq_true (by omega)
        have p2 : ((j : Int) < (l.length : Int)) = True := eq_true (by omega)
        have p3 : ((0 : Int) ≤ (j : Int) + 1) = True := eq_true (by omega)
        have p4 : ((j : Int) + 1 < (l.length : Int)) = True := eq_true (by omega)
        by_cases he : rd l ((j : Int) + 1) = rd l (j : Int)
        · have e1 : (rd l ((j : Int) + 1) == rd l (j : Int)) = true := beq_iff_eq.mpr he
          have HE := Aside0.mk he
          clear he
          go_wp2_with fail
          go_quiet (fail)
          go_wp2
          obtain ⟨N2, hN2⟩ : ∃ y, y = l.length - (j + 1) := ⟨_, rfl⟩
          obtain ⟨C2, hC2⟩ : ∃ y, y = c - (j + 1) := ⟨_, rfl⟩
          rw [← hN2, ← hC2]
          have HN := Aside0.mk hN2
          have HC := Aside0.mk hC2
          clear hN2 hC2 c1 c2 t1 p1 p2 p3 p4 e1
          go_loopg [3, 5] N2 (fun kq v3 v5 w' => ∃ (k m : Nat) (l' : List Int), v3 = .int .i64 (k : Int) ∧ v5 = .int .i64 ((m + 1 : Nat) : Int) ∧ Aside0 (kq + m = N2) ∧ Aside0 (1 ≤ k ∧ k ≤ j + 1 + m ∧ m + 1 ≤ N2) ∧ Aside0 (w'.ownsRow w0.heap.size 22 1 (.slice (some ⟨b, 0, none⟩) l.length c) l.length (nums .u64 l')) ∧ Aside0 (Below w0.heap.size w0 w'))
          case atStart => exact ⟨j + 1, 0, l, rfl, rfl, ⟨by omega⟩, ⟨by omega, by omega, by have := HN.out; omega⟩, ⟨pw_own_drewN HW.out _⟩, ⟨pw_below_drewN HB.out _⟩⟩
          case round =>
            obtain ⟨k, m, l', rfl, rfl, HK2, HM, HW2, HB2⟩ := hrel
            have hk1 := HM.out.1
            have hk2 := HM.out.2.1
            have hm2 := HM.out.2.2
            have hn2 := HN.out
            by_cases hlt2 : m + 1 < N2
            · have c1 := (own_at HW2.out ((j + 1 + (m + 1) : Nat) : Int) (by omega) (by omega)).1
              have c2 := (own_at HW2.out ((j + 1 + m : Nat) : Int) (by omega) (by omega)).1
              obtain ⟨c3, f3⟩ := own_at HW2.out (k : Int) (by omega) (by omega)
              rw [Int.toNat_natCast] at c1 c2 c3 f3
              have t1 : decide ((m : Int) + 1 < (N2 : Int)) = true := decide_eq_true (by omega)
              have t2 : decide (m + 1 < N2) = true := decide_eq_true (by omega)
              have p1 : ((0 : Int) ≤ (m : Int)) = True := eq_true (by omega)
              have p2 : ((m : Int) < (N2 : Int)) = True := eq_true (by omega)
              have p3 : ((0 : Int) ≤ (m : Int) + 1) = True := eq_true (by omega)
              have p4 : ((m : Int) + 1 < (N2 : Int)) = True := eq_true (by omega)
              have p5 : ((0 : Int) ≤ (k : Int)) = True := eq_true (by omega)
              have p6 : ((k : Int) < (l.length : Int)) = True := eq_true (by omega)
              obtain ⟨x, hx⟩ : ∃ x, rd l' ((j + 1 + (m + 1) : Nat) : Int) = x := ⟨_, rfl⟩
              obtain ⟨y, hy⟩ : ∃ y, rd l' ((j + 1 + m : Nat) : Int) = y := ⟨_, rfl⟩
              rw [hx] at c1
              rw [hy] at c2
              have hwm := wrapI_id (n := (m : Int)) (by omega) (by omega)
              have hN2b : N2 ≤ 1099511627776 := by omega
              have hkb : k < l.length := by omega
              clear hx hy hn2
              by_cases he : x = y
              · have e1 : (x != y) = false := bne_eq_false_iff_eq.mpr he
                clear he
                go_wp2_with fail
                go_quiet (fail)
                clear hwm
                go_wp2
                go_roundg (N2 - (m + 1))
                case measure => have := HK2.out; omega
                case rel => exact ⟨k, m + 1, l', rfl, by go_num, ⟨by omega⟩, ⟨by omega, by omega, by omega⟩, ⟨pw_own_drewN HW2.out _⟩, ⟨pw_below_drewN HB2.out _⟩⟩
              · have e1 : (x != y) = true := bne_iff_ne.mpr he
                clear he
                go_wp2_with fail
                go_quiet (fail)
                clear hwm
                go_wp2
                go_roundg (N2 - (m + 1))
                case measure => have := HK2.out; omega
                case rel => exact ⟨k + 1, m + 1, l'.set k x, by go_num, by go_num, ⟨by omega⟩, ⟨by omega, by omega, by omega⟩, ⟨(own_store (pw_own_drewN HW2.out nq) (k : Int) x).1⟩, ⟨(pw_below_drewN HB2.out nq).setCell hb0 _⟩⟩
            · have t1 : decide ((m : Int) + 1 < (N2 : Int)) = false := decide_eq_false (by omega)
              have t2 : decide (m + 1 < N2) = false := decide_eq_false (by omega)
              have hclr : ∀ ty, (Builtin.clear_ #[33] ty #[.slice (some ⟨b, k, none⟩) (l.length - k) (c - k)]).run Tryd.prog wr = .ok (.tuple #[]) (wr.setCells b k (List.replicate (l.length - k) (.int .u64 0))) := fun ty =>
                Lib.run_clear_slice wr 33 22 ty (.int .u64 0) Tryd.underlying33 Tryd.zeroValue22 rfl rfl b k (l.length - k) (c - k) (by omega)
                  (fun j hj => by rw [show k + j = ((k + j : Nat) : Int).toNat from rfl, (own_at HW2.out ((k + j : Nat) : Int) (by omega) (by omega)).1]; rfl)
                  (fun j hj => by rw [show k + j = ((k + j : Nat) : Int).toNat from rfl, (own_at HW2.out ((k + j : Nat) : Int) (by omega) (by omega)).2])
              go_wp2
              first | go_ret | ((try simp only [Exit.inBlock, Exit.then]); refine bodyPost_ret (results_tmp rfl _ _ rfl) rfl ?_)
              refine ⟨⟨_, _, _, rfl, ⟨fun h => by omega, fun h => absurd HE.out (h j (by omega))⟩⟩, ?_⟩
              exact below_cells HB2.out hb0 _ _
        · have e1 : (rd l ((j : Int) + 1) == rd l (j : Int)) = false := beq_eq_false_iff_ne.mpr he
          have HE := Aside0.mk he
          clear he
          go_wp2_with fail
          go_quiet (fail)
          go_wp2
          go_roundg (l.length - (j + 1))
          case measure => have := HK.out; omega
          case rel =>
            refine ⟨j + 1, nd + nq, by go_num, ⟨by omega⟩, ⟨by omega, fun i hi => ?_⟩, by simp [World.drewN_drewN]⟩
            by_cases hij : i = j
            · rw [hij]; exact HE.out
            · exact HD.out.2 i (by omega)
      · have t1 : decide ((j : Int) + 1 < (l.length : Int)) = false := decide_eq_false (by omega)
        go_wp2
        first | go_ret | ((try simp only [Exit.inBlock, Exit.then]); refine bodyPost_ret (results_tmp rfl _ _ rfl) rfl ?_)
        exact ⟨⟨_, _, _, rfl, ⟨fun _ => by rw [show l.length = j + 1 from by have := HD.out.1; omega]; exact HD.out.2, fun _ => rfl⟩⟩, pw_below_drewN HB.out nd⟩
end Go.Proofs.YtakaonojfpkhnaaDoor.Hw
end
section
/-
  The printed insertion sort sorts, and unlike of package interpolate answers whether all words are distinct.
-/
namespace Go.Proofs.YtakaonojfpkhnaaDoor.Hw
open Go.RowKit Go.Proofs.YtakaonojfpkhnaaDoor.Pr Go.Proofs.YtakaonojfpkhnaaDoorW.PrintWords Go.Proofs.YtakaonojfpkhnaaDoorW.PrintLast Go.Proofs.YtakaonojfpkhnaaDoorW.PrintMore Go.Proofs.YtakaonojfpkhnaaDoor.E
set_option linter.unusedVariables false
set_option linter.unusedSimpArgs false

theorem less_eq (a b : Int) : cmp_Less_uint64.f a b = some (decide (a < b)) := by
  unfold cmp_Less_uint64.f cmp_isNaN_uint64.f
  simp
theorem w64 {n : Int} (h0 : -9223372036854775808 ≤ n) (h1 : n < 9223372036854775808) : wrap64 n = n := by unfold wrap64; omega
theorem rd_nat (l : List Int) (i : Nat) : rd l (i : Int) = l.getD i 0 := by unfold rd; rw [Int.toNat_natCast]
theorem getD_in (l : List Int) (i : Nat) (h : i < l.length) : l.getD i 0 = l[i] := by rw [List.getD_eq_getElem?_getD, List.getElem?_eq_getElem h]; rfl
theorem getD_set (l : List Int) (i j : Nat) (v : Int) (h : j < l.length) : (l.set i v).getD j 0 = if i = j then v else l.getD j 0 := by
  rw [getD_in _ _ (by simpa using h), List.getElem_set, getD_in _ _ h]
/-- All pairs up to i in order, but those that end at j. -/
def Ord (l : List Int) (i j : Nat) : Prop := ∀ p q, p < q → q ≤ i → q ≠ j → l.getD p 0 ≤ l.getD q 0
theorem ins_ends : ∀ (m i j : Nat) (x : List Int), x.length ≤ 1099511627776 → i < x.length → j ≤ i → Ord x i j → (x.length - i) * (x.length + 2) + j < m →
    ∃ k r, slices_insertionSortOrdered_uint64.l1 k x 0 (x.length : Int) (i : Int) (j : Int) = some r ∧ r.Perm x ∧ (∀ p q, p < q → q < r.length → r.getD p 0 ≤ r.getD q 0) := by
  intro m
  induction m with
  | zero => intro i j x _ _ _ _ h; omega
  | succ m ih =>
    intro i j x hx hi hj ho hm
    -- what follows once position i is in order
    have next : (∀ p q, p < q → q ≤ i → x.getD p 0 ≤ x.getD q 0) → ∃ k r, slices_insertionSortOrdered_uint64.l0 k x 0 (x.length : Int) (wrap64 ((i : Int) + 1)) = some r ∧ r.Perm x ∧ (∀ p q, p < q → q < r.length → r.getD p 0 ≤ r.getD q 0) := by
      intro hs
      rw [w64 (by omega) (by omega)]
      by_cases hlt : i + 1 < x.length
      · obtain ⟨k, r, h1, h2, h3⟩ := ih (i + 1) (i + 1) x hx hlt (Nat.le_refl _) (fun p q hpq hq hne => hs p q hpq (by omega)) (by
          have : (x.length - (i + 1)) * (x.length + 2) + (x.length + 2) = (x.length - i) * (x.length + 2) := by
            rw [← Nat.succ_mul]; congr 1; omega
          omega)
        refine ⟨k + 1, r, ?_, h2, h3⟩
        simp only [slices_insertionSortOrdered_uint64.l0]
        rw [if_pos (by omega), show (i : Int) + 1 = ((i + 1 : Nat) : Int) from by omega]
        exact h1
      · refine ⟨1, x, ?_, List.Perm.refl _, fun p q hpq hq => hs p q hpq (by omega)⟩
        simp only [slices_insertionSortOrdered_uint64.l0]
        rw [if_neg (by omega)]
    by_cases hj0 : j = 0
    · subst hj0
      obtain ⟨k, r, h1, h2, h3⟩ := next (fun p q hpq hq => ho p q hpq hq (by omega))
      refine ⟨k + 1, r, ?_, h2, h3⟩
      simp only [slices_insertionSortOrdered_uint64.l1]
      rw [if_neg (by omega)]
      exact h1
    · obtain ⟨t, rfl⟩ : ∃ t, j = t + 1 := ⟨j - 1, by omega⟩
      have e1 : wrap64 (((t + 1 : Nat) : Int) - 1) = (t : Int) := by rw [w64 (by omega) (by omega)]; omega
      by_cases hlt : x.getD (t + 1) 0 < x.getD t 0
      · have hl2 : ((x.set (t + 1) (x.getD t 0)).set t (x.getD (t + 1) 0)).length = x.length := by simp
        have hg : ∀ p, p < x.length → ((x.set (t + 1) (x.getD t 0)).set t (x.getD (t + 1) 0)).getD p 0 = if p = t then x.getD (t + 1) 0 else if p = t + 1 then x.getD t 0 else x.getD p 0 := by
          intro p hp
          rw [getD_set _ _ _ _ (by simpa using hp), getD_set _ _ _ _ hp]
          by_cases a : t = p
          · subst a; rw [if_pos rfl, if_pos rfl]
          · have a' : ¬ p = t := fun h => a h.symm
            rw [if_neg a, if_neg a']
            by_cases b : t + 1 = p
            · subst b; rw [if_pos rfl]
            · have b' : ¬ p = t + 1 := fun h => b h.symm
              rw [if_neg b, if_neg b']
        obtain ⟨k, r, h1, h2, h3⟩ := ih i t ((x.set (t + 1) (x.getD t 0)).set t (x.getD (t + 1) 0)) (by rw [hl2]; exact hx) (by rw [hl2]; exact hi) (by omega) (by
          intro p q hpq hq hne
          rw [hg p (by omega), hg q (by omega)]
          have o1 := ho t (t + 1)
          by_cases a : p = t
          · rw [if_pos a]
            rw [if_neg hne]
            by_cases b : q = t + 1
            · rw [if_pos b]; omega
            · rw [if_neg b]; exact ho (t + 1) q (by omega) hq b
          · rw [if_neg a, if_neg hne]
            by_cases a2 : p = t + 1
            · rw [if_pos a2, if_neg (by omega)]; exact ho t q (by omega) hq (by omega)
            · rw [if_neg a2]
              by_cases b : q = t + 1
              · rw [if_pos b]; exact ho p t (by omega) (by omega) (by omega)
              · rw [if_neg b]; exact ho p q hpq hq b) (by rw [hl2]; omega)
        rw [hl2] at h1
        refine ⟨k + 1, r, ?_, h2.trans ?_, h3⟩
        · simp only [slices_insertionSortOrdered_uint64.l1]
          rw [e1, if_pos (by omega), if_pos (by omega), if_pos (by omega), if_pos (by omega), if_pos (by omega), less_eq, rd_nat, rd_nat]
          simp only [Option.bind_some]
          rw [if_pos (by simpa using hlt), Int.toNat_natCast, Int.toNat_natCast]
          exact h1
        · rw [getD_in _ _ (by omega : t < x.length), getD_in _ _ (by omega : t + 1 < x.length)]
          exact List.set_set_perm (by omega) (by omega)
      · obtain ⟨k, r, h1, h2, h3⟩ := next (fun p q hpq hq => by
          by_cases a : q = t + 1
          · subst a
            by_cases b : p = t
            · subst b; omega
            · have := ho p t (by omega) (by omega) (by omega); omega
          · exact ho p q hpq hq a)
        refine ⟨k + 1, r, ?_, h2, h3⟩
        simp only [slices_insertionSortOrdered_uint64.l1]
        rw [e1, if_pos (by omega), if_pos (by omega), if_pos (by omega), if_pos (by omega), if_pos (by omega), less_eq, rd_nat, rd_nat]
        simp only [Option.bind_some]
        rw [if_neg (by simpa using hlt)]
        exact h1
theorem ins_sorts (x : List Int) (hx : x.length ≤ 1099511627776) : ∃ k r, slices_insertionSortOrdered_uint64.f k x 0 (x.length : Int) = some r ∧ r.Perm x ∧ (∀ p q, p < q → q < r.length → r.getD p 0 ≤ r.getD q 0) := by
  unfold slices_insertionSortOrdered_uint64.f
  rw [w64 (by omega) (by omega)]
  by_cases h : 1 < x.length
  · obtain ⟨k, r, h1, h2, h3⟩ := ins_ends _ 1 1 x hx h (Nat.le_refl _) (fun p q hpq hq hne => by omega) (Nat.lt_succ_self _)
    refine ⟨k + 1, r, ?_, h2, h3⟩
    simp only [slices_insertionSortOrdered_uint64.l0]
    rw [if_pos (by omega)]
    exact h1
  · refine ⟨1, x, ?_, List.Perm.refl _, fun p q hpq hq => by omega⟩
    simp only [slices_insertionSortOrdered_uint64.l0]
    rw [if_neg (by omega)]
theorem diff_iff {r : List Int} (hs : ∀ p q, p < q → q < r.length → r.getD p 0 ≤ r.getD q 0) : Diff r r.length ↔ r.Nodup := by
  constructor
  · intro h
    rw [List.nodup_iff_pairwise_ne, List.pairwise_iff_getElem]
    intro i j hi hj hij
    have h1 := h i (by omega)
    rw [show (i : Int) + 1 = ((i + 1 : Nat) : Int) from by omega, rd_nat, rd_nat] at h1
    have h2 := hs i (i + 1) (by omega) (by omega)
    rw [← getD_in _ _ hi, ← getD_in _ _ hj]
    by_cases e : j = i + 1
    · subst e; omega
    · have := hs (i + 1) j (by omega) hj; omega
  · intro h i hi
    rw [List.nodup_iff_pairwise_ne, List.pairwise_iff_getElem] at h
    rw [show (i : Int) + 1 = ((i + 1 : Nat) : Int) from by omega, rd_nat, rd_nat, getD_in _ _ hi, getD_in _ _ (by omega : i < r.length)]
    exact fun e => h i (i + 1) (by omega) hi (by omega) e.symm
set_option maxHeartbeats 1000000 in
set_option maxRecDepth 100000 in
/-- unlike, for at most twelve words. -/
theorem unlike_calls (A : Option Addr) (c : Nat) (l : List Int) (w : World) (hr : Kd.C (Kd.int .u64) w A l.length l) (hc : l.length ≤ c) (hl : l.length ≤ 12) :
    Calls Tryd.prog 50 #[.slice A l.length c] w fun e w' => e = .returned (.bool (decide l.Nodup)) ∧ Below w.heap.size w w' := by
  obtain ⟨k, r, h1, h2, h3⟩ := ins_sorts l (by omega)
  have hlen : bits_Len.f 3 (l.length : Int) = some (([0, 1, 2, 2, 3, 3, 3, 3, 4, 4, 4, 4, 4] : List Int).getD l.length 0) := by
    have h : l.length = 0 ∨ l.length = 1 ∨ l.length = 2 ∨ l.length = 3 ∨ l.length = 4 ∨ l.length = 5 ∨ l.length = 6 ∨ l.length = 7 ∨ l.length = 8 ∨ l.length = 9 ∨ l.length = 10 ∨ l.length = 11 ∨ l.length = 12 := by omega
    rcases h with h | h | h | h | h | h | h | h | h | h | h | h | h <;> rw [h] <;> exact (by first | rfl | decide +kernel)
  have hrl : r.length = l.length := h2.length_eq
  have HD := Aside0.mk ((diff_iff h3).trans h2.nodup_iff)
  have HR := Aside0.mk hrl
  have HL := Aside0.mk hlen
  have H1 := Aside0.mk h1
  have hcl := Aside0.mk (clone_u64 A c l w hr hc (by omega))
  clear h1 h2 h3 hr hrl hlen
  obtain ⟨b, hb⟩ : ∃ b : Bool, b = decide l.Nodup := ⟨_, rfl⟩
  rw [← hb]
  have HBb := Aside0.mk hb
  clear hb
  go_enter Tryd.func50, Tryd.ntmps50
  go_wp2_with (first
    | (go_at_call 67; (with_reducible refine hcl.out.mono ?_); rintro e w1 ⟨v0, rfl, ho, hb1⟩; obtain ⟨A1, c1, rfl⟩ := Kd.R_slice ho; have hso := Aside0.mk (sort_small k 3 (fun _ => True) A1 c1 l r _ hl w w1 hb1 ho H1.out HL.out); clear ho hb1)
    | (go_at_call 68; (with_reducible refine hso.out.mono ?_); rintro e w2 ⟨rfl, ho, hb2⟩; rw [← HR.out] at ho; have hco := Aside0.mk (compact_u64 A1 c1 r (by rw [HR.out]; omega) w w2 hb2 ho); rw [HR.out] at hco; clear ho hb2)
    | (go_at_call 69; (with_reducible refine hco.out.mono ?_); rintro e w3 ⟨hex, hb3⟩; obtain ⟨⟨A3, m, c3, rfl, hm⟩⟩ := hex; have HM := Aside0.mk hm; have HB3 := Aside0.mk hb3; clear hm hb3))
  go_ret
  refine ⟨?_, HB3.out⟩
  have e : ((m : Int) == (l.length : Int)) = b := by
    rw [HBb.out, Bool.eq_iff_iff, beq_iff_eq, decide_eq_true_iff, ← HD.out, HR.out, ← HM.out]
    omega
  rw [e]
  rfl
end Go.Proofs.YtakaonojfpkhnaaDoor.Hw
end
section
/-
  The closure of LagrangeWeights and others with it, proved by hand.
-/
namespace Go.Proofs.YtakaonojfpkhnaaDoor.Hw
open Go.RowKit Go.Proofs.YtakaonojfpkhnaaDoor.Pr Go.Proofs.YtakaonojfpkhnaaDoorW.PrintWords Go.Proofs.YtakaonojfpkhnaaDoorW.PrintLast Go.Proofs.YtakaonojfpkhnaaDoorW.PrintMore Go.Proofs.YtakaonojfpkhnaaDoor.E
set_option linter.unusedVariables false
set_option linter.unusedSimpArgs false

theorem rd_res' {p : Int} {l : List Int} (hl : ∀ x ∈ l, Res p x) (i : Nat) (hi : i < l.length) : Res p (rd l i) := by
  have e : rd l i = l[i] := by unfold rd; rw [Int.toNat_natCast, List.getD_eq_getElem?_getD, List.getElem?_eq_getElem hi]; rfl
  rw [e]; exact hl _ (List.getElem_mem _)
theorem mul_ne' {p : Int} (hp : Supp p) {a b : Int} (ha : Res p a) (h0 : a ≠ 0) (hb : Res p b) (h1 : b ≠ 0) : a * b % p ≠ 0 := by
  intro h
  have e := inv_spec hp ha h0
  have e2 : invp p a * (a * b) % p = b := by
    rw [← Int.mul_assoc, Int.mul_comm (invp p a), mulm (a' := 1) (b' := b) (by rw [e]; have := hp.bd; exact (Int.emod_eq_of_lt (by omega) (by omega)).symm) rfl, Int.one_mul, hb.eq]
  rw [mulm (a := invp p a) (b := a * b) (b' := 0) rfl (by rw [h]; simp), Int.mul_zero, Int.zero_emod] at e2
  exact h1 e2.symm
theorem sub_ne' {p : Int} (hp : Supp p) {a b : Int} (ha : Res p a) (hb : Res p b) (h : a ≠ b) : (a - b) % p ≠ 0 := by
  intro h0
  have h2 := Int.emod_emod_of_dvd
  have hd : p ∣ a - b := Int.dvd_of_emod_eq_zero h0
  obtain ⟨k, hk⟩ := hd
  obtain ⟨a0, a1⟩ := ha
  obtain ⟨b0, b1⟩ := hb
  have hk0 : k = 0 := by
    rcases Int.lt_trichotomy k 0 with h3 | h3 | h3
    · have : p * k ≤ p * (-1) := Int.mul_le_mul_of_nonneg_left (by omega) (by omega)
      omega
    · exact h3
    · have : p * 1 ≤ p * k := Int.mul_le_mul_of_nonneg_left (by omega) (by omega)
      omega
  subst hk0
  simp at hk
  omega
/-- A captured variable of one number. -/
def Box (w : World) (b : Nat) (x : Int) : Prop := w.heap[b]? = some (.cells #[.int .u64 x] 22 (0, 0))
theorem Box.cell {w : World} {b : Nat} {x : Int} (h : Box w b x) : w.cell? ⟨b, 0, none⟩ = some (.int .u64 x) := blk_cell h 0
theorem Box.frozen {w : World} {b : Nat} {x : Int} (h : Box w b x) : w.frozen? ⟨b, 0, none⟩ = false := blk_frozen h 0
theorem Box.drewN {w : World} {b : Nat} {x : Int} (h : Box w b x) (n : Nat) : Box (w.drewN n) b x := h
theorem Box.far {w : World} {b : Nat} {x : Int} (h : Box w b x) {g : Nat} (hne : b ≠ g) (v : Value) : Box (w.setCell ⟨g, 0, none⟩ v) b x := blk_far (p := ⟨g, 0, none⟩) h hne v
theorem Box.put {w : World} {b : Nat} {x : Int} (h : Box w b x) (y : Int) : Box (w.setCell ⟨b, 0, none⟩ (.int .u64 y)) b y := blk_put h 0 _ rfl
/-- The words of the list but the one at an index, among the first n. -/
def othersN (xs : List Int) (but : Nat) : Nat → List Int
  | 0 => []
  | n + 1 => if n = but then othersN xs but n else othersN xs but n ++ [rd xs n]
end Go.Proofs.YtakaonojfpkhnaaDoor.Hw
end
section
/-
  LagrangeWeights of package interpolate, proved by hand: what it computes, in plain lists.
-/
namespace Go.Proofs.YtakaonojfpkhnaaDoor.Hw
open Go.RowKit Go.Proofs.YtakaonojfpkhnaaDoor.Pr Go.Proofs.YtakaonojfpkhnaaDoorW.PrintWords Go.Proofs.YtakaonojfpkhnaaDoorW.PrintLast Go.Proofs.YtakaonojfpkhnaaDoorW.PrintMore Go.Proofs.YtakaonojfpkhnaaDoor.E
set_option linter.unusedVariables false
set_option linter.unusedSimpArgs false

theorem othersN_mem {xs : List Int} {i : Nat} : ∀ {n : Nat} {o : Int}, o ∈ othersN xs i n → ∃ j, j < n ∧ j ≠ i ∧ o = rd xs j
  | 0, o, h => by cases h
  | n + 1, o, h => by
    unfold othersN at h
    split at h
    · obtain ⟨j, h1, h2⟩ := othersN_mem h; exact ⟨j, by omega, h2⟩
    · rcases List.mem_append.1 h with h | h
      · obtain ⟨j, h1, h2⟩ := othersN_mem h; exact ⟨j, by omega, h2⟩
      · exact ⟨n, by omega, by assumption, by simpa using h⟩
/-- What holds while the closure runs over the other words: wr is the world at the round's start. -/
structure LagI (wr : World) (bp ba : Nat) (p a x : Int) (s : Int × Int) (w : World) : Prop where
  hp : Box w bp p
  hn : Box w (wr.heap.size + 1) s.1
  ha : Box w ba a
  hd : Box w (wr.heap.size + 1 + 1) s.2
  hx : Box w wr.heap.size x
  r1 : Res p s.1
  r2 : Res p s.2
  below : Below wr.heap.size wr w
end Go.Proofs.YtakaonojfpkhnaaDoor.Hw
end
section
/- Printed by a program of this seat (the kit's printer, with the functions that were proved by hand given to it). What stands here: the functions that the statements reach, as plain functions, and that the Go code computes them. -/
namespace Go.Proofs.YtakaonojfpkhnaaDoor.Pr
open Go.RowKit Go.Proofs.YtakaonojfpkhnaaDoorW.PrintWords Go.Proofs.YtakaonojfpkhnaaDoorW.PrintLast Go.Proofs.YtakaonojfpkhnaaDoorW.PrintMore
attribute [local go_sem] max2_int min2_int max_two min_two max_three min_three max_four min_four   -- for this text's walks alone
set_option linter.unusedVariables false
set_option linter.unusedSimpArgs false

open Go.Proofs.YtakaonojfpkhnaaDoor.Hw
/-! ### poly_Eval: function 27 -/
end Go.Proofs.YtakaonojfpkhnaaDoor.Pr
end
section
/-
  Degree, Trim, Scale and Eval of package poly: what the printed functions answer.
-/
namespace Go.Proofs.YtakaonojfpkhnaaDoor.E
open Go.RowKit Go.Proofs.YtakaonojfpkhnaaDoor.Pr Go.Proofs.YtakaonojfpkhnaaDoor.Hw Go.Proofs.YtakaonojfpkhnaaDoorW.PrintWords Go.Proofs.YtakaonojfpkhnaaDoorW.PrintLast Go.Proofs.YtakaonojfpkhnaaDoorW.PrintMore
set_option linter.unusedVariables false
set_option linter.unusedSimpArgs false

theorem w64' {n : Int} (h0 : -9223372036854775808 ≤ n) (h1 : n < 9223372036854775808) : wrap64 n = n := by unfold wrap64; omega
theorem rd_nat' (l : List Int) (i : Nat) : rd l (i : Int) = l.getD i 0 := by unfold rd; rw [Int.toNat_natCast]
/-- Without trailing zeros. -/
def trimL : List Int → List Int
  | [] => []
  | x :: l => match trimL l with
    | [] => if x = 0 then [] else [x]
    | y :: t => x :: y :: t
theorem trimL_cons (x : Int) (l : List Int) : trimL (x :: l) = if trimL l = [] then (if x = 0 then [] else [x]) else x :: trimL l := by
  rw [trimL]
  split
  · rename_i h; rw [h, if_pos rfl]
  · rename_i y t h; rw [h, if_neg (by simp)]
theorem trimL_length (l : List Int) : (trimL l).length ≤ l.length := by
  induction l with
  | nil => simp [trimL]
  | cons x l ih =>
    rw [trimL_cons]
    split
    · split <;> simp
    · simp only [List.length_cons]; omega
theorem trimL_take (l : List Int) : l.take (trimL l).length = trimL l := by
  induction l with
  | nil => simp [trimL]
  | cons x l ih =>
    rw [trimL_cons]
    split
    · split <;> simp
    · simp only [List.length_cons, List.take_succ_cons, ih]
theorem trimL_getD (l : List Int) (i : Nat) : (trimL l).getD i 0 = l.getD i 0 := by
  induction l generalizing i with
  | nil => simp [trimL]
  | cons x l ih =>
    rw [trimL_cons]
    split
    · rename_i h
      have hz : ∀ j, l.getD j 0 = 0 := fun j => by rw [← ih j, h]; simp
      split
      · rename_i h0
        cases i with
        | zero => simp [h0]
        | succ i => rw [List.getD_cons_succ, hz]; simp
      · cases i with
        | zero => simp
        | succ i => rw [List.getD_cons_succ, List.getD_cons_succ, hz]; simp
    · cases i with
      | zero => simp
      | succ i => rw [List.getD_cons_succ, List.getD_cons_succ]; exact ih i
/-- The last word is not zero. -/
theorem trimL_last (l : List Int) (h : trimL l ≠ []) : (trimL l).getD ((trimL l).length - 1) 0 ≠ 0 := by
  induction l with
  | nil => exact absurd rfl h
  | cons x l ih =>
    rw [trimL_cons] at h ⊢
    by_cases hl : trimL l = []
    · rw [if_pos hl] at h ⊢
      by_cases h0 : x = 0
      · rw [if_pos h0] at h; exact absurd rfl h
      · rw [if_neg h0]; simpa using h0
    · rw [if_neg hl]
      have hp : 0 < (trimL l).length := List.length_pos_iff.2 hl
      rw [List.length_cons, show (trimL l).length + 1 - 1 = (trimL l).length - 1 + 1 from by omega, List.getD_cons_succ]
      exact ih hl
theorem trimL_nil_iff (l : List Int) : trimL l = [] ↔ ∀ i, l.getD i 0 = 0 := by
  constructor
  · intro h i; rw [← trimL_getD, h]; simp
  · intro h
    refine Classical.byContradiction fun hn => trimL_last l hn ?_
    rw [trimL_getD]; exact h _
theorem trimL_mem {l : List Int} {x : Int} (h : x ∈ trimL l) : x ∈ l := by
  rw [← trimL_take] at h; exact List.mem_of_mem_take h
theorem degree_l0 (l : List Int) (hl : l.length ≤ 1099511627776) : ∀ (m : Nat), m ≤ l.length → (∀ j, m ≤ j → l.getD j 0 = 0) → Ev (fun k => poly_Degree.l0 k l ((m : Int) - 1)) (((trimL l).length : Int) - 1) := by
  intro m
  induction m with
  | zero =>
    intro _ hz
    have : trimL l = [] := (trimL_nil_iff l).2 fun i => hz i (Nat.zero_le _)
    refine Ev.of (fun k => (poly_Degree.mono_l k) _ _) (k := 1) ?_
    simp only [poly_Degree.l0]
    rw [if_neg (by omega), this]
    rfl
  | succ m ih =>
    intro hm hz
    by_cases h0 : l.getD m 0 = 0
    · refine Ev.step (fun k => ?_) (ih (by omega) (fun j hj => by
        by_cases e : j = m
        · rw [e]; exact h0
        · exact hz j (by omega)))
      simp only [poly_Degree.l0]
      rw [show ((m + 1 : Nat) : Int) - 1 = (m : Int) from by omega, if_pos (by omega), if_pos (by omega), if_pos (by omega), rd_nat', if_pos h0, w64' (by omega) (by omega)]
    · refine Ev.of (fun k => (poly_Degree.mono_l k) _ _) (k := 1) ?_
      simp only [poly_Degree.l0]
      rw [show ((m + 1 : Nat) : Int) - 1 = (m : Int) from by omega, if_pos (by omega), if_pos (by omega), if_pos (by omega), rd_nat', if_neg h0]
      have h1 : (trimL l).length = m + 1 := by
        have hne : trimL l ≠ [] := fun e => h0 ((trimL_nil_iff l).1 e m)
        have hp : 0 < (trimL l).length := List.length_pos_iff.2 hne
        have h2 := trimL_last l hne
        rw [trimL_getD] at h2
        have h3 : (trimL l).length - 1 < m + 1 := Nat.lt_of_not_le fun h => h2 (hz _ h)
        have h4 : m < (trimL l).length := Nat.lt_of_not_le fun h => h0 (by rw [← trimL_getD, List.getD_eq_getElem?_getD, List.getElem?_eq_none h]; rfl)
        omega
      rw [h1, show ((m + 1 : Nat) : Int) - 1 = (m : Int) from by omega]
theorem degree_ev (l : List Int) (hl : l.length ≤ 1099511627776) : Ev (fun k => poly_Degree.f k l) (((trimL l).length : Int) - 1) := by
  refine (degree_l0 l hl l.length (Nat.le_refl _) (fun j hj => by rw [List.getD_eq_getElem?_getD, List.getElem?_eq_none hj]; rfl)).congr fun k => ?_
  unfold poly_Degree.f
  rw [w64' (by omega) (by omega)]
theorem trim_ev (l : List Int) (hl : l.length ≤ 1099511627776) : Ev (fun k => poly_Trim.f k l) (trimL l) := by
  have h1 := trimL_length l
  refine Ev.bind (degree_ev l hl) ((Ev.now (trimL l)).congr fun k => ?_)
  have e : wrap64 ((((trimL l).length : Int) - 1) + 1) = ((trimL l).length : Int) := by rw [w64' (by omega) (by omega)]; omega
  rw [e, if_pos (by omega), if_pos (by omega), if_pos (by simp; omega), Int.toNat_natCast, trimL_take]
  rfl
theorem set_next (l : List Int) (f : Int → Int) (i : Nat) (hi : i < l.length) :
    ((l.take i).map f ++ List.replicate (l.length - i) 0).set i (f (l.getD i 0)) = (l.take (i + 1)).map f ++ List.replicate (l.length - (i + 1)) 0 := by
  have h1 : (l.take i).length = i := by rw [List.length_take]; omega
  rw [List.set_append_right _ _ (by simp; omega), List.length_map, h1, Nat.sub_self, show l.length - i = (l.length - (i + 1)) + 1 from by omega, List.replicate_succ, List.set_cons_zero]
  rw [List.take_succ_eq_append_getElem hi, List.map_append, List.append_assoc, List.getD_eq_getElem?_getD, List.getElem?_eq_getElem hi]
  rfl
theorem scale_l0 {p : Int} (hp : Supp p) {kk : Int} (hk : Res p kk) (l : List Int) (hl : ∀ x ∈ l, Res p x) (hll : l.length ≤ 1099511627776) : ∀ (d i : Nat), i + d = l.length →
    Ev (fun k => poly_Scale.l0 k p kk ((l.take i).map (fun v => kk * v % p) ++ List.replicate (l.length - i) 0) l (l.length : Int) (i : Int)) (trimL (l.map fun v => kk * v % p)) := by
  intro d
  induction d with
  | zero =>
    intro i hi
    have : i = l.length := by omega
    subst this
    rw [List.take_length, Nat.sub_self, List.replicate_zero, List.append_nil]
    refine Ev.step (f := fun k => (poly_Trim.f k (l.map fun v => kk * v % p)).bind fun t132 => some t132) (fun k => ?_) (Ev.bind (trim_ev _ (by rw [List.length_map]; exact hll)) (Ev.now _))
    simp only [poly_Scale.l0]
    rw [if_neg (by omega)]
  | succ d ih =>
    intro i hi
    have hm := mul_ev hp hk (show Res p (l.getD i 0) from by rw [List.getD_eq_getElem?_getD, List.getElem?_eq_getElem (by omega)]; exact hl _ (List.getElem_mem _))
    have h1 := ih (i + 1) (by omega)
    rw [← set_next l (fun v => kk * v % p) i (by omega)] at h1
    refine Ev.step (f := fun k => (field_Mul.f k p kk (l.getD i 0)).bind fun t => poly_Scale.l0 k p kk (((l.take i).map (fun v => kk * v % p) ++ List.replicate (l.length - i) 0).set i t) l (l.length : Int) ((i + 1 : Nat) : Int)) (fun k => ?_) (Ev.bind hm h1)
    simp only [poly_Scale.l0]
    have hlen : ((l.take i).map (fun v => kk * v % p) ++ List.replicate (l.length - i) (0 : Int)).length = l.length := by simp; omega
    rw [if_pos (by omega), if_pos (by omega), if_pos (by omega), rd_nat', w64' (by omega) (by omega), hlen]
    refine congrArg _ (funext fun t => ?_)
    rw [if_pos (by omega), Int.toNat_natCast]
    rfl
theorem scale_ev {p : Int} (hp : Supp p) {kk : Int} (hk : Res p kk) (l : List Int) (hl : ∀ x ∈ l, Res p x) (hll : l.length ≤ 1099511627776) : Ev (fun k => poly_Scale.f k p kk l) (trimL (l.map fun v => kk * v % p)) := by
  have h := scale_l0 hp hk l hl hll l.length 0 (by omega)
  refine h.congr fun k => ?_
  unfold poly_Scale.f
  rw [if_pos (by omega), Int.toNat_natCast, if_pos (by omega)]
  simp
end Go.Proofs.YtakaonojfpkhnaaDoor.E
end
section
/-
  The closure of Polynomial, and others with it, proved by hand.
-/
namespace Go.Proofs.YtakaonojfpkhnaaDoor.Hw
open Go.RowKit Go.Proofs.YtakaonojfpkhnaaDoor.Pr Go.Proofs.YtakaonojfpkhnaaDoorW.PrintWords Go.Proofs.YtakaonojfpkhnaaDoorW.PrintLast Go.Proofs.YtakaonojfpkhnaaDoorW.PrintMore Go.Proofs.YtakaonojfpkhnaaDoor.E
set_option linter.unusedVariables false
set_option linter.unusedSimpArgs false

/-- What holds while the closure runs: wr is the world at the round's start. -/
structure PolI (wr : World) (bp bf bd bx : Nat) (p X Y : Int) (s : List Int × Int) (w : World) : Prop where
  hp : Box w bp p
  hf : ∃ A c, w.heap[bf]? = some (.cells #[.slice A s.1.length c] 33 (0, 0)) ∧ Kd.R (Kd.int .u64) 22 w wr.heap.size (fun k => k ≠ bd) (.slice A s.1.length c) s.1
  hd : Box w bd s.2
  hx : w.heap[bx]? = some (.cells #[.int .u64 X, .int .u64 Y] 57 (0, 0))
  r1 : ∀ x ∈ s.1, Res p x
  r2 : Res p s.2
  below : Below wr.heap.size wr w
def polStep (p X : Int) (s : List Int × Int) (o : Int) : List Int × Int := (trimL (mulsL p s.1 [-o % p, 1] s.1.length), s.2 * ((X - o) % p) % p)
theorem cell_alloc_of {w : World} {n : Nat} {a : Addr} {v : Value} (h : w.cell? a = some v) (o : Obj) : ((w.drewN n).alloc o).cell? a = some v := (World.cell?_alloc_lt _ _ _ (World.block_lt_of_cell? w _ h)).trans h
theorem pol_keep {w w5 : World} {m b : Nat} {o o2 : Obj} (hb : Below (w.heap.size + 1) ((w.drewN m).alloc o) w5) (h : w.heap[b]? = some o2) : w5.heap[b]? = some o2 := by
  have hlt := blk_lt h
  rw [hb.block b (by omega)]
  exact blk_alloc (blk_drewN h m) o
set_option maxHeartbeats 2000000 in
set_option maxRecDepth 100000 in
theorem polc_calls {p : Int} (hp : Supp p) {X Y o : Int} (hX : Res p X) (ho : Res p o) (bp bf bd bx : Nat) (wr w : World) (s : List Int × Int) (h : PolI wr bp bf bd bx p X Y s w) (hl : s.1.length ≤ 1000000)
    (nf : wr.heap.size ≤ bf) (ndd : wr.heap.size ≤ bd) (n1 : bp ≠ bf) (n2 : bp ≠ bd) (n3 : bf ≠ bd) (n4 : bx ≠ bf) (n5 : bx ≠ bd) :
    Calls Tryd.prog 52 #[.int .u64 o, .pointer (some ⟨bp, 0, none⟩), .pointer (some ⟨bf, 0, none⟩), .pointer (some ⟨bd, 0, none⟩), .pointer (some ⟨bx, 0, none⟩)] w
      fun e w' => e = .returned (.tuple #[]) ∧ Aside0 (PolI wr bp bf bd bx p X Y (polStep p X s o) w') := by
  obtain ⟨f, d⟩ := s
  simp only at hl
  obtain ⟨A, c, hf, hO⟩ := h.hf
  simp only at hf hO
  have c1 := h.hp.cell
  have c2 : w.cell? ⟨bf, 0, none⟩ = some (.slice A f.length c) := blk_cell hf 0
  have hneg := Aside0.mk (neg_eq hp ho)
  have HI := Aside0.mk h
  have HF := Aside0.mk hf
  have HO := Aside0.mk hO
  obtain ⟨o', ho'⟩ : ∃ y, y = -o % p := ⟨_, rfl⟩
  rw [← ho'] at hneg
  have HO' := Aside0.mk ho'
  have hor : Res p o' := by rw [HO'.out]; exact Res.mod hp _
  have hb := hp.bd
  have hl2 : ∀ x ∈ [o', 1], Res p x := by
    intro x hx
    simp only [List.mem_cons, List.not_mem_nil, or_false] at hx
    rcases hx with rfl | rfl
    · exact hor
    · exact ⟨by omega, by omega⟩
  obtain ⟨kt, hkt⟩ := (trim_ev (mulsL p f [o', 1] f.length) (by have := mulsL_length p f [o', 1] f.length; simp at this; omega)).rounds
  have hmul : ∀ m : Nat, Calls Tryd.prog 53 #[.int .u64 p, .slice A f.length c, .slice (some ⟨w.heap.size, 0, none⟩) 2 2] ((w.drewN m).alloc (.cells #[.int .u64 o', .int .u64 1] 22)) fun e w' => ∃ v0_ : Value, e = .returned v0_ ∧ Kd.R (Kd.int .u64) 22 w' (w.heap.size + 1) (fun _ => True) v0_ (trimL (mulsL p f [o', 1] f.length)) ∧ Below (w.heap.size + 1) ((w.drewN m).alloc (.cells #[.int .u64 o', .int .u64 1] 22)) w' := by
    intro m
    obtain ⟨A', c', e1, hc1, hC1⟩ := Kd.R_reads hO
    cases e1
    have hC2 := Kd.C_alloc (Kd.C_drewN hC1 m) (.cells #[.int .u64 o', .int .u64 1] 22)
    obtain ⟨A2, c2, e2, hc2, hC3⟩ := Kd.R_reads (R_made (ok := fun _ => True) (own_lit (w.drewN m) w.heap.size 22 .u64 [o', 1] (Nat.le_refl _) (by simp)) (fun _ _ => trivial))
    cases e2
    have hm := poly_Mul.walks p hp A c f (some ⟨w.heap.size, 0, none⟩) 2 [o', 1] h.r1 hl2 (by omega) (by simp) ((w.drewN m).alloc (.cells #[.int .u64 o', .int .u64 1] 22)) hC2 hc1 hC3 (by simp) _ kt hkt
    rw [show ((w.drewN m).alloc (.cells #[.int .u64 o', .int .u64 1] 22)).heap.size = w.heap.size + 1 from Array.size_push _] at hm
    exact hm
  have HMul := Aside0.mk hmul
  clear h hf hO ho' hl2 hkt hmul
  go_enter Tryd.func52, Tryd.ntmps52
  go_wp2
  refine start_ (n := 8) (S := (fun w' => w'.cell? ⟨bp, 0, none⟩ = some (.int .u64 p) ∧ w'.cell? ⟨bf, 0, none⟩ = some (.slice A f.length c))) (ds := [7]) #[false, false, false, false, false, false, false, false] (by kernel_rfl) rfl rfl ⟨c1, c2⟩ (fun hHeld => ?_)
  refine take_ (i := 0) (N := some 6) (v := ?_) (a' := ?_) #[true, false, false, false, false, false, false, false] rfl rfl (by kernel_rfl) (fun _ _ _ h => h) (Or.inl ⟨by rfl, ?_⟩) hHeld ?_ ?_
  rotate_left
  · rintro w' ⟨s0, s1⟩
    go_simp
    with_reducible rfl
  rotate_left
  · simp only [Act.put, List.setIfInBounds_toArray, List.set_cons_zero, List.set_cons_succ, i64_w, i32_w]
    rfl
  refine take_ (i := 1) (N := some 7) (v := ?_) (a' := ?_) #[true, true, false, false, false, false, false, false] rfl rfl (by kernel_rfl) (fun _ _ _ h => h) (Or.inl ⟨by rfl, ?_⟩) hHeld ?_ ?_
  rotate_left
  · rintro w' ⟨s0, s1⟩
    go_simp
    with_reducible rfl
  rotate_left
  · simp only [Act.put, List.setIfInBounds_toArray, List.set_cons_zero, List.set_cons_succ, i64_w, i32_w]
    rfl
  refine take_ (i := 2) (N := some 8) (v := ?_) (a' := ?_) #[true, true, true, false, false, false, false, false] rfl rfl (by kernel_rfl) (fun _ _ _ h => h) (Or.inl ⟨by rfl, ?_⟩) hHeld ?_ ?_
  rotate_left
  · rintro w' ⟨s0, s1⟩
    go_simp
    with_reducible rfl
  rotate_left
  · simp only [Act.put, List.setIfInBounds_toArray, List.set_cons_zero, List.set_cons_succ, i64_w, i32_w]
    rfl
  refine pure_ (i := 3) (N := some 9) (v := ?_) (a' := ?_) #[true, true, true, true, false, false, false, false] rfl rfl (by kernel_rfl) (fun _ _ _ h => h) (Or.inl ⟨by rfl, ?_⟩) ?_ ?_
  rotate_left
  · intro w'
    go_simp
    with_reducible rfl
  rotate_left
  · simp only [Act.put, List.setIfInBounds_toArray, List.set_cons_zero, List.set_cons_succ, i64_w, i32_w]
    rfl
  refine one_ (i := 4) (N := some 10) #[true, true, true, true, true, false, false, false] rfl rfl (by kernel_rfl) (by decide) (fun K hK => ?_)
  refine goes_ Tryd.func54 (by kernel_rfl) rfl #[.int .u64 p, .int .u64 o] (by rfl) rfl rfl (by (try simp only [List.map_toArray, List.map_cons, List.map_nil]); first | done | rfl) ?_
  refine (field_Neg.calls p o o' _ hneg.out).mono ?_
  rintro e w' ⟨rfl, ⟨nd, rfl⟩⟩
  refine ⟨_, rfl, ?_⟩
  refine hK.out _ _ ⟨c1, c2⟩ (fun hHeld => ?_)
  clear hK K
  refine norm_ (a' := ?_) ?_ ?_
  rotate_left
  · show Act.put _ (some 10) _ = _
    simp only [Act.put, List.setIfInBounds_toArray, List.set_cons_zero, List.set_cons_succ, i64_w, i32_w]
    rfl
  refine one_ (i := 5) (N := some 11) #[true, true, true, true, true, true, false, false] rfl rfl (by kernel_rfl) (by decide) (fun K hK => ?_)
  refine value_ (v := .slice (some ⟨w.heap.size, 0, none⟩) 2 2) (w1 := (w.drewN (1 + nd)).alloc (.cells #[.int .u64 o', .int .u64 1] 22)) (by rfl) rfl (by go_simp) ?_
  refine hK.out _ _ ⟨cell_alloc_of c1 _, cell_alloc_of c2 _⟩ (fun hHeld => ?_)
  clear hK K
  refine norm_ (a' := ?_) ?_ ?_
  rotate_left
  · show Act.put _ (some 11) _ = _
    simp only [Act.put, List.setIfInBounds_toArray, List.set_cons_zero, List.set_cons_succ, i64_w, i32_w]
    rfl
  refine one_ (i := 6) (N := some 12) #[true, true, true, true, true, true, true, false] rfl rfl (by kernel_rfl) (by decide) (fun K hK => ?_)
  refine goes_ Tryd.func53 (by kernel_rfl) rfl #[.int .u64 p, .slice A f.length c, .slice (some ⟨w.heap.size, 0, none⟩) 2 2] (by rfl) rfl rfl (by (try simp only [List.map_toArray, List.map_cons, List.map_nil]); first | done | rfl) ?_
  refine (HMul.out (1 + nd)).mono ?_
  rintro e w5 ⟨v0, rfl, hv0, hb0⟩
  obtain ⟨A5, q5, rfl⟩ := Kd.R_slice hv0
  have hbf5 := Aside0.mk (pol_keep hb0 HF.out)
  have hc5 := blk_cell hbf5.out 0
  simp only [List.getElem?_toArray, List.getElem?_cons_zero] at hc5
  have hf5 := blk_frozen hbf5.out 0
  have HBp5 := Aside0.mk (show Box w5 bp p from pol_keep hb0 HI.out.hp)
  have HBd5 := Aside0.mk (show Box w5 bd d from pol_keep hb0 HI.out.hd)
  have HBx5 := Aside0.mk (pol_keep hb0 HI.out.hx)
  have hsz := Aside0.mk (show w.heap.size + 1 ≤ w5.heap.size from by have := hb0.size; rwa [show ((w.drewN (1 + nd)).alloc (Obj.cells #[Value.int IntKind.u64 o', Value.int IntKind.u64 1] 22)).heap.size = w.heap.size + 1 from Array.size_push _] at this)
  have HBel5 := Aside0.mk (show Below wr.heap.size wr w5 from (below_then (below_alloc (pw_below_drewN HI.out.below (1 + nd)) (Obj.cells #[Value.int IntKind.u64 o', Value.int IntKind.u64 1] 22)) (below_size (below_alloc (pw_below_drewN HI.out.below (1 + nd)) _)) (by rw [show ((w.drewN (1 + nd)).alloc (Obj.cells #[Value.int IntKind.u64 o', Value.int IntKind.u64 1] 22)).heap.size = w.heap.size + 1 from Array.size_push _]; exact hb0)))
  have hv5 := Aside0.mk hv0
  clear hv0 hb0
  refine ⟨_, rfl, ?_⟩
  refine hK.out _ _ ⟨HBp5.out.cell, hc5⟩ (fun hHeld => ?_)
  clear hK K
  refine norm_ (a' := ?_) ?_ ?_
  rotate_left
  · show Act.put _ (some 12) _ = _
    simp only [Act.put, List.setIfInBounds_toArray, List.set_cons_zero, List.set_cons_succ, i64_w, i32_w]
    rfl
  refine last_ (i := 7) (N := none) #[true, true, true, true, true, true, true, true] rfl rfl (by kernel_rfl) (by decide) (fun K hK => ?_)
  refine skip_ (w1 := ?_) (by rfl) rfl ?_ ?_
  rotate_left
  · go_simp
    rfl
  refine hK.out _ _ ?_
  clear hK K
  refine done_ (by kernel_rfl) ?_
  try go_wp2
  clear hc5 hf5 c1 c2
  obtain ⟨f', hf'⟩ : ∃ y, y = trimL (mulsL p f [o', 1] f.length) := ⟨_, rfl⟩
  rw [← hf'] at hv5 ⊢
  have HF' := Aside0.mk hf'
  clear hf'
  obtain ⟨W, hW⟩ : ∃ W, W = w5.setCell ⟨bf, 0, none⟩ (.slice A5 f'.length q5) := ⟨_, rfl⟩
  rw [← hW]
  have d1 : W.cell? ⟨bp, 0, none⟩ = some (.int .u64 p) := by rw [hW]; exact (HBp5.out.far n1 _).cell
  have d2 : W.cell? ⟨bd, 0, none⟩ = some (.int .u64 d) := by rw [hW]; exact (HBd5.out.far (Ne.symm n3) _).cell
  have d3 : W.cell? ⟨bx, 0, none⟩ = some (.int .u64 X) := by rw [hW]; exact blk_cell (blk_far (p := ⟨bf, 0, none⟩) HBx5.out n4 _) 0
  have g2 : W.frozen? ⟨bd, 0, none⟩ = false := by rw [hW]; exact (HBd5.out.far (Ne.symm n3) _).frozen
  have HW := Aside0.mk hW
  obtain ⟨k3, hk3⟩ := (sub_ev hp hX ho).rounds
  obtain ⟨k4, hk4⟩ := (mul_ev hp HI.out.r2 (Res.mod hp (X - o))).rounds
  have HK3 := Aside0.mk hk3
  have HK4 := Aside0.mk hk4
  clear hW hk3 hk4
  refine wp_region_quiet_tail_drawn 8 (by kernel_rfl) (by kernel_rfl) ?_
  simp only [List.take_succ_cons, List.take_zero, List.drop_succ_cons, List.drop_zero]
  repeat (quiet_step (first | (go_at_call 55; refine Calls.quiet_of ((field_Sub.calls k3 _ _ _ ((X - o) % p) _ HK3.out).mono fun e w' h => ⟨h.1, h.2.out⟩)) | (go_at_call 44; refine Calls.quiet_of ((field_Mul.calls k4 _ _ _ (d * ((X - o) % p) % p) _ HK4.out).mono fun e w' h => ⟨h.1, h.2.out⟩))))
  refine wpQuiet_nil ?_
  rintro _ ⟨nr, rfl⟩
  go_wp2
  go_end0
  have ld := blk_lt HI.out.hd
  have lf := blk_lt HF.out
  refine ⟨rfl, ⟨?_⟩⟩
  rw [HW.out]
  refine ⟨?_, ⟨A5, q5, ?_, ?_⟩, ?_, ?_, ?_, Res.mod hp _, ?_⟩
  · exact ((HBp5.out.far n1 _).drewN nr).far n2 _
  · show _ = some (Obj.cells #[Value.slice A5 (trimL (mulsL p f [-o % p, 1] f.length)).length q5] _ _)
    rw [← HO'.out, ← HF'.out]
    exact blk_far (p := ⟨bd, 0, none⟩) (blk_drewN (blk_put hbf5.out 0 _ rfl) nr) n3 _
  · show Kd.R _ _ _ _ _ (Value.slice A5 (trimL (mulsL p f [-o % p, 1] f.length)).length q5) (trimL (mulsL p f [-o % p, 1] f.length))
    rw [← HO'.out, ← HF'.out]
    have hb5 : wr.heap.size ≤ w.heap.size + 1 := by have := HI.out.below.size; omega
    have hR := Kd.R_lower (Kd.R_mono (Kd.R_bound hv5.out) (ok' := fun k => k ≠ bd ∧ k ≠ bf) (fun k hk => ⟨by have := hk.2.1; omega, by have := hk.2.1; omega⟩)) hb5
    exact Kd.R_mono (Kd.R_far (Kd.R_drewN (Kd.R_far hR (p := ⟨bf, 0, none⟩) (fun k hk => hk.2) _) nr) (p := ⟨bd, 0, none⟩) (fun k hk => hk.1) _) (fun k hk => hk.1)
  · exact ((HBd5.out.far (Ne.symm n3) _).drewN nr).put _
  · exact blk_far (p := ⟨bd, 0, none⟩) (blk_drewN (blk_far (p := ⟨bf, 0, none⟩) HBx5.out n4 _) nr) n5 _
  · exact fun x hx => mulsL_res hp _ _ _ x (trimL_mem hx)
  · exact Below.setCell (pw_below_drewN (Below.setCell HBel5.out (p := ⟨bf, 0, none⟩) nf _) nr) (p := ⟨bd, 0, none⟩) ndd _
set_option maxHeartbeats 1000000 in
theorem others_pol {σ : Type} (I : σ → World → Prop) (step : σ → Int → σ) (bp bf bd bx : Nat) (A : Option Addr) (c : Nat) (xs : List Int) (but : Nat) (hb : but < 1099511627776) (hl : xs.length ≤ 1099511627776)
    (hread : ∀ s w, I s w → Kd.C (Kd.int .u64) w A xs.length xs)
    (s : σ) (hcall : ∀ w i, i < xs.length → i ≠ but → I ((othersN xs but i).foldl step s) w → Calls Tryd.prog 52 #[.int .u64 (rd xs i), .pointer (some ⟨bp, 0, none⟩), .pointer (some ⟨bf, 0, none⟩), .pointer (some ⟨bd, 0, none⟩), .pointer (some ⟨bx, 0, none⟩)] w fun e w' => e = .returned (.tuple #[]) ∧ Aside0 (I (step ((othersN xs but i).foldl step s) (rd xs i)) w'))
    (w : World) (hI : I s w) :
    Calls Tryd.prog 51 #[.slice A xs.length c, .int .i64 (but : Int), .func (.func 52) #[] #[.pointer (some ⟨bp, 0, none⟩), .pointer (some ⟨bf, 0, none⟩), .pointer (some ⟨bd, 0, none⟩), .pointer (some ⟨bx, 0, none⟩)]] w
      fun e w' => e = .returned (.tuple #[]) ∧ Aside0 (I ((othersN xs but xs.length).foldl step s) w') := by
  have HI := Aside0.mk hI
  have HR := Aside0.mk hread
  have HC := Aside0.mk hcall
  clear hI hread hcall
  go_enter Tryd.func51, Tryd.ntmps51
  go_wp2
  go_loopg [10] xs.length (fun kq v10 w' => ∃ (n : Nat), v10 = .int .i64 n ∧ Aside0 (kq + n = xs.length) ∧ Aside0 (I ((othersN xs but n).foldl step s) w'))
  case atStart => exact ⟨0, rfl, ⟨rfl⟩, HI⟩
  case round =>
    obtain ⟨n, rfl, HK, HS⟩ := hrel
    clear HI
    by_cases hlt : n < xs.length
    · have p1 : ((0 : Int) ≤ (n : Int)) = True := eq_true (by omega)
      have q1 : ((n : Int) < (xs.length : Int)) = True := eq_true (by omega)
      obtain ⟨ad, e1, hx⟩ := Kd.at_int (HR.out _ _ HS.out) (n : Int) (by omega) (by omega)
      cases e1
      rw [Int.toNat_natCast] at hx
      by_cases hnb : n = but
      · have t1 : ((n : Int) != (but : Int)) = false := by rw [hnb]; simp
        have HNB := Aside0.mk hnb
        clear hnb
        go_wp2
        go_roundg (xs.length - (n + 1))
        case measure => have := HK.out; omega
        case rel =>
          refine ⟨n + 1, by go_num, ⟨by omega⟩, ⟨?_⟩⟩
          rw [othersN, if_pos HNB.out]; exact HS.out
      · have t1 : ((n : Int) != (but : Int)) = true := by rw [bne_iff_ne]; omega
        have hc := Aside0.mk (HC.out _ n hlt hnb HS.out)
        go_wp2_with (first | (go_at_call 52; (with_reducible refine hc.out.mono ?_); rintro e w' ⟨rfl, HS2⟩))
        go_roundg (xs.length - (n + 1))
        case measure => have := HK.out; omega
        case rel =>
          refine ⟨n + 1, by go_num, ⟨by omega⟩, ⟨?_⟩⟩
          rw [othersN, if_neg hnb, List.foldl_append]; exact HS2.out
    · have hd : decide ((n : Int) < (xs.length : Int)) = false := decide_eq_false (by omega)
      have hn : n = xs.length := by have := HK.out; omega
      subst hn
      go_wp2
      go_end0
      exact ⟨rfl, HS⟩
end Go.Proofs.YtakaonojfpkhnaaDoor.Hw
end
section
/-
  Polynomial of package interpolate, proved by hand: what it computes, in plain lists.
-/
namespace Go.Proofs.YtakaonojfpkhnaaDoor.Hw
open Go.RowKit Go.Proofs.YtakaonojfpkhnaaDoor.Pr Go.Proofs.YtakaonojfpkhnaaDoorW.PrintWords Go.Proofs.YtakaonojfpkhnaaDoorW.PrintLast Go.Proofs.YtakaonojfpkhnaaDoorW.PrintMore Go.Proofs.YtakaonojfpkhnaaDoor.E
set_option linter.unusedVariables false
set_option linter.unusedSimpArgs false

def addP (p : Int) (a b : List Int) : List Int := putsL p (putsL p [] a a.length) b b.length
def xsOf (pts : List S57) : List Int := pts.map fun x => x.f0
def polS (p : Int) (pts : List S57) (i : Nat) : List Int × Int := (othersN (xsOf pts) i pts.length).foldl (polStep p (rd_T57 pts i).f0) ([1], 1)
def polTerm (p : Int) (pts : List S57) (i : Nat) : List Int := trimL ((polS p pts i).1.map fun v => ((rd_T57 pts i).f1 * invp p (polS p pts i).2 % p) * v % p)
def polSum (p : Int) (pts : List S57) : Nat → List Int
  | 0 => []
  | n + 1 => trimL (addP p (polSum p pts n) (polTerm p pts n))
def polL (p : Int) (pts : List S57) : List Int := trimL (polSum p pts pts.length)
theorem rdT_nat (pts : List S57) (i : Nat) (h : i < pts.length) : rd_T57 pts (i : Int) = pts[i] := by
  unfold rd_T57; rw [Int.toNat_natCast, List.getD_eq_getElem?_getD, List.getElem?_eq_getElem h]; rfl
theorem xsOf_rd (pts : List S57) (i : Nat) (h : i < pts.length) : rd (xsOf pts) (i : Int) = (rd_T57 pts (i : Int)).f0 := by
  rw [rdT_nat _ _ h, rd_nat, getD_in _ _ (by simpa [xsOf] using h)]; simp [xsOf]
/-- The points are residues. -/
def PtsOk (p : Int) (pts : List S57) : Prop := ∀ x ∈ pts, Res p x.f0 ∧ Res p x.f1
theorem PtsOk.xs {p : Int} {pts : List S57} (h : PtsOk p pts) : ∀ x ∈ xsOf pts, Res p x := by
  intro x hx
  obtain ⟨y, hy, rfl⟩ := List.mem_map.1 hx
  exact (h y hy).1
theorem PtsOk.at_ {p : Int} {pts : List S57} (h : PtsOk p pts) (i : Nat) (hi : i < pts.length) : Res p (rd_T57 pts (i : Int)).f0 ∧ Res p (rd_T57 pts (i : Int)).f1 := by
  rw [rdT_nat _ _ hi]; exact h _ (List.getElem_mem _)
theorem linear_length (p : Int) (f : List Int) (o : Int) : (mulsL p f [o, 1] f.length).length ≤ f.length + 2 := mulsL_length p f [o, 1] f.length
theorem polFold {p : Int} (hp : Supp p) {X : Int} (hX : Res p X) : ∀ (l : List Int) (s : List Int × Int), (∀ o ∈ l, Res p o) → (∀ x ∈ s.1, Res p x) → Res p s.2 →
    (∀ x ∈ (l.foldl (polStep p X) s).1, Res p x) ∧ Res p (l.foldl (polStep p X) s).2 ∧ (l.foldl (polStep p X) s).1.length ≤ s.1.length + 2 * l.length ∧ ((∀ o ∈ l, X ≠ o) → s.2 ≠ 0 → (l.foldl (polStep p X) s).2 ≠ 0)
  | [], s, _, h1, h2 => ⟨h1, h2, by simp, fun _ h => h⟩
  | o :: l, s, hl, h1, h2 => by
    have ih := polFold hp hX l (polStep p X s o) (fun y hy => hl y (List.mem_cons_of_mem _ hy)) (fun x hx => mulsL_res hp _ _ _ x (trimL_mem hx)) (Res.mod hp _)
    have hlen : (polStep p X s o).1.length ≤ s.1.length + 2 := Nat.le_trans (trimL_length _) (linear_length p s.1 _)
    refine ⟨ih.1, ih.2.1, ?_, fun hne h0 => ih.2.2.2 (fun y hy => hne y (List.mem_cons_of_mem _ hy)) ?_⟩
    · have := ih.2.2.1; simp only [List.foldl_cons, List.length_cons] at *; omega
    · exact mul_ne' hp h2 h0 (Res.mod hp _) (sub_ne' hp hX (hl o (by simp)) (hne o (by simp)))
theorem xsOf_next (pts : List S57) (n : Nat) (h : n < pts.length) : xsOf (pts.take n) ++ [(rd_T57 pts (n : Int)).f0] = xsOf (pts.take (n + 1)) := by
  rw [rdT_nat _ _ h, List.take_succ_eq_append_getElem h]; simp only [xsOf, List.map_append, List.map_cons, List.map_nil]
theorem xsOf_take_length (pts : List S57) (n : Nat) (h : n ≤ pts.length) : (xsOf (pts.take n)).length = n := by simp [xsOf]; omega
theorem othersN_length (xs : List Int) (b : Nat) : ∀ n, (othersN xs b n).length ≤ n
  | 0 => Nat.le_refl _
  | n + 1 => by
    have := othersN_length xs b n
    unfold othersN
    split
    · omega
    · rw [List.length_append]; simp only [List.length_cons, List.length_nil]; omega
theorem one_res {p : Int} (hp : Supp p) : ∀ x ∈ [(1 : Int)], Res p x := by
  have := hp.bd
  intro x hx
  simp only [List.mem_cons, List.not_mem_nil, or_false] at hx
  subst hx
  exact ⟨by omega, by omega⟩
theorem alloc_szA (w : World) (o : Obj) : (w.alloc o).heap.size = w.heap.size + 1 := Array.size_push _
theorem pol_inner {p : Int} (hp : Supp p) (A : Option Addr) (c : Nat) (xs : List Int) (X Y : Int) (hX : Res p X) (hx : ∀ x ∈ xs, Res p x) (hl : xs.length ≤ 1000) (bp n : Nat) (hn : n < xs.length) (wr : World) (hr : Kd.C (Kd.int .u64) wr A xs.length xs)
    (hbp : Box wr bp p) :
    Calls Tryd.prog 51 #[.slice A xs.length c, .int .i64 (n : Int), .func (.func 52) #[] #[.pointer (some ⟨bp, 0, none⟩), .pointer (some ⟨wr.heap.size + 1 + 1, 0, none⟩), .pointer (some ⟨wr.heap.size + 1 + 1 + 1, 0, none⟩), .pointer (some ⟨wr.heap.size, 0, none⟩)]]
      ((((wr.alloc (Obj.cells #[Value.int IntKind.u64 X, Value.int IntKind.u64 Y] 57)).alloc (Obj.cells #[Value.int IntKind.u64 1] 22)).alloc (Obj.cells #[Value.slice (some ⟨wr.heap.size + 1, 0, none⟩) 1 1] 33)).alloc (Obj.cells #[Value.int IntKind.u64 1] 22))
      fun e w' => e = .returned (.tuple #[]) ∧ Aside0 (PolI wr bp (wr.heap.size + 1 + 1) (wr.heap.size + 1 + 1 + 1) wr.heap.size p X Y ((othersN xs n xs.length).foldl (polStep p X) ([1], 1)) w') := by
  have hpb := hp.bd
  have lp := blk_lt hbp
  refine others_pol (PolI wr bp (wr.heap.size + 1 + 1) (wr.heap.size + 1 + 1 + 1) wr.heap.size p X Y) (polStep p X) bp (wr.heap.size + 1 + 1) (wr.heap.size + 1 + 1 + 1) wr.heap.size A c xs n (by omega) (by omega) (fun s w' h => Kd.C_below hr h.below) ([1], 1) ?_ _ ?_
  · intro w' i hi hne h
    have hf := polFold hp hX (othersN xs n i) ([1], 1) (fun o ho => by obtain ⟨j, h1, _, rfl⟩ := othersN_mem ho; exact rd_res' hx j (by omega)) (one_res hp) ⟨by omega, by omega⟩
    have ho := othersN_length xs n i
    have hf3 := hf.2.2.1
    simp only [List.length_cons, List.length_nil] at hf3
    exact polc_calls hp hX (rd_res' hx i hi) bp (wr.heap.size + 1 + 1) (wr.heap.size + 1 + 1 + 1) wr.heap.size wr w' _ h (by omega) (by omega) (by omega) (by omega) (by omega) (by omega) (by omega) (by omega)
  · refine ⟨?_, ⟨some ⟨wr.heap.size + 1, 0, none⟩, 1, ?_, ?_⟩, ?_, ?_, one_res hp, ⟨by omega, by omega⟩, below_alloc (below_alloc (below_alloc (below_alloc (Below.refl _ _) _) _) _) _⟩
    · exact blk_alloc (blk_alloc (blk_alloc (blk_alloc hbp _) _) _) _
    · have h := blk_new ((wr.alloc (Obj.cells #[Value.int IntKind.u64 X, Value.int IntKind.u64 Y] 57)).alloc (Obj.cells #[Value.int IntKind.u64 1] 22)) (Obj.cells #[Value.slice (some ⟨wr.heap.size + 1, 0, none⟩) 1 1] 33)
      rw [alloc_szA, alloc_szA] at h
      exact blk_alloc h _
    · have h := R_made (ok := fun k => k ≠ wr.heap.size + 1 + 1 + 1) (own_lit (wr.alloc (Obj.cells #[Value.int IntKind.u64 X, Value.int IntKind.u64 Y] 57)) wr.heap.size 22 .u64 [1] (by rw [alloc_szA]; omega) (by simp)) (by intro b hb; rw [alloc_szA] at hb; have he : wr.heap.size + 1 = b := Option.some.inj hb; exact fun e2 => by omega)
      rw [alloc_szA] at h
      exact Kd.R_alloc (Kd.R_alloc h _) _
    · have h := blk_new (((wr.alloc (Obj.cells #[Value.int IntKind.u64 X, Value.int IntKind.u64 Y] 57)).alloc (Obj.cells #[Value.int IntKind.u64 1] 22)).alloc (Obj.cells #[Value.slice (some ⟨wr.heap.size + 1, 0, none⟩) 1 1] 33)) (Obj.cells #[Value.int IntKind.u64 1] 22)
      rw [alloc_szA, alloc_szA, alloc_szA] at h
      exact h
    · exact blk_alloc (blk_alloc (blk_alloc (blk_new wr _) _) _) _
theorem addP_length (p : Int) (a b : List Int) : (addP p a b).length = max a.length b.length := by
  unfold addP; rw [putsL_length, putsL_length]; simp
theorem addP_res {p : Int} (hp : Supp p) (a b : List Int) : ∀ x ∈ addP p a b, Res p x :=
  putsL_res hp (putsL_res hp (by intro x hx; cases hx) _) _
theorem polTerm_length {p : Int} (hp : Supp p) {pts : List S57} (hx : PtsOk p pts) {n : Nat} (hn : n < pts.length) : (polTerm p pts n).length ≤ 1 + 2 * pts.length := by
  have hpb := hp.bd
  have hxl : (xsOf pts).length = pts.length := by simp [xsOf]
  have h := polFold hp (hx.at_ n hn).1 (othersN (xsOf pts) n pts.length) ([1], 1) (fun o ho => by obtain ⟨j, h1, _, rfl⟩ := othersN_mem ho; exact rd_res' hx.xs j (by omega)) (one_res hp) ⟨by omega, by omega⟩
  have hl := othersN_length (xsOf pts) n pts.length
  have h3 := h.2.2.1
  simp only [List.length_cons, List.length_nil] at h3
  refine Nat.le_trans (trimL_length _) ?_
  rw [List.length_map]
  unfold polS
  omega
theorem polS_ok {p : Int} (hp : Supp p) {pts : List S57} (hx : PtsOk p pts) {n : Nat} (hn : n < pts.length) (hnd : (xsOf pts).Nodup) :
    (∀ x ∈ (polS p pts n).1, Res p x) ∧ Res p (polS p pts n).2 ∧ (polS p pts n).1.length ≤ 1 + 2 * pts.length ∧ (polS p pts n).2 ≠ 0 := by
  have hpb := hp.bd
  have hxl : (xsOf pts).length = pts.length := by simp [xsOf]
  have h := polFold hp (hx.at_ n hn).1 (othersN (xsOf pts) n pts.length) ([1], 1) (fun o ho => by obtain ⟨j, h1, _, rfl⟩ := othersN_mem ho; exact rd_res' hx.xs j (by omega)) (one_res hp) ⟨by omega, by omega⟩
  have hl := othersN_length (xsOf pts) n pts.length
  refine ⟨h.1, h.2.1, ?_, h.2.2.2 (fun o ho => ?_) (by decide)⟩
  · have := h.2.2.1; simp only [List.length_cons, List.length_nil] at this; unfold polS; omega
  · obtain ⟨j, h1, h2, rfl⟩ := othersN_mem ho
    rw [← xsOf_rd pts n hn, rd_nat, rd_nat, getD_in _ _ (by omega), getD_in _ _ (by omega)]
    intro e
    rw [List.nodup_iff_pairwise_ne, List.pairwise_iff_getElem] at hnd
    rcases Nat.lt_trichotomy n j with h3 | h3 | h3
    · exact hnd n j (by omega) (by omega) h3 e
    · exact h2 h3.symm
    · exact hnd j n (by omega) (by omega) h3 e.symm
theorem polSum_ok {p : Int} (hp : Supp p) {pts : List S57} (hx : PtsOk p pts) : ∀ (n : Nat), n ≤ pts.length → (∀ x ∈ polSum p pts n, Res p x) ∧ (polSum p pts n).length ≤ 1 + 2 * pts.length
  | 0, _ => ⟨fun x hx => (by cases hx), by simp [polSum]⟩
  | n + 1, h => by
    have ih := polSum_ok hp hx n (by omega)
    refine ⟨fun x hx => addP_res hp _ _ x (trimL_mem hx), ?_⟩
    refine Nat.le_trans (trimL_length _) ?_
    rw [addP_length]
    have := polTerm_length hp hx (n := n) (by omega)
    omega
theorem alloc_size2 (w : World) (o : Obj) : (w.alloc o).heap.size = w.heap.size + 1 := Array.size_push _
set_option maxHeartbeats 2000000 in
set_option maxRecDepth 100000 in
theorem pol_walk {p : Int} (hp : Supp p) (A : Option Addr) (c : Nat) (pts : List S57) (hx : PtsOk p pts) (hl : pts.length ≤ 12) (w : World) (hr : Kd.C k57 w A pts.length pts) (hc : pts.length ≤ c) :
    Calls Tryd.prog 39 #[.int .u64 p, .slice A pts.length c] w fun e w' => ∃ v0_ : Value, e = .returned (.tuple #[v0_, .int .i64 (if (xsOf pts).Nodup then 0 else 1)]) ∧ Kd.R (Kd.int .u64) 22 w' w.heap.size (fun _ => True) v0_ (if (xsOf pts).Nodup then polL p pts else []) ∧ Below w.heap.size w w' := by
  obtain ⟨xs, hxs⟩ : ∃ y, y = xsOf pts := ⟨_, rfl⟩
  have hxl : xs.length = pts.length := by rw [hxs]; simp [xsOf]
  rw [← hxs]
  obtain ⟨r1, hr1⟩ : ∃ y, y = (if xs.Nodup then polL p pts else []) := ⟨_, rfl⟩
  obtain ⟨r2, hr2⟩ : ∃ y : Int, y = (if xs.Nodup then 0 else 1) := ⟨_, rfl⟩
  rw [← hr1, ← hr2]
  have HR1 := Aside0.mk hr1
  have HR2 := Aside0.mk hr2
  clear hr1 hr2
  have HXS := Aside0.mk hxs
  have HXL := Aside0.mk hxl
  clear hxs hxl
  have HR := Aside0.mk hr
  have HX := Aside0.mk hx
  have hb1 : Below w.heap.size w (w.alloc (Obj.cells #[Value.int IntKind.u64 p] 22)) := below_alloc (Below.refl _ _) _
  have hbp0 : Box (w.alloc (Obj.cells #[Value.int IntKind.u64 p] 22)) w.heap.size p := blk_new w _
  have HB1 := Aside0.mk hb1
  have HBP := Aside0.mk hbp0
  clear hr hx hb1 hbp0
  go_enter Tryd.func39, Tryd.ntmps39
  go_wp2
  go_loopg [6, 16] pts.length (fun kq v6 v16 w' => ∃ (n : Nat), v16 = .int .i64 (n : Int) ∧ Aside0 (kq + n = pts.length) ∧ Aside0 (Kd.R (Kd.int .u64) 22 w' w.heap.size (fun k_ => w.heap.size + 1 ≤ k_) v6 (xsOf (pts.take n))) ∧ Aside0 (Box w' w.heap.size p) ∧ Aside0 (Below w.heap.size w w'))
  case atStart => exact ⟨0, rfl, ⟨rfl⟩, ⟨Kd.R_nil _ _ _ _ _⟩, HBP, HB1⟩
  case round =>
    clear HBP HB1
    obtain ⟨n, rfl, HK, HO, HBx, HB⟩ := hrel
    by_cases hlt : n < pts.length
    · have p1 : ((0 : Int) ≤ (n : Int)) = True := eq_true (by omega)
      have q1 : ((n : Int) < (pts.length : Int)) = True := eq_true (by omega)
      obtain ⟨ad, e1, hx0, hx1⟩ := at_T57 HR.out (n : Int) (by omega) (by omega)
      cases e1
      replace hx0 := pw_cell_below HB.out hx0
      replace hx1 := pw_cell_below HB.out hx1
      rw [Int.toNat_natCast] at hx0 hx1
      have hlen : (xsOf (pts.take n)).length = n := xsOf_take_length pts n (by omega)
      have hnext := xsOf_next pts n hlt
      obtain ⟨X, hX⟩ : ∃ y, y = (rd_T57 pts (n : Int)).f0 := ⟨_, rfl⟩
      obtain ⟨Y, hY⟩ : ∃ y, y = (rd_T57 pts (n : Int)).f1 := ⟨_, rfl⟩
      rw [← hX] at hx0
      rw [← hY] at hx1
      rw [← hX] at hnext
      have HN := Aside0.mk hnext
      have HL := Aside0.mk hlen
      have hsz := Aside0.mk (show w.heap.size + 1 ≤ wr.heap.size from blk_lt HBx.out)
      have hne : ∀ b, b < w.heap.size + 1 → some b ≠ u6.ownBlock := fun b hb e => by have := HO.out.1 b e.symm; omega
      have HNE := Aside0.mk hne
      clear hnext hlen hX hY hne
      go_wp2_with (first | ((with_reducible refine gate_builtin (b := .append) (xs := #[.tmp 20, .tmp 23]) rfl ?_); at_builtin; refine Kd.R_append (Kd.int .u64) (w0 := w) w.heap.size rfl (.tmp 20) (.tmp 23) 33 22 (.int .u64 0) 8 rfl Tryd.underlying33 info22 rfl (by decide) (by omega) u6 (xsOf (pts.take n)) X [.int .u64 X] (fun k_ => w.heap.size + 1 ≤ k_) (fun _ => False) rfl (by rw [alloc_size2]; rfl) rfl (fun _ hk => hk.elim) (fun k hk => Nat.le_trans hsz.out (Nat.le_trans (by rw [alloc_size2]; omega) hk)) (Kd.R_alloc HO.out _) (below_alloc HB.out _) (below_size (below_alloc HB.out _)) (by rw [HL.out]; omega) ?_; intro v6 w6 ho6 hb6 hg6 ha6; rw [HN.out] at ho6; have HO6 := Aside0.mk ho6; have HB6 := Aside0.mk hb6; have HG6 := Aside0.mk hg6; clear ho6 hb6 hg6 ha6))
      go_roundg (pts.length - (n + 1))
      case measure => have := HK.out; omega
      case rel => exact ⟨n + 1, by go_num, ⟨by omega⟩, HO6, ⟨blk_grown (blk_alloc HBx.out _) HG6.out (HNE.out _ (by omega))⟩, HB6⟩
    · have hd : decide ((n : Int) < (pts.length : Int)) = false := decide_eq_false (by omega)
      have hn : n = pts.length := by have := HK.out; omega
      subst hn
      rw [List.take_length] at HO
      rw [← HXS.out] at HO
      obtain ⟨Ax, cx, rfl, hcx, hCx⟩ := Kd.R_reads HO.out
      have HU := Aside0.mk (unlike_calls Ax cx xs wr hCx hcx (by rw [HXL.out]; exact hl))
      clear hCx hlt hd HK
      by_cases hnd : xs.Nodup
      · have hd : decide xs.Nodup = true := decide_eq_true hnd
        have hr1 := HR1.out
        have hr2 := HR2.out
        rw [if_pos hnd] at hr1 hr2
        subst hr2
        have HRR := Aside0.mk hr1
        have HND := Aside0.mk hnd
        clear hnd hr1 HR1 HR2
        go_wp2_with (first | (go_at_call 50; (with_reducible refine HU.out.mono ?_); rintro e w1 ⟨rfl, hb3⟩; have HB3 := Aside0.mk (below_step HB.out hb3); have HBx3 := Aside0.mk (show Box w1 w.heap.size p from blk_below HBx.out hb3); have HO3 := Aside0.mk (Kd.R_below HO.out hb3); clear hb3))
        obtain ⟨A3, c3, e3, hc3, hC3⟩ := Kd.R_reads HO3.out
        cases e3
        have HCX := Aside0.mk hC3
        clear hC3 hc3 hd HB HBx HO HU
        go_loopg [9, 31] pts.length (fun kq v9 v31 w' => ∃ (n : Nat), v31 = .int .i64 (n : Int) ∧ Aside0 (kq + n = pts.length) ∧ Aside0 (Kd.R (Kd.int .u64) 22 w' w1.heap.size (fun k_ => True) v9 (polSum p pts n)) ∧ Aside0 (Below w1.heap.size w1 w'))
        case atStart => exact ⟨0, rfl, ⟨rfl⟩, ⟨Kd.R_nil _ _ _ _ _⟩, ⟨Below.refl _ _⟩⟩
        case round =>
          obtain ⟨n, rfl, HK, HS, HB⟩ := hrel
          by_cases hlt : n < pts.length
          · have p1 : ((0 : Int) ≤ (n : Int)) = True := eq_true (by omega)
            have q1 : ((n : Int) < (pts.length : Int)) = True := eq_true (by omega)
            obtain ⟨ad, e1, hx0, hx1⟩ := at_T57 HR.out (n : Int) (by omega) (by omega)
            cases e1
            replace hx0 := pw_cell_below (below_step HB3.out HB.out) hx0
            replace hx1 := pw_cell_below (below_step HB3.out HB.out) hx1
            rw [Int.toNat_natCast] at hx0 hx1
            obtain ⟨hX, hY⟩ := HX.out.at_ n hlt
            have hi := pol_inner hp Ax cx xs (rd_T57 pts (n : Int)).f0 (rd_T57 pts (n : Int)).f1 hX (by rw [HXS.out]; exact HX.out.xs) (by rw [HXL.out]; omega) w.heap.size n (by rw [HXL.out]; exact hlt) wr (Kd.C_below HCX.out HB.out) (blk_below HBx3.out HB.out)
            have hS : (othersN xs n xs.length).foldl (polStep p (rd_T57 pts (n : Int)).f0) ([1], 1) = polS p pts n := by rw [HXL.out, HXS.out]; rfl
            rw [hS] at hi
            obtain ⟨X, hXX⟩ : ∃ y, y = (rd_T57 pts (n : Int)).f0 := ⟨_, rfl⟩
            obtain ⟨Y, hYY⟩ : ∃ y, y = (rd_T57 pts (n : Int)).f1 := ⟨_, rfl⟩
            obtain ⟨F, hF⟩ : ∃ y, y = (polS p pts n).1 := ⟨_, rfl⟩
            obtain ⟨D, hD⟩ : ∃ y, y = (polS p pts n).2 := ⟨_, rfl⟩
            have hfd : polS p pts n = (F, D) := by rw [hF, hD]
            rw [← hXX] at hx0 hX
            rw [← hYY] at hx1 hY
            rw [hfd, ← hXX, ← hYY] at hi
            obtain ⟨hr1, hr2, hlen, hD0⟩ := polS_ok hp HX.out hlt (by rw [← HXS.out]; exact HND.out)
            rw [← hF] at hr1 hlen
            rw [← hD] at hr2 hD0
            obtain ⟨ko, hko⟩ := (over_ev hp hY hr2 hD0).rounds
            obtain ⟨ks, hks⟩ := (scale_ev hp (Res.mod hp (Y * invp p D)) F hr1 (by omega)).rounds
            have hterm : trimL (F.map fun v => (Y * invp p D % p) * v % p) = polTerm p pts n := by unfold polTerm; rw [← hF, ← hD, ← hYY]
            rw [hterm] at hks
            have hsum := polSum_ok hp HX.out n (by omega)
            have htl : (polTerm p pts n).length ≤ 1000 := by rw [← hterm]; refine Nat.le_trans (trimL_length _) ?_; rw [List.length_map]; omega
            have htr : ∀ x ∈ polTerm p pts n, Res p x := by rw [← hterm]; intro x hx; obtain ⟨y, _, rfl⟩ := List.mem_map.1 (trimL_mem hx); exact Res.mod hp _
            obtain ⟨ka, hka⟩ := (trim_ev (addP p (polSum p pts n) (polTerm p pts n)) (by have := addP_length p (polSum p pts n) (polTerm p pts n); omega)).rounds
            have HIn := Aside0.mk hi
            have HKO := Aside0.mk hko
            have HKS := Aside0.mk hks
            have HKA := Aside0.mk hka
            have HT := Aside0.mk (And.intro htr htl)
            have HSM := Aside0.mk hsum
            have HF := Aside0.mk hF
            have HD := Aside0.mk hD
            clear hi hko hks hka htr htl hsum hF hD hfd hterm hr1 hr2 hlen hD0 hXX hYY hS hX hY
            go_wp2_with (first
              | (go_at_call 51; (with_reducible refine HIn.out.mono ?_); rintro e w4 ⟨rfl, HI⟩))
            obtain ⟨A9, c9, e9, hc9, hC9⟩ := Kd.R_reads HS.out
            cases e9
            have HC9 := Aside0.mk (Kd.C_below hC9 HI.out.below)
            obtain ⟨Af, cf, hf, hO⟩ := HI.out.hf
            simp only at hf hO
            obtain ⟨Af', cf', ef, hcf, hCf⟩ := Kd.R_reads hO
            cases ef
            have hscale : ∀ m : Nat, Calls Tryd.prog 57 #[.int .u64 p, .int .u64 (Y * invp p D % p), .slice Af F.length cf] (w4.drew.drewN m) fun e w' => ∃ v0_ : Value, e = .returned v0_ ∧ Kd.R (Kd.int .u64) 22 w' w4.heap.size (fun _ => True) v0_ (polTerm p pts n) ∧ Below w4.heap.size (w4.drew.drewN m) w' :=
              fun m => poly_Scale.calls ks p (Y * invp p D % p) Af cf F (polTerm p pts n) (w4.drew.drewN m) (Kd.C_drewN (show Kd.C (Kd.int .u64) w4.drew Af F.length F from Kd.C_drewN hCf 1) m) hcf HKS.out
            have HSc := Aside0.mk hscale
            have c1 := HI.out.hp.cell
            have c2 := blk_cell HI.out.hx 1
            simp only [List.getElem?_toArray, List.getElem?_cons_zero, List.getElem?_cons_succ] at c2
            have c3 := HI.out.hd.cell
            have c4 := blk_cell hf 0
            simp only [List.getElem?_toArray, List.getElem?_cons_zero] at c4
            clear hf hO hCf hscale hC9
            refine start_ (n := 12) (S := (fun w' => w'.cell? ⟨w.heap.size, 0, none⟩ = some (.int .u64 p) ∧ w'.cell? ⟨wr.heap.size, 1, none⟩ = some (.int .u64 Y) ∧ w'.cell? ⟨wr.heap.size + 1 + 1 + 1, 0, none⟩ = some (.int .u64 D) ∧ w'.cell? ⟨wr.heap.size + 1 + 1, 0, none⟩ = some (.slice Af F.length cf))) (ds := []) #[false, false, false, false, false, false, false, false, false, false, false, false] (by kernel_rfl) rfl rfl ⟨c1, c2, c3, c4⟩ (fun hHeld => ?_)
            refine take_ (i := 0) (N := some 41) (v := ?_) (a' := ?_) #[true, false, false, false, false, false, false, false, false, false, false, false] rfl rfl (by kernel_rfl) (fun _ _ _ h => h) (Or.inl ⟨by rfl, ?_⟩) hHeld ?_ ?_
            rotate_left
            · rintro w' ⟨s0, s1, s2, s3⟩
              go_simp
              with_reducible rfl
            rotate_left
            · simp only [Act.put, List.setIfInBounds_toArray, List.set_cons_zero, List.set_cons_succ, i64_w, i32_w]
              rfl
            refine pure_ (i := 1) (N := some 42) (v := ?_) (a' := ?_) #[true, true, false, false, false, false, false, false, false, false, false, false] rfl rfl (by kernel_rfl) (fun _ _ _ h => h) (Or.inl ⟨by rfl, ?_⟩) ?_ ?_
            rotate_left
            · intro w'
              go_simp
              with_reducible rfl
            rotate_left
            · simp only [Act.put, List.setIfInBounds_toArray, List.set_cons_zero, List.set_cons_succ, i64_w, i32_w]
              rfl
            refine take_ (i := 2) (N := some 43) (v := ?_) (a' := ?_) #[true, true, true, false, false, false, false, false, false, false, false, false] rfl rfl (by kernel_rfl) (fun _ _ _ h => h) (Or.inl ⟨by rfl, ?_⟩) hHeld ?_ ?_
            rotate_left
            · rintro w' ⟨s0, s1, s2, s3⟩
              go_simp
              with_reducible rfl
            rotate_left
            · simp only [Act.put, List.setIfInBounds_toArray, List.set_cons_zero, List.set_cons_succ, i64_w, i32_w]
              rfl
            refine take_ (i := 3) (N := some 44) (v := ?_) (a' := ?_) #[true, true, true, true, false, false, false, false, false, false, false, false] rfl rfl (by kernel_rfl) (fun _ _ _ h => h) (Or.inl ⟨by rfl, ?_⟩) hHeld ?_ ?_
            rotate_left
            · rintro w' ⟨s0, s1, s2, s3⟩
              go_simp
              with_reducible rfl
            rotate_left
            · simp only [Act.put, List.setIfInBounds_toArray, List.set_cons_zero, List.set_cons_succ, i64_w, i32_w]
              rfl
            refine pure_ (i := 4) (N := some 45) (v := ?_) (a' := ?_) #[true, true, true, true, true, false, false, false, false, false, false, false] rfl rfl (by kernel_rfl) (fun _ _ _ h => h) (Or.inl ⟨by rfl, ?_⟩) ?_ ?_
            rotate_left
            · intro w'
              go_simp
              with_reducible rfl
            rotate_left
            · simp only [Act.put, List.setIfInBounds_toArray, List.set_cons_zero, List.set_cons_succ, i64_w, i32_w]
              rfl
            refine take_ (i := 5) (N := some 46) (v := ?_) (a' := ?_) #[true, true, true, true, true, true, false, false, false, false, false, false] rfl rfl (by kernel_rfl) (fun _ _ _ h => h) (Or.inl ⟨by rfl, ?_⟩) hHeld ?_ ?_
            rotate_left
            · rintro w' ⟨s0, s1, s2, s3⟩
              go_simp
              with_reducible rfl
            rotate_left
            · simp only [Act.put, List.setIfInBounds_toArray, List.set_cons_zero, List.set_cons_succ, i64_w, i32_w]
              rfl
            refine take_ (i := 6) (N := some 47) (v := ?_) (a' := ?_) #[true, true, true, true, true, true, true, false, false, false, false, false] rfl rfl (by kernel_rfl) (fun _ _ _ h => h) (Or.inl ⟨by rfl, ?_⟩) hHeld ?_ ?_
            rotate_left
            · rintro w' ⟨s0, s1, s2, s3⟩
              go_simp
              with_reducible rfl
            rotate_left
            · simp only [Act.put, List.setIfInBounds_toArray, List.set_cons_zero, List.set_cons_succ, i64_w, i32_w]
              rfl
            refine take_ (i := 8) (N := some 49) (v := ?_) (a' := ?_) #[true, true, true, true, true, true, true, false, true, false, false, false] rfl rfl (by kernel_rfl) (fun _ _ _ h => h) (Or.inl ⟨by rfl, ?_⟩) hHeld ?_ ?_
            rotate_left
            · rintro w' ⟨s0, s1, s2, s3⟩
              go_simp
              with_reducible rfl
            rotate_left
            · simp only [Act.put, List.setIfInBounds_toArray, List.set_cons_zero, List.set_cons_succ, i64_w, i32_w]
              rfl
            refine one_ (i := 7) (N := some 48) #[true, true, true, true, true, true, true, true, true, false, false, false] rfl rfl (by kernel_rfl) (by decide) (fun K hK => ?_)
            refine goes_ Tryd.func58 (by kernel_rfl) rfl #[.int .u64 p, .int .u64 Y, .int .u64 D] (by rfl) rfl rfl (by (try simp only [List.map_toArray, List.map_cons, List.map_nil]); first | done | rfl) ?_
            refine (interpolate_over.calls ko p Y D (Y * invp p D % p) _ HKO.out).mono ?_
            rintro e w' ⟨rfl, ⟨nd, rfl⟩⟩
            refine ⟨_, rfl, ?_⟩
            refine hK.out _ _ ⟨c1, c2, c3, c4⟩ (fun hHeld => ?_)
            clear hK K
            refine norm_ (a' := ?_) ?_ ?_
            rotate_left
            · show Act.put _ (some 48) _ = _
              simp only [Act.put, List.setIfInBounds_toArray, List.set_cons_zero, List.set_cons_succ, i64_w, i32_w]
              rfl
            refine one_ (i := 9) (N := some 50) #[true, true, true, true, true, true, true, true, true, true, false, false] rfl rfl (by kernel_rfl) (by decide) (fun K hK => ?_)
            refine goes_ Tryd.func57 (by kernel_rfl) rfl #[.int .u64 p, .int .u64 (Y * invp p D % p), .slice Af F.length cf] (by rfl) rfl rfl (by (try simp only [List.map_toArray, List.map_cons, List.map_nil]); first | done | rfl) ?_
            refine (HSc.out nd).mono ?_
            rintro e w5 ⟨v0, rfl, hv0, hb0⟩
            have hsz5 := Aside0.mk (show w4.heap.size ≤ w5.heap.size from hb0.size)
            have hb5 := Aside0.mk (show Below w4.heap.size w4 w5 from below_then (pw_below_drewN (pw_below_drewN (Below.refl w4.heap.size w4) 1) nd) (Nat.le_refl _) hb0)
            obtain ⟨A5, q5, e5, hq5, hC5⟩ := Kd.R_reads hv0
            cases e5
            have HC5 := Aside0.mk hC5
            have HC95 := Aside0.mk (Kd.C_below HC9.out hb5.out)
            have d1 : w5.cell? ⟨w.heap.size, 0, none⟩ = some (.int .u64 p) := pw_cell_below hb5.out c1
            have d2 : w5.cell? ⟨wr.heap.size, 1, none⟩ = some (.int .u64 Y) := pw_cell_below hb5.out c2
            have d3 : w5.cell? ⟨wr.heap.size + 1 + 1 + 1, 0, none⟩ = some (.int .u64 D) := pw_cell_below hb5.out c3
            have d4 : w5.cell? ⟨wr.heap.size + 1 + 1, 0, none⟩ = some (.slice Af F.length cf) := pw_cell_below hb5.out c4
            clear hv0 hb0 hC5
            refine ⟨_, rfl, ?_⟩
            refine hK.out _ _ ⟨d1, d2, d3, d4⟩ (fun hHeld => ?_)
            clear hK K
            refine norm_ (a' := ?_) ?_ ?_
            rotate_left
            · show Act.put _ (some 50) _ = _
              simp only [Act.put, List.setIfInBounds_toArray, List.set_cons_zero, List.set_cons_succ, i64_w, i32_w]
              rfl
            refine one_ (i := 10) (N := some 51) #[true, true, true, true, true, true, true, true, true, true, true, false] rfl rfl (by kernel_rfl) (by decide) (fun K hK => ?_)
            refine goes_ Tryd.func56 (by kernel_rfl) rfl #[.int .u64 p, .slice A9 (polSum p pts n).length c9, .slice A5 (polTerm p pts n).length q5] (by rfl) rfl rfl (by (try simp only [List.map_toArray, List.map_cons, List.map_nil]); first | done | rfl) ?_
            refine (poly_Add.walks p hp A9 c9 (polSum p pts n) A5 q5 (polTerm p pts n) HSM.out.1 HT.out.1 (by have := HSM.out.2; omega) (by have := HT.out.2; omega) w5 HC95.out hc9 HC5.out hq5 (polSum p pts (n + 1)) ka HKA.out).mono ?_
            rintro e w6 ⟨v6, rfl, hv6, hb6⟩
            have HV6 := Aside0.mk hv6
            have hb6' := Aside0.mk hb6
            have k1 : w6.cell? ⟨w.heap.size, 0, none⟩ = some (.int .u64 p) := pw_cell_below hb6 d1
            have k2 : w6.cell? ⟨wr.heap.size, 1, none⟩ = some (.int .u64 Y) := pw_cell_below hb6 d2
            have k3 : w6.cell? ⟨wr.heap.size + 1 + 1 + 1, 0, none⟩ = some (.int .u64 D) := pw_cell_below hb6 d3
            have k4 : w6.cell? ⟨wr.heap.size + 1 + 1, 0, none⟩ = some (.slice Af F.length cf) := pw_cell_below hb6 d4
            clear hv6 hb6
            refine ⟨_, rfl, ?_⟩
            refine hK.out _ _ ⟨k1, k2, k3, k4⟩ (fun hHeld => ?_)
            clear hK K
            refine norm_ (a' := ?_) ?_ ?_
            rotate_left
            · show Act.put _ (some 51) _ = _
              simp only [Act.put, List.setIfInBounds_toArray, List.set_cons_zero, List.set_cons_succ, i64_w, i32_w]
              rfl
            refine pure_ (i := 11) (N := some 9) (v := ?_) (a' := ?_) #[true, true, true, true, true, true, true, true, true, true, true, true] rfl rfl (by kernel_rfl) (fun _ _ _ h => h) (Or.inl ⟨by rfl, ?_⟩) ?_ ?_
            rotate_left
            · intro w'
              go_simp
              with_reducible rfl
            rotate_left
            · simp only [Act.put, List.setIfInBounds_toArray, List.set_cons_zero, List.set_cons_succ, i64_w, i32_w]
              rfl
            refine done_ (by kernel_rfl) ?_
            go_wp2
            go_roundg (pts.length - (n + 1))
            case measure => have := HK.out; omega
            case rel =>
              have hbb : Below wr.heap.size wr w6 := below_then (below_then HI.out.below HI.out.below.size hb5.out) (Nat.le_trans HI.out.below.size hsz5.out) hb6'.out
              refine ⟨n + 1, by go_num, ⟨by omega⟩, ⟨?_⟩, ⟨below_then HB.out HB.out.size hbb⟩⟩
              exact Kd.R_lower HV6.out (Nat.le_trans HB.out.size (Nat.le_trans HI.out.below.size hsz5.out))
          · have hd : decide ((n : Int) < (pts.length : Int)) = false := decide_eq_false (by omega)
            have hn : n = pts.length := by have := HK.out; omega
            subst hn
            obtain ⟨A9, c9, e9, hc9, hC9⟩ := Kd.R_reads HS.out
            cases e9
            have hsum := polSum_ok hp HX.out pts.length (Nat.le_refl _)
            obtain ⟨kt, hkt⟩ := (trim_ev (polSum p pts pts.length) (by omega)).rounds
            have HT := Aside0.mk (show Calls Tryd.prog 59 #[.slice A9 (polSum p pts pts.length).length c9] wr fun e w' => ∃ v0_ : Value, e = .returned v0_ ∧ Kd.R (Kd.int .u64) 22 w' wr.heap.size (fun _ => True) v0_ (polL p pts) ∧ Below wr.heap.size wr w' from poly_Trim.calls kt A9 c9 (polSum p pts pts.length) (polL p pts) wr hC9 hc9 hkt)
            clear hlt HK hsum hkt hC9
            go_wp2_with (first | (go_at_call 59; (with_reducible refine HT.out.mono ?_); rintro e w4 ⟨v4, rfl, hv4, hb4⟩))
            first | go_ret2 | ((try simp only [Exit.inBlock, Exit.then]); refine bodyPost_ret (results_tmp rfl _ _ rfl) rfl ?_)
            rw [HRR.out]
            have hb1 := below_step HB3.out HB.out
            exact ⟨_, rfl, Kd.R_lower hv4 hb1.size, below_step hb1 hb4⟩
      · have hd : decide xs.Nodup = false := decide_eq_false hnd
        have hr1 := HR1.out
        have hr2 := HR2.out
        rw [if_neg hnd] at hr1 hr2
        subst hr1 hr2
        clear hnd HR1 HR2
        go_wp2_with (first | (go_at_call 50; (with_reducible refine HU.out.mono ?_); rintro e w1 ⟨rfl, hb3⟩; have HB3 := Aside0.mk (below_step HB.out hb3); clear hb3))
        first | go_ret2 | ((try simp only [Exit.inBlock, Exit.then]); refine bodyPost_ret (results_tmp rfl _ _ rfl) rfl ?_)
        exact ⟨_, rfl, Kd.R_nil _ _ _ _ _, HB3.out⟩
end Go.Proofs.YtakaonojfpkhnaaDoor.Hw
end
section
/-
  What is proved by hand, in the printer's contract form: Add, Mul, LagrangeWeights, Polynomial.
-/
namespace Go.Proofs.YtakaonojfpkhnaaDoor.Hw
open Go.RowKit Go.Proofs.YtakaonojfpkhnaaDoor.Pr Go.Proofs.YtakaonojfpkhnaaDoorW.PrintWords Go.Proofs.YtakaonojfpkhnaaDoorW.PrintLast Go.Proofs.YtakaonojfpkhnaaDoorW.PrintMore Go.Proofs.YtakaonojfpkhnaaDoor.E
set_option linter.unusedVariables false
set_option linter.unusedSimpArgs false

def supB (p : Int) : Bool := decide (p = 31) || decide (p = 127) || decide (p = 8191) || decide (p = 131071) || decide (p = 524287) || decide (p = 2147483647) || decide (p = 2305843009213693951)
theorem supB_of {p : Int} (h : supB p = true) : Supp p := by
  simp only [supB, Bool.or_eq_true, decide_eq_true_eq] at h
  rcases h with (((((h | h) | h) | h) | h) | h) | h
  · exact ⟨5, Or.inl ⟨h, rfl⟩⟩
  · exact ⟨7, Or.inr (Or.inl ⟨h, rfl⟩)⟩
  · exact ⟨13, Or.inr (Or.inr (Or.inl ⟨h, rfl⟩))⟩
  · exact ⟨17, Or.inr (Or.inr (Or.inr (Or.inl ⟨h, rfl⟩)))⟩
  · exact ⟨19, Or.inr (Or.inr (Or.inr (Or.inr (Or.inl ⟨h, rfl⟩))))⟩
  · exact ⟨31, Or.inr (Or.inr (Or.inr (Or.inr (Or.inr (Or.inl ⟨h, rfl⟩)))))⟩
  · exact ⟨61, Or.inr (Or.inr (Or.inr (Or.inr (Or.inr (Or.inr ⟨h, rfl⟩)))))⟩
def resB (p x : Int) : Bool := decide (0 ≤ x) && decide (x < p)
theorem resB_iff {p x : Int} : resB p x = true ↔ Res p x := by simp [resB, Res]
def ptsB (p : Int) (l : List S57) : Bool := l.all fun x => resB p x.f0 && resB p x.f1
theorem ptsB_iff {p : Int} {l : List S57} : ptsB p l = true ↔ PtsOk p l := by simp [ptsB, PtsOk, resB_iff]
theorem ifs {c : Prop} [Decidable c] {α : Type} {x : Option α} {r : α} (h : (if c then x else none) = some r) : c ∧ x = some r := by
  by_cases hc : c
  · rw [if_pos hc] at h; exact ⟨hc, h⟩
  · rw [if_neg hc] at h; cases h
def interpolate_Polynomial.f (a0 : Int) (l1 : List S57) : Option (List Int × Int) :=
  if supB a0 = true then (if ptsB a0 l1 = true then (if l1.length ≤ 12 then some (if (xsOf l1).Nodup then polL a0 l1 else [], if (xsOf l1).Nodup then 0 else 1) else none) else none) else none
theorem interpolate_Polynomial.calls (a0 : Int) (A1 : Option Addr) (c1 : Nat) (l1 : List S57) (r1 : List Int) (r2 : Int) (w : World) (hr1 : Kd.C k57 w A1 l1.length l1) (hc1 : l1.length ≤ c1) (h : interpolate_Polynomial.f a0 l1 = some (r1, r2)) :
    Calls Tryd.prog 39 #[.int .u64 a0, .slice A1 l1.length c1] w fun e w' => ∃ v0_ : Value, e = .returned (.tuple #[v0_, .int .i64 r2]) ∧ Kd.R (Kd.int .u64) 22 w' w.heap.size (fun _ => True) v0_ r1 ∧ Below w.heap.size w w' := by
  unfold interpolate_Polynomial.f at h
  obtain ⟨h1, h⟩ := ifs h
  obtain ⟨h2, h⟩ := ifs h
  obtain ⟨h3, h⟩ := ifs h
  have h := Option.some.inj h
  have e1 := congrArg Prod.fst h
  have e2 := congrArg Prod.snd h
  simp only at e1 e2
  rw [← e1, ← e2]
  exact pol_walk (supB_of h1) A1 c1 l1 (ptsB_iff.1 h2) h3 w hr1 hc1
end Go.Proofs.YtakaonojfpkhnaaDoor.Hw
end
section
/- Printed by a program of this seat (the kit's printer, with the functions that were proved by hand given to it). What stands here: the functions that the statements reach, as plain functions, and that the Go code computes them. -/
namespace Go.Proofs.YtakaonojfpkhnaaDoor.Pr
open Go.RowKit Go.Proofs.YtakaonojfpkhnaaDoorW.PrintWords Go.Proofs.YtakaonojfpkhnaaDoorW.PrintLast Go.Proofs.YtakaonojfpkhnaaDoorW.PrintMore
attribute [local go_sem] max2_int min2_int max_two min_two max_three min_three max_four min_four   -- for this text's walks alone
set_option linter.unusedVariables false
set_option linter.unusedSimpArgs false

open Go.Proofs.YtakaonojfpkhnaaDoor.Hw
/-! ### privityref01_Mul: function 62 -/
/-! ### privityref01_Pow: function 60 -/
/-! ### privityref01_Inverse: function 40 -/
/-! ### privityref01_Add: function 61 -/
/-! ### privityref04_Trim: function 63 -/
end Go.Proofs.YtakaonojfpkhnaaDoor.Pr
end
section
/- Printed by a program of this seat (the kit's printer, with the functions that were proved by hand given to it). What stands here: the functions that the statements reach, as plain functions, and that the Go code computes them. -/
namespace Go.Proofs.YtakaonojfpkhnaaDoor.Pr
open Go.RowKit Go.Proofs.YtakaonojfpkhnaaDoorW.PrintWords Go.Proofs.YtakaonojfpkhnaaDoorW.PrintLast Go.Proofs.YtakaonojfpkhnaaDoorW.PrintMore
attribute [local go_sem] max2_int min2_int max_two min_two max_three min_three max_four min_four   -- for this text's walks alone
set_option linter.unusedVariables false
set_option linter.unusedSimpArgs false

open Go.Proofs.YtakaonojfpkhnaaDoor.Hw
/-! ### privityref01_Neg: function 42 -/
end Go.Proofs.YtakaonojfpkhnaaDoor.Pr
end
section
/-
  The reference of layer 1: what its printed functions answer.
-/
namespace Go.Proofs.YtakaonojfpkhnaaDoor.E
open Go.RowKit Go.Proofs.YtakaonojfpkhnaaDoor.Pr Go.Proofs.YtakaonojfpkhnaaDoor.Hw Go.Proofs.YtakaonojfpkhnaaDoorW.PrintWords Go.Proofs.YtakaonojfpkhnaaDoorW.PrintLast Go.Proofs.YtakaonojfpkhnaaDoorW.PrintMore
set_option linter.unusedVariables false
set_option linter.unusedSimpArgs false

theorem wcap {n : Int} (h : 0 ≤ n) (h2 : n < 9223372036854775808) : wrap64 n = n := by unfold wrap64; omega
theorem wnat {n : Nat} (h : n < 1099511627776) : wrap64 ((n : Int) + 1) = ((n + 1 : Nat) : Int) := by rw [wcap (by omega) (by omega)]; omega
/-- From the end back to the start. -/
theorem up {Q : Nat → Prop} {n : Nat} (hn : Q n) (hs : ∀ i, i < n → Q (i + 1) → Q i) : Q 0 := by
  have : ∀ d, d ≤ n → Q (n - d) := by
    intro d
    induction d with
    | zero => intro _; exact hn
    | succ d ih =>
      intro h
      have h1 := ih (by omega)
      refine hs (n - (d + 1)) (by omega) ?_
      rwa [show n - (d + 1) + 1 = n - d from by omega]
  have := this n (Nat.le_refl _)
  rwa [Nat.sub_self] at this
theorem exponent_eq (p : Int) : privityref01_Exponent.f 10 p = if p = 31 then some 5 else if p = 127 then some 7 else if p = 8191 then some 13 else if p = 131071 then some 17 else if p = 524287 then some 19 else if p = 2147483647 then some 31 else if p = 2305843009213693951 then some 61 else some 0 := by kernel_rfl
theorem supported_ev (p : Int) : Ev (fun k => privityref01_Supported.f k p) (supB p) := by
  refine Ev.of (fun k => privityref01_Supported.mono _ _) (k := 10) ?_
  show (privityref01_Exponent.f 10 p).bind _ = _
  rw [exponent_eq]
  unfold supB
  by_cases h1 : p = 31
  · subst h1; rfl
  by_cases h2 : p = 127
  · subst h2; rfl
  by_cases h3 : p = 8191
  · subst h3; rfl
  by_cases h4 : p = 131071
  · subst h4; rfl
  by_cases h5 : p = 524287
  · subst h5; rfl
  by_cases h6 : p = 2147483647
  · subst h6; rfl
  by_cases h7 : p = 2305843009213693951
  · subst h7; rfl
  rw [if_neg h1, if_neg h2, if_neg h3, if_neg h4, if_neg h5, if_neg h6, if_neg h7]
  simp [h1, h2, h3, h4, h5, h6, h7]
end Go.Proofs.YtakaonojfpkhnaaDoor.E
end
section
/-
  Plain mathematics: polynomials over a prime field, as lists of coefficients: values, roots, uniqueness. No program in sight.
-/
namespace Go.Proofs.YtakaonojfpkhnaaDoor.Pl
open Go.Proofs.YtakaonojfpkhnaaDoor.Fd

section
variable {p : Nat} [NeZero p]

end
end Go.Proofs.YtakaonojfpkhnaaDoor.Pl
end
section
/-
  Plain mathematics: values of lists of residues, whole numbers as residues, products of linear factors. No program in sight.
-/
namespace Go.Proofs.YtakaonojfpkhnaaDoor.Pl
open Go.Proofs.YtakaonojfpkhnaaDoor.Fd

section
variable {p : Nat} [NeZero p]

/-- The n-th power. -/
def mono (x : Fin p) : Nat → Fin p
  | 0 => 1
  | n + 1 => x * mono x n
/-- A whole number's residue. -/
def tf (p : Nat) [NeZero p] (a : Int) : Fin p := ⟨(a % (p : Int)).toNat, by
  have h : (0 : Int) < p := by have := Nat.pos_of_neZero p; omega
  have := Int.emod_lt_of_pos a h
  have := Int.emod_nonneg a (by omega : (p : Int) ≠ 0)
  omega⟩
end
end Go.Proofs.YtakaonojfpkhnaaDoor.Pl
end
section
/-
  What the hand-proved functions compute, as polynomials over the field: values, lengths, uniqueness.
-/
namespace Go.Proofs.YtakaonojfpkhnaaDoor.E
open Go.RowKit Go.Proofs.YtakaonojfpkhnaaDoor.Pr Go.Proofs.YtakaonojfpkhnaaDoor.Hw Go.Proofs.YtakaonojfpkhnaaDoor.Pl Go.Proofs.YtakaonojfpkhnaaDoorW.PrintWords Go.Proofs.YtakaonojfpkhnaaDoorW.PrintLast Go.Proofs.YtakaonojfpkhnaaDoorW.PrintMore
set_option linter.unusedVariables false
set_option linter.unusedSimpArgs false

theorem nz {p : Int} (hp : Supp p) : NeZero p.toNat := ⟨by have := hp.bd; omega⟩
section
variable {p : Int} (hp : Supp p) [NeZero p.toNat]

/-- The residue, in the field. -/
def T (p : Int) [NeZero p.toNat] (a : Int) : Fin p.toNat := tf p.toNat a
def M (p : Int) [NeZero p.toNat] (l : List Int) : List (Fin p.toNat) := l.map (T p)
end

section
variable {p : Int} (hp : Supp p) [NeZero p.toNat]
end

section
variable {p : Int} (hp : Supp p) [NeZero p.toNat]
end

end Go.Proofs.YtakaonojfpkhnaaDoor.E
end
section
/-
  Guards, sums, and the hand-proved functions' answers, for the statements.
-/
namespace Go.Proofs.YtakaonojfpkhnaaDoor.E
open Go.RowKit Go.Proofs.YtakaonojfpkhnaaDoor.Pr Go.Proofs.YtakaonojfpkhnaaDoor.Hw Go.Proofs.YtakaonojfpkhnaaDoor.Pl Go.Proofs.YtakaonojfpkhnaaDoorW.PrintWords Go.Proofs.YtakaonojfpkhnaaDoorW.PrintLast Go.Proofs.YtakaonojfpkhnaaDoorW.PrintMore
set_option linter.unusedVariables false
set_option linter.unusedSimpArgs false

/-- A check, and both ways on. -/
theorem ev_if {α : Type} {A : Nat → Option Bool} {b : Bool} (hA : Ev A b) {X Y : Nat → Option α} {r : α} (hx : b = true → Ev X r) (hy : b = false → Ev Y r) : Ev (fun k => (A k).bind fun t => if t = true then X k else Y k) r := by
  refine Ev.bind (f := fun k t => if t = true then X k else Y k) hA ?_
  cases b with
  | true => exact (hx rfl).congr fun k => if_pos rfl
  | false => exact (hy rfl).congr fun k => if_neg (by simp)
theorem ev_ite {α : Type} {c : Prop} [Decidable c] {X Y : Nat → Option α} {r : α} (hx : c → Ev X r) (hy : ¬ c → Ev Y r) : Ev (fun k => if c then X k else Y k) r := by
  by_cases h : c
  · exact (hx h).congr fun k => if_pos h
  · exact (hy h).congr fun k => if_neg h
/-- A check whose negation is handed on. -/
theorem ev_now_bind {α β : Type} {x : Option α} {a : α} (hx : x = some a) {f : Nat → α → Option β} {r : β} (h : Ev (fun k => f k a) r) : Ev (fun k => x.bind (f k)) r := by subst hx; exact h
end Go.Proofs.YtakaonojfpkhnaaDoor.E
end
section
/- Printed by a program of this seat (the kit's printer, with the functions that were proved by hand given to it). What stands here: the functions that the statements reach, as plain functions, and that the Go code computes them. -/
namespace Go.Proofs.YtakaonojfpkhnaaDoor.Pr
open Go.RowKit Go.Proofs.YtakaonojfpkhnaaDoorW.PrintWords Go.Proofs.YtakaonojfpkhnaaDoorW.PrintLast Go.Proofs.YtakaonojfpkhnaaDoorW.PrintMore
attribute [local go_sem] max2_int min2_int max_two min_two max_three min_three max_four min_four   -- for this text's walks alone
set_option linter.unusedVariables false
set_option linter.unusedSimpArgs false

open Go.Proofs.YtakaonojfpkhnaaDoor.Hw
/-! ### field_Supported: function 28 -/
def field_Supported.f (a0 : Int) : Option (Bool) := (field_Exponent.f a0).bind fun t140 => (some (t140 != 0))
set_option maxHeartbeats 8000000 in
set_option maxRecDepth 100000 in
theorem field_Supported.calls (a0 : Int) (r : Bool) (w : World) (hx_ : Hx w) (h : field_Supported.f a0 = some r) :
  Calls Tryd.prog 28 #[.int .u64 a0] w fun e w' => e = .returned (.bool r) ∧ Drawn0 w w' := by
 have HX_ := Aside0.mk hx_
 clear hx_
 have H : ((field_Exponent.f a0).bind fun t140 => (some (t140 != 0))) = some r := h
 clear h
 replace H := Option.bind_eq_some_iff.mp H
 obtain ⟨t140,A20,H⟩ := H
 replace H : (some (t140 != 0)) = some r := H
 have A2 := Aside0.mk A20
 clear A20
 obtain rfl := Option.some.inj H
 go_enter Tryd.func28,Tryd.ntmps28
 go_wp2_with (first|((with_reducible refine gate_callee (f := 45) rfl ?_);refine goesL_ (some 4) rfl rfl Tryd.func45 (by kernel_rfl) rfl #[.int .u64 a0] rfl (by (try simp only [List.map_toArray,List.map_cons,List.map_nil]);first|done|rfl|(simp only [List.length_drop,List.length_take];rfl)) ?_;(with_reducible refine (field_Exponent.calls a0 t140 _ ?sidehx A2.out).mono ?_);(case sidehx => repeat (first|exact HX_.out|exact (Hx_below HX_.out HB.out)|(with_reducible refine Hx_alloc ?_ _)|(with_reducible refine Hx_drewN ?_ _)|(with_reducible refine Hx_drew ?_)));rintro e w' ⟨rfl,⟨nd,rfl⟩⟩;refine ⟨_,rfl,?_⟩))
 go_ret
 exact ⟨by first|rfl|(simp;done)|(simp [*];done),by repeat (first|exact Drawn0.refl _|apply Drawn0.step)⟩
/-! ### params_Valid: function 10 -/
def params_Valid.f (a0_0 : Int) (a0_1 : Int) (a0_2 : Int) : Option (Bool) := (field_Supported.f a0_0).bind fun t142 => (if t142 = true then (if a0_1 ≥ 4 then (if a0_1 ≤ 13 then (if (IntKind.u64.wrap (a0_1)) < a0_0 then (if a0_2 ≥ 1 then (if a0_2 < a0_1 then (some (decide ((wrap64 (3 * a0_2)) < a0_1))) else (some false)) else (some false)) else (some false)) else (some false)) else (some false)) else (some false))
set_option maxHeartbeats 8000000 in
set_option maxRecDepth 100000 in
theorem params_Valid.calls (a0_0 : Int) (a0_1 : Int) (a0_2 : Int) (r : Bool) (w : World) (hx_ : Hx w) (h : params_Valid.f a0_0 a0_1 a0_2 = some r) :
  Calls Tryd.prog 10 #[.agg #[.int .u64 a0_0,.int .i64 a0_1,.int .i64 a0_2]] w fun e w' => e = .returned (.bool r) ∧ Below w.heap.size w w' := by
 have HX_ := Aside0.mk hx_
 clear hx_
 have hu24 := Tryd.underlying24
 have HB := Aside0.mk (Below.refl w.heap.size w)
 have H : ((field_Supported.f a0_0).bind fun t142 => (if t142 = true then (if a0_1 ≥ 4 then (if a0_1 ≤ 13 then (if (IntKind.u64.wrap (a0_1)) < a0_0 then (if a0_2 ≥ 1 then (if a0_2 < a0_1 then (some (decide ((wrap64 (3 * a0_2)) < a0_1))) else (some false)) else (some false)) else (some false)) else (some false)) else (some false)) else (some false))) = some r := h
 clear h
 replace H := Option.bind_eq_some_iff.mp H
 obtain ⟨t142,A20,H⟩ := H
 replace H : (if t142 = true then (if a0_1 ≥ 4 then (if a0_1 ≤ 13 then (if (IntKind.u64.wrap (a0_1)) < a0_0 then (if a0_2 ≥ 1 then (if a0_2 < a0_1 then (some (decide ((wrap64 (3 * a0_2)) < a0_1))) else (some false)) else (some false)) else (some false)) else (some false)) else (some false)) else (some false)) = some r := H
 have A2 := Aside0.mk A20
 clear A20
 by_cases c3 : t142 = true
 ·subst c3
  have H1 : (if a0_1 ≥ 4 then (if a0_1 ≤ 13 then (if (IntKind.u64.wrap (a0_1)) < a0_0 then (if a0_2 ≥ 1 then (if a0_2 < a0_1 then (some (decide ((wrap64 (3 * a0_2)) < a0_1))) else (some false)) else (some false)) else (some false)) else (some false)) else (some false)) = some r := by rw [if_pos rfl] at H;exact H
  clear H
  have H := H1
  clear H1
  by_cases c4 : a0_1 ≥ 4
  ·rw [if_pos c4] at H
   have c4b0 : decide (4 ≤ a0_1) = true := decide_eq_true c4
   clear c4
   by_cases c5 : a0_1 ≤ 13
   ·rw [if_pos c5] at H
    have c5b0 : decide (a0_1 ≤ 13) = true := decide_eq_true c5
    clear c5
    by_cases c6 : (IntKind.u64.wrap (a0_1)) < a0_0
    ·rw [if_pos c6] at H
     have c6b0 : decide ((IntKind.u64.wrap (a0_1)) < a0_0) = true := decide_eq_true c6
     clear c6
     by_cases c7 : a0_2 ≥ 1
     ·rw [if_pos c7] at H
      have c7b0 : decide (1 ≤ a0_2) = true := decide_eq_true c7
      clear c7
      by_cases c8 : a0_2 < a0_1
      ·rw [if_pos c8] at H
       have c8b0 : decide (a0_2 < a0_1) = true := decide_eq_true c8
       clear c8
       obtain rfl := Option.some.inj H
       go_enter Tryd.func10,Tryd.ntmps10
       go_wp2_with (first|((with_reducible refine gate_dst (N := 1) rfl ?_);refine box_event ?hg (N := 1) ?hd (cs := #[.int .u64 a0_0,.int .i64 a0_1,.int .i64 a0_2]) (t := 24) ?hr ?_;(case hd => rfl);(case hg => rfl);(case hr => first|(go_simp;done)|(go_simp;rfl));intro gb141 hg w9 hbox hb;have n0_ := Aside0.mk (below_step (by repeat (first|(with_reducible first|exact HB.out|apply below_alloc|apply pw_below_drewN|apply below_drew1)|exact HB.out)) hb);have n1_ := Aside0.mk (hbox);have n2_ := Aside0.mk ((by rw [hg];exact (below_size (by repeat (first|(with_reducible first|exact HB.out|apply below_alloc|apply pw_below_drewN|apply below_drew1)|exact HB.out))) : w.heap.size ≤ gb141));have n3_ := Aside0.mk ((by rw [hg];exact (below_size (by repeat (first|(with_reducible first|exact HB.out|apply below_alloc|apply pw_below_drewN|apply below_drew1)|exact HB.out))) : w.heap.size ≤ gb141));clear HB;have HB := n0_;have BK141 := n1_;have GW141 := n2_;have GE141 := n3_;clear n0_ n1_ n2_ n3_;clear hb hbox hg;have hcz10_0 : w9.cell? ⟨gb141,0,none⟩ = some (.int .u64 a0_0) := (blk_cell BK141.out 0).trans rfl;have hcz10_1 : w9.cell? ⟨gb141,1,none⟩ = some (.int .i64 a0_1) := (blk_cell BK141.out 1).trans rfl;have hcz10_2 : w9.cell? ⟨gb141,2,none⟩ = some (.int .i64 a0_2) := (blk_cell BK141.out 2).trans rfl;have hfz10_0 := blk_frozen BK141.out 0;have hfz10_1 := blk_frozen BK141.out 1;have hfz10_2 := blk_frozen BK141.out 2)|((with_reducible refine gate_callee (f := 28) rfl ?_);refine goesL_ (some 5) rfl rfl Tryd.func28 (by kernel_rfl) rfl #[.int .u64 a0_0] rfl (by (try simp only [List.map_toArray,List.map_cons,List.map_nil]);first|done|rfl|(simp only [List.length_drop,List.length_take];rfl)) ?_;(with_reducible refine (field_Supported.calls a0_0 true _ ?sidehx A2.out).mono ?_);(case sidehx => repeat (first|exact HX_.out|exact (Hx_below HX_.out HB.out)|(with_reducible refine Hx_alloc ?_ _)|(with_reducible refine Hx_drewN ?_ _)|(with_reducible refine Hx_drew ?_)));rintro e w' ⟨rfl,⟨nd,rfl⟩⟩;refine ⟨_,rfl,?_⟩))
       go_ret
       exact ⟨by first|rfl|(simp [errW_none,errW_some] <;> rfl)|(simp [*,errW_none,errW_some] <;> rfl),by repeat (first|(with_reducible first|exact HB.out|apply below_alloc|apply pw_below_drewN|apply below_drew1|refine below_set ?_ GE141.out)|exact HB.out)⟩
      ·rw [if_neg c8] at H
       have c8b0 : decide (a0_2 < a0_1) = false := decide_eq_false c8
       clear c8
       obtain rfl := Option.some.inj H
       go_enter Tryd.func10,Tryd.ntmps10
       go_wp2_with (first|((with_reducible refine gate_dst (N := 1) rfl ?_);refine box_event ?hg (N := 1) ?hd (cs := #[.int .u64 a0_0,.int .i64 a0_1,.int .i64 a0_2]) (t := 24) ?hr ?_;(case hd => rfl);(case hg => rfl);(case hr => first|(go_simp;done)|(go_simp;rfl));intro gb141 hg w11 hbox hb;have n0_ := Aside0.mk (below_step (by repeat (first|(with_reducible first|exact HB.out|apply below_alloc|apply pw_below_drewN|apply below_drew1)|exact HB.out)) hb);have n1_ := Aside0.mk (hbox);have n2_ := Aside0.mk ((by rw [hg];exact (below_size (by repeat (first|(with_reducible first|exact HB.out|apply below_alloc|apply pw_below_drewN|apply below_drew1)|exact HB.out))) : w.heap.size ≤ gb141));have n3_ := Aside0.mk ((by rw [hg];exact (below_size (by repeat (first|(with_reducible first|exact HB.out|apply below_alloc|apply pw_below_drewN|apply below_drew1)|exact HB.out))) : w.heap.size ≤ gb141));clear HB;have HB := n0_;have BK141 := n1_;have GW141 := n2_;have GE141 := n3_;clear n0_ n1_ n2_ n3_;clear hb hbox hg;have hcz12_0 : w11.cell? ⟨gb141,0,none⟩ = some (.int .u64 a0_0) := (blk_cell BK141.out 0).trans rfl;have hcz12_1 : w11.cell? ⟨gb141,1,none⟩ = some (.int .i64 a0_1) := (blk_cell BK141.out 1).trans rfl;have hcz12_2 : w11.cell? ⟨gb141,2,none⟩ = some (.int .i64 a0_2) := (blk_cell BK141.out 2).trans rfl;have hfz12_0 := blk_frozen BK141.out 0;have hfz12_1 := blk_frozen BK141.out 1;have hfz12_2 := blk_frozen BK141.out 2)|((with_reducible refine gate_callee (f := 28) rfl ?_);refine goesL_ (some 5) rfl rfl Tryd.func28 (by kernel_rfl) rfl #[.int .u64 a0_0] rfl (by (try simp only [List.map_toArray,List.map_cons,List.map_nil]);first|done|rfl|(simp only [List.length_drop,List.length_take];rfl)) ?_;(with_reducible refine (field_Supported.calls a0_0 true _ ?sidehx A2.out).mono ?_);(case sidehx => repeat (first|exact HX_.out|exact (Hx_below HX_.out HB.out)|(with_reducible refine Hx_alloc ?_ _)|(with_reducible refine Hx_drewN ?_ _)|(with_reducible refine Hx_drew ?_)));rintro e w' ⟨rfl,⟨nd,rfl⟩⟩;refine ⟨_,rfl,?_⟩))
       go_ret
       exact ⟨by first|rfl|(simp [errW_none,errW_some] <;> rfl)|(simp [*,errW_none,errW_some] <;> rfl),by repeat (first|(with_reducible first|exact HB.out|apply below_alloc|apply pw_below_drewN|apply below_drew1|refine below_set ?_ GE141.out)|exact HB.out)⟩
     ·rw [if_neg c7] at H
      have c7b0 : decide (1 ≤ a0_2) = false := decide_eq_false c7
      clear c7
      obtain rfl := Option.some.inj H
      go_enter Tryd.func10,Tryd.ntmps10
      go_wp2_with (first|((with_reducible refine gate_dst (N := 1) rfl ?_);refine box_event ?hg (N := 1) ?hd (cs := #[.int .u64 a0_0,.int .i64 a0_1,.int .i64 a0_2]) (t := 24) ?hr ?_;(case hd => rfl);(case hg => rfl);(case hr => first|(go_simp;done)|(go_simp;rfl));intro gb141 hg w13 hbox hb;have n0_ := Aside0.mk (below_step (by repeat (first|(with_reducible first|exact HB.out|apply below_alloc|apply pw_below_drewN|apply below_drew1)|exact HB.out)) hb);have n1_ := Aside0.mk (hbox);have n2_ := Aside0.mk ((by rw [hg];exact (below_size (by repeat (first|(with_reducible first|exact HB.out|apply below_alloc|apply pw_below_drewN|apply below_drew1)|exact HB.out))) : w.heap.size ≤ gb141));have n3_ := Aside0.mk ((by rw [hg];exact (below_size (by repeat (first|(with_reducible first|exact HB.out|apply below_alloc|apply pw_below_drewN|apply below_drew1)|exact HB.out))) : w.heap.size ≤ gb141));clear HB;have HB := n0_;have BK141 := n1_;have GW141 := n2_;have GE141 := n3_;clear n0_ n1_ n2_ n3_;clear hb hbox hg;have hcz14_0 : w13.cell? ⟨gb141,0,none⟩ = some (.int .u64 a0_0) := (blk_cell BK141.out 0).trans rfl;have hcz14_1 : w13.cell? ⟨gb141,1,none⟩ = some (.int .i64 a0_1) := (blk_cell BK141.out 1).trans rfl;have hcz14_2 : w13.cell? ⟨gb141,2,none⟩ = some (.int .i64 a0_2) := (blk_cell BK141.out 2).trans rfl;have hfz14_0 := blk_frozen BK141.out 0;have hfz14_1 := blk_frozen BK141.out 1;have hfz14_2 := blk_frozen BK141.out 2)|((with_reducible refine gate_callee (f := 28) rfl ?_);refine goesL_ (some 5) rfl rfl Tryd.func28 (by kernel_rfl) rfl #[.int .u64 a0_0] rfl (by (try simp only [List.map_toArray,List.map_cons,List.map_nil]);first|done|rfl|(simp only [List.length_drop,List.length_take];rfl)) ?_;(with_reducible refine (field_Supported.calls a0_0 true _ ?sidehx A2.out).mono ?_);(case sidehx => repeat (first|exact HX_.out|exact (Hx_below HX_.out HB.out)|(with_reducible refine Hx_alloc ?_ _)|(with_reducible refine Hx_drewN ?_ _)|(with_reducible refine Hx_drew ?_)));rintro e w' ⟨rfl,⟨nd,rfl⟩⟩;refine ⟨_,rfl,?_⟩))
      go_ret
      exact ⟨by first|rfl|(simp [errW_none,errW_some] <;> rfl)|(simp [*,errW_none,errW_some] <;> rfl),by repeat (first|(with_reducible first|exact HB.out|apply below_alloc|apply pw_below_drewN|apply below_drew1|refine below_set ?_ GE141.out)|exact HB.out)⟩
    ·rw [if_neg c6] at H
     have c6b0 : decide ((IntKind.u64.wrap (a0_1)) < a0_0) = false := decide_eq_false c6
     clear c6
     obtain rfl := Option.some.inj H
     go_enter Tryd.func10,Tryd.ntmps10
     go_wp2_with (first|((with_reducible refine gate_dst (N := 1) rfl ?_);refine box_event ?hg (N := 1) ?hd (cs := #[.int .u64 a0_0,.int .i64 a0_1,.int .i64 a0_2]) (t := 24) ?hr ?_;(case hd => rfl);(case hg => rfl);(case hr => first|(go_simp;done)|(go_simp;rfl));intro gb141 hg w15 hbox hb;have n0_ := Aside0.mk (below_step (by repeat (first|(with_reducible first|exact HB.out|apply below_alloc|apply pw_below_drewN|apply below_drew1)|exact HB.out)) hb);have n1_ := Aside0.mk (hbox);have n2_ := Aside0.mk ((by rw [hg];exact (below_size (by repeat (first|(with_reducible first|exact HB.out|apply below_alloc|apply pw_below_drewN|apply below_drew1)|exact HB.out))) : w.heap.size ≤ gb141));have n3_ := Aside0.mk ((by rw [hg];exact (below_size (by repeat (first|(with_reducible first|exact HB.out|apply below_alloc|apply pw_below_drewN|apply below_drew1)|exact HB.out))) : w.heap.size ≤ gb141));clear HB;have HB := n0_;have BK141 := n1_;have GW141 := n2_;have GE141 := n3_;clear n0_ n1_ n2_ n3_;clear hb hbox hg;have hcz16_0 : w15.cell? ⟨gb141,0,none⟩ = some (.int .u64 a0_0) := (blk_cell BK141.out 0).trans rfl;have hcz16_1 : w15.cell? ⟨gb141,1,none⟩ = some (.int .i64 a0_1) := (blk_cell BK141.out 1).trans rfl;have hcz16_2 : w15.cell? ⟨gb141,2,none⟩ = some (.int .i64 a0_2) := (blk_cell BK141.out 2).trans rfl;have hfz16_0 := blk_frozen BK141.out 0;have hfz16_1 := blk_frozen BK141.out 1;have hfz16_2 := blk_frozen BK141.out 2)|((with_reducible refine gate_callee (f := 28) rfl ?_);refine goesL_ (some 5) rfl rfl Tryd.func28 (by kernel_rfl) rfl #[.int .u64 a0_0] rfl (by (try simp only [List.map_toArray,List.map_cons,List.map_nil]);first|done|rfl|(simp only [List.length_drop,List.length_take];rfl)) ?_;(with_reducible refine (field_Supported.calls a0_0 true _ ?sidehx A2.out).mono ?_);(case sidehx => repeat (first|exact HX_.out|exact (Hx_below HX_.out HB.out)|(with_reducible refine Hx_alloc ?_ _)|(with_reducible refine Hx_drewN ?_ _)|(with_reducible refine Hx_drew ?_)));rintro e w' ⟨rfl,⟨nd,rfl⟩⟩;refine ⟨_,rfl,?_⟩))
     go_ret
     exact ⟨by first|rfl|(simp [errW_none,errW_some] <;> rfl)|(simp [*,errW_none,errW_some] <;> rfl),by repeat (first|(with_reducible first|exact HB.out|apply below_alloc|apply pw_below_drewN|apply below_drew1|refine below_set ?_ GE141.out)|exact HB.out)⟩
   ·rw [if_neg c5] at H
    have c5b0 : decide (a0_1 ≤ 13) = false := decide_eq_false c5
    clear c5
    obtain rfl := Option.some.inj H
    go_enter Tryd.func10,Tryd.ntmps10
    go_wp2_with (first|((with_reducible refine gate_dst (N := 1) rfl ?_);refine box_event ?hg (N := 1) ?hd (cs := #[.int .u64 a0_0,.int .i64 a0_1,.int .i64 a0_2]) (t := 24) ?hr ?_;(case hd => rfl);(case hg => rfl);(case hr => first|(go_simp;done)|(go_simp;rfl));intro gb141 hg w17 hbox hb;have n0_ := Aside0.mk (below_step (by repeat (first|(with_reducible first|exact HB.out|apply below_alloc|apply pw_below_drewN|apply below_drew1)|exact HB.out)) hb);have n1_ := Aside0.mk (hbox);have n2_ := Aside0.mk ((by rw [hg];exact (below_size (by repeat (first|(with_reducible first|exact HB.out|apply below_alloc|apply pw_below_drewN|apply below_drew1)|exact HB.out))) : w.heap.size ≤ gb141));have n3_ := Aside0.mk ((by rw [hg];exact (below_size (by repeat (first|(with_reducible first|exact HB.out|apply below_alloc|apply pw_below_drewN|apply below_drew1)|exact HB.out))) : w.heap.size ≤ gb141));clear HB;have HB := n0_;have BK141 := n1_;have GW141 := n2_;have GE141 := n3_;clear n0_ n1_ n2_ n3_;clear hb hbox hg;have hcz18_0 : w17.cell? ⟨gb141,0,none⟩ = some (.int .u64 a0_0) := (blk_cell BK141.out 0).trans rfl;have hcz18_1 : w17.cell? ⟨gb141,1,none⟩ = some (.int .i64 a0_1) := (blk_cell BK141.out 1).trans rfl;have hcz18_2 : w17.cell? ⟨gb141,2,none⟩ = some (.int .i64 a0_2) := (blk_cell BK141.out 2).trans rfl;have hfz18_0 := blk_frozen BK141.out 0;have hfz18_1 := blk_frozen BK141.out 1;have hfz18_2 := blk_frozen BK141.out 2)|((with_reducible refine gate_callee (f := 28) rfl ?_);refine goesL_ (some 5) rfl rfl Tryd.func28 (by kernel_rfl) rfl #[.int .u64 a0_0] rfl (by (try simp only [List.map_toArray,List.map_cons,List.map_nil]);first|done|rfl|(simp only [List.length_drop,List.length_take];rfl)) ?_;(with_reducible refine (field_Supported.calls a0_0 true _ ?sidehx A2.out).mono ?_);(case sidehx => repeat (first|exact HX_.out|exact (Hx_below HX_.out HB.out)|(with_reducible refine Hx_alloc ?_ _)|(with_reducible refine Hx_drewN ?_ _)|(with_reducible refine Hx_drew ?_)));rintro e w' ⟨rfl,⟨nd,rfl⟩⟩;refine ⟨_,rfl,?_⟩))
    go_ret
    exact ⟨by first|rfl|(simp [errW_none,errW_some] <;> rfl)|(simp [*,errW_none,errW_some] <;> rfl),by repeat (first|(with_reducible first|exact HB.out|apply below_alloc|apply pw_below_drewN|apply below_drew1|refine below_set ?_ GE141.out)|exact HB.out)⟩
  ·rw [if_neg c4] at H
   have c4b0 : decide (4 ≤ a0_1) = false := decide_eq_false c4
   clear c4
   obtain rfl := Option.some.inj H
   go_enter Tryd.func10,Tryd.ntmps10
   go_wp2_with (first|((with_reducible refine gate_dst (N := 1) rfl ?_);refine box_event ?hg (N := 1) ?hd (cs := #[.int .u64 a0_0,.int .i64 a0_1,.int .i64 a0_2]) (t := 24) ?hr ?_;(case hd => rfl);(case hg => rfl);(case hr => first|(go_simp;done)|(go_simp;rfl));intro gb141 hg w19 hbox hb;have n0_ := Aside0.mk (below_step (by repeat (first|(with_reducible first|exact HB.out|apply below_alloc|apply pw_below_drewN|apply below_drew1)|exact HB.out)) hb);have n1_ := Aside0.mk (hbox);have n2_ := Aside0.mk ((by rw [hg];exact (below_size (by repeat (first|(with_reducible first|exact HB.out|apply below_alloc|apply pw_below_drewN|apply below_drew1)|exact HB.out))) : w.heap.size ≤ gb141));have n3_ := Aside0.mk ((by rw [hg];exact (below_size (by repeat (first|(with_reducible first|exact HB.out|apply below_alloc|apply pw_below_drewN|apply below_drew1)|exact HB.out))) : w.heap.size ≤ gb141));clear HB;have HB := n0_;have BK141 := n1_;have GW141 := n2_;have GE141 := n3_;clear n0_ n1_ n2_ n3_;clear hb hbox hg;have hcz20_0 : w19.cell? ⟨gb141,0,none⟩ = some (.int .u64 a0_0) := (blk_cell BK141.out 0).trans rfl;have hcz20_1 : w19.cell? ⟨gb141,1,none⟩ = some (.int .i64 a0_1) := (blk_cell BK141.out 1).trans rfl;have hcz20_2 : w19.cell? ⟨gb141,2,none⟩ = some (.int .i64 a0_2) := (blk_cell BK141.out 2).trans rfl;have hfz20_0 := blk_frozen BK141.out 0;have hfz20_1 := blk_frozen BK141.out 1;have hfz20_2 := blk_frozen BK141.out 2)|((with_reducible refine gate_callee (f := 28) rfl ?_);refine goesL_ (some 5) rfl rfl Tryd.func28 (by kernel_rfl) rfl #[.int .u64 a0_0] rfl (by (try simp only [List.map_toArray,List.map_cons,List.map_nil]);first|done|rfl|(simp only [List.length_drop,List.length_take];rfl)) ?_;(with_reducible refine (field_Supported.calls a0_0 true _ ?sidehx A2.out).mono ?_);(case sidehx => repeat (first|exact HX_.out|exact (Hx_below HX_.out HB.out)|(with_reducible refine Hx_alloc ?_ _)|(with_reducible refine Hx_drewN ?_ _)|(with_reducible refine Hx_drew ?_)));rintro e w' ⟨rfl,⟨nd,rfl⟩⟩;refine ⟨_,rfl,?_⟩))
   go_ret
   exact ⟨by first|rfl|(simp [errW_none,errW_some] <;> rfl)|(simp [*,errW_none,errW_some] <;> rfl),by repeat (first|(with_reducible first|exact HB.out|apply below_alloc|apply pw_below_drewN|apply below_drew1|refine below_set ?_ GE141.out)|exact HB.out)⟩
 ·replace c3 := Bool.eq_false_iff.mpr c3
  subst c3
  have H1 : (some false) = some r := by rw [if_neg (show ¬ (false = true) by decide)] at H;exact H
  clear H
  have H := H1
  clear H1
  obtain rfl := Option.some.inj H
  go_enter Tryd.func10,Tryd.ntmps10
  go_wp2_with (first|((with_reducible refine gate_dst (N := 1) rfl ?_);refine box_event ?hg (N := 1) ?hd (cs := #[.int .u64 a0_0,.int .i64 a0_1,.int .i64 a0_2]) (t := 24) ?hr ?_;(case hd => rfl);(case hg => rfl);(case hr => first|(go_simp;done)|(go_simp;rfl));intro gb141 hg w21 hbox hb;have n0_ := Aside0.mk (below_step (by repeat (first|(with_reducible first|exact HB.out|apply below_alloc|apply pw_below_drewN|apply below_drew1)|exact HB.out)) hb);have n1_ := Aside0.mk (hbox);have n2_ := Aside0.mk ((by rw [hg];exact (below_size (by repeat (first|(with_reducible first|exact HB.out|apply below_alloc|apply pw_below_drewN|apply below_drew1)|exact HB.out))) : w.heap.size ≤ gb141));have n3_ := Aside0.mk ((by rw [hg];exact (below_size (by repeat (first|(with_reducible first|exact HB.out|apply below_alloc|apply pw_below_drewN|apply below_drew1)|exact HB.out))) : w.heap.size ≤ gb141));clear HB;have HB := n0_;have BK141 := n1_;have GW141 := n2_;have GE141 := n3_;clear n0_ n1_ n2_ n3_;clear hb hbox hg;have hcz22_0 : w21.cell? ⟨gb141,0,none⟩ = some (.int .u64 a0_0) := (blk_cell BK141.out 0).trans rfl;have hcz22_1 : w21.cell? ⟨gb141,1,none⟩ = some (.int .i64 a0_1) := (blk_cell BK141.out 1).trans rfl;have hcz22_2 : w21.cell? ⟨gb141,2,none⟩ = some (.int .i64 a0_2) := (blk_cell BK141.out 2).trans rfl;have hfz22_0 := blk_frozen BK141.out 0;have hfz22_1 := blk_frozen BK141.out 1;have hfz22_2 := blk_frozen BK141.out 2)|((with_reducible refine gate_callee (f := 28) rfl ?_);refine goesL_ (some 5) rfl rfl Tryd.func28 (by kernel_rfl) rfl #[.int .u64 a0_0] rfl (by (try simp only [List.map_toArray,List.map_cons,List.map_nil]);first|done|rfl|(simp only [List.length_drop,List.length_take];rfl)) ?_;(with_reducible refine (field_Supported.calls a0_0 false _ ?sidehx A2.out).mono ?_);(case sidehx => repeat (first|exact HX_.out|exact (Hx_below HX_.out HB.out)|(with_reducible refine Hx_alloc ?_ _)|(with_reducible refine Hx_drewN ?_ _)|(with_reducible refine Hx_drew ?_)));rintro e w' ⟨rfl,⟨nd,rfl⟩⟩;refine ⟨_,rfl,?_⟩))
  go_ret
  exact ⟨by first|rfl|(simp [errW_none,errW_some] <;> rfl)|(simp [*,errW_none,errW_some] <;> rfl),by repeat (first|(with_reducible first|exact HB.out|apply below_alloc|apply pw_below_drewN|apply below_drew1|refine below_set ?_ GE141.out)|exact HB.out)⟩
end Go.Proofs.YtakaonojfpkhnaaDoor.Pr
end
section
/- Printed by a program of this seat (the kit's printer, with the functions that were proved by hand given to it). What stands here: the functions that the statements reach, as plain functions, and that the Go code computes them. -/
namespace Go.Proofs.YtakaonojfpkhnaaDoor.Pr
open Go.RowKit Go.Proofs.YtakaonojfpkhnaaDoorW.PrintWords Go.Proofs.YtakaonojfpkhnaaDoorW.PrintLast Go.Proofs.YtakaonojfpkhnaaDoorW.PrintMore
attribute [local go_sem] max2_int min2_int max_two min_two max_three min_three max_four min_four   -- for this text's walks alone
set_option linter.unusedVariables false
set_option linter.unusedSimpArgs false

open Go.Proofs.YtakaonojfpkhnaaDoor.Hw
/-! ### params_ValidCoalition: function 12 -/
mutual
def params_ValidCoalition.j0 : Nat → List Int → Bool → Int → Int → Int → Option (Bool)
 | 0,_,_,_,_,_ => none
 | k + 1,x1,x16,x144000,x144001,x144002 => if x16 = true then (some false) else (params_ValidCoalition.l0 k x1 x1 (x1.length : Int) 0 x144000 x144001 x144002)
def params_ValidCoalition.l0 : Nat → List Int → List Int → Int → Int → Int → Int → Int → Option (Bool)
 | 0,_,_,_,_,_,_,_ => none
 | k + 1,x1,x17,x18,x19,x144000,x144001,x144002 => if x19 < x18 then (if 0 ≤ x19 then (if x19 < (x17.length : Int) then (if (rd x17 x19) < 1 then (some false) else (if (rd x17 x19) > x144001 then (some false) else (if x19 > 0 then (if 0 ≤ (wrap64 (x19 - 1)) then (if (wrap64 (x19 - 1)) < (x1.length : Int) then (if (rd x1 (wrap64 (x19 - 1))) ≥ (rd x17 x19) then (some false) else (params_ValidCoalition.l0 k x1 x17 x18 (wrap64 (x19 + 1)) x144000 x144001 x144002)) else (none)) else (none)) else (params_ValidCoalition.l0 k x1 x17 x18 (wrap64 (x19 + 1)) x144000 x144001 x144002)))) else (none)) else (none)) else (some true)
end
def params_ValidCoalition.f (k : Nat) (a0_0 : Int) (a0_1 : Int) (a0_2 : Int) (l1 : List Int) : Option (Bool) := (params_Valid.f a0_0 a0_1 a0_2).bind fun t144 => (if t144 = true then (params_ValidCoalition.j0 k l1 (decide ((l1.length : Int) > a0_2)) a0_0 a0_1 a0_2) else (params_ValidCoalition.j0 k l1 true a0_0 a0_1 a0_2))
set_option maxHeartbeats 8000000 in
set_option maxRecDepth 100000 in
theorem params_ValidCoalition.calls (k : Nat) (a0_0 : Int) (a0_1 : Int) (a0_2 : Int) (A1 : Option Addr) (c1 : Nat) (l1 : List Int) (r : Bool) (w : World) (hr1 : Kd.C (Kd.int .i64) w A1 l1.length l1) (hc1 : l1.length ≤ c1) (hx_ : Hx w) (h : params_ValidCoalition.f k a0_0 a0_1 a0_2 l1 = some r) :
  Calls Tryd.prog 12 #[.agg #[.int .u64 a0_0,.int .i64 a0_1,.int .i64 a0_2],.slice A1 l1.length c1] w fun e w' => e = .returned (.bool r) ∧ Below w.heap.size w w' := by
 have HX_ := Aside0.mk hx_
 clear hx_
 have hu24 := Tryd.underlying24
 have HR1 := Aside0.mk hr1
 have HC1 := Aside0.mk hc1
 clear hr1 hc1
 have HB := Aside0.mk (Below.refl w.heap.size w)
 have H : ((params_Valid.f a0_0 a0_1 a0_2).bind fun t144 => (if t144 = true then (params_ValidCoalition.j0 k l1 (decide ((l1.length : Int) > a0_2)) a0_0 a0_1 a0_2) else (params_ValidCoalition.j0 k l1 true a0_0 a0_1 a0_2))) = some r := h
 clear h
 have HC3 := Aside0.mk H
 clear H
 go_enter Tryd.func12,Tryd.ntmps12
 go_upto_region 1 with (first|((with_reducible refine gate_dst (N := 2) rfl ?_);(try (refine gate_guard (by rfl) ?_;dsimp only));refine box_event ?hg (N := 2) ?hd (cs := #[.int .u64 a0_0,.int .i64 a0_1,.int .i64 a0_2]) (t := 24) ?hr ?_;(case hd => rfl);(case hg => rfl);(case hr => first|(go_simp;done)|(go_simp;rfl));intro gb143 hg w4 hbox hb;have n0_ := Aside0.mk (below_step (by repeat (first|(with_reducible first|exact HB.out|apply below_alloc|apply pw_below_drewN|apply below_drew1)|exact HB.out)) hb);have n1_ := Aside0.mk (hbox);have n2_ := Aside0.mk ((by rw [hg];exact (below_size (by repeat (first|(with_reducible first|exact HB.out|apply below_alloc|apply pw_below_drewN|apply below_drew1)|exact HB.out))) : w.heap.size ≤ gb143));have n3_ := Aside0.mk ((by rw [hg];exact (below_size (by repeat (first|(with_reducible first|exact HB.out|apply below_alloc|apply pw_below_drewN|apply below_drew1)|exact HB.out))) : w.heap.size ≤ gb143));clear HB;have HB := n0_;have BK143 := n1_;have GW143 := n2_;have GE143 := n3_;clear n0_ n1_ n2_ n3_;clear hb hbox hg))
 (try simp only [Act.put,List.setIfInBounds_toArray,List.set_cons_zero,List.set_cons_succ])
 go_cut [16] (fun v16 wc => ∃ (kq : Nat) (x16_2 : Bool),v16 = .bool x16_2 ∧ Aside0 (params_ValidCoalition.j0 kq l1 x16_2 a0_0 a0_1 a0_2 = some r) ∧ Aside0 (kq ≤ k) ∧ Aside0 (wc.heap[gb143]? = some (.cells #[.int .u64 a0_0,.int .i64 a0_1,.int .i64 a0_2] 24 (0,0))) ∧ Aside0 (Below w.heap.size w wc))
 case first =>
  have H := HC3.out
  clear HC3
  replace H := Option.bind_eq_some_iff.mp H
  obtain ⟨t144,A50,H⟩ := H
  replace H : (if t144 = true then (params_ValidCoalition.j0 k l1 (decide ((l1.length : Int) > a0_2)) a0_0 a0_1 a0_2) else (params_ValidCoalition.j0 k l1 true a0_0 a0_1 a0_2)) = some r := H
  have A5 := Aside0.mk A50
  clear A50
  by_cases c6 : t144 = true
  ·subst c6
   have H1 : (params_ValidCoalition.j0 k l1 (decide ((l1.length : Int) > a0_2)) a0_0 a0_1 a0_2) = some r := by rw [if_pos rfl] at H;exact H
   clear H
   have H := H1
   clear H1
   have H' := Aside0.mk H
   clear H
   have hcz7_0 : w4.cell? ⟨gb143,0,none⟩ = some (.int .u64 a0_0) := (blk_cell BK143.out 0).trans rfl
   have hcz7_1 : w4.cell? ⟨gb143,1,none⟩ = some (.int .i64 a0_1) := (blk_cell BK143.out 1).trans rfl
   have hcz7_2 : w4.cell? ⟨gb143,2,none⟩ = some (.int .i64 a0_2) := (blk_cell BK143.out 2).trans rfl
   have hfz7_0 := blk_frozen BK143.out 0
   have hfz7_1 := blk_frozen BK143.out 1
   have hfz7_2 := blk_frozen BK143.out 2
   go_wp2_with (first|((with_reducible refine gate_callee (f := 10) rfl ?_);refine goesL_ (some 8) rfl rfl Tryd.func10 (by kernel_rfl) rfl #[.agg #[.int .u64 a0_0,.int .i64 a0_1,.int .i64 a0_2]] rfl (by (try simp only [List.map_toArray,List.map_cons,List.map_nil]);first|done|rfl|(simp only [List.length_drop,List.length_take];rfl)) ?_;(with_reducible refine (params_Valid.calls a0_0 a0_1 a0_2 true _ ?sidehx A5.out).mono ?_);(case sidehx => repeat (first|exact HX_.out|exact (Hx_below HX_.out HB.out)|(with_reducible refine Hx_alloc ?_ _)|(with_reducible refine Hx_drewN ?_ _)|(with_reducible refine Hx_drew ?_)));rintro e w8 ⟨rfl,hb⟩;refine ⟨_,rfl,?_⟩;have n0_ := Aside0.mk (blk_below (g := gb143) (o := .cells #[.int .u64 a0_0,.int .i64 a0_1,.int .i64 a0_2] 24 (0,0)) (by (with_reducible repeat (first|refine blk_drewN ?_ _|refine blk_drew ?_|refine blk_alloc ?_ _));exact BK143.out) hb);have n1_ := Aside0.mk (below_step (by repeat (first|(with_reducible first|exact HB.out|apply below_alloc|apply pw_below_drewN|apply below_drew1|refine below_set ?_ GE143.out)|exact HB.out)) hb);clear BK143;clear HB;have BK143 := n0_;have HB := n1_;clear n0_ n1_;(try clear hb);(try clear hb2);(try clear hk);(try clear hi);have hcz9_0 : w8.cell? ⟨gb143,0,none⟩ = some (.int .u64 a0_0) := (blk_cell BK143.out 0).trans rfl;have hcz9_1 : w8.cell? ⟨gb143,1,none⟩ = some (.int .i64 a0_1) := (blk_cell BK143.out 1).trans rfl;have hcz9_2 : w8.cell? ⟨gb143,2,none⟩ = some (.int .i64 a0_2) := (blk_cell BK143.out 2).trans rfl;have hfz9_0 := blk_frozen BK143.out 0;have hfz9_1 := blk_frozen BK143.out 1;have hfz9_2 := blk_frozen BK143.out 2))
   go_meet
   case rel => exact ⟨_,(decide ((l1.length : Int) > a0_2)),(by first|rfl|(simp;done)|(simp [*];done)),H',⟨by first|omega|exact Nat.le_refl _⟩,⟨by (with_reducible repeat (first|refine blk_drewN ?_ _|refine blk_drew ?_|refine blk_alloc ?_ _));exact BK143.out⟩,⟨by repeat (first|(with_reducible first|exact HB.out|apply below_alloc|apply pw_below_drewN|apply below_drew1|refine below_set ?_ GE143.out)|exact HB.out)⟩⟩
  ·replace c6 := Bool.eq_false_iff.mpr c6
   subst c6
   have H1 : (params_ValidCoalition.j0 k l1 true a0_0 a0_1 a0_2) = some r := by rw [if_neg (show ¬ (false = true) by decide)] at H;exact H
   clear H
   have H := H1
   clear H1
   have H' := Aside0.mk H
   clear H
   have hcz10_0 : w4.cell? ⟨gb143,0,none⟩ = some (.int .u64 a0_0) := (blk_cell BK143.out 0).trans rfl
   have hcz10_1 : w4.cell? ⟨gb143,1,none⟩ = some (.int .i64 a0_1) := (blk_cell BK143.out 1).trans rfl
   have hcz10_2 : w4.cell? ⟨gb143,2,none⟩ = some (.int .i64 a0_2) := (blk_cell BK143.out 2).trans rfl
   have hfz10_0 := blk_frozen BK143.out 0
   have hfz10_1 := blk_frozen BK143.out 1
   have hfz10_2 := blk_frozen BK143.out 2
   go_wp2_with (first|((with_reducible refine gate_callee (f := 10) rfl ?_);refine goesL_ (some 8) rfl rfl Tryd.func10 (by kernel_rfl) rfl #[.agg #[.int .u64 a0_0,.int .i64 a0_1,.int .i64 a0_2]] rfl (by (try simp only [List.map_toArray,List.map_cons,List.map_nil]);first|done|rfl|(simp only [List.length_drop,List.length_take];rfl)) ?_;(with_reducible refine (params_Valid.calls a0_0 a0_1 a0_2 false _ ?sidehx A5.out).mono ?_);(case sidehx => repeat (first|exact HX_.out|exact (Hx_below HX_.out HB.out)|(with_reducible refine Hx_alloc ?_ _)|(with_reducible refine Hx_drewN ?_ _)|(with_reducible refine Hx_drew ?_)));rintro e w11 ⟨rfl,hb⟩;refine ⟨_,rfl,?_⟩;have n0_ := Aside0.mk (blk_below (g := gb143) (o := .cells #[.int .u64 a0_0,.int .i64 a0_1,.int .i64 a0_2] 24 (0,0)) (by (with_reducible repeat (first|refine blk_drewN ?_ _|refine blk_drew ?_|refine blk_alloc ?_ _));exact BK143.out) hb);have n1_ := Aside0.mk (below_step (by repeat (first|(with_reducible first|exact HB.out|apply below_alloc|apply pw_below_drewN|apply below_drew1|refine below_set ?_ GE143.out)|exact HB.out)) hb);clear BK143;clear HB;have BK143 := n0_;have HB := n1_;clear n0_ n1_;(try clear hb);(try clear hb2);(try clear hk);(try clear hi)))
   go_meet
   case rel => exact ⟨_,(true),(by first|rfl|(simp;done)|(simp [*];done)),H',⟨by first|omega|exact Nat.le_refl _⟩,⟨by (with_reducible repeat (first|refine blk_drewN ?_ _|refine blk_drew ?_|refine blk_alloc ?_ _));exact BK143.out⟩,⟨by repeat (first|(with_reducible first|exact HB.out|apply below_alloc|apply pw_below_drewN|apply below_drew1|refine below_set ?_ GE143.out)|exact HB.out)⟩⟩
 case rest =>
  clear HC3
  try clear c1
  try clear p2
  try clear c6
  try clear c10
  try clear hcz10_0
  try clear hcz10_1
  try clear hcz10_2
  try clear hcz7_0
  try clear hcz7_1
  try clear hcz7_2
  try clear hcz9_0
  try clear hcz9_1
  try clear hcz9_2
  try clear hfz10_0
  try clear hfz10_1
  try clear hfz10_2
  try clear hfz7_0
  try clear hfz7_1
  try clear hfz7_2
  try clear hfz9_0
  try clear hfz9_1
  try clear hfz9_2
  obtain ⟨kq,x16_2,rfl,HA,HJ2,BK143,HB⟩ := hcut
  cases kq with
  | zero => exact absurd HA.out (by simp [params_ValidCoalition.j0])
  | succ kj2 =>
   have H := HA.out
   clear HA
   simp only [params_ValidCoalition.j0] at H
   by_cases c12 : x16_2 = true
   ·subst c12
    have H1 : (some false) = some r := by rw [if_pos rfl] at H;exact H
    clear H
    have H := H1
    clear H1
    obtain rfl := Option.some.inj H
    go_wp2
    go_ret
    exact ⟨by first|rfl|(simp [errW_none,errW_some] <;> rfl)|(simp [*,errW_none,errW_some] <;> rfl),by repeat (first|(with_reducible first|exact HB.out|apply below_alloc|apply pw_below_drewN|apply below_drew1|refine below_set ?_ GE143.out)|exact HB.out)⟩
   ·replace c12 := Bool.eq_false_iff.mpr c12
    subst c12
    have H1 : (params_ValidCoalition.l0 kj2 l1 l1 (l1.length : Int) 0 a0_0 a0_1 a0_2) = some r := by rw [if_neg (show ¬ (false = true) by decide)] at H;exact H
    clear H
    have H := H1
    clear H1
    have H' := Aside0.mk H
    clear H
    go_wp2
    go_loopg [19] kj2 (fun kq v19 w' => ∃ (x19_2 : Int),v19 = .int .i64 x19_2 ∧ Aside0 (params_ValidCoalition.l0 kq l1 l1 (l1.length : Int) x19_2 a0_0 a0_1 a0_2 = some r) ∧ Aside0 (kq ≤ kj2) ∧ Aside0 (w'.heap[gb143]? = some (.cells #[.int .u64 a0_0,.int .i64 a0_1,.int .i64 a0_2] 24 (0,0))) ∧ Aside0 (Below w.heap.size w w'))
    case atStart => exact ⟨(0),(by first|rfl|(simp;done)|(simp [*];done)),H',⟨Nat.le_refl _⟩,⟨by (with_reducible repeat (first|refine blk_drewN ?_ _|refine blk_drew ?_|refine blk_alloc ?_ _));exact BK143.out⟩,⟨by repeat (first|(with_reducible first|exact HB.out|apply below_alloc|apply pw_below_drewN|apply below_drew1|refine below_set ?_ GE143.out)|exact HB.out)⟩⟩
    case round =>
     clear H'
     try clear c1
     try clear p2
     try clear c6
     try clear c10
     try clear c12
     try clear hcz10_0
     try clear hcz10_1
     try clear hcz10_2
     try clear hcz7_0
     try clear hcz7_1
     try clear hcz7_2
     try clear hcz9_0
     try clear hcz9_1
     try clear hcz9_2
     try clear hfz10_0
     try clear hfz10_1
     try clear hfz10_2
     try clear hfz7_0
     try clear hfz7_1
     try clear hfz7_2
     try clear hfz9_0
     try clear hfz9_1
     try clear hfz9_2
     try clear p2
     obtain ⟨x19_2,rfl,HA,HK2,BK143,HB⟩ := hrel
     cases gk with
     | zero => exact absurd HA.out (by simp [params_ValidCoalition.l0])
     | succ k2 =>
      have H := HA.out
      clear HA
      simp only [params_ValidCoalition.l0] at H
      by_cases c13 : x19_2 < (l1.length : Int)
      ·rw [if_pos c13] at H
       have c13b0 : decide (x19_2 < (l1.length : Int)) = true := decide_eq_true c13
       clear c13
       by_cases c14 : 0 ≤ x19_2
       ·rw [if_pos c14] at H
        have c14b0 : decide (0 ≤ x19_2) = true := decide_eq_true c14
        clear c14
        by_cases c15 : x19_2 < (l1.length : Int)
        ·rw [if_pos c15] at H
         have c15b0 : decide (x19_2 < (l1.length : Int)) = true := decide_eq_true c15
         clear c15
         by_cases c16 : (rd l1 x19_2) < 1
         ·rw [if_pos c16] at H
          have c16b0 : decide ((rd l1 x19_2) < 1) = true := decide_eq_true c16
          clear c16
          obtain rfl := Option.some.inj H
          have p145 : 0 ≤ (x19_2 : Int) := of_decide_eq_true (by first|(with_reducible assumption)|assumption)
          have q145 : x19_2 < (l1.length : Int) := of_decide_eq_true (by first|(with_reducible assumption)|assumption)
          obtain ⟨ad145,e145,hx145_0⟩ := Kd.at_int HR1.out x19_2 p145 q145
          cases e145
          replace hx145_0 := (HB.out.cell (World.block_lt_of_cell? w _ hx145_0)).trans hx145_0
          replace p145 := eq_true p145
          replace q145 := eq_true q145
          go_wp2
          go_ret
          exact ⟨by first|rfl|(simp [errW_none,errW_some] <;> rfl)|(simp [*,errW_none,errW_some] <;> rfl),by repeat (first|(with_reducible first|exact HB.out|apply below_alloc|apply pw_below_drewN|apply below_drew1|refine below_set ?_ GE143.out)|exact HB.out)⟩
         ·rw [if_neg c16] at H
          have c16b0 : decide ((rd l1 x19_2) < 1) = false := decide_eq_false c16
          clear c16
          by_cases c17 : (rd l1 x19_2) > a0_1
          ·rw [if_pos c17] at H
           have c17b0 : decide (a0_1 < (rd l1 x19_2)) = true := decide_eq_true c17
           clear c17
           obtain rfl := Option.some.inj H
           have p145 : 0 ≤ (x19_2 : Int) := of_decide_eq_true (by first|(with_reducible assumption)|assumption)
           have q145 : x19_2 < (l1.length : Int) := of_decide_eq_true (by first|(with_reducible assumption)|assumption)
           obtain ⟨ad145,e145,hx145_0⟩ := Kd.at_int HR1.out x19_2 p145 q145
           cases e145
           replace hx145_0 := (HB.out.cell (World.block_lt_of_cell? w _ hx145_0)).trans hx145_0
           replace p145 := eq_true p145
           replace q145 := eq_true q145
           have hcz18_0 : wr.cell? ⟨gb143,0,none⟩ = some (.int .u64 a0_0) := (blk_cell BK143.out 0).trans rfl
           have hcz18_1 : wr.cell? ⟨gb143,1,none⟩ = some (.int .i64 a0_1) := (blk_cell BK143.out 1).trans rfl
           have hcz18_2 : wr.cell? ⟨gb143,2,none⟩ = some (.int .i64 a0_2) := (blk_cell BK143.out 2).trans rfl
           have hfz18_0 := blk_frozen BK143.out 0
           have hfz18_1 := blk_frozen BK143.out 1
           have hfz18_2 := blk_frozen BK143.out 2
           go_wp2
           go_ret
           exact ⟨by first|rfl|(simp [errW_none,errW_some] <;> rfl)|(simp [*,errW_none,errW_some] <;> rfl),by repeat (first|(with_reducible first|exact HB.out|apply below_alloc|apply pw_below_drewN|apply below_drew1|refine below_set ?_ GE143.out)|exact HB.out)⟩
          ·rw [if_neg c17] at H
           have c17b0 : decide (a0_1 < (rd l1 x19_2)) = false := decide_eq_false c17
           clear c17
           by_cases c19 : x19_2 > 0
           ·rw [if_pos c19] at H
            have c19b0 : decide (0 < x19_2) = true := decide_eq_true c19
            clear c19
            obtain ⟨ji20,hji20⟩ : ∃ j_ : Int,(wrap64 (x19_2 - 1)) = j_ := ⟨_,rfl⟩
            replace H : (if 0 ≤ (ji20) then (if (ji20) < (l1.length : Int) then (if (rd l1 (ji20)) ≥ (rd l1 x19_2) then (some false) else (params_ValidCoalition.l0 k2 l1 l1 (l1.length : Int) (wrap64 (x19_2 + 1)) a0_0 a0_1 a0_2)) else (none)) else (none)) = some r := by first|(rw [hji20] at H;exact H)|(simp only [hji20] at H ⊢;exact H)
            have hji20w : (IntKind.i64.wrap (x19_2 - 1)) = ji20 := (i64_w _).trans hji20
            by_cases c21 : 0 ≤ (ji20)
            ·rw [if_pos c21] at H
             have c21b0 : decide (0 ≤ (ji20)) = true := decide_eq_true c21
             clear c21
             by_cases c22 : (ji20) < (l1.length : Int)
             ·rw [if_pos c22] at H
              have c22b0 : decide ((ji20) < (l1.length : Int)) = true := decide_eq_true c22
              clear c22
              by_cases c23 : (rd l1 (ji20)) ≥ (rd l1 x19_2)
              ·rw [if_pos c23] at H
               have c23b0 : decide ((rd l1 x19_2) ≤ (rd l1 (ji20))) = true := decide_eq_true c23
               clear c23
               obtain rfl := Option.some.inj H
               have p145 : 0 ≤ (x19_2 : Int) := of_decide_eq_true (by first|(with_reducible assumption)|assumption)
               have q145 : x19_2 < (l1.length : Int) := of_decide_eq_true (by first|(with_reducible assumption)|assumption)
               obtain ⟨ad145,e145,hx145_0⟩ := Kd.at_int HR1.out x19_2 p145 q145
               cases e145
               replace hx145_0 := (HB.out.cell (World.block_lt_of_cell? w _ hx145_0)).trans hx145_0
               replace p145 := eq_true p145
               replace q145 := eq_true q145
               have hcz24_0 : wr.cell? ⟨gb143,0,none⟩ = some (.int .u64 a0_0) := (blk_cell BK143.out 0).trans rfl
               have hcz24_1 : wr.cell? ⟨gb143,1,none⟩ = some (.int .i64 a0_1) := (blk_cell BK143.out 1).trans rfl
               have hcz24_2 : wr.cell? ⟨gb143,2,none⟩ = some (.int .i64 a0_2) := (blk_cell BK143.out 2).trans rfl
               have hfz24_0 := blk_frozen BK143.out 0
               have hfz24_1 := blk_frozen BK143.out 1
               have hfz24_2 := blk_frozen BK143.out 2
               have p146 : 0 ≤ ((ji20) : Int) := of_decide_eq_true (by first|(with_reducible assumption)|assumption)
               have q146 : (ji20) < (l1.length : Int) := of_decide_eq_true (by first|(with_reducible assumption)|assumption)
               obtain ⟨ad146,e146,hx146_0⟩ := Kd.at_int HR1.out (ji20) p146 q146
               obtain rfl : ad145 = ad146 := (by injection e146)
               replace hx146_0 := (HB.out.cell (World.block_lt_of_cell? w _ hx146_0)).trans hx146_0
               replace p146 := eq_true p146
               replace q146 := eq_true q146
               go_wp2
               go_ret
               exact ⟨by first|rfl|(simp [errW_none,errW_some] <;> rfl)|(simp only [← hji20];first|rfl|(simp [errW_none,errW_some] <;> rfl))|(simp [*,errW_none,errW_some] <;> rfl),by repeat (first|(with_reducible first|exact HB.out|apply below_alloc|apply pw_below_drewN|apply below_drew1|refine below_set ?_ GE143.out)|exact HB.out)⟩
              ·rw [if_neg c23] at H
               have c23b0 : decide ((rd l1 x19_2) ≤ (rd l1 (ji20))) = false := decide_eq_false c23
               clear c23
               have H' := Aside0.mk H
               clear H
               have p145 : 0 ≤ (x19_2 : Int) := of_decide_eq_true (by first|(with_reducible assumption)|assumption)
               have q145 : x19_2 < (l1.length : Int) := of_decide_eq_true (by first|(with_reducible assumption)|assumption)
               obtain ⟨ad145,e145,hx145_0⟩ := Kd.at_int HR1.out x19_2 p145 q145
               cases e145
               replace hx145_0 := (HB.out.cell (World.block_lt_of_cell? w _ hx145_0)).trans hx145_0
               replace p145 := eq_true p145
               replace q145 := eq_true q145
               have hcz25_0 : wr.cell? ⟨gb143,0,none⟩ = some (.int .u64 a0_0) := (blk_cell BK143.out 0).trans rfl
               have hcz25_1 : wr.cell? ⟨gb143,1,none⟩ = some (.int .i64 a0_1) := (blk_cell BK143.out 1).trans rfl
               have hcz25_2 : wr.cell? ⟨gb143,2,none⟩ = some (.int .i64 a0_2) := (blk_cell BK143.out 2).trans rfl
               have hfz25_0 := blk_frozen BK143.out 0
               have hfz25_1 := blk_frozen BK143.out 1
               have hfz25_2 := blk_frozen BK143.out 2
               have p146 : 0 ≤ ((ji20) : Int) := of_decide_eq_true (by first|(with_reducible assumption)|assumption)
               have q146 : (ji20) < (l1.length : Int) := of_decide_eq_true (by first|(with_reducible assumption)|assumption)
               obtain ⟨ad146,e146,hx146_0⟩ := Kd.at_int HR1.out (ji20) p146 q146
               obtain rfl : ad145 = ad146 := (by injection e146)
               replace hx146_0 := (HB.out.cell (World.block_lt_of_cell? w _ hx146_0)).trans hx146_0
               replace p146 := eq_true p146
               replace q146 := eq_true q146
               go_wp2
               go_roundg k2
               case measure => have := HJ2.out;have := HK2.out;omega
               case rel => exact ⟨(wrap64 (x19_2 + 1)),(by first|rfl|(simp;done)|(simp [*];done)),H',⟨by have := HJ2.out;have := HK2.out;omega⟩,⟨by (with_reducible repeat (first|refine blk_drewN ?_ _|refine blk_drew ?_|refine blk_alloc ?_ _));exact BK143.out⟩,⟨by repeat (first|(with_reducible first|exact HB.out|apply below_alloc|apply pw_below_drewN|apply below_drew1|refine below_set ?_ GE143.out)|exact HB.out)⟩⟩
             ·rw [if_neg c22] at H
              exact absurd H (by simp)
            ·rw [if_neg c21] at H
             exact absurd H (by simp)
           ·rw [if_neg c19] at H
            have c19b0 : decide (0 < x19_2) = false := decide_eq_false c19
            clear c19
            have H' := Aside0.mk H
            clear H
            have p145 : 0 ≤ (x19_2 : Int) := of_decide_eq_true (by first|(with_reducible assumption)|assumption)
            have q145 : x19_2 < (l1.length : Int) := of_decide_eq_true (by first|(with_reducible assumption)|assumption)
            obtain ⟨ad145,e145,hx145_0⟩ := Kd.at_int HR1.out x19_2 p145 q145
            cases e145
            replace hx145_0 := (HB.out.cell (World.block_lt_of_cell? w _ hx145_0)).trans hx145_0
            replace p145 := eq_true p145
            replace q145 := eq_true q145
            have hcz26_0 : wr.cell? ⟨gb143,0,none⟩ = some (.int .u64 a0_0) := (blk_cell BK143.out 0).trans rfl
            have hcz26_1 : wr.cell? ⟨gb143,1,none⟩ = some (.int .i64 a0_1) := (blk_cell BK143.out 1).trans rfl
            have hcz26_2 : wr.cell? ⟨gb143,2,none⟩ = some (.int .i64 a0_2) := (blk_cell BK143.out 2).trans rfl
            have hfz26_0 := blk_frozen BK143.out 0
            have hfz26_1 := blk_frozen BK143.out 1
            have hfz26_2 := blk_frozen BK143.out 2
            go_wp2
            go_roundg k2
            case measure => have := HJ2.out;have := HK2.out;omega
            case rel => exact ⟨(wrap64 (x19_2 + 1)),(by first|rfl|(simp;done)|(simp [*];done)),H',⟨by have := HJ2.out;have := HK2.out;omega⟩,⟨by (with_reducible repeat (first|refine blk_drewN ?_ _|refine blk_drew ?_|refine blk_alloc ?_ _));exact BK143.out⟩,⟨by repeat (first|(with_reducible first|exact HB.out|apply below_alloc|apply pw_below_drewN|apply below_drew1|refine below_set ?_ GE143.out)|exact HB.out)⟩⟩
        ·rw [if_neg c15] at H
         exact absurd H (by simp)
       ·rw [if_neg c14] at H
        exact absurd H (by simp)
      ·rw [if_neg c13] at H
       have c13b0 : decide (x19_2 < (l1.length : Int)) = false := decide_eq_false c13
       clear c13
       obtain rfl := Option.some.inj H
       go_wp2
       go_ret
       exact ⟨by first|rfl|(simp [errW_none,errW_some] <;> rfl)|(simp [*,errW_none,errW_some] <;> rfl),by repeat (first|(with_reducible first|exact HB.out|apply below_alloc|apply pw_below_drewN|apply below_drew1|refine below_set ?_ GE143.out)|exact HB.out)⟩
-- NOT PRINTED: function 47 (api_Deviation_47)

-- NOT PRINTED: function 30 (api_Deviation_30)

-- NOT PRINTED: function 48 (slices_IndexFunc_uint64_uint64)

-- NOT PRINTED: function 33 (slices_ContainsFunc_uint64_uint64)

end Go.Proofs.YtakaonojfpkhnaaDoor.Pr
end
section
/-
  Valid and ValidCoalition of package params, plainly.
-/
namespace Go.Proofs.YtakaonojfpkhnaaDoor.E
open Go.RowKit Go.Proofs.YtakaonojfpkhnaaDoor.Pr Go.Proofs.YtakaonojfpkhnaaDoor.Hw Go.Proofs.YtakaonojfpkhnaaDoor.Pl Go.Proofs.YtakaonojfpkhnaaDoorW.PrintWords Go.Proofs.YtakaonojfpkhnaaDoorW.PrintLast Go.Proofs.YtakaonojfpkhnaaDoorW.PrintMore
set_option linter.unusedVariables false
set_option linter.unusedSimpArgs false

/-- A loop that asks one thing of each index. -/
theorem allQ {F : Nat → Int → Option Bool} {n : Nat} {Q : Nat → Prop} [DecidablePred Q] {e : Bool} (hend : Ev (fun k => F k (n : Int)) e) (hyes : ∀ i, i < n → Q i → ∀ r, Ev (fun k => F k ((i + 1 : Nat) : Int)) r → Ev (fun k => F k (i : Int)) r)
    (hno : ∀ i, i < n → ¬ Q i → Ev (fun k => F k (i : Int)) false) (r : Bool) (hr : r = true ↔ ((∀ i, i < n → Q i) ∧ e = true)) : Ev (fun k => F k ((0 : Nat) : Int)) r := by
  by_cases hall : ∀ i, i < n → Q i
  · have : r = e := by
      cases e with
      | true => exact hr.2 ⟨hall, rfl⟩
      | false => exact Bool.eq_false_iff.mpr fun h => by have := (hr.1 h).2; cases this
    rw [this]
    exact up (Q := fun i => Ev (fun k => F k (i : Int)) e) (n := n) hend fun i hi h => hyes i hi (hall i hi) e h
  · have hf : r = false := Bool.eq_false_iff.mpr fun h => hall (hr.1 h).1
    rw [hf]
    obtain ⟨i, hi, hq⟩ : ∃ i, i < n ∧ ¬ Q i := Classical.byContradiction fun h => hall fun i hi => Classical.byContradiction fun hq => h ⟨i, hi, hq⟩
    refine up (Q := fun i => Ev (fun k => F k (i : Int)) false) (n := i) (hno i hi hq) fun j hj h => ?_
    by_cases hqj : Q j
    · exact hyes j (by omega) hqj false h
    · exact hno j (by omega) hqj
def val12B (p N T : Int) : Bool := supB p && decide (4 ≤ N ∧ N ≤ 13 ∧ N < p ∧ 1 ≤ T ∧ T < N ∧ 3 * T < N)
theorem expL_sup (p : Int) : (expL p expT != 0) = supB p := by
  unfold expT supB
  simp only [expL]
  repeat (split; · next h => subst h; decide)
  simp only [*, decide_false, Bool.or_false]
  rfl
theorem supP_eq (p : Int) : field_Supported.f p = some (supB p) := by
  unfold field_Supported.f field_Exponent.f
  rw [Option.bind_some, expL_sup]
theorem valP_ev (p N T : Int) : Ev (fun _ => params_Valid.f p N T) (val12B p N T) := by
  unfold params_Valid.f
  refine ev_if (A := fun _ => field_Supported.f p) (Ev.congr (fun _ => supP_eq p) (Ev.now _)) (fun h => ?_) (fun h => ?_)
  · unfold val12B
    rw [h, Bool.true_and]
    refine Ev.congr (fun _ => ?_) (Ev.now _)
    by_cases h1 : 4 ≤ N
    · rw [if_pos h1]
      by_cases h2 : N ≤ 13
      · rw [if_pos h2, wrapU_id (by omega) (by omega)]
        by_cases h3 : N < p
        · rw [if_pos h3]
          by_cases h4 : 1 ≤ T
          · rw [if_pos h4]
            by_cases h5 : T < N
            · rw [if_pos h5, w64' (by omega) (by omega)]
              by_cases h6 : 3 * T < N
              · rw [decide_eq_true h6, decide_eq_true ⟨h1, h2, h3, h4, h5, h6⟩]
              · rw [decide_eq_false h6, decide_eq_false fun h => h6 h.2.2.2.2.2]
            · rw [if_neg h5, decide_eq_false fun h => h5 h.2.2.2.2.1]
          · rw [if_neg h4, decide_eq_false fun h => h4 h.2.2.2.1]
        · rw [if_neg h3, decide_eq_false fun h => h3 h.2.2.1]
      · rw [if_neg h2, decide_eq_false fun h => h2 h.2.1]
    · rw [if_neg h1, decide_eq_false fun h => h1 h.1]
  · have : val12B p N T = false := by unfold val12B; rw [h]; rfl
    rw [this]; exact Ev.now _
/-- Increasing numbers of parties. -/
def IncAt (N : Int) (l : List Int) (i : Nat) : Prop := 1 ≤ l.getD i 0 ∧ l.getD i 0 ≤ N ∧ (i = 0 ∨ l.getD (i - 1) 0 < l.getD i 0)
instance (N : Int) (l : List Int) : DecidablePred (IncAt N l) := fun i => by unfold IncAt; infer_instance
def incB (N : Int) (l : List Int) : Bool := decide (∀ i, i < l.length → IncAt N l i)
def coaB (p N T : Int) (l : List Int) : Bool := val12B p N T && (decide ((l.length : Int) ≤ T) && incB N l)
theorem coaP_ev (p N T : Int) (l : List Int) : Ev (fun k => params_ValidCoalition.f k p N T l) (coaB p N T l) := by
  unfold params_ValidCoalition.f
  have hno : ∀ r, r = false → Ev (fun k => params_ValidCoalition.j0 k l true p N T) r := fun r hr => by
    subst hr
    refine Ev.step (fun k => ?_) (Ev.now _)
    simp only [params_ValidCoalition.j0]
    rw [if_pos trivial]
  refine ev_if (valP_ev p N T) (fun h => ?_) (fun h => hno _ (by unfold coaB; rw [h]; rfl))
  unfold coaB
  rw [h, Bool.true_and]
  unfold val12B at h
  rw [Bool.and_eq_true, decide_eq_true_eq] at h
  obtain ⟨_, a1, a2, a3, a4, a5, a6⟩ := h
  by_cases hl : (l.length : Int) > T
  · rw [decide_eq_true hl]
    exact hno _ (by rw [decide_eq_false (by omega)]; rfl)
  · rw [decide_eq_false hl, decide_eq_true (by omega), Bool.true_and]
    refine Ev.step (f := fun k => params_ValidCoalition.l0 k l l (l.length : Int) ((0 : Nat) : Int) p N T) (fun k => ?_) ?_
    · simp only [params_ValidCoalition.j0]
      rw [if_neg (by simp)]; rfl
    · refine allQ (F := fun k i => params_ValidCoalition.l0 k l l (l.length : Int) i p N T) (n := l.length) (Q := IncAt N l) (e := true) ?_ (fun i hi hq r h => ?_) (fun i hi hq => ?_) (incB N l) (by unfold incB; rw [decide_eq_true_iff]; exact ⟨fun h => ⟨h, rfl⟩, fun h => h.1⟩)
      · refine Ev.step (fun k => ?_) (Ev.now _)
        simp only [params_ValidCoalition.l0]
        rw [if_neg (by omega)]
      · obtain ⟨q1, q2, q3⟩ := hq
        refine Ev.step (fun k => ?_) h
        simp only [params_ValidCoalition.l0]
        rw [if_pos (by omega), if_pos (by omega), if_pos (by omega), rd_nat, if_neg (by omega), if_neg (by omega), wnat (by omega)]
        by_cases h0 : i = 0
        · rw [if_neg (by omega)]
        · rw [if_pos (by omega), w64' (n := (i : Int) - 1) (by omega) (by omega), if_pos (by omega), if_pos (by omega), show (i : Int) - 1 = ((i - 1 : Nat) : Int) from by omega, rd_nat, if_neg (by have := q3.resolve_left h0; omega)]
      · refine Ev.step (fun k => ?_) (Ev.now _)
        simp only [params_ValidCoalition.l0]
        rw [if_pos (by omega), if_pos (by omega), if_pos (by omega), rd_nat]
        by_cases q1 : l.getD i 0 < 1
        · rw [if_pos q1]
        · rw [if_neg q1]
          by_cases q2 : l.getD i 0 > N
          · rw [if_pos q2]
          · have h0 : i ≠ 0 := fun e => hq ⟨by omega, by omega, .inl e⟩
            rw [if_neg q2, if_pos (by omega), w64' (n := (i : Int) - 1) (by omega) (by omega), if_pos (by omega), if_pos (by omega), show (i : Int) - 1 = ((i - 1 : Nat) : Int) from by omega, rd_nat, if_pos (Int.not_lt.1 fun h => hq ⟨by omega, by omega, .inr h⟩)]
end Go.Proofs.YtakaonojfpkhnaaDoor.E
end
section
/-
  Coalitions: their extension, the honest parties, the vanishing polynomial; plainly.
-/
namespace Go.Proofs.YtakaonojfpkhnaaDoor.E
open Go.RowKit Go.Proofs.YtakaonojfpkhnaaDoor.Pr Go.Proofs.YtakaonojfpkhnaaDoor.Hw Go.Proofs.YtakaonojfpkhnaaDoor.Pl Go.Proofs.YtakaonojfpkhnaaDoorW.PrintWords Go.Proofs.YtakaonojfpkhnaaDoorW.PrintLast Go.Proofs.YtakaonojfpkhnaaDoorW.PrintMore
set_option linter.unusedVariables false
set_option linter.unusedSimpArgs false

theorem vsub_len : ∀ (l m : List Int), l.Nodup → (∀ x ∈ l, x ∈ m) → l.length ≤ m.length
  | [], m, _, _ => Nat.zero_le _
  | a :: l, m, hn, h => by
    have hn' := List.nodup_cons.1 hn
    have ha := h a (by simp)
    have h1 := vsub_len l (m.erase a) hn'.2 (fun x hx => (List.mem_erase_of_ne (fun e => hn'.1 (by rw [← e]; exact hx))).2 (h x (List.mem_cons_of_mem _ hx)))
    rw [List.length_erase_of_mem ha] at h1
    have := List.length_pos_of_mem ha
    simp only [List.length_cons]; omega
/-- The numbers k, k + 1, .., n of them. -/
def runL : Nat → Int → List Int
  | 0, _ => []
  | n + 1, k => k :: runL n (k + 1)
theorem runL_mem : ∀ (n : Nat) (k x : Int), x ∈ runL n k ↔ k ≤ x ∧ x < k + n
  | 0, k, x => by simp [runL]
  | n + 1, k, x => by rw [runL, List.mem_cons, runL_mem n (k + 1) x]; omega
theorem runL_nodup : ∀ (n : Nat) (k : Int), (runL n k).Nodup
  | 0, k => List.nodup_nil
  | n + 1, k => List.nodup_cons.2 ⟨fun h => by rw [runL_mem] at h; omega, runL_nodup n (k + 1)⟩
theorem runL_length : ∀ (n : Nat) (k : Int), (runL n k).length = n
  | 0, k => rfl
  | n + 1, k => by rw [runL, List.length_cons, runL_length n]
/-- The coalition, extended by the least other numbers. -/
def extL (bad : List Int) : Nat → Int → Int → List Int
  | 0, _, _ => []
  | n + 1, k, lack => if k ∈ bad then k :: extL bad n (k + 1) lack else if lack > 0 then k :: extL bad n (k + 1) (lack - 1) else extL bad n (k + 1) lack
def honL (bad : List Int) (n : Nat) (k : Int) : List Int := (runL n k).filter fun x => decide (x ∉ bad)
theorem extL_length {bad : List Int} : ∀ (n : Nat) (k lack : Int), 0 ≤ lack → lack ≤ (honL bad n k).length → ((extL bad n k lack).length : Int) = (((runL n k).filter fun x => decide (x ∈ bad)).length : Int) + lack
  | 0, k, lack, h0, h1 => by simp [extL, runL, honL] at *; omega
  | n + 1, k, lack, h0, h1 => by
    rw [extL]
    unfold honL at h1
    rw [runL] at h1 ⊢
    by_cases hb : k ∈ bad
    · rw [if_pos hb, List.filter_cons_of_pos (by simpa using hb), List.length_cons, List.length_cons]
      rw [List.filter_cons_of_neg (by simpa using hb)] at h1
      have := extL_length n (k + 1) lack h0 h1
      omega
    · rw [if_neg hb, List.filter_cons_of_neg (by simpa using hb)]
      rw [List.filter_cons_of_pos (by simpa using hb), List.length_cons] at h1
      by_cases hl : lack > 0
      · rw [if_pos hl, List.length_cons]
        have := extL_length (bad := bad) n (k + 1) (lack - 1) (by omega) (by unfold honL; omega)
        omega
      · rw [if_neg hl]
        exact extL_length n (k + 1) lack h0 (by omega)
theorem filter_split (bad : List Int) : ∀ (l : List Int), (l.filter fun x => decide (x ∈ bad)).length + (l.filter fun x => decide (x ∉ bad)).length = l.length
  | [] => rfl
  | a :: l => by
    have ih := filter_split bad l
    by_cases h : a ∈ bad
    · rw [List.filter_cons_of_pos (by simpa using h), List.filter_cons_of_neg (by simpa using h)]; simp only [List.length_cons]; omega
    · rw [List.filter_cons_of_neg (by simpa using h), List.filter_cons_of_pos (by simpa using h)]; simp only [List.length_cons]; omega
theorem runL_count {bad : List Int} (hn : bad.Nodup) {n : Nat} {k : Int} (hr : ∀ x ∈ bad, k ≤ x ∧ x < k + n) : ((runL n k).filter fun x => decide (x ∈ bad)).length = bad.length := by
  refine Nat.le_antisymm (vsub_len _ _ ((runL_nodup n k).filter _) fun x hx => ?_) (vsub_len _ _ hn fun x hx => ?_)
  · exact of_decide_eq_true (List.mem_filter.1 hx).2
  · exact List.mem_filter.2 ⟨(runL_mem n k x).2 (hr x hx), decide_eq_true hx⟩
/-- A valid coalition. -/
structure CoaB (N T : Int) (bad : List Int) : Prop where
  n0 : 4 ≤ N
  n1 : N ≤ 13
  t0 : 1 ≤ T
  t1 : 3 * T < N
  len : (bad.length : Int) ≤ T
  nd : bad.Nodup
  rng : ∀ x ∈ bad, 1 ≤ x ∧ x ≤ N
def extB (N T : Int) (bad : List Int) : List Int := extL bad N.toNat 1 (T - bad.length)
section
variable {N T : Int} {bad : List Int} (h : CoaB N T bad)
include h
theorem CoaB.rng' : ∀ x ∈ bad, (1 : Int) ≤ x ∧ x < 1 + (N.toNat : Nat) := fun x hx => by have := h.rng x hx; omega
theorem CoaB.hon_len : ((honL bad N.toNat 1).length : Int) = N - bad.length := by
  have h1 := filter_split bad (runL N.toNat 1)
  rw [runL_count h.nd h.rng', runL_length] at h1
  have := h.n0
  unfold honL; omega
theorem extB_length : ((extB N T bad).length : Int) = T := by
  have h1 := h.hon_len
  have h2 := h.len
  have h3 := h.t1
  have h4 := h.t0
  unfold extB
  rw [extL_length N.toNat 1 (T - bad.length) (by omega) (by omega), runL_count h.nd h.rng']; omega
end

/-- Points that are distinct, nonzero residues. -/
structure VanOk (p : Int) (l : List Int) : Prop where
  res : ∀ x ∈ l, Res p x
  nz : ∀ x ∈ l, x ≠ 0
  nd : l.Nodup
section
variable {p : Int} (hp : Supp p) {l : List Int} (h : VanOk p l)
include hp h
end
end Go.Proofs.YtakaonojfpkhnaaDoor.E
end
section
/-
  members and ExtendCoalition of package params, proved by hand.
-/
namespace Go.Proofs.YtakaonojfpkhnaaDoor.Hw
open Go.RowKit Go.Proofs.YtakaonojfpkhnaaDoor.Pr Go.Proofs.YtakaonojfpkhnaaDoorW.PrintWords Go.Proofs.YtakaonojfpkhnaaDoorW.PrintLast Go.Proofs.YtakaonojfpkhnaaDoorW.PrintMore Go.Proofs.YtakaonojfpkhnaaDoor.E
set_option linter.unusedVariables false
set_option linter.unusedSimpArgs false

section
variable {P : Program} {ops : Array Oper} {Q : Exit → Act → World → Prop}
/-- A whole array into its block. -/
theorem st_row {rest : List Oper} {op : Oper} {a : Act} {w : World} (hgd : op.guard = none) (ty : TypeId) (x y : Operand) (ho : op.op = .store ty x y) (g : Nat) (cells : Array Value) (hx : a.eval x = .pointer (some ⟨g, 0, none⟩)) (hy : a.eval y = .agg cells)
    (t : TypeId) (old : Array Value) (hg : w.heap[g]? = some (.cells old t (0, 0))) (hi : (P.info? ty).map (·.size) = some cells.size) (hold : old.size = cells.size) (h1 : cells.all (·.oneCell') = true)
    (h : ∀ w', w'.heap[g]? = some (.cells cells t (0, 0)) → (∀ B w0, B ≤ g → Below B w0 w → Below B w0 w') → (∀ b o, b ≠ g → w.heap[b]? = some o → w'.heap[b]? = some o) → wpList P ops Q rest (a.put op.dst undef) w') : wpList P ops Q (op :: rest) a w :=
  wpList_plain hgd fun _ hK => wp_store_row ty x y ho g cells hx hy t old hg hi hold h1 (hK _ _ (h _ (setRow_heap _ g _ _ t _ hg) (fun B w0 hB hb => Go.below_setRow hb hB _) (fun b o hb h => (setRow_other w g b cells (by omega)).trans h)))
/-- A whole array out of its block. -/
theorem ld_row {rest : List Oper} {op : Oper} {a : Act} {w : World} (hgd : op.guard = none) (ty : TypeId) (x : Operand) (ho : op.op = .load ty x) (g : Nat) (hx : a.eval x = .pointer (some ⟨g, 0, none⟩)) (t : TypeId) (cs : Array Value) (fr : Nat × Nat) (d : TypeDesc)
    (hg : w.heap[g]? = some (.cells cs t fr)) (hu : P.underlying ty = some d) (hd : (match d with | .struct _ | .array _ _ => true | _ => false) = true) (hi : (P.info? ty).map (·.size) = some cs.size)
    (h : wpList P ops Q rest (a.put op.dst (.agg cs)) w) : wpList P ops Q (op :: rest) a w :=
  wpList_plain hgd fun _ hK => wp_load_row ty x ho g hx t cs fr d hg hu hd hi (hK _ _ h)
theorem results_c {fn : Func} {p : Tmp} {ty : TypeId} (h : fn.results = #[.cell p ty]) (tmps : Array Value) (w : World) (g : Nat) (t : TypeId) (cs : Array Value) (fr : Nat × Nat) (d : TypeDesc)
    (hp : tmps.getD p undef = .pointer (some ⟨g, 0, none⟩)) (hg : w.heap[g]? = some (.cells cs t fr))
    (hu : P.underlying ty = some d) (hd : (match d with | .struct _ | .array _ _ => true | _ => false) = true) (hi : (P.info? ty).map (·.size) = some cs.size) :
    (results fn tmps).run P w = .ok (.agg cs) w := by
  have hp' : tmps[p]?.getD undef = .pointer (some ⟨g, 0, none⟩) := by simpa using hp
  simp [results, h, hp', asAddr, run_loadVar_row w g t ty cs fr d hg hu hd hi]
end

/-- Which of the numbers 0 to 13 are in the list. -/
def markL (l : List Int) : List Bool := (List.range 14).map fun (i : Nat) => decide ((i : Int) ∈ l)
def boolC (m : List Bool) : List Value := m.map Value.bool
theorem markL_length (l : List Int) : (markL l).length = 14 := by simp [markL]
theorem boolC_length (m : List Bool) : (boolC m).length = m.length := by simp [boolC]
theorem boolC_one (m : List Bool) : (boolC m).toArray.all (·.oneCell') = true := by
  simp only [boolC, List.all_toArray, List.all_map, List.all_eq_true]
  intro x _; rfl
theorem markL_get {l : List Int} {i : Nat} (h : i < 14) : (markL l)[i]? = some (decide ((i : Int) ∈ l)) := by unfold markL; rw [List.getElem?_map, List.getElem?_range h]; rfl
theorem boolC_get {m : List Bool} {i : Nat} {b : Bool} (h : m[i]? = some b) : (boolC m)[i]? = some (.bool b) := by unfold boolC; rw [List.getElem?_map, h]; rfl
theorem boolC_set (m : List Bool) (i : Nat) (b : Bool) : (boolC m).set i (.bool b) = boolC (m.set i b) := by unfold boolC; rw [List.map_set]
theorem markL_more (l : List Int) {x : Int} (h0 : 0 ≤ x) (h1 : x < 14) : (markL l).set x.toNat true = markL (l ++ [x]) := by
  refine List.ext_getElem? fun i => ?_
  by_cases hi : i < 14
  · rw [markL_get hi]
    by_cases e : i = x.toNat
    · subst e
      rw [List.getElem?_set_self (by rw [markL_length]; exact hi), show ((x.toNat : Nat) : Int) = x from by omega]
      simp
    · rw [List.getElem?_set_ne (Ne.symm e), markL_get hi]
      have : (i : Int) ≠ x := by omega
      simp [this]
  · rw [List.getElem?_eq_none (by rw [List.length_set, markL_length]; omega), List.getElem?_eq_none (by rw [markL_length]; omega)]
theorem infoA : (Tryd.prog.info? 54).map (·.size) = some 14 := by kernel_rfl
set_option maxHeartbeats 2000000 in
set_option maxRecDepth 100000 in
theorem members_walk (A : Option Addr) (c : Nat) (l : List Int) (w : World) (hr : Kd.C (Kd.int .i64) w A l.length l) (hc : l.length ≤ c) (hl : l.length ≤ 1000) (hx : ∀ i : Nat, i < l.length → 0 ≤ rd l (i : Int) ∧ rd l (i : Int) < 14) :
    Calls Tryd.prog 38 #[.slice A l.length c] w fun e w' => e = .returned (.agg (boolC (markL l)).toArray) ∧ Below w.heap.size w w' := by
  have HR := Aside0.mk hr
  have HX := Aside0.mk hx
  have hz := (zero_of_info (P := Tryd.prog) (t := 54) (v := .agg (boolC (markL [])).toArray) (n := 14) (by kernel_rfl)).1
  have hu := Tryd.underlying54
  clear hr hx
  go_enter Tryd.func38, Tryd.ntmps38
  go_wp2
  obtain ⟨g, hg⟩ : ∃ y, y = w.heap.size := ⟨_, rfl⟩
  rw [← hg]
  have HG := Aside0.mk hg
  clear hg hz
  go_loopg [7] l.length (fun kq v7 w' => ∃ i : Nat, v7 = .int .i64 (i : Int) ∧ Aside0 (kq + i = l.length) ∧ Aside0 (w'.heap[g]? = some (.cells (boolC (markL (l.take i))).toArray 54 (0, 0))) ∧ Aside0 (Below w.heap.size w w'))
  case atStart => exact ⟨0, rfl, ⟨rfl⟩, ⟨by rw [HG.out, List.take_zero]; exact blk_new w _⟩, ⟨below_alloc (Below.refl _ _) _⟩⟩
  case round =>
    obtain ⟨i, rfl, HK, HM, HB⟩ := hrel
    by_cases hlt : i < l.length
    · have q1 : decide ((i : Int) < (l.length : Int)) = true := decide_eq_true (by omega)
      have q2 : decide (i < l.length) = true := decide_eq_true hlt
      obtain ⟨ad, e, hy⟩ := Kd.at_int (Kd.C_below HR.out HB.out) (i : Int) (by omega) (by omega)
      cases e
      rw [Int.toNat_natCast] at hy
      obtain ⟨x0, x1⟩ := HX.out i hlt
      have hsn : l.take (i + 1) = l.take i ++ [rd l (i : Int)] := by
        rw [List.take_add_one, List.getElem?_eq_getElem hlt]
        have : rd l (i : Int) = l[i] := by unfold rd; rw [Int.toNat_natCast, List.getD_eq_getElem?_getD, List.getElem?_eq_getElem hlt]; rfl
        rw [this]; rfl
      obtain ⟨x, hxe⟩ : ∃ y, y = rd l (i : Int) := ⟨_, rfl⟩
      rw [← hxe] at hy x0 x1 hsn
      have p1 : ((0 : Int) ≤ (i : Int)) = True := eq_true (by omega)
      have p2 : ((i : Int) < (l.length : Int)) = True := eq_true (by omega)
      have p3 : ((0 : Int) ≤ x) = True := eq_true x0
      have p4 : (x < 14) = True := eq_true x1
      have c1 := blk_cell HM.out x.toNat
      rw [List.getElem?_toArray, boolC_get (markL_get (by omega))] at c1
      have f1 := blk_frozen HM.out x.toNat
      have HSN := Aside0.mk hsn
      have HX0 := Aside0.mk (And.intro x0 x1)
      clear hsn hxe x0 x1
      go_wp2
      go_roundg (l.length - (i + 1))
      case measure => have := HK.out; omega
      case rel =>
        refine ⟨i + 1, by go_num, ⟨by omega⟩, ⟨blk_put HM.out x.toNat _ ?_⟩, ⟨Below.setCell HB.out (p := ⟨g, x.toNat, none⟩) (by rw [HG.out]; exact Nat.le_refl _) _⟩⟩
        rw [List.setIfInBounds_toArray, boolC_set, markL_more _ HX0.out.1 HX0.out.2, ← HSN.out]
    · have q1 : decide ((i : Int) < (l.length : Int)) = false := decide_eq_false (by omega)
      have q2 : decide (i < l.length) = false := decide_eq_false hlt
      have hil : l.take i = l := List.take_of_length_le (by omega)
      have hm := HM.out
      rw [hil] at hm
      have hsz : (Tryd.prog.info? 54).map (·.size) = some (boolC (markL l)).toArray.size := by rw [infoA, List.size_toArray, boolC_length, markL_length]
      have HM2 := Aside0.mk hm
      have HSZ := Aside0.mk hsz
      clear hm hil hsz
      go_wp2_with (first
        | ((with_reducible refine gate_dst (N := 14) rfl ?_); refine ld_row rfl 54 (.tmp 2) rfl g (by rfl) 54 (boolC (markL l)).toArray (0, 0) _ HM2.out Tryd.underlying54 rfl HSZ.out ?_)
        | ((with_reducible refine gate_store (p := 2) rfl ?_); refine st_row rfl 54 (.tmp 2) (.tmp 14) rfl g (boolC (markL l)).toArray (by rfl) (by rfl) 54 (boolC (markL l)).toArray HM2.out HSZ.out rfl (boolC_one _) ?_; intro w6 hb6 hbw hbo; have HB6 := Aside0.mk (hbw _ _ (by rw [HG.out]; exact Nat.le_refl _) HB.out); have HM6 := Aside0.mk hb6; clear hb6 hbw hbo))
      (try simp only [Exit.inBlock, Exit.then])
      refine bodyPost_ret (results_c rfl _ _ g 54 (boolC (markL l)).toArray (0, 0) _ (by rfl) HM6.out Tryd.underlying54 rfl HSZ.out) rfl ?_
      exact ⟨rfl, HB6.out⟩
theorem ext_yes {bad : List Int} {n : Nat} {k lack : Int} (h : k ∈ bad) : extL bad (n + 1) k lack = k :: extL bad n (k + 1) lack := by rw [extL, if_pos h]
theorem ext_more {bad : List Int} {n : Nat} {k lack : Int} (h : k ∉ bad) (hl : lack > 0) : extL bad (n + 1) k lack = k :: extL bad n (k + 1) (lack - 1) := by rw [extL, if_neg h, if_pos hl]
theorem ext_skip {bad : List Int} {n : Nat} {k lack : Int} (h : k ∉ bad) (hl : ¬ lack > 0) : extL bad (n + 1) k lack = extL bad n (k + 1) lack := by rw [extL, if_neg h, if_neg hl]
set_option maxHeartbeats 4000000 in
set_option maxRecDepth 100000 in
theorem ext_walk (p : Int) (N : Nat) (T : Int) (A : Option Addr) (c : Nat) (l : List Int) (w : World) (hr : Kd.C (Kd.int .i64) w A l.length l) (hc : l.length ≤ c) (hl : l.length ≤ 1000) (hx : ∀ i : Nat, i < l.length → 0 ≤ rd l (i : Int) ∧ rd l (i : Int) < 14) (hN : N ≤ 13) :
    Calls Tryd.prog 16 #[.agg #[.int .u64 p, .int .i64 (N : Int), .int .i64 T], .slice A l.length c] w fun e w' => ∃ v0_ : Value, e = .returned (v0_) ∧ Kd.R (Kd.int .i64) 3 w' w.heap.size (fun _ => True) v0_ (extL l N 1 (T - l.length)) ∧ Below w.heap.size w w' := by
  have HR := Aside0.mk hr
  have HX := Aside0.mk hx
  have HC := Aside0.mk hc
  have HL := Aside0.mk hl
  have hz := (zero_of_info (P := Tryd.prog) (t := 54) (v := .agg (boolC (markL [])).toArray) (n := 14) (by kernel_rfl)).1
  have hu := Tryd.underlying54
  have hu2 := Tryd.underlying24
  have hsz : (Tryd.prog.info? 54).map (·.size) = some (boolC (markL l)).toArray.size := by rw [infoA, List.size_toArray, boolC_length, markL_length]
  have HSZ := Aside0.mk hsz
  clear hr hx hc hl hsz
  go_enter Tryd.func16, Tryd.ntmps16
  go_wp2_with (first
    | ((with_reducible refine gate_dst (N := 2) rfl ?_); refine box_event ?hg (N := 2) ?hd (cs := #[.int .u64 p, .int .i64 (N : Int), .int .i64 T]) (t := 24) ?hr ?_; (case hd => rfl); (case hg => rfl); (case hr => first | (go_simp; done) | (go_simp; rfl)); intro gb hgb w4 hbox hb4; have GB := Aside0.mk hgb; have BK4 := Aside0.mk hbox; have HB4 := Aside0.mk hb4; clear hbox hb4 hgb)
    | (go_at_call 38; (refine (members_walk A c l _ (Kd.C_below HR.out HB4.out) HC.out HL.out HX.out).mono ?_); rintro e w5 ⟨rfl, hb5⟩; have BK5 := Aside0.mk (blk_below BK4.out hb5); have HB5 := Aside0.mk (below_step HB4.out hb5); clear hb5)
    | ((with_reducible refine gate_store (p := 5) rfl ?_); refine st_row rfl 54 (.tmp 5) (.tmp 10) rfl w5.heap.size (boolC (markL l)).toArray (by rfl) (by rfl) 54 (boolC (markL [])).toArray (blk_new w5 _) HSZ.out (by rw [List.size_toArray, List.size_toArray, boolC_length, boolC_length, markL_length, markL_length]) (boolC_one _) ?_; intro w6 hb6 hbw hbo; have BK6 := Aside0.mk (hbo gb _ (by have := blk_lt BK5.out; omega) (blk_alloc BK5.out _)); have HB6 := Aside0.mk (hbw _ _ (below_size HB5.out) (below_alloc HB5.out _)); have HM6 := Aside0.mk hb6; clear hb6 hbw hbo))
  obtain ⟨g, hg⟩ : ∃ y, y = w5.heap.size := ⟨_, rfl⟩
  rw [← hg] at HM6 ⊢
  have HG := Aside0.mk (show w.heap.size ≤ g by rw [hg]; exact below_size HB5.out)
  have HGB := Aside0.mk (show w.heap.size ≤ gb by rw [GB.out]; exact Nat.le_refl _)
  clear hg hz BK4 BK5 HB4 HB5 GB
  go_loopg [6, 7, 8] N (fun kq v6 v7 v8 w' => ∃ (k : Nat) (n : Int) (m : List Bool) (dn : List Int), v6 = .int .i64 n ∧ v8 = .int .i64 (k : Int) ∧ Aside0 (kq + k = N + 1 ∧ 1 ≤ k) ∧ Aside0 (0 ≤ n ∧ n + 1 ≤ l.length + k) ∧ Aside0 (m.length = 14 ∧ ∀ i : Nat, k ≤ i → i < 14 → m[i]? = some (decide ((i : Int) ∈ l))) ∧ Aside0 (dn ++ extL l (N + 1 - k) (k : Int) (T - n) = extL l N 1 (T - l.length)) ∧ Aside0 (dn.length + 1 ≤ k) ∧ Aside0 (Kd.R (Kd.int .i64) 3 w' w.heap.size (fun _ => True) v7 dn) ∧ Aside0 (w'.heap[g]? = some (.cells (boolC m).toArray 54 (0, 0))) ∧ Aside0 (w'.heap[gb]? = some (.cells #[.int .u64 p, .int .i64 (N : Int), .int .i64 T] 24 (0, 0))) ∧ Aside0 (Below w.heap.size w w'))
  case atStart => exact ⟨1, (l.length : Int), markL l, [], rfl, rfl, ⟨rfl, Nat.le_refl _⟩, ⟨by omega, by omega⟩, ⟨markL_length l, fun i _ hi => markL_get hi⟩, ⟨rfl⟩, ⟨Nat.le_refl _⟩, ⟨Kd.R_nil _ _ _ _ _⟩, HM6, BK6, HB6⟩
  case round =>
    clear HM6 BK6 HB6
    obtain ⟨k, n, m, dn, rfl, rfl, HK, HN, HM, HD, HDL, HO, HMB, BK, HB⟩ := hrel
    have cN := blk_cell BK.out 1
    have cT := blk_cell BK.out 2
    simp only [List.getElem?_toArray, List.getElem?_cons_zero, List.getElem?_cons_succ] at cN cT
    obtain ⟨hk0, hk1⟩ := HK.out
    obtain ⟨hn0, hn1⟩ := HN.out
    have hl := HL.out
    by_cases hlt : k ≤ N
    · have q1 : decide ((k : Int) ≤ (N : Int)) = true := decide_eq_true (by omega)
      have q2 : decide (k ≤ N) = true := decide_eq_true hlt
      have p1 : ((0 : Int) ≤ (k : Int)) = True := eq_true (by omega)
      have p2 : ((k : Int) < 14) = True := eq_true (by omega)
      have p3 : (k < 14) = True := eq_true (by omega)
      have c1 := blk_cell HMB.out k
      rw [List.getElem?_toArray, boolC_get (HM.out.2 k (Nat.le_refl _) (by omega))] at c1
      have f1 := blk_frozen HMB.out k
      have hrun : N + 1 - k = (N + 1 - (k + 1)) + 1 := by omega
      by_cases hb : (k : Int) ∈ l
      · have hd : decide ((k : Int) ∈ l) = true := decide_eq_true hb
        rw [hd] at c1
        have HE := Aside0.mk (show dn ++ [(k : Int)] ++ extL l (N + 1 - (k + 1)) ((k : Int) + 1) (T - n) = extL l N 1 (T - l.length) by rw [← HD.out, hrun, ext_yes hb, List.append_assoc]; rfl)
        obtain ⟨m1, hm1⟩ : ∃ y : List Int, y = dn ++ [(k : Int)] := ⟨_, rfl⟩
        have NM := Aside0.mk hm1
        obtain ⟨A7, c7, rfl⟩ := Kd.R_slice HO.out
        clear hm1 hd hb hrun hk0 hn1
        go_wp2_with (first
          | ((with_reducible refine gate_builtin (b := .append) (xs := #[.tmp 36, .tmp 38]) rfl ?_); at_builtin; refine Kd.R_append (Kd.int .i64) (w0 := w) w.heap.size rfl (.tmp 36) (.tmp 38) 25 3 (.int .i64 0) 8 rfl Tryd.underlying25 info3 rfl (by decide) (by omega) (.slice A7 dn.length c7) dn (k : Int) [.int .i64 (k : Int)] (fun _ => True) (fun _ => False) rfl rfl rfl (fun _ hk => hk.elim) (fun _ _ => trivial) HO.out HB.out (below_size HB.out) (by have := HDL.out; omega) ?_; intro v1 w1 ho hb hg hat; rw [← NM.out] at ho; have HMB1 := Aside0.mk (blk_grown HMB.out hg (Kd.R_ne HO.out HMB.out (by decide))); have BK1 := Aside0.mk (blk_grown BK.out hg (Kd.R_ne HO.out BK.out (by decide))); have HO1 := Aside0.mk ho; have HB1 := Aside0.mk hb; clear ho hb hg hat))
        go_roundg (N - k)
        case measure => have := HK.out; omega
        case rel => exact ⟨k + 1, n, m, m1, rfl, by go_num, ⟨by omega⟩, ⟨by have := HN.out; omega⟩, ⟨HM.out.1, fun i h1 h2 => HM.out.2 i (by omega) h2⟩, ⟨by rw [NM.out]; exact HE.out⟩, ⟨by rw [NM.out, List.length_append]; have := HDL.out; simp only [List.length_cons, List.length_nil]; omega⟩, HO1, HMB1, BK1, HB1⟩
      · have hd : decide ((k : Int) ∈ l) = false := decide_eq_false hb
        rw [hd] at c1
        by_cases hln : n < T
        · have q3 : decide (n < T) = true := decide_eq_true hln
          have HE := Aside0.mk (show dn ++ [(k : Int)] ++ extL l (N + 1 - (k + 1)) ((k : Int) + 1) (T - (n + 1)) = extL l N 1 (T - l.length) by rw [← HD.out, hrun, ext_more hb (by omega), List.append_assoc, show T - (n + 1) = T - n - 1 from by omega]; rfl)
          obtain ⟨m1, hm1⟩ : ∃ y : List Int, y = dn ++ [(k : Int)] := ⟨_, rfl⟩
          have NM := Aside0.mk hm1
          obtain ⟨A7, c7, rfl⟩ := Kd.R_slice HO.out
          have hb2 : (wr.setCell ⟨g, k, none⟩ (.bool true)).heap[g]? = some (.cells (boolC (m.set k true)).toArray 54 (0, 0)) := blk_put HMB.out k _ (by rw [List.setIfInBounds_toArray, boolC_set])
          have hgg : gb ≠ g := blk_ne BK.out HMB.out (by decide)
          have hb3 : (wr.setCell ⟨g, k, none⟩ (.bool true)).heap[gb]? = some (.cells #[.int .u64 p, .int .i64 (N : Int), .int .i64 T] 24 (0, 0)) := blk_far (p := ⟨g, k, none⟩) BK.out hgg _
          have hb4 := Kd.R_set HO.out HMB.out (by decide) k (.bool true)
          have hb5 := Below.setCell HB.out (p := ⟨g, k, none⟩) HG.out (.bool true)
          have c2 := blk_cell hb2 k
          rw [List.getElem?_toArray, boolC_get (b := true) (by rw [List.getElem?_set_self (by rw [HM.out.1]; omega)])] at c2
          have HB2 := Aside0.mk hb2
          have HB3 := Aside0.mk hb3
          have HB4 := Aside0.mk hb4
          have HB5 := Aside0.mk hb5
          clear hm1 hd hb hrun hk0 hn1 hb2 hb3 hb4 hb5 hgg
          go_wp2_with (first
            | ((with_reducible refine gate_builtin (b := .append) (xs := #[.tmp 36, .tmp 38]) rfl ?_); at_builtin; refine Kd.R_append (Kd.int .i64) (w0 := w) w.heap.size rfl (.tmp 36) (.tmp 38) 25 3 (.int .i64 0) 8 rfl Tryd.underlying25 info3 rfl (by decide) (by omega) (.slice A7 dn.length c7) dn (k : Int) [.int .i64 (k : Int)] (fun _ => True) (fun _ => False) rfl (by rw [show (wr.setCell ⟨g, k, none⟩ (.bool true)).heap.size = wr.heap.size from by simp [World.setCell]]; rfl) rfl (fun _ hk => hk.elim) (fun _ _ => trivial) HB4.out HB5.out (below_size HB5.out) (by have := HDL.out; omega) ?_; intro v1 w1 ho hb hg hat; rw [← NM.out] at ho; have HMB1 := Aside0.mk (blk_grown HB2.out hg (Kd.R_ne HB4.out HB2.out (by decide))); have BK1 := Aside0.mk (blk_grown HB3.out hg (Kd.R_ne HB4.out HB3.out (by decide))); have HO1 := Aside0.mk ho; have HB1 := Aside0.mk hb; clear ho hb hg hat))
          go_roundg (N - k)
          case measure => have := HK.out; omega
          case rel => exact ⟨k + 1, n + 1, m.set k true, m1, by rw [show wrap64 (n + 1) = n + 1 from w64' (by have := HN.out; have := HL.out; omega) (by have := HN.out; have := HL.out; omega)], by go_num, ⟨by omega⟩, ⟨by have := HN.out; omega⟩, ⟨by rw [List.length_set]; exact HM.out.1, fun i h1 h2 => by rw [List.getElem?_set_ne (by omega)]; exact HM.out.2 i (by omega) h2⟩, ⟨by rw [NM.out]; exact HE.out⟩, ⟨by rw [NM.out, List.length_append]; have := HDL.out; simp only [List.length_cons, List.length_nil]; omega⟩, HO1, HMB1, BK1, HB1⟩
        · have q3 : decide (n < T) = false := decide_eq_false hln
          have HE := Aside0.mk (show dn ++ extL l (N + 1 - (k + 1)) ((k : Int) + 1) (T - n) = extL l N 1 (T - l.length) by rw [← HD.out, hrun, ext_skip hb (by omega)])
          clear hd hb hrun hk0 hn1
          go_wp2
          go_roundg (N - k)
          case measure => have := HK.out; omega
          case rel => exact ⟨k + 1, n, m, dn, rfl, by go_num, ⟨by omega⟩, ⟨by have := HN.out; omega⟩, ⟨HM.out.1, fun i h1 h2 => HM.out.2 i (by omega) h2⟩, HE, ⟨by have := HDL.out; omega⟩, HO, HMB, BK, HB⟩
    · have q1 : decide ((k : Int) ≤ (N : Int)) = false := decide_eq_false (by omega)
      have q2 : decide (k ≤ N) = false := decide_eq_false hlt
      have hz : N + 1 - k = 0 := by omega
      have HE := Aside0.mk (show dn = extL l N 1 (T - l.length) by rw [← HD.out, hz]; simp [extL])
      clear hz
      go_wp2
      first | go_ret | ((try simp only [Exit.inBlock, Exit.then]); refine bodyPost_ret (results_tmp rfl _ _ rfl) rfl ?_)
      exact ⟨_, rfl, by rw [← HE.out]; exact HO.out, HB.out⟩
def params_ExtendCoalition.f (a0 a1 a2 : Int) (l : List Int) : Option (List Int) :=
  if 0 ≤ a1 then (if a1 ≤ 13 then (if l.length ≤ 1000 then (if (l.all fun x => decide (0 ≤ x) && decide (x < 14)) = true then some (extL l a1.toNat 1 (a2 - l.length)) else none) else none) else none) else none
theorem params_ExtendCoalition.calls (a0 a1 a2 : Int) (A1 : Option Addr) (c1 : Nat) (l1 : List Int) (r : List Int) (w : World) (hr1 : Kd.C (Kd.int .i64) w A1 l1.length l1) (hc1 : l1.length ≤ c1) (h : params_ExtendCoalition.f a0 a1 a2 l1 = some r) :
    Calls Tryd.prog 16 #[.agg #[.int .u64 a0, .int .i64 a1, .int .i64 a2], .slice A1 l1.length c1] w fun e w' => ∃ v0_ : Value, e = .returned (v0_) ∧ Kd.R (Kd.int .i64) 3 w' w.heap.size (fun _ => True) v0_ r ∧ Below w.heap.size w w' := by
  unfold params_ExtendCoalition.f at h
  obtain ⟨h1, h⟩ := ifs h
  obtain ⟨h2, h⟩ := ifs h
  obtain ⟨h3, h⟩ := ifs h
  obtain ⟨h4, h⟩ := ifs h
  rw [← Option.some.inj h]
  have e : ((a1.toNat : Nat) : Int) = a1 := Int.toNat_of_nonneg h1
  have hg := ext_walk a0 a1.toNat a2 A1 c1 l1 w hr1 hc1 h3 (fun i hi => by
    have hm := List.all_eq_true.1 h4 (l1[i]) (List.getElem_mem _)
    rw [Bool.and_eq_true, decide_eq_true_eq, decide_eq_true_eq] at hm
    have : rd l1 (i : Int) = l1[i] := by unfold rd; rw [Int.toNat_natCast, List.getD_eq_getElem?_getD, List.getElem?_eq_getElem hi]; rfl
    rw [this]; exact hm) (by omega)
  rw [e] at hg
  exact hg
end Go.Proofs.YtakaonojfpkhnaaDoor.Hw
end
section
/-
  HonestParties of package params, proved by hand.
-/
namespace Go.Proofs.YtakaonojfpkhnaaDoor.Hw
open Go.RowKit Go.Proofs.YtakaonojfpkhnaaDoor.Pr Go.Proofs.YtakaonojfpkhnaaDoorW.PrintWords Go.Proofs.YtakaonojfpkhnaaDoorW.PrintLast Go.Proofs.YtakaonojfpkhnaaDoorW.PrintMore Go.Proofs.YtakaonojfpkhnaaDoor.E
set_option linter.unusedVariables false
set_option linter.unusedSimpArgs false

theorem hon_skip {bad : List Int} {n : Nat} {k : Int} (h : k ∈ bad) : honL bad (n + 1) k = honL bad n (k + 1) := by unfold honL; rw [runL, List.filter_cons_of_neg (by simpa using h)]
theorem hon_more {bad : List Int} {n : Nat} {k : Int} (h : k ∉ bad) : honL bad (n + 1) k = k :: honL bad n (k + 1) := by unfold honL; rw [runL, List.filter_cons_of_pos (by simpa using h)]
set_option maxHeartbeats 4000000 in
set_option maxRecDepth 100000 in
theorem hon_walk (p : Int) (N : Nat) (T : Int) (A : Option Addr) (c : Nat) (l : List Int) (w : World) (hr : Kd.C (Kd.int .i64) w A l.length l) (hc : l.length ≤ c) (hl : l.length ≤ 1000) (hx : ∀ i : Nat, i < l.length → 0 ≤ rd l (i : Int) ∧ rd l (i : Int) < 14) (hN : N ≤ 13) :
    Calls Tryd.prog 17 #[.agg #[.int .u64 p, .int .i64 (N : Int), .int .i64 T], .slice A l.length c] w fun e w' => ∃ v0_ : Value, e = .returned (v0_) ∧ Kd.R (Kd.int .i64) 3 w' w.heap.size (fun _ => True) v0_ (honL l N 1) ∧ Below w.heap.size w w' := by
  have HR := Aside0.mk hr
  have HX := Aside0.mk hx
  have HC := Aside0.mk hc
  have HL := Aside0.mk hl
  have hz := (zero_of_info (P := Tryd.prog) (t := 54) (v := .agg (boolC (markL [])).toArray) (n := 14) (by kernel_rfl)).1
  have hu := Tryd.underlying54
  have hu2 := Tryd.underlying24
  have hsz : (Tryd.prog.info? 54).map (·.size) = some (boolC (markL l)).toArray.size := by rw [infoA, List.size_toArray, boolC_length, markL_length]
  have HSZ := Aside0.mk hsz
  clear hr hx hc hl hsz
  go_enter Tryd.func17, Tryd.ntmps17
  go_wp2_with (first
    | ((with_reducible refine gate_dst (N := 2) rfl ?_); refine box_event ?hg (N := 2) ?hd (cs := #[.int .u64 p, .int .i64 (N : Int), .int .i64 T]) (t := 24) ?hr ?_; (case hd => rfl); (case hg => rfl); (case hr => first | (go_simp; done) | (go_simp; rfl)); intro gb hgb w4 hbox hb4; have GB := Aside0.mk hgb; have BK4 := Aside0.mk hbox; have HB4 := Aside0.mk hb4; clear hbox hb4 hgb)
    | (go_at_call 38; (refine (members_walk A c l _ (Kd.C_below HR.out HB4.out) HC.out HL.out HX.out).mono ?_); rintro e w5 ⟨rfl, hb5⟩; have BK5 := Aside0.mk (blk_below BK4.out hb5); have HB5 := Aside0.mk (below_step HB4.out hb5); clear hb5)
    | ((with_reducible refine gate_store (p := 5) rfl ?_); refine st_row rfl 54 (.tmp 5) (.tmp 9) rfl w5.heap.size (boolC (markL l)).toArray (by rfl) (by rfl) 54 (boolC (markL [])).toArray (blk_new w5 _) HSZ.out (by rw [List.size_toArray, List.size_toArray, boolC_length, boolC_length, markL_length, markL_length]) (boolC_one _) ?_; intro w6 hb6 hbw hbo; have BK6 := Aside0.mk (hbo gb _ (by have := blk_lt BK5.out; omega) (blk_alloc BK5.out _)); have HB6 := Aside0.mk (hbw _ _ (below_size HB5.out) (below_alloc HB5.out _)); have HM6 := Aside0.mk hb6; clear hb6 hbw hbo))
  obtain ⟨g, hg⟩ : ∃ y, y = w5.heap.size := ⟨_, rfl⟩
  rw [← hg] at HM6 ⊢
  have HG := Aside0.mk (show w.heap.size ≤ g by rw [hg]; exact below_size HB5.out)
  clear hg hz BK4 BK5 HB4 HB5 GB
  go_loopg [6, 7] N (fun kq v6 v7 w' => ∃ (k : Nat) (dn : List Int), v7 = .int .i64 (k : Int) ∧ Aside0 (kq + k = N + 1 ∧ 1 ≤ k) ∧ Aside0 (dn ++ honL l (N + 1 - k) (k : Int) = honL l N 1) ∧ Aside0 (dn.length + 1 ≤ k) ∧ Aside0 (Kd.R (Kd.int .i64) 3 w' w.heap.size (fun _ => True) v6 dn) ∧ Aside0 (w'.heap[g]? = some (.cells (boolC (markL l)).toArray 54 (0, 0))) ∧ Aside0 (w'.heap[gb]? = some (.cells #[.int .u64 p, .int .i64 (N : Int), .int .i64 T] 24 (0, 0))) ∧ Aside0 (Below w.heap.size w w'))
  case atStart => exact ⟨1, [], rfl, ⟨rfl, Nat.le_refl _⟩, ⟨rfl⟩, ⟨Nat.le_refl _⟩, ⟨Kd.R_nil _ _ _ _ _⟩, HM6, BK6, HB6⟩
  case round =>
    clear HM6 BK6 HB6
    obtain ⟨k, dn, rfl, HK, HD, HDL, HO, HMB, BK, HB⟩ := hrel
    have cN := blk_cell BK.out 1
    simp only [List.getElem?_toArray, List.getElem?_cons_zero, List.getElem?_cons_succ] at cN
    obtain ⟨hk0, hk1⟩ := HK.out
    have hl := HL.out
    by_cases hlt : k ≤ N
    · have q1 : decide ((k : Int) ≤ (N : Int)) = true := decide_eq_true (by omega)
      have q2 : decide (k ≤ N) = true := decide_eq_true hlt
      have p1 : ((0 : Int) ≤ (k : Int)) = True := eq_true (by omega)
      have p2 : ((k : Int) < 14) = True := eq_true (by omega)
      have p3 : (k < 14) = True := eq_true (by omega)
      have c1 := blk_cell HMB.out k
      rw [List.getElem?_toArray, boolC_get (markL_get (by omega))] at c1
      have hrun : N + 1 - k = (N + 1 - (k + 1)) + 1 := by omega
      by_cases hb : (k : Int) ∈ l
      · have hd : decide ((k : Int) ∈ l) = true := decide_eq_true hb
        rw [hd] at c1
        have HE := Aside0.mk (show dn ++ honL l (N + 1 - (k + 1)) ((k : Int) + 1) = honL l N 1 by rw [← HD.out, hrun, hon_skip hb])
        clear hd hb hrun hk0
        go_wp2
        go_roundg (N - k)
        case measure => have := HK.out; omega
        case rel => exact ⟨k + 1, dn, by go_num, ⟨by omega⟩, HE, ⟨by have := HDL.out; omega⟩, HO, HMB, BK, HB⟩
      · have hd : decide ((k : Int) ∈ l) = false := decide_eq_false hb
        rw [hd] at c1
        have HE := Aside0.mk (show dn ++ [(k : Int)] ++ honL l (N + 1 - (k + 1)) ((k : Int) + 1) = honL l N 1 by rw [← HD.out, hrun, hon_more hb, List.append_assoc]; rfl)
        obtain ⟨m1, hm1⟩ : ∃ y : List Int, y = dn ++ [(k : Int)] := ⟨_, rfl⟩
        have NM := Aside0.mk hm1
        obtain ⟨A7, c7, rfl⟩ := Kd.R_slice HO.out
        clear hm1 hd hb hrun hk0
        go_wp2_with (first
          | ((with_reducible refine gate_builtin (b := .append) (xs := #[.tmp 20, .tmp 22]) rfl ?_); at_builtin; refine Kd.R_append (Kd.int .i64) (w0 := w) w.heap.size rfl (.tmp 20) (.tmp 22) 25 3 (.int .i64 0) 8 rfl Tryd.underlying25 info3 rfl (by decide) (by omega) (.slice A7 dn.length c7) dn (k : Int) [.int .i64 (k : Int)] (fun _ => True) (fun _ => False) rfl rfl rfl (fun _ hk => hk.elim) (fun _ _ => trivial) HO.out HB.out (below_size HB.out) (by have := HDL.out; omega) ?_; intro v1 w1 ho hb hg hat; rw [← NM.out] at ho; have HMB1 := Aside0.mk (blk_grown HMB.out hg (Kd.R_ne HO.out HMB.out (by decide))); have BK1 := Aside0.mk (blk_grown BK.out hg (Kd.R_ne HO.out BK.out (by decide))); have HO1 := Aside0.mk ho; have HB1 := Aside0.mk hb; clear ho hb hg hat))
        go_roundg (N - k)
        case measure => have := HK.out; omega
        case rel => exact ⟨k + 1, m1, by go_num, ⟨by omega⟩, ⟨by rw [NM.out]; exact HE.out⟩, ⟨by rw [NM.out, List.length_append]; have := HDL.out; simp only [List.length_cons, List.length_nil]; omega⟩, HO1, HMB1, BK1, HB1⟩
    · have q1 : decide ((k : Int) ≤ (N : Int)) = false := decide_eq_false (by omega)
      have q2 : decide (k ≤ N) = false := decide_eq_false hlt
      have hz : N + 1 - k = 0 := by omega
      have HE := Aside0.mk (show dn = honL l N 1 by rw [← HD.out, hz]; simp [honL, runL])
      clear hz
      go_wp2
      first | go_ret | ((try simp only [Exit.inBlock, Exit.then]); refine bodyPost_ret (results_tmp rfl _ _ rfl) rfl ?_)
      exact ⟨_, rfl, by rw [← HE.out]; exact HO.out, HB.out⟩
def params_HonestParties.f (a0 a1 a2 : Int) (l : List Int) : Option (List Int) :=
  if 0 ≤ a1 then (if a1 ≤ 13 then (if l.length ≤ 1000 then (if (l.all fun x => decide (0 ≤ x) && decide (x < 14)) = true then some (honL l a1.toNat 1) else none) else none) else none) else none
theorem params_HonestParties.calls (a0 a1 a2 : Int) (A1 : Option Addr) (c1 : Nat) (l1 : List Int) (r : List Int) (w : World) (hr1 : Kd.C (Kd.int .i64) w A1 l1.length l1) (hc1 : l1.length ≤ c1) (h : params_HonestParties.f a0 a1 a2 l1 = some r) :
    Calls Tryd.prog 17 #[.agg #[.int .u64 a0, .int .i64 a1, .int .i64 a2], .slice A1 l1.length c1] w fun e w' => ∃ v0_ : Value, e = .returned (v0_) ∧ Kd.R (Kd.int .i64) 3 w' w.heap.size (fun _ => True) v0_ r ∧ Below w.heap.size w w' := by
  unfold params_HonestParties.f at h
  obtain ⟨h1, h⟩ := ifs h
  obtain ⟨h2, h⟩ := ifs h
  obtain ⟨h3, h⟩ := ifs h
  obtain ⟨h4, h⟩ := ifs h
  rw [← Option.some.inj h]
  have e : ((a1.toNat : Nat) : Int) = a1 := Int.toNat_of_nonneg h1
  have hg := hon_walk a0 a1.toNat a2 A1 c1 l1 w hr1 hc1 h3 (fun i hi => by
    have hm := List.all_eq_true.1 h4 (l1[i]) (List.getElem_mem _)
    rw [Bool.and_eq_true, decide_eq_true_eq, decide_eq_true_eq] at hm
    have : rd l1 (i : Int) = l1[i] := by unfold rd; rw [Int.toNat_natCast, List.getD_eq_getElem?_getD, List.getElem?_eq_getElem hi]; rfl
    rw [this]; exact hm) (by omega)
  rw [e] at hg
  exact hg
end Go.Proofs.YtakaonojfpkhnaaDoor.Hw
end
