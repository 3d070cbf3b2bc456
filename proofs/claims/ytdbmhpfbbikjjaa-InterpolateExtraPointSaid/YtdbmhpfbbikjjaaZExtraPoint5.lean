/- Part 5 of the proof's texts, joined in build order. -/
import Derived.Test.YtdbmhpfbbikjjaaZExtraPoint2
import Derived.Test.YtdbmhpfbbikjjaaZExtraPoint4
import Derived.Test.YtdbmhpfbbikjjaaZExtraPoint3
import Derived.Test.YtdbmhpfbbikjjaaProg
import Derived.ChangeArms
import Derived.DataReads
import Derived.DataElems
import Derived.ShutString
import Derived.ChangeSame
import Derived.Test.YtdbmhpfbbikjjaaZExtraPoint0
section
/- Printed by a program of this seat (the kit's printer, with the functions that were proved by hand given to it). What stands here: the functions that the statements reach, as plain functions, and that the Go code computes them. -/
namespace Go.Proofs.Ytdbmhpfbbikjjaa.Pr
open Go.RowKit Go.Proofs.YtdbmhpfbbikjjaaW.PrintWords Go.Proofs.YtdbmhpfbbikjjaaW.PrintLast Go.Proofs.YtdbmhpfbbikjjaaW.PrintMore
attribute [local go_sem] max2_int min2_int max_two min_two max_three min_three max_four min_four   -- for this text's walks alone
set_option linter.unusedVariables false
set_option linter.unusedSimpArgs false

open Go.Proofs.Ytdbmhpfbbikjjaa.Hw
/-! ### privitylaw05_InterpolateExtraPoint: function 9 -/
mutual
def privitylaw05_InterpolateExtraPoint.j0 : Nat → Int → List (S38) → Bool → Int → Int → Option (Bool)
  | 0, _, _, _, _, _ => none
  | k + 1, x0, x1, x39, x462000, x462001 => if x39 = true then (some true) else ((some (([] : List (S38)) : List (S38))).bind fun y465 => (if y465.length + x1.length < 8796093022208 then ((some (y465 ++ x1 : List (S38))).bind fun y468 => ((some (([(⟨x462000, x462001⟩ : S38)] : List (S38)) : List (S38))).bind fun y471 => (if y468.length + y471.length < 8796093022208 then ((some (y468 ++ y471 : List (S38))).bind fun y474 => ((privityref05_Places.f k y474).bind fun t477 => ((privityref05_Unlike.f k t477).bind fun t480 => (if t480 = true then ((interpolate_Polynomial.f x0 x1).bind fun bt481 => ((interpolate_Polynomial.f x0 y474).bind fun bt485 => (if bt481.2 = 0 then (privitylaw05_InterpolateExtraPoint.j1 k x0 x1 bt481.1 bt485.1 (bt485.2 != 0) x462000 x462001) else (privitylaw05_InterpolateExtraPoint.j1 k x0 x1 bt481.1 bt485.1 true x462000 x462001)))) else (some true))))) else (none)))) else (none)))
def privitylaw05_InterpolateExtraPoint.j1 : Nat → Int → List (S38) → List Int → List Int → Bool → Int → Int → Option (Bool)
  | 0, _, _, _, _, _, _, _ => none
  | k + 1, x0, x1, x8, x10, x67, x462000, x462001 => if x67 = true then (some false) else ((poly_Eval.f k x0 x8 x462000).bind fun t489 => (if t489 = x462001 then ((privityref05_Same.f k x8 x10).bind fun t490 => (some t490)) else ((poly_Degree.f k x10).bind fun t491 => (some (t491 == (x1.length : Int))))))
end
def privitylaw05_InterpolateExtraPoint.f (k : Nat) (a0 : Int) (l1 : List (S38)) (a2_0 : Int) (a2_1 : Int) : Option (Bool) := (privitylaw05_awake.f k).bind fun t462 => (if t462 = true then ((privityref01_Supported.f k a0).bind fun t463 => (if t463 = true then (if (l1.length : Int) > 11 then (privitylaw05_InterpolateExtraPoint.j0 k a0 l1 true a2_0 a2_1) else ((privityref05_Points.f k a0 l1).bind fun t464 => (if t464 = true then (if a2_0 ≥ a0 then (privitylaw05_InterpolateExtraPoint.j0 k a0 l1 true a2_0 a2_1) else (privitylaw05_InterpolateExtraPoint.j0 k a0 l1 (decide (a2_1 ≥ a0)) a2_0 a2_1)) else (privitylaw05_InterpolateExtraPoint.j0 k a0 l1 true a2_0 a2_1)))) else (privitylaw05_InterpolateExtraPoint.j0 k a0 l1 true a2_0 a2_1))) else (some false))
def privitylaw05_InterpolateExtraPoint.T12 : Bool × List (List Nat × List Nat) := (true, [([], []), ([], []), ([], []), ([2], [2]), ([0, 1, 3], [0, 1, 3]), ([], []), ([5], [5]), ([4, 6], [4, 6])])
def privitylaw05_InterpolateExtraPoint.B12 : List Nat := [0, 0, 0, 4, 15, 0, 32, 127]
theorem privitylaw05_InterpolateExtraPoint.tab12 : rtab .any (opsOf Try.f9 12) = privitylaw05_InterpolateExtraPoint.T12 := by kernel_rfl
theorem privitylaw05_InterpolateExtraPoint.bits12 : waitsOk privitylaw05_InterpolateExtraPoint.T12.2 privitylaw05_InterpolateExtraPoint.B12 = true := by kernel_rfl
set_option maxHeartbeats 8000000 in
set_option maxRecDepth 100000 in
theorem privitylaw05_InterpolateExtraPoint.calls (k : Nat) (a0 : Int) (A1 : Option Addr) (c1 : Nat) (l1 : List (S38)) (a2_0 : Int) (a2_1 : Int) (r : Bool) (w : World) (hr1 : Kd.C k38 w A1 l1.length l1) (hc1 : l1.length ≤ c1) (h : privitylaw05_InterpolateExtraPoint.f k a0 l1 a2_0 a2_1 = some r) :
    Calls Try.prog 9 #[.int .u64 a0, .slice A1 l1.length c1, .agg #[.int .u64 a2_0, .int .u64 a2_1]] w fun e w' => e = .returned (.bool r) ∧ Below w.heap.size w w' := by
  have hu38 := Try.underlying38
  have HR1 := Aside0.mk hr1
  have HC1 := Aside0.mk hc1
  clear hr1 hc1
  have HB := Aside0.mk (Below.refl w.heap.size w)
  have H : ((privitylaw05_awake.f k).bind fun t462 => (if t462 = true then ((privityref01_Supported.f k a0).bind fun t463 => (if t463 = true then (if (l1.length : Int) > 11 then (privitylaw05_InterpolateExtraPoint.j0 k a0 l1 true a2_0 a2_1) else ((privityref05_Points.f k a0 l1).bind fun t464 => (if t464 = true then (if a2_0 ≥ a0 then (privitylaw05_InterpolateExtraPoint.j0 k a0 l1 true a2_0 a2_1) else (privitylaw05_InterpolateExtraPoint.j0 k a0 l1 (decide (a2_1 ≥ a0)) a2_0 a2_1)) else (privitylaw05_InterpolateExtraPoint.j0 k a0 l1 true a2_0 a2_1)))) else (privitylaw05_InterpolateExtraPoint.j0 k a0 l1 true a2_0 a2_1))) else (some false))) = some r := h
  clear h
  replace H := Option.bind_eq_some_iff.mp H
  obtain ⟨t462, A40, H⟩ := H
  replace H : (if t462 = true then ((privityref01_Supported.f k a0).bind fun t463 => (if t463 = true then (if (l1.length : Int) > 11 then (privitylaw05_InterpolateExtraPoint.j0 k a0 l1 true a2_0 a2_1) else ((privityref05_Points.f k a0 l1).bind fun t464 => (if t464 = true then (if a2_0 ≥ a0 then (privitylaw05_InterpolateExtraPoint.j0 k a0 l1 true a2_0 a2_1) else (privitylaw05_InterpolateExtraPoint.j0 k a0 l1 (decide (a2_1 ≥ a0)) a2_0 a2_1)) else (privitylaw05_InterpolateExtraPoint.j0 k a0 l1 true a2_0 a2_1)))) else (privitylaw05_InterpolateExtraPoint.j0 k a0 l1 true a2_0 a2_1))) else (some false)) = some r := H
  have A4 := Aside0.mk A40
  clear A40
  by_cases c5 : t462 = true
  · subst c5
    have H1 : ((privityref01_Supported.f k a0).bind fun t463 => (if t463 = true then (if (l1.length : Int) > 11 then (privitylaw05_InterpolateExtraPoint.j0 k a0 l1 true a2_0 a2_1) else ((privityref05_Points.f k a0 l1).bind fun t464 => (if t464 = true then (if a2_0 ≥ a0 then (privitylaw05_InterpolateExtraPoint.j0 k a0 l1 true a2_0 a2_1) else (privitylaw05_InterpolateExtraPoint.j0 k a0 l1 (decide (a2_1 ≥ a0)) a2_0 a2_1)) else (privitylaw05_InterpolateExtraPoint.j0 k a0 l1 true a2_0 a2_1)))) else (privitylaw05_InterpolateExtraPoint.j0 k a0 l1 true a2_0 a2_1))) = some r := by rw [if_pos rfl] at H; exact H
    clear H
    have H := H1
    clear H1
    have HC6 := Aside0.mk H
    clear H
    go_enter Try.func9, Try.ntmps9
    go_upto_region 3 with (first | ((with_reducible refine gate_dst (N := 5) rfl ?_); (try (refine gate_guard (by rfl) ?_; dsimp only)); refine box_event ?hg (N := 5) ?hd (cs := #[.int .u64 a2_0, .int .u64 a2_1]) (t := 38) ?hr ?_; (case hd => rfl); (case hg => rfl); (case hr => first | (go_simp; done) | (go_simp; rfl)); intro gb461 hg w7 hbox hb; have n0_ := Aside0.mk (below_step (by repeat (first | (with_reducible first | exact HB.out | apply below_alloc | apply pw_below_drewN | apply below_drew1) | exact HB.out)) hb); have n1_ := Aside0.mk (hbox); have n2_ := Aside0.mk ((by rw [hg]; exact (below_size (by repeat (first | (with_reducible first | exact HB.out | apply below_alloc | apply pw_below_drewN | apply below_drew1) | exact HB.out))) : w.heap.size ≤ gb461)); have n3_ := Aside0.mk ((by rw [hg]; exact (below_size (by repeat (first | (with_reducible first | exact HB.out | apply below_alloc | apply pw_below_drewN | apply below_drew1) | exact HB.out))) : w.heap.size ≤ gb461)); clear HB; have HB := n0_; have BK461 := n1_; have GW461 := n2_; have GE461 := n3_; clear n0_ n1_ n2_ n3_; clear hb hbox hg) | ((with_reducible refine gate_callee (f := 10) rfl ?_); refine goesL_ (some 12) rfl rfl Try.func10 (by kernel_rfl) rfl #[] rfl (by (try simp only [List.map_toArray, List.map_cons, List.map_nil]); first | done | rfl | (simp only [List.length_drop, List.length_take]; rfl)) ?_; (with_reducible refine (privitylaw05_awake.calls k  true _ A4.out).mono ?_); rintro e w8 ⟨rfl, hb⟩; refine ⟨_, rfl, ?_⟩; have n0_ := Aside0.mk (blk_below (g := gb461) (o := .cells #[.int .u64 a2_0, .int .u64 a2_1] 38 (0, 0)) (by (with_reducible repeat (first | refine blk_drewN ?_ _ | refine blk_drew ?_ | refine blk_alloc ?_ _)); exact BK461.out) hb); have n1_ := Aside0.mk (below_step (by repeat (first | (with_reducible first | exact HB.out | apply below_alloc | apply pw_below_drewN | apply below_drew1 | refine below_set ?_ GE461.out) | exact HB.out)) hb); clear BK461; clear HB; have BK461 := n0_; have HB := n1_; clear n0_ n1_; (try clear hb); (try clear hb2); (try clear hk); (try clear hi)))
    (try simp only [Act.put, List.setIfInBounds_toArray, List.set_cons_zero, List.set_cons_succ])
    go_cut [39] (fun v39 wc => ∃ (kq : Nat) (x39_5 : Bool), v39 = .bool x39_5 ∧ Aside0 (privitylaw05_InterpolateExtraPoint.j0 kq a0 l1 x39_5 a2_0 a2_1 = some r) ∧ Aside0 (kq ≤ k) ∧ Aside0 (wc.heap[gb461]? = some (.cells #[.int .u64 a2_0, .int .u64 a2_1] 38 (0, 0))) ∧ Aside0 (Below w.heap.size w wc))
    case first =>
      have H := HC6.out
      clear HC6
      replace H := Option.bind_eq_some_iff.mp H
      obtain ⟨t463, A90, H⟩ := H
      replace H : (if t463 = true then (if (l1.length : Int) > 11 then (privitylaw05_InterpolateExtraPoint.j0 k a0 l1 true a2_0 a2_1) else ((privityref05_Points.f k a0 l1).bind fun t464 => (if t464 = true then (if a2_0 ≥ a0 then (privitylaw05_InterpolateExtraPoint.j0 k a0 l1 true a2_0 a2_1) else (privitylaw05_InterpolateExtraPoint.j0 k a0 l1 (decide (a2_1 ≥ a0)) a2_0 a2_1)) else (privitylaw05_InterpolateExtraPoint.j0 k a0 l1 true a2_0 a2_1)))) else (privitylaw05_InterpolateExtraPoint.j0 k a0 l1 true a2_0 a2_1)) = some r := H
      have A9 := Aside0.mk A90
      clear A90
      by_cases c10 : t463 = true
      · subst c10
        have H1 : (if (l1.length : Int) > 11 then (privitylaw05_InterpolateExtraPoint.j0 k a0 l1 true a2_0 a2_1) else ((privityref05_Points.f k a0 l1).bind fun t464 => (if t464 = true then (if a2_0 ≥ a0 then (privitylaw05_InterpolateExtraPoint.j0 k a0 l1 true a2_0 a2_1) else (privitylaw05_InterpolateExtraPoint.j0 k a0 l1 (decide (a2_1 ≥ a0)) a2_0 a2_1)) else (privitylaw05_InterpolateExtraPoint.j0 k a0 l1 true a2_0 a2_1)))) = some r := by rw [if_pos rfl] at H; exact H
        clear H
        have H := H1
        clear H1
        by_cases c11 : (l1.length : Int) > 11
        · rw [if_pos c11] at H
          have c11b0 : decide (11 < (l1.length : Int)) = true := decide_eq_true c11
          have c11b1 : decide (11 < l1.length) = true := decide_eq_true (by omega)
          clear c11
          (first | rw [c11b0] | (simp only [i64_w, i32_w]; rw [c11b0]) | skip)
          have H' := Aside0.mk H
          clear H
          go_wp2_with (first | ((with_reducible refine gate_callee (f := 11) rfl ?_); refine goesL_ (some 15) rfl rfl Try.func11 (by kernel_rfl) rfl #[.int .u64 a0] rfl (by (try simp only [List.map_toArray, List.map_cons, List.map_nil]); first | done | rfl | (simp only [List.length_drop, List.length_take]; rfl)) ?_; (with_reducible refine (privityref01_Supported.calls k a0 true _ A9.out).mono ?_); rintro e w12 ⟨rfl, hb⟩; refine ⟨_, rfl, ?_⟩; have n0_ := Aside0.mk (blk_below (g := gb461) (o := .cells #[.int .u64 a2_0, .int .u64 a2_1] 38 (0, 0)) (by (with_reducible repeat (first | refine blk_drewN ?_ _ | refine blk_drew ?_ | refine blk_alloc ?_ _)); exact BK461.out) hb); have n1_ := Aside0.mk (below_step (by repeat (first | (with_reducible first | exact HB.out | apply below_alloc | apply pw_below_drewN | apply below_drew1 | refine below_set ?_ GE461.out) | exact HB.out)) hb); clear BK461; clear HB; have BK461 := n0_; have HB := n1_; clear n0_ n1_; (try clear hb); (try clear hb2); (try clear hk); (try clear hi)))
          go_meet
          case rel => exact ⟨_, (true), (by first | rfl | (simp; done) | (simp [*]; done)), H', ⟨by first | omega | exact Nat.le_refl _⟩, ⟨by (with_reducible repeat (first | refine blk_drewN ?_ _ | refine blk_drew ?_ | refine blk_alloc ?_ _)); exact BK461.out⟩, ⟨by repeat (first | (with_reducible first | exact HB.out | apply below_alloc | apply pw_below_drewN | apply below_drew1 | refine below_set ?_ GE461.out) | exact HB.out)⟩⟩
        · rw [if_neg c11] at H
          have c11b0 : decide (11 < (l1.length : Int)) = false := decide_eq_false c11
          have c11b1 : decide (11 < l1.length) = false := decide_eq_false (by omega)
          clear c11
          (first | rw [c11b0] | (simp only [i64_w, i32_w]; rw [c11b0]) | skip)
          replace H := Option.bind_eq_some_iff.mp H
          obtain ⟨t464, A130, H⟩ := H
          replace H : (if t464 = true then (if a2_0 ≥ a0 then (privitylaw05_InterpolateExtraPoint.j0 k a0 l1 true a2_0 a2_1) else (privitylaw05_InterpolateExtraPoint.j0 k a0 l1 (decide (a2_1 ≥ a0)) a2_0 a2_1)) else (privitylaw05_InterpolateExtraPoint.j0 k a0 l1 true a2_0 a2_1)) = some r := H
          have A13 := Aside0.mk A130
          clear A130
          by_cases c14 : t464 = true
          · subst c14
            have H1 : (if a2_0 ≥ a0 then (privitylaw05_InterpolateExtraPoint.j0 k a0 l1 true a2_0 a2_1) else (privitylaw05_InterpolateExtraPoint.j0 k a0 l1 (decide (a2_1 ≥ a0)) a2_0 a2_1)) = some r := by rw [if_pos rfl] at H; exact H
            clear H
            have H := H1
            clear H1
            by_cases c15 : a2_0 ≥ a0
            · rw [if_pos c15] at H
              have c15b0 : decide (a0 ≤ a2_0) = true := decide_eq_true c15
              clear c15
              have H' := Aside0.mk H
              clear H
              go_wp2_with (first | ((with_reducible refine gate_callee (f := 11) rfl ?_); refine goesL_ (some 15) rfl rfl Try.func11 (by kernel_rfl) rfl #[.int .u64 a0] rfl (by (try simp only [List.map_toArray, List.map_cons, List.map_nil]); first | done | rfl | (simp only [List.length_drop, List.length_take]; rfl)) ?_; (with_reducible refine (privityref01_Supported.calls k a0 true _ A9.out).mono ?_); rintro e w16 ⟨rfl, hb⟩; refine ⟨_, rfl, ?_⟩; have n0_ := Aside0.mk (blk_below (g := gb461) (o := .cells #[.int .u64 a2_0, .int .u64 a2_1] 38 (0, 0)) (by (with_reducible repeat (first | refine blk_drewN ?_ _ | refine blk_drew ?_ | refine blk_alloc ?_ _)); exact BK461.out) hb); have n1_ := Aside0.mk (below_step (by repeat (first | (with_reducible first | exact HB.out | apply below_alloc | apply pw_below_drewN | apply below_drew1 | refine below_set ?_ GE461.out) | exact HB.out)) hb); clear BK461; clear HB; have BK461 := n0_; have HB := n1_; clear n0_ n1_; (try clear hb); (try clear hb2); (try clear hk); (try clear hi)) | (go_at_call 17; (with_reducible refine (privityref05_Points.calls k a0 _ _ l1 true _ ?side1 ?side2 A13.out).mono ?_); (case side1 => repeat (first | exact (Kd.C_below HR1.out HB.out) | (with_reducible refine Kd.C_alloc ?_ _) | (with_reducible refine Kd.C_drewN ?_ _) | (with_reducible refine Kd.C_drew ?_))); (case side2 => exact HC1.out); rintro e w' ⟨rfl, ⟨nd, rfl⟩⟩; have hcz17_0 : w16.cell? ⟨gb461, 0, none⟩ = some (.int .u64 a2_0) := (blk_cell BK461.out 0).trans rfl; have hcz17_1 : w16.cell? ⟨gb461, 1, none⟩ = some (.int .u64 a2_1) := (blk_cell BK461.out 1).trans rfl; have hfz17_0 := blk_frozen BK461.out 0; have hfz17_1 := blk_frozen BK461.out 1))
              go_meet
              case rel => exact ⟨_, (true), (by first | rfl | (simp; done) | (simp [*]; done)), H', ⟨by first | omega | exact Nat.le_refl _⟩, ⟨by (with_reducible repeat (first | refine blk_drewN ?_ _ | refine blk_drew ?_ | refine blk_alloc ?_ _)); exact BK461.out⟩, ⟨by repeat (first | (with_reducible first | exact HB.out | apply below_alloc | apply pw_below_drewN | apply below_drew1 | refine below_set ?_ GE461.out) | exact HB.out)⟩⟩
            · rw [if_neg c15] at H
              have c15b0 : decide (a0 ≤ a2_0) = false := decide_eq_false c15
              clear c15
              have H' := Aside0.mk H
              clear H
              go_wp2_with (first | ((with_reducible refine gate_callee (f := 11) rfl ?_); refine goesL_ (some 15) rfl rfl Try.func11 (by kernel_rfl) rfl #[.int .u64 a0] rfl (by (try simp only [List.map_toArray, List.map_cons, List.map_nil]); first | done | rfl | (simp only [List.length_drop, List.length_take]; rfl)) ?_; (with_reducible refine (privityref01_Supported.calls k a0 true _ A9.out).mono ?_); rintro e w18 ⟨rfl, hb⟩; refine ⟨_, rfl, ?_⟩; have n0_ := Aside0.mk (blk_below (g := gb461) (o := .cells #[.int .u64 a2_0, .int .u64 a2_1] 38 (0, 0)) (by (with_reducible repeat (first | refine blk_drewN ?_ _ | refine blk_drew ?_ | refine blk_alloc ?_ _)); exact BK461.out) hb); have n1_ := Aside0.mk (below_step (by repeat (first | (with_reducible first | exact HB.out | apply below_alloc | apply pw_below_drewN | apply below_drew1 | refine below_set ?_ GE461.out) | exact HB.out)) hb); clear BK461; clear HB; have BK461 := n0_; have HB := n1_; clear n0_ n1_; (try clear hb); (try clear hb2); (try clear hk); (try clear hi)) | (go_at_call 17; (with_reducible refine (privityref05_Points.calls k a0 _ _ l1 true _ ?side1 ?side2 A13.out).mono ?_); (case side1 => repeat (first | exact (Kd.C_below HR1.out HB.out) | (with_reducible refine Kd.C_alloc ?_ _) | (with_reducible refine Kd.C_drewN ?_ _) | (with_reducible refine Kd.C_drew ?_))); (case side2 => exact HC1.out); rintro e w' ⟨rfl, ⟨nd, rfl⟩⟩; have hcz19_0 : w18.cell? ⟨gb461, 0, none⟩ = some (.int .u64 a2_0) := (blk_cell BK461.out 0).trans rfl; have hcz19_1 : w18.cell? ⟨gb461, 1, none⟩ = some (.int .u64 a2_1) := (blk_cell BK461.out 1).trans rfl; have hfz19_0 := blk_frozen BK461.out 0; have hfz19_1 := blk_frozen BK461.out 1))
              go_meet
              case rel => exact ⟨_, (decide (a2_1 ≥ a0)), (by first | rfl | (simp; done) | (simp [*]; done)), H', ⟨by first | omega | exact Nat.le_refl _⟩, ⟨by (with_reducible repeat (first | refine blk_drewN ?_ _ | refine blk_drew ?_ | refine blk_alloc ?_ _)); exact BK461.out⟩, ⟨by repeat (first | (with_reducible first | exact HB.out | apply below_alloc | apply pw_below_drewN | apply below_drew1 | refine below_set ?_ GE461.out) | exact HB.out)⟩⟩
          · replace c14 := Bool.eq_false_iff.mpr c14
            subst c14
            have H1 : (privitylaw05_InterpolateExtraPoint.j0 k a0 l1 true a2_0 a2_1) = some r := by rw [if_neg (show ¬ (false = true) by decide)] at H; exact H
            clear H
            have H := H1
            clear H1
            have H' := Aside0.mk H
            clear H
            go_wp2_with (first | ((with_reducible refine gate_callee (f := 11) rfl ?_); refine goesL_ (some 15) rfl rfl Try.func11 (by kernel_rfl) rfl #[.int .u64 a0] rfl (by (try simp only [List.map_toArray, List.map_cons, List.map_nil]); first | done | rfl | (simp only [List.length_drop, List.length_take]; rfl)) ?_; (with_reducible refine (privityref01_Supported.calls k a0 true _ A9.out).mono ?_); rintro e w20 ⟨rfl, hb⟩; refine ⟨_, rfl, ?_⟩; have n0_ := Aside0.mk (blk_below (g := gb461) (o := .cells #[.int .u64 a2_0, .int .u64 a2_1] 38 (0, 0)) (by (with_reducible repeat (first | refine blk_drewN ?_ _ | refine blk_drew ?_ | refine blk_alloc ?_ _)); exact BK461.out) hb); have n1_ := Aside0.mk (below_step (by repeat (first | (with_reducible first | exact HB.out | apply below_alloc | apply pw_below_drewN | apply below_drew1 | refine below_set ?_ GE461.out) | exact HB.out)) hb); clear BK461; clear HB; have BK461 := n0_; have HB := n1_; clear n0_ n1_; (try clear hb); (try clear hb2); (try clear hk); (try clear hi)) | (go_at_call 17; (with_reducible refine (privityref05_Points.calls k a0 _ _ l1 false _ ?side1 ?side2 A13.out).mono ?_); (case side1 => repeat (first | exact (Kd.C_below HR1.out HB.out) | (with_reducible refine Kd.C_alloc ?_ _) | (with_reducible refine Kd.C_drewN ?_ _) | (with_reducible refine Kd.C_drew ?_))); (case side2 => exact HC1.out); rintro e w' ⟨rfl, ⟨nd, rfl⟩⟩))
            go_meet
            case rel => exact ⟨_, (true), (by first | rfl | (simp; done) | (simp [*]; done)), H', ⟨by first | omega | exact Nat.le_refl _⟩, ⟨by (with_reducible repeat (first | refine blk_drewN ?_ _ | refine blk_drew ?_ | refine blk_alloc ?_ _)); exact BK461.out⟩, ⟨by repeat (first | (with_reducible first | exact HB.out | apply below_alloc | apply pw_below_drewN | apply below_drew1 | refine below_set ?_ GE461.out) | exact HB.out)⟩⟩
      · replace c10 := Bool.eq_false_iff.mpr c10
        subst c10
        have H1 : (privitylaw05_InterpolateExtraPoint.j0 k a0 l1 true a2_0 a2_1) = some r := by rw [if_neg (show ¬ (false = true) by decide)] at H; exact H
        clear H
        have H := H1
        clear H1
        have H' := Aside0.mk H
        clear H
        go_wp2_with (first | ((with_reducible refine gate_callee (f := 11) rfl ?_); refine goesL_ (some 15) rfl rfl Try.func11 (by kernel_rfl) rfl #[.int .u64 a0] rfl (by (try simp only [List.map_toArray, List.map_cons, List.map_nil]); first | done | rfl | (simp only [List.length_drop, List.length_take]; rfl)) ?_; (with_reducible refine (privityref01_Supported.calls k a0 false _ A9.out).mono ?_); rintro e w21 ⟨rfl, hb⟩; refine ⟨_, rfl, ?_⟩; have n0_ := Aside0.mk (blk_below (g := gb461) (o := .cells #[.int .u64 a2_0, .int .u64 a2_1] 38 (0, 0)) (by (with_reducible repeat (first | refine blk_drewN ?_ _ | refine blk_drew ?_ | refine blk_alloc ?_ _)); exact BK461.out) hb); have n1_ := Aside0.mk (below_step (by repeat (first | (with_reducible first | exact HB.out | apply below_alloc | apply pw_below_drewN | apply below_drew1 | refine below_set ?_ GE461.out) | exact HB.out)) hb); clear BK461; clear HB; have BK461 := n0_; have HB := n1_; clear n0_ n1_; (try clear hb); (try clear hb2); (try clear hk); (try clear hi)))
        go_meet
        case rel => exact ⟨_, (true), (by first | rfl | (simp; done) | (simp [*]; done)), H', ⟨by first | omega | exact Nat.le_refl _⟩, ⟨by (with_reducible repeat (first | refine blk_drewN ?_ _ | refine blk_drew ?_ | refine blk_alloc ?_ _)); exact BK461.out⟩, ⟨by repeat (first | (with_reducible first | exact HB.out | apply below_alloc | apply pw_below_drewN | apply below_drew1 | refine below_set ?_ GE461.out) | exact HB.out)⟩⟩
    case rest =>
      clear HC6
      try clear c1
      try clear p2
      try clear c5
      try clear c9
      try clear c10
      try clear c11
      try clear c11b0
      try clear c11b1
      try clear c14
      try clear c15
      try clear c15b0
      try clear hcz17_0
      try clear hcz17_1
      try clear hcz19_0
      try clear hcz19_1
      try clear hfz17_0
      try clear hfz17_1
      try clear hfz19_0
      try clear hfz19_1
      obtain ⟨kq, x39_5, rfl, HA, HJ5, BK461, HB⟩ := hcut
      cases kq with
      | zero => exact absurd HA.out (by simp [privitylaw05_InterpolateExtraPoint.j0])
      | succ kj5 =>
        have H := HA.out
        clear HA
        simp only [privitylaw05_InterpolateExtraPoint.j0] at H
        by_cases c22 : x39_5 = true
        · subst c22
          have H1 : (some true) = some r := by rw [if_pos rfl] at H; exact H
          clear H
          have H := H1
          clear H1
          obtain rfl := Option.some.inj H
          go_wp2
          go_ret
          exact ⟨by first | rfl | (simp [errW_none, errW_some] <;> rfl) | (simp [*, errW_none, errW_some] <;> rfl), by repeat (first | (with_reducible first | exact HB.out | apply below_alloc | apply pw_below_drewN | apply below_drew1 | refine below_set ?_ GE461.out) | exact HB.out)⟩
        · replace c22 := Bool.eq_false_iff.mpr c22
          subst c22
          have H1 : ((some (([] : List (S38)) : List (S38))).bind fun y465 => (if y465.length + l1.length < 8796093022208 then ((some (y465 ++ l1 : List (S38))).bind fun y468 => ((some (([(⟨a2_0, a2_1⟩ : S38)] : List (S38)) : List (S38))).bind fun y471 => (if y468.length + y471.length < 8796093022208 then ((some (y468 ++ y471 : List (S38))).bind fun y474 => ((privityref05_Places.f kj5 y474).bind fun t477 => ((privityref05_Unlike.f kj5 t477).bind fun t480 => (if t480 = true then ((interpolate_Polynomial.f a0 l1).bind fun bt481 => ((interpolate_Polynomial.f a0 y474).bind fun bt485 => (if bt481.2 = 0 then (privitylaw05_InterpolateExtraPoint.j1 kj5 a0 l1 bt481.1 bt485.1 (bt485.2 != 0) a2_0 a2_1) else (privitylaw05_InterpolateExtraPoint.j1 kj5 a0 l1 bt481.1 bt485.1 true a2_0 a2_1)))) else (some true))))) else (none)))) else (none))) = some r := by rw [if_neg (show ¬ (false = true) by decide)] at H; exact H
          clear H
          have H := H1
          clear H1
          obtain ⟨y465, hy465⟩ : ∃ y_ : List (S38), y_ = (([] : List (S38))) := ⟨_, rfl⟩
          replace H : (if y465.length + l1.length < 8796093022208 then ((some (y465 ++ l1 : List (S38))).bind fun y468 => ((some (([(⟨a2_0, a2_1⟩ : S38)] : List (S38)) : List (S38))).bind fun y471 => (if y468.length + y471.length < 8796093022208 then ((some (y468 ++ y471 : List (S38))).bind fun y474 => ((privityref05_Places.f kj5 y474).bind fun t477 => ((privityref05_Unlike.f kj5 t477).bind fun t480 => (if t480 = true then ((interpolate_Polynomial.f a0 l1).bind fun bt481 => ((interpolate_Polynomial.f a0 y474).bind fun bt485 => (if bt481.2 = 0 then (privitylaw05_InterpolateExtraPoint.j1 kj5 a0 l1 bt481.1 bt485.1 (bt485.2 != 0) a2_0 a2_1) else (privitylaw05_InterpolateExtraPoint.j1 kj5 a0 l1 bt481.1 bt485.1 true a2_0 a2_1)))) else (some true))))) else (none)))) else (none)) = some r := by first | (rw [hy465]; with_reducible exact H) | (have H2_ := (Option.bind_some _ _).symm.trans H; rw [hy465]; with_reducible exact H2_) | (have H2_ := (Option.bind_some _ _).symm.trans H; with_reducible exact H2_) | with_reducible exact H | (rw [hy465]; exact H) | exact H
          have Ny465 := Aside0.mk hy465
          clear hy465
          by_cases c23 : y465.length + l1.length < 8796093022208
          · rw [if_pos c23] at H
            have LMc23 := Aside0.mk c23
            clear c23
            obtain ⟨y468, hy468⟩ : ∃ y_ : List (S38), y_ = (y465 ++ l1) := ⟨_, rfl⟩
            replace H : ((some (([(⟨a2_0, a2_1⟩ : S38)] : List (S38)) : List (S38))).bind fun y471 => (if y468.length + y471.length < 8796093022208 then ((some (y468 ++ y471 : List (S38))).bind fun y474 => ((privityref05_Places.f kj5 y474).bind fun t477 => ((privityref05_Unlike.f kj5 t477).bind fun t480 => (if t480 = true then ((interpolate_Polynomial.f a0 l1).bind fun bt481 => ((interpolate_Polynomial.f a0 y474).bind fun bt485 => (if bt481.2 = 0 then (privitylaw05_InterpolateExtraPoint.j1 kj5 a0 l1 bt481.1 bt485.1 (bt485.2 != 0) a2_0 a2_1) else (privitylaw05_InterpolateExtraPoint.j1 kj5 a0 l1 bt481.1 bt485.1 true a2_0 a2_1)))) else (some true))))) else (none))) = some r := by first | (rw [hy468]; with_reducible exact H) | (have H2_ := (Option.bind_some _ _).symm.trans H; rw [hy468]; with_reducible exact H2_) | (have H2_ := (Option.bind_some _ _).symm.trans H; with_reducible exact H2_) | with_reducible exact H | (rw [hy468]; exact H) | exact H
            have Ny468 := Aside0.mk hy468
            clear hy468
            obtain ⟨y471, hy471⟩ : ∃ y_ : List (S38), y_ = (([(⟨a2_0, a2_1⟩ : S38)] : List (S38))) := ⟨_, rfl⟩
            replace H : (if y468.length + y471.length < 8796093022208 then ((some (y468 ++ y471 : List (S38))).bind fun y474 => ((privityref05_Places.f kj5 y474).bind fun t477 => ((privityref05_Unlike.f kj5 t477).bind fun t480 => (if t480 = true then ((interpolate_Polynomial.f a0 l1).bind fun bt481 => ((interpolate_Polynomial.f a0 y474).bind fun bt485 => (if bt481.2 = 0 then (privitylaw05_InterpolateExtraPoint.j1 kj5 a0 l1 bt481.1 bt485.1 (bt485.2 != 0) a2_0 a2_1) else (privitylaw05_InterpolateExtraPoint.j1 kj5 a0 l1 bt481.1 bt485.1 true a2_0 a2_1)))) else (some true))))) else (none)) = some r := by first | (rw [hy471]; with_reducible exact H) | (have H2_ := (Option.bind_some _ _).symm.trans H; rw [hy471]; with_reducible exact H2_) | (have H2_ := (Option.bind_some _ _).symm.trans H; with_reducible exact H2_) | with_reducible exact H | (rw [hy471]; exact H) | exact H
            have Ny471 := Aside0.mk hy471
            clear hy471
            by_cases c24 : y468.length + y471.length < 8796093022208
            · rw [if_pos c24] at H
              have LMc24 := Aside0.mk c24
              clear c24
              obtain ⟨y474, hy474⟩ : ∃ y_ : List (S38), y_ = (y468 ++ y471) := ⟨_, rfl⟩
              replace H : ((privityref05_Places.f kj5 y474).bind fun t477 => ((privityref05_Unlike.f kj5 t477).bind fun t480 => (if t480 = true then ((interpolate_Polynomial.f a0 l1).bind fun bt481 => ((interpolate_Polynomial.f a0 y474).bind fun bt485 => (if bt481.2 = 0 then (privitylaw05_InterpolateExtraPoint.j1 kj5 a0 l1 bt481.1 bt485.1 (bt485.2 != 0) a2_0 a2_1) else (privitylaw05_InterpolateExtraPoint.j1 kj5 a0 l1 bt481.1 bt485.1 true a2_0 a2_1)))) else (some true)))) = some r := by first | (rw [hy474]; with_reducible exact H) | (have H2_ := (Option.bind_some _ _).symm.trans H; rw [hy474]; with_reducible exact H2_) | (have H2_ := (Option.bind_some _ _).symm.trans H; with_reducible exact H2_) | with_reducible exact H | (rw [hy474]; exact H) | exact H
              have Ny474 := Aside0.mk hy474
              clear hy474
              replace H := Option.bind_eq_some_iff.mp H
              obtain ⟨t477, A250, H⟩ := H
              replace H : ((privityref05_Unlike.f kj5 t477).bind fun t480 => (if t480 = true then ((interpolate_Polynomial.f a0 l1).bind fun bt481 => ((interpolate_Polynomial.f a0 y474).bind fun bt485 => (if bt481.2 = 0 then (privitylaw05_InterpolateExtraPoint.j1 kj5 a0 l1 bt481.1 bt485.1 (bt485.2 != 0) a2_0 a2_1) else (privitylaw05_InterpolateExtraPoint.j1 kj5 a0 l1 bt481.1 bt485.1 true a2_0 a2_1)))) else (some true))) = some r := H
              have A25 := Aside0.mk A250
              clear A250
              replace H := Option.bind_eq_some_iff.mp H
              obtain ⟨t480, A260, H⟩ := H
              replace H : (if t480 = true then ((interpolate_Polynomial.f a0 l1).bind fun bt481 => ((interpolate_Polynomial.f a0 y474).bind fun bt485 => (if bt481.2 = 0 then (privitylaw05_InterpolateExtraPoint.j1 kj5 a0 l1 bt481.1 bt485.1 (bt485.2 != 0) a2_0 a2_1) else (privitylaw05_InterpolateExtraPoint.j1 kj5 a0 l1 bt481.1 bt485.1 true a2_0 a2_1)))) else (some true)) = some r := H
              have A26 := Aside0.mk A260
              clear A260
              by_cases c27 : t480 = true
              · subst c27
                have H1 : ((interpolate_Polynomial.f a0 l1).bind fun bt481 => ((interpolate_Polynomial.f a0 y474).bind fun bt485 => (if bt481.2 = 0 then (privitylaw05_InterpolateExtraPoint.j1 kj5 a0 l1 bt481.1 bt485.1 (bt485.2 != 0) a2_0 a2_1) else (privitylaw05_InterpolateExtraPoint.j1 kj5 a0 l1 bt481.1 bt485.1 true a2_0 a2_1)))) = some r := by rw [if_pos rfl] at H; exact H
                clear H
                have H := H1
                clear H1
                replace H := Option.bind_eq_some_iff.mp H
                obtain ⟨⟨t481, t482⟩, A280, H⟩ := H
                replace H : ((interpolate_Polynomial.f a0 y474).bind fun bt485 => (if t482 = 0 then (privitylaw05_InterpolateExtraPoint.j1 kj5 a0 l1 t481 bt485.1 (bt485.2 != 0) a2_0 a2_1) else (privitylaw05_InterpolateExtraPoint.j1 kj5 a0 l1 t481 bt485.1 true a2_0 a2_1))) = some r := H
                have A28 := Aside0.mk A280
                clear A280
                replace H := Option.bind_eq_some_iff.mp H
                obtain ⟨⟨t485, t486⟩, A290, H⟩ := H
                replace H : (if t482 = 0 then (privitylaw05_InterpolateExtraPoint.j1 kj5 a0 l1 t481 t485 (t486 != 0) a2_0 a2_1) else (privitylaw05_InterpolateExtraPoint.j1 kj5 a0 l1 t481 t485 true a2_0 a2_1)) = some r := H
                have A29 := Aside0.mk A290
                clear A290
                have HC30 := Aside0.mk H
                clear H
                try go_wp2
                have n0_ := Aside0.mk (blk_drew BK461.out)
                have n1_ := Aside0.mk (below_drew1 HB.out)
                clear BK461
                clear HB
                have BK461 := n0_
                have HB := n1_
                clear n0_ n1_
                refine start_ (n := 7) (S := fun w' => w'.cell? ⟨gb461, 0, none⟩ = some (.int .u64 a2_0) ∧ w'.cell? ⟨gb461, 1, none⟩ = some (.int .u64 a2_1)) (ds := []) #[false, false, false, false, false, false, false] (by kernel_rfl) rfl rfl ⟨(blk_cell BK461.out 0).trans rfl, (blk_cell BK461.out 1).trans rfl⟩ (fun hHeld => ?_)
                generalize wc.drew = w31 at BK461 HB hHeld ⊢
                refine pure_ (i := 1) (N := some 41) (v := ?_) (a' := ?_) #[false, true, false, false, false, false, false] rfl rfl (by kernel_rfl) (fun _ _ _ h => h) (Or.inl ⟨by rfl, ?_⟩) ?_ ?_
                rotate_left
                · intro w'
                  go_simp
                  with_reducible rfl
                rotate_left
                · simp only [Act.put, List.setIfInBounds_toArray, List.set_cons_zero, List.set_cons_succ, i64_w, i32_w]
                  rfl
                refine take_ (i := 3) (N := some 43) (v := ?_) (a' := ?_) #[false, true, false, true, false, false, false] rfl rfl (by kernel_rfl) (fun _ _ _ h => h) (Or.inl ⟨by rfl, ?_⟩) hHeld ?_ ?_
                rotate_left
                · rintro w' ⟨s0, s1⟩
                  go_simp
                  with_reducible rfl
                rotate_left
                · simp only [Act.put, List.setIfInBounds_toArray, List.set_cons_zero, List.set_cons_succ, i64_w, i32_w]
                  rfl
                refine join_ (σ := Value × Value × Value) 2 #[true, true, true, true, true, false, false] (fun s_ => [(40, s_.1), (42, s_.2.1), (44, s_.2.2)]) (fun s_ w' => (w'.cell? ⟨gb461, 0, none⟩ = some (.int .u64 a2_0) ∧ w'.cell? ⟨gb461, 1, none⟩ = some (.int .u64 a2_1)) ∧ (Kd.R k38 38 w' w.heap.size (fun k_ => some k_ ≠ (s_.2.2 : Value).ownBlock ∧ k_ ≠ gb461) s_.2.1 y468) ∧ (Kd.R k38 38 w' w.heap.size (fun k_ => some k_ ≠ (s_.2.1 : Value).ownBlock ∧ k_ ≠ gb461) s_.2.2 y471) ∧ (w'.heap[gb461]? = some (.cells #[.int .u64 a2_0, .int .u64 a2_1] 38 (0, 0))) ∧ (Below w.heap.size w w')) ?_ ?_
                rotate_left
                · intro hCont
                  refine two_ (i := 0) (j := 4) (Ni := some 40) (Nj := some 44) #[true, true, false, true, false, false, false] #[false, true, false, true, true, false, false] rfl rfl rfl rfl (by kernel_rfl) (by decide) (by decide) (fun K hK => ?_) (fun K hK => ?_)
                  · skip
                    refine Kd.R_lit_step k38 _ 38 ?hg (N := 40) ?hd (xs := ([] : List (S38))) (inner := []) (ok := fun _ => True) (okp := fun _ => True) ?hr ?hp (fun _ hk => hk) trivial (Below.refl _ _) (Nat.le_refl _) (by simp) ?_; (case hd => rfl); (case hg => rfl); (case hr => first | (go_simp; done) | (go_simp; rfl)); (case hp => exact (Reps.none _ _))
                    intro v466 w32 ho33 hb hg_ hnew_
                    clear hg_ hnew_
                    (first | rw [← Ny465.out] at ho33 | (simp only [Int.reduceToNat] at ho33; rw [← Ny465.out] at ho33))
                    have n0_ := Aside0.mk (Kd.R_lower (Kd.R_newB ho33 (g := gb461) (o := .cells #[.int .u64 a2_0, .int .u64 a2_1] 38 (0, 0)) (by (with_reducible repeat (first | refine blk_drewN ?_ _ | refine blk_drew ?_ | refine blk_alloc ?_ _)); exact BK461.out)) (below_size (by repeat (first | (with_reducible first | exact HB.out | apply below_alloc | apply pw_below_drewN | apply below_drew1 | refine below_set ?_ GE461.out) | exact HB.out))))
                    have n1_ := Aside0.mk (blk_below (g := gb461) (o := .cells #[.int .u64 a2_0, .int .u64 a2_1] 38 (0, 0)) (by (with_reducible repeat (first | refine blk_drewN ?_ _ | refine blk_drew ?_ | refine blk_alloc ?_ _)); exact BK461.out) hb)
                    have n2_ := Aside0.mk (below_step (by repeat (first | (with_reducible first | exact HB.out | apply below_alloc | apply pw_below_drewN | apply below_drew1 | refine below_set ?_ GE461.out) | exact HB.out)) hb)
                    clear BK461
                    clear HB
                    have HO467 := n0_
                    have BK461 := n1_
                    have HB := n2_
                    clear n0_ n1_ n2_
                    clear hb ho33
                    refine hK.out _ _ ⟨(blk_cell BK461.out 0).trans rfl, (blk_cell BK461.out 1).trans rfl⟩ (fun hHeld => ?_)
                    clear hK K
                    refine norm_ (a' := ?_) ?_ ?_
                    rotate_left
                    · show Act.put _ (some 40) _ = _
                      simp only [Act.put, List.setIfInBounds_toArray, List.set_cons_zero, List.set_cons_succ, i64_w, i32_w]
                      rfl
                    refine two_ (i := 2) (j := 4) (Ni := some 42) (Nj := some 44) #[true, true, true, true, false, false, false] #[true, true, false, true, true, false, false] rfl rfl rfl rfl (by kernel_rfl) (by decide) (by decide) (fun K hK => ?_) (fun K hK => ?_)
                    · skip
                      refine Kd.R_append_rows_step k38 (w0 := w) w.heap.size (by rfl) (.tmp 40) (.tmp 41) 33 38 (.agg #[(.int .u64 0), (.int .u64 0)]) 16 rfl Try.underlying33 info38 rfl (by decide) (by omega) v466 y465 l1 _ _ _ (fun k_ => k_ ≠ gb461) (fun _ => False) rfl rfl ?aO ?aR (fun _ _ h => h) (fun _ h => h.elim) ?aF ?aB ?aS ?aL ?_
                      (case aR => repeat (first | exact (Kd.C_below HR1.out HB.out) | (with_reducible refine Kd.C_alloc ?_ _) | (with_reducible refine Kd.C_drewN ?_ _) | (with_reducible refine Kd.C_drew ?_)))
                      (case aB => exact (by repeat (first | (with_reducible first | exact HB.out | apply below_alloc | apply pw_below_drewN | apply below_drew1 | refine below_set ?_ GE461.out) | exact HB.out)))
                      (case aF => exact (fun k_ hk => Kd.freshB (g := gb461) (o := .cells #[.int .u64 a2_0, .int .u64 a2_1] 38 (0, 0)) (by (with_reducible repeat (first | refine blk_drewN ?_ _ | refine blk_drew ?_ | refine blk_alloc ?_ _)); exact BK461.out) k_ hk))
                      (case aO => exact (by (with_reducible repeat (first | apply Kd.R_alloc | apply Kd.R_drewN | apply Kd.R_drew)); exact Kd.R_mono HO467.out (fun _ hk => hk.2)))
                      (case aS => exact (below_size (by repeat (first | (with_reducible first | exact HB.out | apply below_alloc | apply pw_below_drewN | apply below_drew1 | refine below_set ?_ GE461.out) | exact HB.out))))
                      (case aL => have := LMc23.out; omega)
                      intro v469 w34 ho hb hg hat
                      rw [← Ny468.out] at ho
                      have n0_ := Aside0.mk (blk_grown (g := gb461) (o := .cells #[.int .u64 a2_0, .int .u64 a2_1] 38 (0, 0)) (by (with_reducible repeat (first | refine blk_drewN ?_ _ | refine blk_drew ?_ | refine blk_alloc ?_ _)); exact BK461.out) hg (Kd.R_away HO467.out (fun _ hk => hk.2)))
                      have n1_ := Aside0.mk (hb)
                      have n2_ := Aside0.mk (ho)
                      clear BK461
                      clear HB
                      clear HO467
                      have BK461 := n0_
                      have HB := n1_
                      have HO470 := n2_
                      clear n0_ n1_ n2_
                      clear ho hb hg hat
                      refine hK.out _ _ ⟨(blk_cell BK461.out 0).trans rfl, (blk_cell BK461.out 1).trans rfl⟩ (fun hHeld => ?_)
                      clear hK K
                      refine norm_ (a' := ?_) ?_ ?_
                      rotate_left
                      · show Act.put _ (some 42) _ = _
                        simp only [Act.put, List.setIfInBounds_toArray, List.set_cons_zero, List.set_cons_succ, i64_w, i32_w]
                        rfl
                      refine one_ (i := 4) (N := some 44) #[true, true, true, true, true, false, false] rfl rfl (by kernel_rfl) (by decide) (fun K hK => ?_)
                      refine Kd.R_lit_step k38 _ 38 ?hg (N := 44) ?hd (xs := ([(⟨a2_0, a2_1⟩ : S38)] : List (S38))) (inner := [.int .u64 a2_0, .int .u64 a2_1]) (ok := fun _ => True) (okp := fun _ => True) ?hr ?hp (fun _ hk => hk) trivial (Below.refl _ _) (Nat.le_refl _) (by simp) ?_; (case hd => rfl); (case hg => rfl); (case hr => first | (go_simp; done) | (go_simp; rfl)); (case hp => exact (Reps.c2 (show Kd.M k38 _ _ _ (⟨a2_0, a2_1⟩ : S38) [.int .u64 a2_0, .int .u64 a2_1] from (k38_mkM _ _ _ (⟨a2_0, a2_1⟩ : S38) )) (Reps.none _ _)))
                      intro v472 w35 ho36 hb hg_ hnew_
                      clear hg_ hnew_
                      (first | rw [← Ny471.out] at ho36 | (simp only [Int.reduceToNat] at ho36; rw [← Ny471.out] at ho36))
                      have n0_ := Aside0.mk (Kd.R_elder' (by (with_reducible repeat (first | apply Kd.R_alloc | apply Kd.R_drewN | apply Kd.R_drew)); exact HO470.out) (Kd.R_base ho36) hb)
                      have n1_ := Aside0.mk (Kd.R_lower (Kd.R_newB (Kd.R_new' ho36 (Kd.R_lt (by (with_reducible repeat (first | apply Kd.R_alloc | apply Kd.R_drewN | apply Kd.R_drew)); exact HO470.out))) (g := gb461) (o := .cells #[.int .u64 a2_0, .int .u64 a2_1] 38 (0, 0)) (by (with_reducible repeat (first | refine blk_drewN ?_ _ | refine blk_drew ?_ | refine blk_alloc ?_ _)); exact BK461.out)) (below_size (by repeat (first | (with_reducible first | exact HB.out | apply below_alloc | apply pw_below_drewN | apply below_drew1 | refine below_set ?_ GE461.out) | exact HB.out))))
                      have n2_ := Aside0.mk (blk_below (g := gb461) (o := .cells #[.int .u64 a2_0, .int .u64 a2_1] 38 (0, 0)) (by (with_reducible repeat (first | refine blk_drewN ?_ _ | refine blk_drew ?_ | refine blk_alloc ?_ _)); exact BK461.out) hb)
                      have n3_ := Aside0.mk (below_step (by repeat (first | (with_reducible first | exact HB.out | apply below_alloc | apply pw_below_drewN | apply below_drew1 | refine below_set ?_ GE461.out) | exact HB.out)) hb)
                      clear HO470
                      clear BK461
                      clear HB
                      have HO470 := n0_
                      have HO473 := n1_
                      have BK461 := n2_
                      have HB := n3_
                      clear n0_ n1_ n2_ n3_
                      clear hb ho36
                      refine hK.out _ _ ⟨(blk_cell BK461.out 0).trans rfl, (blk_cell BK461.out 1).trans rfl⟩ (fun hHeld => ?_)
                      clear hK K
                      refine norm_ (a' := ?_) ?_ ?_
                      rotate_left
                      · show Act.put _ (some 44) _ = _
                        simp only [Act.put, List.setIfInBounds_toArray, List.set_cons_zero, List.set_cons_succ, i64_w, i32_w]
                        rfl
                      exact norm_ (by simp only [putAll, Act.put, List.setIfInBounds_toArray, List.set_cons_zero, List.set_cons_succ]) (hCont (v466, v469, v472) _ ⟨hHeld, (by (with_reducible repeat (first | apply Kd.R_alloc | apply Kd.R_drewN | apply Kd.R_drew)); exact Kd.R_mono HO470.out (fun _ hk => ⟨hk.2, hk.1⟩)), (by (with_reducible repeat (first | apply Kd.R_alloc | apply Kd.R_drewN | apply Kd.R_drew)); exact Kd.R_mono HO473.out (fun _ hk => ⟨hk.1.2, hk.2⟩)), (by (with_reducible repeat (first | refine blk_drewN ?_ _ | refine blk_drew ?_ | refine blk_alloc ?_ _)); exact BK461.out), (by repeat (first | (with_reducible first | exact HB.out | apply below_alloc | apply pw_below_drewN | apply below_drew1 | refine below_set ?_ GE461.out) | exact HB.out))⟩)
                    · skip
                      refine Kd.R_lit_step k38 _ 38 ?hg (N := 44) ?hd (xs := ([(⟨a2_0, a2_1⟩ : S38)] : List (S38))) (inner := [.int .u64 a2_0, .int .u64 a2_1]) (ok := fun _ => True) (okp := fun _ => True) ?hr ?hp (fun _ hk => hk) trivial (Below.refl _ _) (Nat.le_refl _) (by simp) ?_; (case hd => rfl); (case hg => rfl); (case hr => first | (go_simp; done) | (go_simp; rfl)); (case hp => exact (Reps.c2 (show Kd.M k38 _ _ _ (⟨a2_0, a2_1⟩ : S38) [.int .u64 a2_0, .int .u64 a2_1] from (k38_mkM _ _ _ (⟨a2_0, a2_1⟩ : S38) )) (Reps.none _ _)))
                      intro v472 w34 ho35 hb hg_ hnew_
                      clear hg_ hnew_
                      (first | rw [← Ny471.out] at ho35 | (simp only [Int.reduceToNat] at ho35; rw [← Ny471.out] at ho35))
                      have n0_ := Aside0.mk (Kd.R_elder' (by (with_reducible repeat (first | apply Kd.R_alloc | apply Kd.R_drewN | apply Kd.R_drew)); exact HO467.out) (Kd.R_base ho35) hb)
                      have n1_ := Aside0.mk (Kd.R_lower (Kd.R_newB (Kd.R_new' ho35 (Kd.R_lt (by (with_reducible repeat (first | apply Kd.R_alloc | apply Kd.R_drewN | apply Kd.R_drew)); exact HO467.out))) (g := gb461) (o := .cells #[.int .u64 a2_0, .int .u64 a2_1] 38 (0, 0)) (by (with_reducible repeat (first | refine blk_drewN ?_ _ | refine blk_drew ?_ | refine blk_alloc ?_ _)); exact BK461.out)) (below_size (by repeat (first | (with_reducible first | exact HB.out | apply below_alloc | apply pw_below_drewN | apply below_drew1 | refine below_set ?_ GE461.out) | exact HB.out))))
                      have n2_ := Aside0.mk (blk_below (g := gb461) (o := .cells #[.int .u64 a2_0, .int .u64 a2_1] 38 (0, 0)) (by (with_reducible repeat (first | refine blk_drewN ?_ _ | refine blk_drew ?_ | refine blk_alloc ?_ _)); exact BK461.out) hb)
                      have n3_ := Aside0.mk (below_step (by repeat (first | (with_reducible first | exact HB.out | apply below_alloc | apply pw_below_drewN | apply below_drew1 | refine below_set ?_ GE461.out) | exact HB.out)) hb)
                      clear HO467
                      clear BK461
                      clear HB
                      have HO467 := n0_
                      have HO473 := n1_
                      have BK461 := n2_
                      have HB := n3_
                      clear n0_ n1_ n2_ n3_
                      clear hb ho35
                      refine hK.out _ _ ⟨(blk_cell BK461.out 0).trans rfl, (blk_cell BK461.out 1).trans rfl⟩ (fun hHeld => ?_)
                      clear hK K
                      refine norm_ (a' := ?_) ?_ ?_
                      rotate_left
                      · show Act.put _ (some 44) _ = _
                        simp only [Act.put, List.setIfInBounds_toArray, List.set_cons_zero, List.set_cons_succ, i64_w, i32_w]
                        rfl
                      refine one_ (i := 2) (N := some 42) #[true, true, true, true, true, false, false] rfl rfl (by kernel_rfl) (by decide) (fun K hK => ?_)
                      refine Kd.R_append_rows_step k38 (w0 := w) w.heap.size (by rfl) (.tmp 40) (.tmp 41) 33 38 (.agg #[(.int .u64 0), (.int .u64 0)]) 16 rfl Try.underlying33 info38 rfl (by decide) (by omega) v466 y465 l1 _ _ _ (fun k_ => some k_ ≠ (v472 : Value).ownBlock ∧ k_ ≠ gb461) (fun _ => False) rfl rfl ?aO ?aR (fun _ _ h => h) (fun _ h => h.elim) ?aF ?aB ?aS ?aL ?_
                      (case aR => repeat (first | exact (Kd.C_below HR1.out HB.out) | (with_reducible refine Kd.C_alloc ?_ _) | (with_reducible refine Kd.C_drewN ?_ _) | (with_reducible refine Kd.C_drew ?_)))
                      (case aB => exact (by repeat (first | (with_reducible first | exact HB.out | apply below_alloc | apply pw_below_drewN | apply below_drew1 | refine below_set ?_ GE461.out) | exact HB.out)))
                      (case aF => exact (fun k_ hk => ⟨Kd.fresh' (Kd.R_lt (by (with_reducible repeat (first | apply Kd.R_alloc | apply Kd.R_drewN | apply Kd.R_drew)); exact HO473.out)) k_ hk, Kd.freshB (g := gb461) (o := .cells #[.int .u64 a2_0, .int .u64 a2_1] 38 (0, 0)) (by (with_reducible repeat (first | refine blk_drewN ?_ _ | refine blk_drew ?_ | refine blk_alloc ?_ _)); exact BK461.out) k_ hk⟩))
                      (case aO => exact (by (with_reducible repeat (first | apply Kd.R_alloc | apply Kd.R_drewN | apply Kd.R_drew)); exact Kd.R_mono HO467.out (fun _ hk => ⟨hk.2, hk.1.2⟩)))
                      (case aS => exact (below_size (by repeat (first | (with_reducible first | exact HB.out | apply below_alloc | apply pw_below_drewN | apply below_drew1 | refine below_set ?_ GE461.out) | exact HB.out))))
                      (case aL => have := LMc23.out; omega)
                      intro v469 w36 ho hb hg hat
                      rw [← Ny468.out] at ho
                      have n0_ := Aside0.mk (blk_grown (g := gb461) (o := .cells #[.int .u64 a2_0, .int .u64 a2_1] 38 (0, 0)) (by (with_reducible repeat (first | refine blk_drewN ?_ _ | refine blk_drew ?_ | refine blk_alloc ?_ _)); exact BK461.out) hg (Kd.R_away HO467.out (fun _ hk => hk.1.2)))
                      have n1_ := Aside0.mk (Kd.R_after (ok := (fun k_ => k_ ≠ gb461)) (by (with_reducible repeat (first | apply Kd.R_alloc | apply Kd.R_drewN | apply Kd.R_drew)); exact Kd.R_mono HO473.out (fun _ hk => ⟨hk.2, hk.1.2⟩)) hg hat)
                      have n2_ := Aside0.mk (hb)
                      have n3_ := Aside0.mk (ho)
                      clear BK461
                      clear HO473
                      clear HB
                      clear HO467
                      have BK461 := n0_
                      have HO473 := n1_
                      have HB := n2_
                      have HO470 := n3_
                      clear n0_ n1_ n2_ n3_
                      clear ho hb hg hat
                      refine hK.out _ _ ⟨(blk_cell BK461.out 0).trans rfl, (blk_cell BK461.out 1).trans rfl⟩ (fun hHeld => ?_)
                      clear hK K
                      refine norm_ (a' := ?_) ?_ ?_
                      rotate_left
                      · show Act.put _ (some 42) _ = _
                        simp only [Act.put, List.setIfInBounds_toArray, List.set_cons_zero, List.set_cons_succ, i64_w, i32_w]
                        rfl
                      exact norm_ (by simp only [putAll, Act.put, List.setIfInBounds_toArray, List.set_cons_zero, List.set_cons_succ]) (hCont (v466, v469, v472) _ ⟨hHeld, (by (with_reducible repeat (first | apply Kd.R_alloc | apply Kd.R_drewN | apply Kd.R_drew)); exact HO470.out), (by (with_reducible repeat (first | apply Kd.R_alloc | apply Kd.R_drewN | apply Kd.R_drew)); exact Kd.R_mono HO473.out (fun _ hk => ⟨hk.2, hk.1⟩)), (by (with_reducible repeat (first | refine blk_drewN ?_ _ | refine blk_drew ?_ | refine blk_alloc ?_ _)); exact BK461.out), (by repeat (first | (with_reducible first | exact HB.out | apply below_alloc | apply pw_below_drewN | apply below_drew1 | refine below_set ?_ GE461.out) | exact HB.out))⟩)
                  · skip
                    refine Kd.R_lit_step k38 _ 38 ?hg (N := 44) ?hd (xs := ([(⟨a2_0, a2_1⟩ : S38)] : List (S38))) (inner := [.int .u64 a2_0, .int .u64 a2_1]) (ok := fun _ => True) (okp := fun _ => True) ?hr ?hp (fun _ hk => hk) trivial (Below.refl _ _) (Nat.le_refl _) (by simp) ?_; (case hd => rfl); (case hg => rfl); (case hr => first | (go_simp; done) | (go_simp; rfl)); (case hp => exact (Reps.c2 (show Kd.M k38 _ _ _ (⟨a2_0, a2_1⟩ : S38) [.int .u64 a2_0, .int .u64 a2_1] from (k38_mkM _ _ _ (⟨a2_0, a2_1⟩ : S38) )) (Reps.none _ _)))
                    intro v472 w32 ho33 hb hg_ hnew_
                    clear hg_ hnew_
                    (first | rw [← Ny471.out] at ho33 | (simp only [Int.reduceToNat] at ho33; rw [← Ny471.out] at ho33))
                    have n0_ := Aside0.mk (Kd.R_lower (Kd.R_newB ho33 (g := gb461) (o := .cells #[.int .u64 a2_0, .int .u64 a2_1] 38 (0, 0)) (by (with_reducible repeat (first | refine blk_drewN ?_ _ | refine blk_drew ?_ | refine blk_alloc ?_ _)); exact BK461.out)) (below_size (by repeat (first | (with_reducible first | exact HB.out | apply below_alloc | apply pw_below_drewN | apply below_drew1 | refine below_set ?_ GE461.out) | exact HB.out))))
                    have n1_ := Aside0.mk (blk_below (g := gb461) (o := .cells #[.int .u64 a2_0, .int .u64 a2_1] 38 (0, 0)) (by (with_reducible repeat (first | refine blk_drewN ?_ _ | refine blk_drew ?_ | refine blk_alloc ?_ _)); exact BK461.out) hb)
                    have n2_ := Aside0.mk (below_step (by repeat (first | (with_reducible first | exact HB.out | apply below_alloc | apply pw_below_drewN | apply below_drew1 | refine below_set ?_ GE461.out) | exact HB.out)) hb)
                    clear BK461
                    clear HB
                    have HO473 := n0_
                    have BK461 := n1_
                    have HB := n2_
                    clear n0_ n1_ n2_
                    clear hb ho33
                    refine hK.out _ _ ⟨(blk_cell BK461.out 0).trans rfl, (blk_cell BK461.out 1).trans rfl⟩ (fun hHeld => ?_)
                    clear hK K
                    refine norm_ (a' := ?_) ?_ ?_
                    rotate_left
                    · show Act.put _ (some 44) _ = _
                      simp only [Act.put, List.setIfInBounds_toArray, List.set_cons_zero, List.set_cons_succ, i64_w, i32_w]
                      rfl
                    refine one_ (i := 0) (N := some 40) #[true, true, false, true, true, false, false] rfl rfl (by kernel_rfl) (by decide) (fun K hK => ?_)
                    refine Kd.R_lit_step k38 _ 38 ?hg (N := 40) ?hd (xs := ([] : List (S38))) (inner := []) (ok := fun _ => True) (okp := fun _ => True) ?hr ?hp (fun _ hk => hk) trivial (Below.refl _ _) (Nat.le_refl _) (by simp) ?_; (case hd => rfl); (case hg => rfl); (case hr => first | (go_simp; done) | (go_simp; rfl)); (case hp => exact (Reps.none _ _))
                    intro v466 w34 ho35 hb hg_ hnew_
                    clear hg_ hnew_
                    (first | rw [← Ny465.out] at ho35 | (simp only [Int.reduceToNat] at ho35; rw [← Ny465.out] at ho35))
                    have n0_ := Aside0.mk (Kd.R_elder' (by (with_reducible repeat (first | apply Kd.R_alloc | apply Kd.R_drewN | apply Kd.R_drew)); exact HO473.out) (Kd.R_base ho35) hb)
                    have n1_ := Aside0.mk (Kd.R_lower (Kd.R_newB (Kd.R_new' ho35 (Kd.R_lt (by (with_reducible repeat (first | apply Kd.R_alloc | apply Kd.R_drewN | apply Kd.R_drew)); exact HO473.out))) (g := gb461) (o := .cells #[.int .u64 a2_0, .int .u64 a2_1] 38 (0, 0)) (by (with_reducible repeat (first | refine blk_drewN ?_ _ | refine blk_drew ?_ | refine blk_alloc ?_ _)); exact BK461.out)) (below_size (by repeat (first | (with_reducible first | exact HB.out | apply below_alloc | apply pw_below_drewN | apply below_drew1 | refine below_set ?_ GE461.out) | exact HB.out))))
                    have n2_ := Aside0.mk (blk_below (g := gb461) (o := .cells #[.int .u64 a2_0, .int .u64 a2_1] 38 (0, 0)) (by (with_reducible repeat (first | refine blk_drewN ?_ _ | refine blk_drew ?_ | refine blk_alloc ?_ _)); exact BK461.out) hb)
                    have n3_ := Aside0.mk (below_step (by repeat (first | (with_reducible first | exact HB.out | apply below_alloc | apply pw_below_drewN | apply below_drew1 | refine below_set ?_ GE461.out) | exact HB.out)) hb)
                    clear HO473
                    clear BK461
                    clear HB
                    have HO473 := n0_
                    have HO467 := n1_
                    have BK461 := n2_
                    have HB := n3_
                    clear n0_ n1_ n2_ n3_
                    clear hb ho35
                    refine hK.out _ _ ⟨(blk_cell BK461.out 0).trans rfl, (blk_cell BK461.out 1).trans rfl⟩ (fun hHeld => ?_)
                    clear hK K
                    refine norm_ (a' := ?_) ?_ ?_
                    rotate_left
                    · show Act.put _ (some 40) _ = _
                      simp only [Act.put, List.setIfInBounds_toArray, List.set_cons_zero, List.set_cons_succ, i64_w, i32_w]
                      rfl
                    refine one_ (i := 2) (N := some 42) #[true, true, true, true, true, false, false] rfl rfl (by kernel_rfl) (by decide) (fun K hK => ?_)
                    refine Kd.R_append_rows_step k38 (w0 := w) w.heap.size (by rfl) (.tmp 40) (.tmp 41) 33 38 (.agg #[(.int .u64 0), (.int .u64 0)]) 16 rfl Try.underlying33 info38 rfl (by decide) (by omega) v466 y465 l1 _ _ _ (fun k_ => some k_ ≠ (v472 : Value).ownBlock ∧ k_ ≠ gb461) (fun _ => False) rfl rfl ?aO ?aR (fun _ _ h => h) (fun _ h => h.elim) ?aF ?aB ?aS ?aL ?_
                    (case aR => repeat (first | exact (Kd.C_below HR1.out HB.out) | (with_reducible refine Kd.C_alloc ?_ _) | (with_reducible refine Kd.C_drewN ?_ _) | (with_reducible refine Kd.C_drew ?_)))
                    (case aB => exact (by repeat (first | (with_reducible first | exact HB.out | apply below_alloc | apply pw_below_drewN | apply below_drew1 | refine below_set ?_ GE461.out) | exact HB.out)))
                    (case aF => exact (fun k_ hk => ⟨Kd.fresh' (Kd.R_lt (by (with_reducible repeat (first | apply Kd.R_alloc | apply Kd.R_drewN | apply Kd.R_drew)); exact HO473.out)) k_ hk, Kd.freshB (g := gb461) (o := .cells #[.int .u64 a2_0, .int .u64 a2_1] 38 (0, 0)) (by (with_reducible repeat (first | refine blk_drewN ?_ _ | refine blk_drew ?_ | refine blk_alloc ?_ _)); exact BK461.out) k_ hk⟩))
                    (case aO => exact (by (with_reducible repeat (first | apply Kd.R_alloc | apply Kd.R_drewN | apply Kd.R_drew)); exact Kd.R_mono HO467.out (fun _ hk => ⟨hk.1.2, hk.2⟩)))
                    (case aS => exact (below_size (by repeat (first | (with_reducible first | exact HB.out | apply below_alloc | apply pw_below_drewN | apply below_drew1 | refine below_set ?_ GE461.out) | exact HB.out))))
                    (case aL => have := LMc23.out; omega)
                    intro v469 w36 ho hb hg hat
                    rw [← Ny468.out] at ho
                    have n0_ := Aside0.mk (blk_grown (g := gb461) (o := .cells #[.int .u64 a2_0, .int .u64 a2_1] 38 (0, 0)) (by (with_reducible repeat (first | refine blk_drewN ?_ _ | refine blk_drew ?_ | refine blk_alloc ?_ _)); exact BK461.out) hg (Kd.R_away HO467.out (fun _ hk => hk.2)))
                    have n1_ := Aside0.mk (Kd.R_after (ok := (fun k_ => k_ ≠ gb461)) (by (with_reducible repeat (first | apply Kd.R_alloc | apply Kd.R_drewN | apply Kd.R_drew)); exact Kd.R_mono HO473.out (fun _ hk => ⟨hk.1.2, hk.2⟩)) hg hat)
                    have n2_ := Aside0.mk (hb)
                    have n3_ := Aside0.mk (ho)
                    clear BK461
                    clear HO473
                    clear HB
                    clear HO467
                    have BK461 := n0_
                    have HO473 := n1_
                    have HB := n2_
                    have HO470 := n3_
                    clear n0_ n1_ n2_ n3_
                    clear ho hb hg hat
                    refine hK.out _ _ ⟨(blk_cell BK461.out 0).trans rfl, (blk_cell BK461.out 1).trans rfl⟩ (fun hHeld => ?_)
                    clear hK K
                    refine norm_ (a' := ?_) ?_ ?_
                    rotate_left
                    · show Act.put _ (some 42) _ = _
                      simp only [Act.put, List.setIfInBounds_toArray, List.set_cons_zero, List.set_cons_succ, i64_w, i32_w]
                      rfl
                    exact norm_ (by simp only [putAll, Act.put, List.setIfInBounds_toArray, List.set_cons_zero, List.set_cons_succ]) (hCont (v466, v469, v472) _ ⟨hHeld, (by (with_reducible repeat (first | apply Kd.R_alloc | apply Kd.R_drewN | apply Kd.R_drew)); exact HO470.out), (by (with_reducible repeat (first | apply Kd.R_alloc | apply Kd.R_drewN | apply Kd.R_drew)); exact Kd.R_mono HO473.out (fun _ hk => ⟨hk.2, hk.1⟩)), (by (with_reducible repeat (first | refine blk_drewN ?_ _ | refine blk_drew ?_ | refine blk_alloc ?_ _)); exact BK461.out), (by repeat (first | (with_reducible first | exact HB.out | apply below_alloc | apply pw_below_drewN | apply below_drew1 | refine below_set ?_ GE461.out) | exact HB.out))⟩)
                rintro ⟨v466, v469, v472⟩ w37 ⟨hS_, h0_, h1_, h2_, h3_⟩
                have n0_ : Aside0 (Kd.R k38 38 w37 w.heap.size (fun k_ => some k_ ≠ (v472 : Value).ownBlock ∧ k_ ≠ gb461) v469 y468) := ⟨h0_⟩
                have n1_ : Aside0 (Kd.R k38 38 w37 w.heap.size (fun k_ => some k_ ≠ (v469 : Value).ownBlock ∧ k_ ≠ gb461) v472 y471) := ⟨h1_⟩
                have n2_ : Aside0 (w37.heap[gb461]? = some (.cells #[.int .u64 a2_0, .int .u64 a2_1] 38 (0, 0))) := ⟨h2_⟩
                have n3_ : Aside0 (Below w.heap.size w w37) := ⟨h3_⟩
                clear BK461
                clear HB
                clear h0_ h1_ h2_ h3_
                have HO470 := n0_
                have HO473 := n1_
                have BK461 := n2_
                have HB := n3_
                clear n0_ n1_ n2_ n3_
                have hHeld : w37.cell? ⟨gb461, 0, none⟩ = some (.int .u64 a2_0) ∧ w37.cell? ⟨gb461, 1, none⟩ = some (.int .u64 a2_1) := hS_
                obtain ⟨Ao39, co39, eo39⟩ := Kd.R_slice HO473.out
                (first | subst eo39 | (injection eo39 with f1_ f2_ f3_; have f4_ := f1_.symm; have f5_ := f3_.symm; clear f1_ f2_ f3_; subst f4_; subst f5_))
                refine norm_ (a' := ?_) ?_ ?_
                rotate_left
                · simp only [putAll, Act.put, List.setIfInBounds_toArray, List.set_cons_zero, List.set_cons_succ]
                  rfl
                refine one_ (i := 5) (N := some 45) #[true, true, true, true, true, true, false] rfl rfl (by kernel_rfl) (by decide) (fun K hK => ?_)
                refine Kd.R_append_rows_step k38 (w0 := w) w.heap.size (by rfl) (.tmp 42) (.tmp 44) 33 38 (.agg #[(.int .u64 0), (.int .u64 0)]) 16 rfl Try.underlying33 info38 rfl (by decide) (by omega) v469 y468 y471 _ _ _ (fun k_ => some k_ ≠ (.slice Ao39 y471.length co39 : Value).ownBlock ∧ k_ ≠ gb461) (fun _ => False) rfl rfl ?aO ?aR (fun _ _ h => h) (fun _ h => h.elim) ?aF ?aB ?aS ?aL ?_
                (case aR => repeat (first | exact (Kd.R_reads' HO473.out).2.2 | (with_reducible refine Kd.C_alloc ?_ _) | (with_reducible refine Kd.C_drewN ?_ _) | (with_reducible refine Kd.C_drew ?_)))
                (case aB => exact (by repeat (first | (with_reducible first | exact HB.out | apply below_alloc | apply pw_below_drewN | apply below_drew1 | refine below_set ?_ GE461.out) | exact HB.out)))
                (case aF => exact (fun k_ hk => ⟨Kd.fresh' (Kd.R_lt (by (with_reducible repeat (first | apply Kd.R_alloc | apply Kd.R_drewN | apply Kd.R_drew)); exact HO473.out)) k_ hk, Kd.freshB (g := gb461) (o := .cells #[.int .u64 a2_0, .int .u64 a2_1] 38 (0, 0)) (by (with_reducible repeat (first | refine blk_drewN ?_ _ | refine blk_drew ?_ | refine blk_alloc ?_ _)); exact BK461.out) k_ hk⟩))
                (case aO => exact (by (with_reducible repeat (first | apply Kd.R_alloc | apply Kd.R_drewN | apply Kd.R_drew)); exact HO470.out))
                (case aS => exact (below_size (by repeat (first | (with_reducible first | exact HB.out | apply below_alloc | apply pw_below_drewN | apply below_drew1 | refine below_set ?_ GE461.out) | exact HB.out))))
                (case aL => have := LMc24.out; omega)
                intro v475 w38 ho hb hg hat
                rw [← Ny474.out] at ho
                have n0_ := Aside0.mk (blk_grown (g := gb461) (o := .cells #[.int .u64 a2_0, .int .u64 a2_1] 38 (0, 0)) (by (with_reducible repeat (first | refine blk_drewN ?_ _ | refine blk_drew ?_ | refine blk_alloc ?_ _)); exact BK461.out) hg (Kd.R_away HO470.out (fun _ hk => hk.2)))
                have n1_ := Aside0.mk (Kd.R_after (ok := (fun k_ => k_ ≠ gb461)) (by (with_reducible repeat (first | apply Kd.R_alloc | apply Kd.R_drewN | apply Kd.R_drew)); exact Kd.R_mono HO473.out (fun _ hk => ⟨hk.2, hk.1⟩)) hg hat)
                have n2_ := Aside0.mk (hb)
                have n3_ := Aside0.mk (ho)
                clear BK461
                clear HO473
                clear HB
                clear HO470
                have BK461 := n0_
                have HO473 := n1_
                have HB := n2_
                have HO476 := n3_
                clear n0_ n1_ n2_ n3_
                clear ho hb hg hat
                refine hK.out _ _ ⟨(blk_cell BK461.out 0).trans rfl, (blk_cell BK461.out 1).trans rfl⟩ (fun hHeld => ?_)
                clear hK K
                refine norm_ (a' := ?_) ?_ ?_
                rotate_left
                · show Act.put _ (some 45) _ = _
                  simp only [Act.put, List.setIfInBounds_toArray, List.set_cons_zero, List.set_cons_succ, i64_w, i32_w]
                  rfl
                refine pure_ (i := 6) (N := some 7) (v := ?_) (a' := ?_) #[true, true, true, true, true, true, true] rfl rfl (by kernel_rfl) (fun _ _ _ h => h) (Or.inl ⟨by rfl, ?_⟩) ?_ ?_
                rotate_left
                · intro w'
                  go_simp
                  with_reducible rfl
                rotate_left
                · simp only [Act.put, List.setIfInBounds_toArray, List.set_cons_zero, List.set_cons_succ, i64_w, i32_w]
                  rfl
                refine done_ (by kernel_rfl) ?_
                obtain ⟨Ao40, co40, eo40⟩ := Kd.R_slice HO476.out
                subst eo40
                go_upto_region 10 with (first | ((with_reducible refine gate_callee (f := 19) rfl ?_); refine goesL_ (some 47) rfl rfl Try.func19 (by kernel_rfl) rfl #[.slice Ao40 y474.length co40] rfl (by (try simp only [List.map_toArray, List.map_cons, List.map_nil]); first | done | rfl | (simp only [List.length_drop, List.length_take]; rfl)) ?_; (with_reducible refine (privityref05_Places.calls kj5 _ _ y474 t477 _ ?side1 ?side2 A25.out).mono ?_); (case side1 => repeat (first | exact (Kd.R_reads' HO476.out).2.2 | (with_reducible refine Kd.C_alloc ?_ _) | (with_reducible refine Kd.C_drewN ?_ _) | (with_reducible refine Kd.C_drew ?_))); (case side2 => exact (Kd.R_reads' HO476.out).2.1); rintro e w41 ⟨v478, rfl, ho0, hb⟩; refine ⟨_, rfl, ?_⟩; have n0_ := Aside0.mk (Kd.R_below (by (with_reducible repeat (first | apply Kd.R_alloc | apply Kd.R_drewN | apply Kd.R_drew)); exact HO473.out) hb); have n1_ := Aside0.mk (Kd.R_below (by (with_reducible repeat (first | apply Kd.R_alloc | apply Kd.R_drewN | apply Kd.R_drew)); exact HO476.out) hb); have n2_ := Aside0.mk (Kd.R_lower ho0 (below_size (by repeat (first | (with_reducible first | exact HB.out | apply below_alloc | apply pw_below_drewN | apply below_drew1 | refine below_set ?_ GE461.out) | exact HB.out)))); have n3_ := Aside0.mk (blk_below (g := gb461) (o := .cells #[.int .u64 a2_0, .int .u64 a2_1] 38 (0, 0)) (by (with_reducible repeat (first | refine blk_drewN ?_ _ | refine blk_drew ?_ | refine blk_alloc ?_ _)); exact BK461.out) hb); have n4_ := Aside0.mk (below_step (by repeat (first | (with_reducible first | exact HB.out | apply below_alloc | apply pw_below_drewN | apply below_drew1 | refine below_set ?_ GE461.out) | exact HB.out)) hb); clear HO473; clear HO476; clear BK461; clear HB; have HO473 := n0_; have HO476 := n1_; have HO479 := n2_; have BK461 := n3_; have HB := n4_; clear n0_ n1_ n2_ n3_ n4_; (try clear hb); (try clear hb2); (try clear hk); (try clear hi); (try clear ho0); obtain ⟨Ao42, co42, eo42⟩ := Kd.R_slice HO479.out; subst eo42) | ((with_reducible refine gate_callee (f := 18) rfl ?_); refine goesL_ (some 48) rfl rfl Try.func18 (by kernel_rfl) rfl #[.slice Ao42 t477.length co42] rfl (by (try simp only [List.map_toArray, List.map_cons, List.map_nil]); first | done | rfl | (simp only [List.length_drop, List.length_take]; rfl)) ?_; (with_reducible refine (privityref05_Unlike.calls kj5 _ _ t477 true _ ?side1 ?side2 A26.out).mono ?_); (case side1 => repeat (first | exact (Kd.R_reads' HO479.out).2.2 | (with_reducible refine Kd.C_alloc ?_ _) | (with_reducible refine Kd.C_drewN ?_ _) | (with_reducible refine Kd.C_drew ?_))); (case side2 => exact (Kd.R_reads' HO479.out).2.1); rintro e w' ⟨rfl, ⟨nd, rfl⟩⟩; refine ⟨_, rfl, ?_⟩) | ((with_reducible refine gate_callee (f := 20) rfl ?_); refine goesL_ (some 53) rfl rfl Try.func20 (by kernel_rfl) rfl #[.int .u64 a0, .slice A1 l1.length c1] rfl (by (try simp only [List.map_toArray, List.map_cons, List.map_nil]); first | done | rfl | (simp only [List.length_drop, List.length_take]; rfl)) ?_; (with_reducible refine (interpolate_Polynomial.calls a0 _ _ l1 t481 t482 _ ?side1 ?side2 A28.out).mono ?_); (case side1 => repeat (first | exact (Kd.C_below HR1.out (by repeat (first | (with_reducible first | exact HB.out | apply below_alloc | apply pw_below_drewN | apply below_drew1 | refine below_set ?_ GE461.out) | exact HB.out))) | (with_reducible refine Kd.C_alloc ?_ _) | (with_reducible refine Kd.C_drewN ?_ _) | (with_reducible refine Kd.C_drew ?_))); (case side2 => exact HC1.out); rintro e w43 ⟨v483, rfl, ho0, hb⟩; refine ⟨_, rfl, ?_⟩; have n0_ := Aside0.mk (Kd.R_below (by (with_reducible repeat (first | apply Kd.R_alloc | apply Kd.R_drewN | apply Kd.R_drew)); exact HO473.out) hb); have n1_ := Aside0.mk (Kd.R_below (by (with_reducible repeat (first | apply Kd.R_alloc | apply Kd.R_drewN | apply Kd.R_drew)); exact HO476.out) hb); have n2_ := Aside0.mk (Kd.R_elder' (by (with_reducible repeat (first | apply Kd.R_alloc | apply Kd.R_drewN | apply Kd.R_drew)); exact HO479.out) (Kd.R_base ho0) hb); have n3_ := Aside0.mk (Kd.R_lower (Kd.R_new' ho0 (Kd.R_lt (by (with_reducible repeat (first | apply Kd.R_alloc | apply Kd.R_drewN | apply Kd.R_drew)); exact HO479.out))) (below_size (by repeat (first | (with_reducible first | exact HB.out | apply below_alloc | apply pw_below_drewN | apply below_drew1 | refine below_set ?_ GE461.out) | exact HB.out)))); have n4_ := Aside0.mk (blk_below (g := gb461) (o := .cells #[.int .u64 a2_0, .int .u64 a2_1] 38 (0, 0)) (by (with_reducible repeat (first | refine blk_drewN ?_ _ | refine blk_drew ?_ | refine blk_alloc ?_ _)); exact BK461.out) hb); have n5_ := Aside0.mk (below_step (by repeat (first | (with_reducible first | exact HB.out | apply below_alloc | apply pw_below_drewN | apply below_drew1 | refine below_set ?_ GE461.out) | exact HB.out)) hb); clear HO473; clear HO476; clear HO479; clear BK461; clear HB; have HO473 := n0_; have HO476 := n1_; have HO479 := n2_; have HO484 := n3_; have BK461 := n4_; have HB := n5_; clear n0_ n1_ n2_ n3_ n4_ n5_; (try clear hb); (try clear hb2); (try clear hk); (try clear hi); (try clear ho0)) | ((with_reducible refine gate_callee (f := 20) rfl ?_); refine goesL_ (some 59) rfl rfl Try.func20 (by kernel_rfl) rfl #[.int .u64 a0, .slice Ao40 y474.length co40] rfl (by (try simp only [List.map_toArray, List.map_cons, List.map_nil]); first | done | rfl | (simp only [List.length_drop, List.length_take]; rfl)) ?_; (with_reducible refine (interpolate_Polynomial.calls a0 _ _ y474 t485 t486 _ ?side1 ?side2 A29.out).mono ?_); (case side1 => repeat (first | exact (Kd.R_reads' HO476.out).2.2 | (with_reducible refine Kd.C_alloc ?_ _) | (with_reducible refine Kd.C_drewN ?_ _) | (with_reducible refine Kd.C_drew ?_))); (case side2 => exact (Kd.R_reads' HO476.out).2.1); rintro e w44 ⟨v487, rfl, ho0, hb⟩; refine ⟨_, rfl, ?_⟩; have n0_ := Aside0.mk (Kd.R_below (by (with_reducible repeat (first | apply Kd.R_alloc | apply Kd.R_drewN | apply Kd.R_drew)); exact HO473.out) hb); have n1_ := Aside0.mk (Kd.R_below (by (with_reducible repeat (first | apply Kd.R_alloc | apply Kd.R_drewN | apply Kd.R_drew)); exact HO476.out) hb); have n2_ := Aside0.mk (Kd.R_elder' (by (with_reducible repeat (first | apply Kd.R_alloc | apply Kd.R_drewN | apply Kd.R_drew)); exact HO479.out) (Kd.R_base ho0) hb); have n3_ := Aside0.mk (Kd.R_elder' (by (with_reducible repeat (first | apply Kd.R_alloc | apply Kd.R_drewN | apply Kd.R_drew)); exact HO484.out) (Kd.R_base ho0) hb); have n4_ := Aside0.mk (Kd.R_lower (Kd.R_new' (Kd.R_new' ho0 (Kd.R_lt (by (with_reducible repeat (first | apply Kd.R_alloc | apply Kd.R_drewN | apply Kd.R_drew)); exact HO479.out))) (Kd.R_lt (by (with_reducible repeat (first | apply Kd.R_alloc | apply Kd.R_drewN | apply Kd.R_drew)); exact HO484.out))) (below_size (by repeat (first | (with_reducible first | exact HB.out | apply below_alloc | apply pw_below_drewN | apply below_drew1 | refine below_set ?_ GE461.out) | exact HB.out)))); have n5_ := Aside0.mk (blk_below (g := gb461) (o := .cells #[.int .u64 a2_0, .int .u64 a2_1] 38 (0, 0)) (by (with_reducible repeat (first | refine blk_drewN ?_ _ | refine blk_drew ?_ | refine blk_alloc ?_ _)); exact BK461.out) hb); have n6_ := Aside0.mk (below_step (by repeat (first | (with_reducible first | exact HB.out | apply below_alloc | apply pw_below_drewN | apply below_drew1 | refine below_set ?_ GE461.out) | exact HB.out)) hb); clear HO473; clear HO476; clear HO479; clear HO484; clear BK461; clear HB; have HO473 := n0_; have HO476 := n1_; have HO479 := n2_; have HO484 := n3_; have HO488 := n4_; have BK461 := n5_; have HB := n6_; clear n0_ n1_ n2_ n3_ n4_ n5_ n6_; (try clear hb); (try clear hb2); (try clear hk); (try clear hi); (try clear ho0)))
                (try simp only [Act.put, List.setIfInBounds_toArray, List.set_cons_zero, List.set_cons_succ])
                go_cut [67] (fun v67 wc => ∃ (kq : Nat) (x67_29 : Bool), v67 = .bool x67_29 ∧ Aside0 (privitylaw05_InterpolateExtraPoint.j1 kq a0 l1 t481 t485 x67_29 a2_0 a2_1 = some r) ∧ Aside0 (kq ≤ kj5) ∧ Aside0 (Kd.R (Kd.int .u64) 22 wc w.heap.size (fun k_ => some k_ ≠ (v487 : Value).ownBlock) v483 t481) ∧ Aside0 (Kd.R (Kd.int .u64) 22 wc w.heap.size (fun k_ => some k_ ≠ (v483 : Value).ownBlock) v487 t485) ∧ Aside0 (wc.heap[gb461]? = some (.cells #[.int .u64 a2_0, .int .u64 a2_1] 38 (0, 0))) ∧ Aside0 (Below w.heap.size w wc))
                case first =>
                  have H := HC30.out
                  clear HC30
                  by_cases c45 : t482 = 0
                  · rw [if_pos c45] at H
                    have c45b0 : (t482 == 0) = true := beq_iff_eq.mpr c45
                    have c45b1 : (t482 != 0) = false := bne_eq_false_iff_eq.mpr c45
                    clear c45
                    (first | rw [c45b0] | (simp only [i64_w, i32_w]; rw [c45b0]) | skip)
                    have H' := Aside0.mk H
                    clear H
                    go_wp2
                    go_meet
                    case rel => exact ⟨_, ((t486 != 0)), (by first | rfl | (simp; done) | (simp [*]; done)), H', ⟨by have := HJ5.out; first | omega | exact Nat.le_refl _⟩, ⟨by (with_reducible repeat (first | apply Kd.R_alloc | apply Kd.R_drewN | apply Kd.R_drew)); exact Kd.R_mono HO484.out (fun _ hk => hk.2)⟩, ⟨by (with_reducible repeat (first | apply Kd.R_alloc | apply Kd.R_drewN | apply Kd.R_drew)); exact Kd.R_mono HO488.out (fun _ hk => hk.2)⟩, ⟨by (with_reducible repeat (first | refine blk_drewN ?_ _ | refine blk_drew ?_ | refine blk_alloc ?_ _)); exact BK461.out⟩, ⟨by repeat (first | (with_reducible first | exact HB.out | apply below_alloc | apply pw_below_drewN | apply below_drew1 | refine below_set ?_ GE461.out) | exact HB.out)⟩⟩
                  · rw [if_neg c45] at H
                    have c45b0 : (t482 == 0) = false := beq_eq_false_iff_ne.mpr c45
                    have c45b1 : (t482 != 0) = true := bne_iff_ne.mpr c45
                    (first | rw [c45b0] | (simp only [i64_w, i32_w]; rw [c45b0]) | skip)
                    have H' := Aside0.mk H
                    clear H
                    go_wp2
                    go_meet
                    case rel => exact ⟨_, (true), (by first | rfl | (simp; done) | (simp [*]; done)), H', ⟨by have := HJ5.out; first | omega | exact Nat.le_refl _⟩, ⟨by (with_reducible repeat (first | apply Kd.R_alloc | apply Kd.R_drewN | apply Kd.R_drew)); exact Kd.R_mono HO484.out (fun _ hk => hk.2)⟩, ⟨by (with_reducible repeat (first | apply Kd.R_alloc | apply Kd.R_drewN | apply Kd.R_drew)); exact Kd.R_mono HO488.out (fun _ hk => hk.2)⟩, ⟨by (with_reducible repeat (first | refine blk_drewN ?_ _ | refine blk_drew ?_ | refine blk_alloc ?_ _)); exact BK461.out⟩, ⟨by repeat (first | (with_reducible first | exact HB.out | apply below_alloc | apply pw_below_drewN | apply below_drew1 | refine below_set ?_ GE461.out) | exact HB.out)⟩⟩
                case rest =>
                  clear HC30
                  try clear c1
                  try clear c2
                  try clear p2
                  try clear c4
                  try clear c5
                  try clear c9
                  try clear c10
                  try clear c11
                  try clear c11b0
                  try clear c11b1
                  try clear c14
                  try clear c15
                  try clear c15b0
                  try clear c18
                  try clear c19
                  try clear c20
                  try clear c22
                  try clear c23
                  try clear c24
                  try clear c27
                  try clear c45
                  try clear c45b0
                  try clear c45b1
                  try clear hcz17_0
                  try clear hcz17_1
                  try clear hcz19_0
                  try clear hcz19_1
                  try clear hfz17_0
                  try clear hfz17_1
                  try clear hfz19_0
                  try clear hfz19_1
                  try clear p2
                  obtain ⟨kq, x67_29, rfl, HA, HJ29, HO_8, HO_10, BK461, HB⟩ := hcut
                  cases kq with
                  | zero => exact absurd HA.out (by simp [privitylaw05_InterpolateExtraPoint.j1])
                  | succ kj29 =>
                    have H := HA.out
                    clear HA
                    simp only [privitylaw05_InterpolateExtraPoint.j1] at H
                    by_cases c46 : x67_29 = true
                    · subst c46
                      have H1 : (some false) = some r := by rw [if_pos rfl] at H; exact H
                      clear H
                      have H := H1
                      clear H1
                      obtain rfl := Option.some.inj H
                      go_wp2
                      go_ret
                      exact ⟨by first | rfl | (simp [errW_none, errW_some] <;> rfl) | (simp [*, errW_none, errW_some] <;> rfl), by repeat (first | (with_reducible first | exact HB.out | apply below_alloc | apply pw_below_drewN | apply below_drew1 | refine below_set ?_ GE461.out) | exact HB.out)⟩
                    · replace c46 := Bool.eq_false_iff.mpr c46
                      subst c46
                      have H1 : ((poly_Eval.f kj29 a0 t481 a2_0).bind fun t489 => (if t489 = a2_1 then ((privityref05_Same.f kj29 t481 t485).bind fun t490 => (some t490)) else ((poly_Degree.f kj29 t485).bind fun t491 => (some (t491 == (l1.length : Int)))))) = some r := by rw [if_neg (show ¬ (false = true) by decide)] at H; exact H
                      clear H
                      have H := H1
                      clear H1
                      replace H := Option.bind_eq_some_iff.mp H
                      obtain ⟨t489, A470, H⟩ := H
                      replace H : (if t489 = a2_1 then ((privityref05_Same.f kj29 t481 t485).bind fun t490 => (some t490)) else ((poly_Degree.f kj29 t485).bind fun t491 => (some (t491 == (l1.length : Int))))) = some r := H
                      have A47 := Aside0.mk A470
                      clear A470
                      by_cases c48 : t489 = a2_1
                      · rw [if_pos c48] at H
                        have c48b0 : (t489 == a2_1) = true := beq_iff_eq.mpr c48
                        have c48b1 : (t489 != a2_1) = false := bne_eq_false_iff_eq.mpr c48
                        clear c48
                        replace H := Option.bind_eq_some_iff.mp H
                        obtain ⟨t490, A490, H⟩ := H
                        replace H : (some t490) = some r := H
                        have A49 := Aside0.mk A490
                        clear A490
                        obtain rfl := Option.some.inj H
                        try go_wp2
                        have n0_ := Aside0.mk (Kd.R_drew HO_8.out)
                        have n1_ := Aside0.mk (Kd.R_drew HO_10.out)
                        have n2_ := Aside0.mk (blk_drew BK461.out)
                        have n3_ := Aside0.mk (below_drew1 HB.out)
                        clear HO_8
                        clear HO_10
                        clear BK461
                        clear HB
                        have HO_8 := n0_
                        have HO_10 := n1_
                        have BK461 := n2_
                        have HB := n3_
                        clear n0_ n1_ n2_ n3_
                        obtain ⟨Ao51, co51, eo51⟩ := Kd.R_slice HO_8.out
                        (first | subst eo51 | (injection eo51 with f1_ f2_ f3_; have f4_ := f1_.symm; have f5_ := f3_.symm; clear f1_ f2_ f3_; subst f4_; subst f5_))
                        refine start_ (n := 8) (S := fun w' => w'.cell? ⟨gb461, 0, none⟩ = some (.int .u64 a2_0) ∧ w'.cell? ⟨gb461, 1, none⟩ = some (.int .u64 a2_1)) (ds := []) #[false, false, false, false, false, false, false, false] (by kernel_rfl) rfl rfl ⟨(blk_cell BK461.out 0).trans rfl, (blk_cell BK461.out 1).trans rfl⟩ (fun hHeld => ?_); refine with_tabW privitylaw05_InterpolateExtraPoint.tab12 privitylaw05_InterpolateExtraPoint.bits12 (fun HT_ HW_ => ?_)
                        generalize wc.drew = w50 at HO_8 HO_10 BK461 HB hHeld ⊢
                        refine pure_ (i := 0) (N := some 68) (v := ?_) (a' := ?_) #[true, false, false, false, false, false, false, false] rfl rfl (any_of HT_.out (by kernel_rfl)) (fun _ _ _ h => h) (Or.inl ⟨by rfl, ?_⟩) ?_ ?_
                        rotate_left
                        · intro w'
                          go_simp
                          with_reducible rfl
                        rotate_left
                        · simp only [Act.put, List.setIfInBounds_toArray, List.set_cons_zero, List.set_cons_succ, i64_w, i32_w]
                          rfl
                        refine pure_ (i := 1) (N := some 69) (v := ?_) (a' := ?_) #[true, true, false, false, false, false, false, false] rfl rfl (any_of HT_.out (by kernel_rfl)) (fun _ _ _ h => h) (Or.inl ⟨by rfl, ?_⟩) ?_ ?_
                        rotate_left
                        · intro w'
                          go_simp
                          with_reducible rfl
                        rotate_left
                        · simp only [Act.put, List.setIfInBounds_toArray, List.set_cons_zero, List.set_cons_succ, i64_w, i32_w]
                          rfl
                        refine pure_ (i := 2) (N := some 70) (v := ?_) (a' := ?_) #[true, true, true, false, false, false, false, false] rfl rfl (any_of HT_.out (by kernel_rfl)) (fun _ _ _ h => h) (Or.inl ⟨by rfl, ?_⟩) ?_ ?_
                        rotate_left
                        · intro w'
                          go_simp
                          with_reducible rfl
                        rotate_left
                        · simp only [Act.put, List.setIfInBounds_toArray, List.set_cons_zero, List.set_cons_succ, i64_w, i32_w]
                          rfl
                        refine pure_ (i := 5) (N := some 73) (v := ?_) (a' := ?_) #[true, true, true, false, false, true, false, false] rfl rfl (any_of HT_.out (by kernel_rfl)) (fun _ _ _ h => h) (Or.inl ⟨by rfl, ?_⟩) ?_ ?_
                        rotate_left
                        · intro w'
                          go_simp
                          with_reducible rfl
                        rotate_left
                        · simp only [Act.put, List.setIfInBounds_toArray, List.set_cons_zero, List.set_cons_succ, i64_w, i32_w]
                          rfl
                        refine take_ (i := 3) (N := some 71) (v := ?_) (a' := ?_) #[true, true, true, true, false, true, false, false] rfl rfl (take_ofW HT_.out HW_.out (by kernel_rfl)) (fun _ _ _ h => h) (Or.inl ⟨by rfl, ?_⟩) hHeld ?_ ?_
                        rotate_left
                        · rintro w' ⟨s0, s1⟩
                          go_simp
                          with_reducible rfl
                        rotate_left
                        · simp only [Act.put, List.setIfInBounds_toArray, List.set_cons_zero, List.set_cons_succ, i64_w, i32_w]
                          rfl
                        refine take_ (i := 6) (N := some 74) (v := ?_) (a' := ?_) #[true, true, true, true, false, true, true, false] rfl rfl (take_ofW HT_.out HW_.out (by kernel_rfl)) (fun _ _ _ h => h) (Or.inl ⟨by rfl, ?_⟩) hHeld ?_ ?_
                        rotate_left
                        · rintro w' ⟨s0, s1⟩
                          go_simp
                          with_reducible rfl
                        rotate_left
                        · simp only [Act.put, List.setIfInBounds_toArray, List.set_cons_zero, List.set_cons_succ, i64_w, i32_w]
                          rfl
                        refine one_ (i := 4) (N := some 72) #[true, true, true, true, true, true, true, false] rfl rfl (one_of HT_.out (by kernel_rfl)) (by decide) (fun K hK => ?_)
                        refine goes_ Try.func23 (by kernel_rfl) rfl #[.int .u64 a0, .slice Ao51 t481.length co51, .int .u64 a2_0] (by rfl) rfl rfl (by (try simp only [List.map_toArray, List.map_cons, List.map_nil]); first | done | rfl | (simp only [List.length_drop, List.length_take]; rfl)) ?_
                        with_reducible refine (poly_Eval.calls kj29 a0 _ _ t481 a2_0 t489 _ ?side1 ?side2 A47.out).mono ?_
                        (case side1 => repeat (first | exact (Kd.R_reads' HO_8.out).2.2 | (with_reducible refine Kd.C_alloc ?_ _) | (with_reducible refine Kd.C_drewN ?_ _) | (with_reducible refine Kd.C_drew ?_)))
                        (case side2 => exact (Kd.R_reads' HO_8.out).2.1)
                        rintro e w' ⟨rfl, ⟨nd, rfl⟩⟩
                        refine ⟨_, rfl, ?_⟩
                        refine hK.out _ _ ⟨(blk_cell BK461.out 0).trans rfl, (blk_cell BK461.out 1).trans rfl⟩ (fun hHeld => ?_)
                        clear hK K
                        refine norm_ (a' := ?_) ?_ ?_
                        rotate_left
                        · show Act.put _ (some 72) _ = _
                          simp only [Act.put, List.setIfInBounds_toArray, List.set_cons_zero, List.set_cons_succ, i64_w, i32_w]
                          rfl
                        refine pure_ (i := 7) (N := some 75) (v := ?_) (a' := ?_) #[true, true, true, true, true, true, true, true] rfl rfl (any_of HT_.out (by kernel_rfl)) (fun _ _ _ h => h) (Or.inl ⟨by rfl, ?_⟩) ?_ ?_
                        rotate_left
                        · intro w'
                          go_simp
                          with_reducible rfl
                        rotate_left
                        · simp only [Act.put, List.setIfInBounds_toArray, List.set_cons_zero, List.set_cons_succ, i64_w, i32_w]
                          rfl
                        refine done_ (done_of HT_.out (by kernel_rfl)) ?_
                        obtain ⟨Ao52, co52, eo52⟩ := Kd.R_slice HO_10.out
                        subst eo52
                        try go_wp2_with (first | ((with_reducible refine gate_callee (f := 15) rfl ?_); refine goesL_ (some 78) rfl rfl Try.func15 (by kernel_rfl) rfl #[.slice Ao51 t481.length co51, .slice Ao52 t485.length co52] rfl (by (try simp only [List.map_toArray, List.map_cons, List.map_nil]); first | done | rfl | (simp only [List.length_drop, List.length_take]; rfl)) ?_; (with_reducible refine (privityref05_Same.calls kj29 _ _ t481 _ _ t485 t490 _ ?side1 ?side2 ?side3 ?side4 A49.out).mono ?_); (case side1 => repeat (first | exact (Kd.R_reads' HO_8.out).2.2 | (with_reducible refine Kd.C_alloc ?_ _) | (with_reducible refine Kd.C_drewN ?_ _) | (with_reducible refine Kd.C_drew ?_))); (case side2 => exact (Kd.R_reads' HO_8.out).2.1); (case side3 => repeat (first | exact (Kd.R_reads' HO_10.out).2.2 | (with_reducible refine Kd.C_alloc ?_ _) | (with_reducible refine Kd.C_drewN ?_ _) | (with_reducible refine Kd.C_drew ?_))); (case side4 => exact (Kd.R_reads' HO_10.out).2.1); rintro e w' ⟨rfl, ⟨nd, rfl⟩⟩; refine ⟨_, rfl, ?_⟩))
                        go_ret
                        exact ⟨by first | rfl | (simp [errW_none, errW_some] <;> rfl) | (simp [*, errW_none, errW_some] <;> rfl), by repeat (first | (with_reducible first | exact HB.out | apply below_alloc | apply pw_below_drewN | apply below_drew1 | refine below_set ?_ GE461.out) | exact HB.out)⟩
                      · rw [if_neg c48] at H
                        have c48b0 : (t489 == a2_1) = false := beq_eq_false_iff_ne.mpr c48
                        have c48b1 : (t489 != a2_1) = true := bne_iff_ne.mpr c48
                        replace H := Option.bind_eq_some_iff.mp H
                        obtain ⟨t491, A530, H⟩ := H
                        replace H : (some (t491 == (l1.length : Int))) = some r := H
                        have A53 := Aside0.mk A530
                        clear A530
                        obtain rfl := Option.some.inj H
                        try go_wp2
                        have n0_ := Aside0.mk (Kd.R_drew HO_8.out)
                        have n1_ := Aside0.mk (Kd.R_drew HO_10.out)
                        have n2_ := Aside0.mk (blk_drew BK461.out)
                        have n3_ := Aside0.mk (below_drew1 HB.out)
                        clear HO_8
                        clear HO_10
                        clear BK461
                        clear HB
                        have HO_8 := n0_
                        have HO_10 := n1_
                        have BK461 := n2_
                        have HB := n3_
                        clear n0_ n1_ n2_ n3_
                        obtain ⟨Ao55, co55, eo55⟩ := Kd.R_slice HO_8.out
                        (first | subst eo55 | (injection eo55 with f1_ f2_ f3_; have f4_ := f1_.symm; have f5_ := f3_.symm; clear f1_ f2_ f3_; subst f4_; subst f5_))
                        refine start_ (n := 8) (S := fun w' => w'.cell? ⟨gb461, 0, none⟩ = some (.int .u64 a2_0) ∧ w'.cell? ⟨gb461, 1, none⟩ = some (.int .u64 a2_1)) (ds := []) #[false, false, false, false, false, false, false, false] (by kernel_rfl) rfl rfl ⟨(blk_cell BK461.out 0).trans rfl, (blk_cell BK461.out 1).trans rfl⟩ (fun hHeld => ?_); refine with_tabW privitylaw05_InterpolateExtraPoint.tab12 privitylaw05_InterpolateExtraPoint.bits12 (fun HT_ HW_ => ?_)
                        generalize wc.drew = w54 at HO_8 HO_10 BK461 HB hHeld ⊢
                        refine pure_ (i := 0) (N := some 68) (v := ?_) (a' := ?_) #[true, false, false, false, false, false, false, false] rfl rfl (any_of HT_.out (by kernel_rfl)) (fun _ _ _ h => h) (Or.inl ⟨by rfl, ?_⟩) ?_ ?_
                        rotate_left
                        · intro w'
                          go_simp
                          with_reducible rfl
                        rotate_left
                        · simp only [Act.put, List.setIfInBounds_toArray, List.set_cons_zero, List.set_cons_succ, i64_w, i32_w]
                          rfl
                        refine pure_ (i := 1) (N := some 69) (v := ?_) (a' := ?_) #[true, true, false, false, false, false, false, false] rfl rfl (any_of HT_.out (by kernel_rfl)) (fun _ _ _ h => h) (Or.inl ⟨by rfl, ?_⟩) ?_ ?_
                        rotate_left
                        · intro w'
                          go_simp
                          with_reducible rfl
                        rotate_left
                        · simp only [Act.put, List.setIfInBounds_toArray, List.set_cons_zero, List.set_cons_succ, i64_w, i32_w]
                          rfl
                        refine pure_ (i := 2) (N := some 70) (v := ?_) (a' := ?_) #[true, true, true, false, false, false, false, false] rfl rfl (any_of HT_.out (by kernel_rfl)) (fun _ _ _ h => h) (Or.inl ⟨by rfl, ?_⟩) ?_ ?_
                        rotate_left
                        · intro w'
                          go_simp
                          with_reducible rfl
                        rotate_left
                        · simp only [Act.put, List.setIfInBounds_toArray, List.set_cons_zero, List.set_cons_succ, i64_w, i32_w]
                          rfl
                        refine pure_ (i := 5) (N := some 73) (v := ?_) (a' := ?_) #[true, true, true, false, false, true, false, false] rfl rfl (any_of HT_.out (by kernel_rfl)) (fun _ _ _ h => h) (Or.inl ⟨by rfl, ?_⟩) ?_ ?_
                        rotate_left
                        · intro w'
                          go_simp
                          with_reducible rfl
                        rotate_left
                        · simp only [Act.put, List.setIfInBounds_toArray, List.set_cons_zero, List.set_cons_succ, i64_w, i32_w]
                          rfl
                        refine take_ (i := 3) (N := some 71) (v := ?_) (a' := ?_) #[true, true, true, true, false, true, false, false] rfl rfl (take_ofW HT_.out HW_.out (by kernel_rfl)) (fun _ _ _ h => h) (Or.inl ⟨by rfl, ?_⟩) hHeld ?_ ?_
                        rotate_left
                        · rintro w' ⟨s0, s1⟩
                          go_simp
                          with_reducible rfl
                        rotate_left
                        · simp only [Act.put, List.setIfInBounds_toArray, List.set_cons_zero, List.set_cons_succ, i64_w, i32_w]
                          rfl
                        refine take_ (i := 6) (N := some 74) (v := ?_) (a' := ?_) #[true, true, true, true, false, true, true, false] rfl rfl (take_ofW HT_.out HW_.out (by kernel_rfl)) (fun _ _ _ h => h) (Or.inl ⟨by rfl, ?_⟩) hHeld ?_ ?_
                        rotate_left
                        · rintro w' ⟨s0, s1⟩
                          go_simp
                          with_reducible rfl
                        rotate_left
                        · simp only [Act.put, List.setIfInBounds_toArray, List.set_cons_zero, List.set_cons_succ, i64_w, i32_w]
                          rfl
                        refine one_ (i := 4) (N := some 72) #[true, true, true, true, true, true, true, false] rfl rfl (one_of HT_.out (by kernel_rfl)) (by decide) (fun K hK => ?_)
                        refine goes_ Try.func23 (by kernel_rfl) rfl #[.int .u64 a0, .slice Ao55 t481.length co55, .int .u64 a2_0] (by rfl) rfl rfl (by (try simp only [List.map_toArray, List.map_cons, List.map_nil]); first | done | rfl | (simp only [List.length_drop, List.length_take]; rfl)) ?_
                        with_reducible refine (poly_Eval.calls kj29 a0 _ _ t481 a2_0 t489 _ ?side1 ?side2 A47.out).mono ?_
                        (case side1 => repeat (first | exact (Kd.R_reads' HO_8.out).2.2 | (with_reducible refine Kd.C_alloc ?_ _) | (with_reducible refine Kd.C_drewN ?_ _) | (with_reducible refine Kd.C_drew ?_)))
                        (case side2 => exact (Kd.R_reads' HO_8.out).2.1)
                        rintro e w' ⟨rfl, ⟨nd, rfl⟩⟩
                        refine ⟨_, rfl, ?_⟩
                        refine hK.out _ _ ⟨(blk_cell BK461.out 0).trans rfl, (blk_cell BK461.out 1).trans rfl⟩ (fun hHeld => ?_)
                        clear hK K
                        refine norm_ (a' := ?_) ?_ ?_
                        rotate_left
                        · show Act.put _ (some 72) _ = _
                          simp only [Act.put, List.setIfInBounds_toArray, List.set_cons_zero, List.set_cons_succ, i64_w, i32_w]
                          rfl
                        refine pure_ (i := 7) (N := some 75) (v := ?_) (a' := ?_) #[true, true, true, true, true, true, true, true] rfl rfl (any_of HT_.out (by kernel_rfl)) (fun _ _ _ h => h) (Or.inl ⟨by rfl, ?_⟩) ?_ ?_
                        rotate_left
                        · intro w'
                          go_simp
                          with_reducible rfl
                        rotate_left
                        · simp only [Act.put, List.setIfInBounds_toArray, List.set_cons_zero, List.set_cons_succ, i64_w, i32_w]
                          rfl
                        refine done_ (done_of HT_.out (by kernel_rfl)) ?_
                        obtain ⟨Ao56, co56, eo56⟩ := Kd.R_slice HO_10.out
                        subst eo56
                        try go_wp2_with (first | ((with_reducible refine gate_callee (f := 29) rfl ?_); refine goesL_ (some 80) rfl rfl Try.func29 (by kernel_rfl) rfl #[.slice Ao56 t485.length co56] rfl (by (try simp only [List.map_toArray, List.map_cons, List.map_nil]); first | done | rfl | (simp only [List.length_drop, List.length_take]; rfl)) ?_; (with_reducible refine (poly_Degree.calls kj29 _ _ t485 t491 _ ?side1 ?side2 A53.out).mono ?_); (case side1 => repeat (first | exact (Kd.R_reads' HO_10.out).2.2 | (with_reducible refine Kd.C_alloc ?_ _) | (with_reducible refine Kd.C_drewN ?_ _) | (with_reducible refine Kd.C_drew ?_))); (case side2 => exact (Kd.R_reads' HO_10.out).2.1); rintro e w' ⟨rfl, ⟨nd, rfl⟩⟩; refine ⟨_, rfl, ?_⟩))
                        go_ret
                        exact ⟨by first | rfl | (simp [errW_none, errW_some] <;> rfl) | (simp [*, errW_none, errW_some] <;> rfl), by repeat (first | (with_reducible first | exact HB.out | apply below_alloc | apply pw_below_drewN | apply below_drew1 | refine below_set ?_ GE461.out) | exact HB.out)⟩
              · replace c27 := Bool.eq_false_iff.mpr c27
                subst c27
                have H1 : (some true) = some r := by rw [if_neg (show ¬ (false = true) by decide)] at H; exact H
                clear H
                have H := H1
                clear H1
                obtain rfl := Option.some.inj H
                try go_wp2
                have n0_ := Aside0.mk (blk_drew BK461.out)
                have n1_ := Aside0.mk (below_drew1 HB.out)
                clear BK461
                clear HB
                have BK461 := n0_
                have HB := n1_
                clear n0_ n1_
                refine start_ (n := 7) (S := fun w' => w'.cell? ⟨gb461, 0, none⟩ = some (.int .u64 a2_0) ∧ w'.cell? ⟨gb461, 1, none⟩ = some (.int .u64 a2_1)) (ds := []) #[false, false, false, false, false, false, false] (by kernel_rfl) rfl rfl ⟨(blk_cell BK461.out 0).trans rfl, (blk_cell BK461.out 1).trans rfl⟩ (fun hHeld => ?_)
                generalize wc.drew = w57 at BK461 HB hHeld ⊢
                refine pure_ (i := 1) (N := some 41) (v := ?_) (a' := ?_) #[false, true, false, false, false, false, false] rfl rfl (by kernel_rfl) (fun _ _ _ h => h) (Or.inl ⟨by rfl, ?_⟩) ?_ ?_
                rotate_left
                · intro w'
                  go_simp
                  with_reducible rfl
                rotate_left
                · simp only [Act.put, List.setIfInBounds_toArray, List.set_cons_zero, List.set_cons_succ, i64_w, i32_w]
                  rfl
                refine take_ (i := 3) (N := some 43) (v := ?_) (a' := ?_) #[false, true, false, true, false, false, false] rfl rfl (by kernel_rfl) (fun _ _ _ h => h) (Or.inl ⟨by rfl, ?_⟩) hHeld ?_ ?_
                rotate_left
                · rintro w' ⟨s0, s1⟩
                  go_simp
                  with_reducible rfl
                rotate_left
                · simp only [Act.put, List.setIfInBounds_toArray, List.set_cons_zero, List.set_cons_succ, i64_w, i32_w]
                  rfl
                refine join_ (σ := Value × Value × Value) 2 #[true, true, true, true, true, false, false] (fun s_ => [(40, s_.1), (42, s_.2.1), (44, s_.2.2)]) (fun s_ w' => (w'.cell? ⟨gb461, 0, none⟩ = some (.int .u64 a2_0) ∧ w'.cell? ⟨gb461, 1, none⟩ = some (.int .u64 a2_1)) ∧ (Kd.R k38 38 w' w.heap.size (fun k_ => some k_ ≠ (s_.2.2 : Value).ownBlock ∧ k_ ≠ gb461) s_.2.1 y468) ∧ (Kd.R k38 38 w' w.heap.size (fun k_ => some k_ ≠ (s_.2.1 : Value).ownBlock ∧ k_ ≠ gb461) s_.2.2 y471) ∧ (w'.heap[gb461]? = some (.cells #[.int .u64 a2_0, .int .u64 a2_1] 38 (0, 0))) ∧ (Below w.heap.size w w')) ?_ ?_
                rotate_left
                · intro hCont
                  refine two_ (i := 0) (j := 4) (Ni := some 40) (Nj := some 44) #[true, true, false, true, false, false, false] #[false, true, false, true, true, false, false] rfl rfl rfl rfl (by kernel_rfl) (by decide) (by decide) (fun K hK => ?_) (fun K hK => ?_)
                  · skip
                    refine Kd.R_lit_step k38 _ 38 ?hg (N := 40) ?hd (xs := ([] : List (S38))) (inner := []) (ok := fun _ => True) (okp := fun _ => True) ?hr ?hp (fun _ hk => hk) trivial (Below.refl _ _) (Nat.le_refl _) (by simp) ?_; (case hd => rfl); (case hg => rfl); (case hr => first | (go_simp; done) | (go_simp; rfl)); (case hp => exact (Reps.none _ _))
                    intro v466 w58 ho59 hb hg_ hnew_
                    clear hg_ hnew_
                    (first | rw [← Ny465.out] at ho59 | (simp only [Int.reduceToNat] at ho59; rw [← Ny465.out] at ho59))
                    have n0_ := Aside0.mk (Kd.R_lower (Kd.R_newB ho59 (g := gb461) (o := .cells #[.int .u64 a2_0, .int .u64 a2_1] 38 (0, 0)) (by (with_reducible repeat (first | refine blk_drewN ?_ _ | refine blk_drew ?_ | refine blk_alloc ?_ _)); exact BK461.out)) (below_size (by repeat (first | (with_reducible first | exact HB.out | apply below_alloc | apply pw_below_drewN | apply below_drew1 | refine below_set ?_ GE461.out) | exact HB.out))))
                    have n1_ := Aside0.mk (blk_below (g := gb461) (o := .cells #[.int .u64 a2_0, .int .u64 a2_1] 38 (0, 0)) (by (with_reducible repeat (first | refine blk_drewN ?_ _ | refine blk_drew ?_ | refine blk_alloc ?_ _)); exact BK461.out) hb)
                    have n2_ := Aside0.mk (below_step (by repeat (first | (with_reducible first | exact HB.out | apply below_alloc | apply pw_below_drewN | apply below_drew1 | refine below_set ?_ GE461.out) | exact HB.out)) hb)
                    clear BK461
                    clear HB
                    have HO467 := n0_
                    have BK461 := n1_
                    have HB := n2_
                    clear n0_ n1_ n2_
                    clear hb ho59
                    refine hK.out _ _ ⟨(blk_cell BK461.out 0).trans rfl, (blk_cell BK461.out 1).trans rfl⟩ (fun hHeld => ?_)
                    clear hK K
                    refine norm_ (a' := ?_) ?_ ?_
                    rotate_left
                    · show Act.put _ (some 40) _ = _
                      simp only [Act.put, List.setIfInBounds_toArray, List.set_cons_zero, List.set_cons_succ, i64_w, i32_w]
                      rfl
                    refine two_ (i := 2) (j := 4) (Ni := some 42) (Nj := some 44) #[true, true, true, true, false, false, false] #[true, true, false, true, true, false, false] rfl rfl rfl rfl (by kernel_rfl) (by decide) (by decide) (fun K hK => ?_) (fun K hK => ?_)
                    · skip
                      refine Kd.R_append_rows_step k38 (w0 := w) w.heap.size (by rfl) (.tmp 40) (.tmp 41) 33 38 (.agg #[(.int .u64 0), (.int .u64 0)]) 16 rfl Try.underlying33 info38 rfl (by decide) (by omega) v466 y465 l1 _ _ _ (fun k_ => k_ ≠ gb461) (fun _ => False) rfl rfl ?aO ?aR (fun _ _ h => h) (fun _ h => h.elim) ?aF ?aB ?aS ?aL ?_
                      (case aR => repeat (first | exact (Kd.C_below HR1.out HB.out) | (with_reducible refine Kd.C_alloc ?_ _) | (with_reducible refine Kd.C_drewN ?_ _) | (with_reducible refine Kd.C_drew ?_)))
                      (case aB => exact (by repeat (first | (with_reducible first | exact HB.out | apply below_alloc | apply pw_below_drewN | apply below_drew1 | refine below_set ?_ GE461.out) | exact HB.out)))
                      (case aF => exact (fun k_ hk => Kd.freshB (g := gb461) (o := .cells #[.int .u64 a2_0, .int .u64 a2_1] 38 (0, 0)) (by (with_reducible repeat (first | refine blk_drewN ?_ _ | refine blk_drew ?_ | refine blk_alloc ?_ _)); exact BK461.out) k_ hk))
                      (case aO => exact (by (with_reducible repeat (first | apply Kd.R_alloc | apply Kd.R_drewN | apply Kd.R_drew)); exact Kd.R_mono HO467.out (fun _ hk => hk.2)))
                      (case aS => exact (below_size (by repeat (first | (with_reducible first | exact HB.out | apply below_alloc | apply pw_below_drewN | apply below_drew1 | refine below_set ?_ GE461.out) | exact HB.out))))
                      (case aL => have := LMc23.out; omega)
                      intro v469 w60 ho hb hg hat
                      rw [← Ny468.out] at ho
                      have n0_ := Aside0.mk (blk_grown (g := gb461) (o := .cells #[.int .u64 a2_0, .int .u64 a2_1] 38 (0, 0)) (by (with_reducible repeat (first | refine blk_drewN ?_ _ | refine blk_drew ?_ | refine blk_alloc ?_ _)); exact BK461.out) hg (Kd.R_away HO467.out (fun _ hk => hk.2)))
                      have n1_ := Aside0.mk (hb)
                      have n2_ := Aside0.mk (ho)
                      clear BK461
                      clear HB
                      clear HO467
                      have BK461 := n0_
                      have HB := n1_
                      have HO470 := n2_
                      clear n0_ n1_ n2_
                      clear ho hb hg hat
                      refine hK.out _ _ ⟨(blk_cell BK461.out 0).trans rfl, (blk_cell BK461.out 1).trans rfl⟩ (fun hHeld => ?_)
                      clear hK K
                      refine norm_ (a' := ?_) ?_ ?_
                      rotate_left
                      · show Act.put _ (some 42) _ = _
                        simp only [Act.put, List.setIfInBounds_toArray, List.set_cons_zero, List.set_cons_succ, i64_w, i32_w]
                        rfl
                      refine one_ (i := 4) (N := some 44) #[true, true, true, true, true, false, false] rfl rfl (by kernel_rfl) (by decide) (fun K hK => ?_)
                      refine Kd.R_lit_step k38 _ 38 ?hg (N := 44) ?hd (xs := ([(⟨a2_0, a2_1⟩ : S38)] : List (S38))) (inner := [.int .u64 a2_0, .int .u64 a2_1]) (ok := fun _ => True) (okp := fun _ => True) ?hr ?hp (fun _ hk => hk) trivial (Below.refl _ _) (Nat.le_refl _) (by simp) ?_; (case hd => rfl); (case hg => rfl); (case hr => first | (go_simp; done) | (go_simp; rfl)); (case hp => exact (Reps.c2 (show Kd.M k38 _ _ _ (⟨a2_0, a2_1⟩ : S38) [.int .u64 a2_0, .int .u64 a2_1] from (k38_mkM _ _ _ (⟨a2_0, a2_1⟩ : S38) )) (Reps.none _ _)))
                      intro v472 w61 ho62 hb hg_ hnew_
                      clear hg_ hnew_
                      (first | rw [← Ny471.out] at ho62 | (simp only [Int.reduceToNat] at ho62; rw [← Ny471.out] at ho62))
                      have n0_ := Aside0.mk (Kd.R_elder' (by (with_reducible repeat (first | apply Kd.R_alloc | apply Kd.R_drewN | apply Kd.R_drew)); exact HO470.out) (Kd.R_base ho62) hb)
                      have n1_ := Aside0.mk (Kd.R_lower (Kd.R_newB (Kd.R_new' ho62 (Kd.R_lt (by (with_reducible repeat (first | apply Kd.R_alloc | apply Kd.R_drewN | apply Kd.R_drew)); exact HO470.out))) (g := gb461) (o := .cells #[.int .u64 a2_0, .int .u64 a2_1] 38 (0, 0)) (by (with_reducible repeat (first | refine blk_drewN ?_ _ | refine blk_drew ?_ | refine blk_alloc ?_ _)); exact BK461.out)) (below_size (by repeat (first | (with_reducible first | exact HB.out | apply below_alloc | apply pw_below_drewN | apply below_drew1 | refine below_set ?_ GE461.out) | exact HB.out))))
                      have n2_ := Aside0.mk (blk_below (g := gb461) (o := .cells #[.int .u64 a2_0, .int .u64 a2_1] 38 (0, 0)) (by (with_reducible repeat (first | refine blk_drewN ?_ _ | refine blk_drew ?_ | refine blk_alloc ?_ _)); exact BK461.out) hb)
                      have n3_ := Aside0.mk (below_step (by repeat (first | (with_reducible first | exact HB.out | apply below_alloc | apply pw_below_drewN | apply below_drew1 | refine below_set ?_ GE461.out) | exact HB.out)) hb)
                      clear HO470
                      clear BK461
                      clear HB
                      have HO470 := n0_
                      have HO473 := n1_
                      have BK461 := n2_
                      have HB := n3_
                      clear n0_ n1_ n2_ n3_
                      clear hb ho62
                      refine hK.out _ _ ⟨(blk_cell BK461.out 0).trans rfl, (blk_cell BK461.out 1).trans rfl⟩ (fun hHeld => ?_)
                      clear hK K
                      refine norm_ (a' := ?_) ?_ ?_
                      rotate_left
                      · show Act.put _ (some 44) _ = _
                        simp only [Act.put, List.setIfInBounds_toArray, List.set_cons_zero, List.set_cons_succ, i64_w, i32_w]
                        rfl
                      exact norm_ (by simp only [putAll, Act.put, List.setIfInBounds_toArray, List.set_cons_zero, List.set_cons_succ]) (hCont (v466, v469, v472) _ ⟨hHeld, (by (with_reducible repeat (first | apply Kd.R_alloc | apply Kd.R_drewN | apply Kd.R_drew)); exact Kd.R_mono HO470.out (fun _ hk => ⟨hk.2, hk.1⟩)), (by (with_reducible repeat (first | apply Kd.R_alloc | apply Kd.R_drewN | apply Kd.R_drew)); exact Kd.R_mono HO473.out (fun _ hk => ⟨hk.1.2, hk.2⟩)), (by (with_reducible repeat (first | refine blk_drewN ?_ _ | refine blk_drew ?_ | refine blk_alloc ?_ _)); exact BK461.out), (by repeat (first | (with_reducible first | exact HB.out | apply below_alloc | apply pw_below_drewN | apply below_drew1 | refine below_set ?_ GE461.out) | exact HB.out))⟩)
                    · skip
                      refine Kd.R_lit_step k38 _ 38 ?hg (N := 44) ?hd (xs := ([(⟨a2_0, a2_1⟩ : S38)] : List (S38))) (inner := [.int .u64 a2_0, .int .u64 a2_1]) (ok := fun _ => True) (okp := fun _ => True) ?hr ?hp (fun _ hk => hk) trivial (Below.refl _ _) (Nat.le_refl _) (by simp) ?_; (case hd => rfl); (case hg => rfl); (case hr => first | (go_simp; done) | (go_simp; rfl)); (case hp => exact (Reps.c2 (show Kd.M k38 _ _ _ (⟨a2_0, a2_1⟩ : S38) [.int .u64 a2_0, .int .u64 a2_1] from (k38_mkM _ _ _ (⟨a2_0, a2_1⟩ : S38) )) (Reps.none _ _)))
                      intro v472 w60 ho61 hb hg_ hnew_
                      clear hg_ hnew_
                      (first | rw [← Ny471.out] at ho61 | (simp only [Int.reduceToNat] at ho61; rw [← Ny471.out] at ho61))
                      have n0_ := Aside0.mk (Kd.R_elder' (by (with_reducible repeat (first | apply Kd.R_alloc | apply Kd.R_drewN | apply Kd.R_drew)); exact HO467.out) (Kd.R_base ho61) hb)
                      have n1_ := Aside0.mk (Kd.R_lower (Kd.R_newB (Kd.R_new' ho61 (Kd.R_lt (by (with_reducible repeat (first | apply Kd.R_alloc | apply Kd.R_drewN | apply Kd.R_drew)); exact HO467.out))) (g := gb461) (o := .cells #[.int .u64 a2_0, .int .u64 a2_1] 38 (0, 0)) (by (with_reducible repeat (first | refine blk_drewN ?_ _ | refine blk_drew ?_ | refine blk_alloc ?_ _)); exact BK461.out)) (below_size (by repeat (first | (with_reducible first | exact HB.out | apply below_alloc | apply pw_below_drewN | apply below_drew1 | refine below_set ?_ GE461.out) | exact HB.out))))
                      have n2_ := Aside0.mk (blk_below (g := gb461) (o := .cells #[.int .u64 a2_0, .int .u64 a2_1] 38 (0, 0)) (by (with_reducible repeat (first | refine blk_drewN ?_ _ | refine blk_drew ?_ | refine blk_alloc ?_ _)); exact BK461.out) hb)
                      have n3_ := Aside0.mk (below_step (by repeat (first | (with_reducible first | exact HB.out | apply below_alloc | apply pw_below_drewN | apply below_drew1 | refine below_set ?_ GE461.out) | exact HB.out)) hb)
                      clear HO467
                      clear BK461
                      clear HB
                      have HO467 := n0_
                      have HO473 := n1_
                      have BK461 := n2_
                      have HB := n3_
                      clear n0_ n1_ n2_ n3_
                      clear hb ho61
                      refine hK.out _ _ ⟨(blk_cell BK461.out 0).trans rfl, (blk_cell BK461.out 1).trans rfl⟩ (fun hHeld => ?_)
                      clear hK K
                      refine norm_ (a' := ?_) ?_ ?_
                      rotate_left
                      · show Act.put _ (some 44) _ = _
                        simp only [Act.put, List.setIfInBounds_toArray, List.set_cons_zero, List.set_cons_succ, i64_w, i32_w]
                        rfl
                      refine one_ (i := 2) (N := some 42) #[true, true, true, true, true, false, false] rfl rfl (by kernel_rfl) (by decide) (fun K hK => ?_)
                      refine Kd.R_append_rows_step k38 (w0 := w) w.heap.size (by rfl) (.tmp 40) (.tmp 41) 33 38 (.agg #[(.int .u64 0), (.int .u64 0)]) 16 rfl Try.underlying33 info38 rfl (by decide) (by omega) v466 y465 l1 _ _ _ (fun k_ => some k_ ≠ (v472 : Value).ownBlock ∧ k_ ≠ gb461) (fun _ => False) rfl rfl ?aO ?aR (fun _ _ h => h) (fun _ h => h.elim) ?aF ?aB ?aS ?aL ?_
                      (case aR => repeat (first | exact (Kd.C_below HR1.out HB.out) | (with_reducible refine Kd.C_alloc ?_ _) | (with_reducible refine Kd.C_drewN ?_ _) | (with_reducible refine Kd.C_drew ?_)))
                      (case aB => exact (by repeat (first | (with_reducible first | exact HB.out | apply below_alloc | apply pw_below_drewN | apply below_drew1 | refine below_set ?_ GE461.out) | exact HB.out)))
                      (case aF => exact (fun k_ hk => ⟨Kd.fresh' (Kd.R_lt (by (with_reducible repeat (first | apply Kd.R_alloc | apply Kd.R_drewN | apply Kd.R_drew)); exact HO473.out)) k_ hk, Kd.freshB (g := gb461) (o := .cells #[.int .u64 a2_0, .int .u64 a2_1] 38 (0, 0)) (by (with_reducible repeat (first | refine blk_drewN ?_ _ | refine blk_drew ?_ | refine blk_alloc ?_ _)); exact BK461.out) k_ hk⟩))
                      (case aO => exact (by (with_reducible repeat (first | apply Kd.R_alloc | apply Kd.R_drewN | apply Kd.R_drew)); exact Kd.R_mono HO467.out (fun _ hk => ⟨hk.2, hk.1.2⟩)))
                      (case aS => exact (below_size (by repeat (first | (with_reducible first | exact HB.out | apply below_alloc | apply pw_below_drewN | apply below_drew1 | refine below_set ?_ GE461.out) | exact HB.out))))
                      (case aL => have := LMc23.out; omega)
                      intro v469 w62 ho hb hg hat
                      rw [← Ny468.out] at ho
                      have n0_ := Aside0.mk (blk_grown (g := gb461) (o := .cells #[.int .u64 a2_0, .int .u64 a2_1] 38 (0, 0)) (by (with_reducible repeat (first | refine blk_drewN ?_ _ | refine blk_drew ?_ | refine blk_alloc ?_ _)); exact BK461.out) hg (Kd.R_away HO467.out (fun _ hk => hk.1.2)))
                      have n1_ := Aside0.mk (Kd.R_after (ok := (fun k_ => k_ ≠ gb461)) (by (with_reducible repeat (first | apply Kd.R_alloc | apply Kd.R_drewN | apply Kd.R_drew)); exact Kd.R_mono HO473.out (fun _ hk => ⟨hk.2, hk.1.2⟩)) hg hat)
                      have n2_ := Aside0.mk (hb)
                      have n3_ := Aside0.mk (ho)
                      clear BK461
                      clear HO473
                      clear HB
                      clear HO467
                      have BK461 := n0_
                      have HO473 := n1_
                      have HB := n2_
                      have HO470 := n3_
                      clear n0_ n1_ n2_ n3_
                      clear ho hb hg hat
                      refine hK.out _ _ ⟨(blk_cell BK461.out 0).trans rfl, (blk_cell BK461.out 1).trans rfl⟩ (fun hHeld => ?_)
                      clear hK K
                      refine norm_ (a' := ?_) ?_ ?_
                      rotate_left
                      · show Act.put _ (some 42) _ = _
                        simp only [Act.put, List.setIfInBounds_toArray, List.set_cons_zero, List.set_cons_succ, i64_w, i32_w]
                        rfl
                      exact norm_ (by simp only [putAll, Act.put, List.setIfInBounds_toArray, List.set_cons_zero, List.set_cons_succ]) (hCont (v466, v469, v472) _ ⟨hHeld, (by (with_reducible repeat (first | apply Kd.R_alloc | apply Kd.R_drewN | apply Kd.R_drew)); exact HO470.out), (by (with_reducible repeat (first | apply Kd.R_alloc | apply Kd.R_drewN | apply Kd.R_drew)); exact Kd.R_mono HO473.out (fun _ hk => ⟨hk.2, hk.1⟩)), (by (with_reducible repeat (first | refine blk_drewN ?_ _ | refine blk_drew ?_ | refine blk_alloc ?_ _)); exact BK461.out), (by repeat (first | (with_reducible first | exact HB.out | apply below_alloc | apply pw_below_drewN | apply below_drew1 | refine below_set ?_ GE461.out) | exact HB.out))⟩)
                  · skip
                    refine Kd.R_lit_step k38 _ 38 ?hg (N := 44) ?hd (xs := ([(⟨a2_0, a2_1⟩ : S38)] : List (S38))) (inner := [.int .u64 a2_0, .int .u64 a2_1]) (ok := fun _ => True) (okp := fun _ => True) ?hr ?hp (fun _ hk => hk) trivial (Below.refl _ _) (Nat.le_refl _) (by simp) ?_; (case hd => rfl); (case hg => rfl); (case hr => first | (go_simp; done) | (go_simp; rfl)); (case hp => exact (Reps.c2 (show Kd.M k38 _ _ _ (⟨a2_0, a2_1⟩ : S38) [.int .u64 a2_0, .int .u64 a2_1] from (k38_mkM _ _ _ (⟨a2_0, a2_1⟩ : S38) )) (Reps.none _ _)))
                    intro v472 w58 ho59 hb hg_ hnew_
                    clear hg_ hnew_
                    (first | rw [← Ny471.out] at ho59 | (simp only [Int.reduceToNat] at ho59; rw [← Ny471.out] at ho59))
                    have n0_ := Aside0.mk (Kd.R_lower (Kd.R_newB ho59 (g := gb461) (o := .cells #[.int .u64 a2_0, .int .u64 a2_1] 38 (0, 0)) (by (with_reducible repeat (first | refine blk_drewN ?_ _ | refine blk_drew ?_ | refine blk_alloc ?_ _)); exact BK461.out)) (below_size (by repeat (first | (with_reducible first | exact HB.out | apply below_alloc | apply pw_below_drewN | apply below_drew1 | refine below_set ?_ GE461.out) | exact HB.out))))
                    have n1_ := Aside0.mk (blk_below (g := gb461) (o := .cells #[.int .u64 a2_0, .int .u64 a2_1] 38 (0, 0)) (by (with_reducible repeat (first | refine blk_drewN ?_ _ | refine blk_drew ?_ | refine blk_alloc ?_ _)); exact BK461.out) hb)
                    have n2_ := Aside0.mk (below_step (by repeat (first | (with_reducible first | exact HB.out | apply below_alloc | apply pw_below_drewN | apply below_drew1 | refine below_set ?_ GE461.out) | exact HB.out)) hb)
                    clear BK461
                    clear HB
                    have HO473 := n0_
                    have BK461 := n1_
                    have HB := n2_
                    clear n0_ n1_ n2_
                    clear hb ho59
                    refine hK.out _ _ ⟨(blk_cell BK461.out 0).trans rfl, (blk_cell BK461.out 1).trans rfl⟩ (fun hHeld => ?_)
                    clear hK K
                    refine norm_ (a' := ?_) ?_ ?_
                    rotate_left
                    · show Act.put _ (some 44) _ = _
                      simp only [Act.put, List.setIfInBounds_toArray, List.set_cons_zero, List.set_cons_succ, i64_w, i32_w]
                      rfl
                    refine one_ (i := 0) (N := some 40) #[true, true, false, true, true, false, false] rfl rfl (by kernel_rfl) (by decide) (fun K hK => ?_)
                    refine Kd.R_lit_step k38 _ 38 ?hg (N := 40) ?hd (xs := ([] : List (S38))) (inner := []) (ok := fun _ => True) (okp := fun _ => True) ?hr ?hp (fun _ hk => hk) trivial (Below.refl _ _) (Nat.le_refl _) (by simp) ?_; (case hd => rfl); (case hg => rfl); (case hr => first | (go_simp; done) | (go_simp; rfl)); (case hp => exact (Reps.none _ _))
                    intro v466 w60 ho61 hb hg_ hnew_
                    clear hg_ hnew_
                    (first | rw [← Ny465.out] at ho61 | (simp only [Int.reduceToNat] at ho61; rw [← Ny465.out] at ho61))
                    have n0_ := Aside0.mk (Kd.R_elder' (by (with_reducible repeat (first | apply Kd.R_alloc | apply Kd.R_drewN | apply Kd.R_drew)); exact HO473.out) (Kd.R_base ho61) hb)
                    have n1_ := Aside0.mk (Kd.R_lower (Kd.R_newB (Kd.R_new' ho61 (Kd.R_lt (by (with_reducible repeat (first | apply Kd.R_alloc | apply Kd.R_drewN | apply Kd.R_drew)); exact HO473.out))) (g := gb461) (o := .cells #[.int .u64 a2_0, .int .u64 a2_1] 38 (0, 0)) (by (with_reducible repeat (first | refine blk_drewN ?_ _ | refine blk_drew ?_ | refine blk_alloc ?_ _)); exact BK461.out)) (below_size (by repeat (first | (with_reducible first | exact HB.out | apply below_alloc | apply pw_below_drewN | apply below_drew1 | refine below_set ?_ GE461.out) | exact HB.out))))
                    have n2_ := Aside0.mk (blk_below (g := gb461) (o := .cells #[.int .u64 a2_0, .int .u64 a2_1] 38 (0, 0)) (by (with_reducible repeat (first | refine blk_drewN ?_ _ | refine blk_drew ?_ | refine blk_alloc ?_ _)); exact BK461.out) hb)
                    have n3_ := Aside0.mk (below_step (by repeat (first | (with_reducible first | exact HB.out | apply below_alloc | apply pw_below_drewN | apply below_drew1 | refine below_set ?_ GE461.out) | exact HB.out)) hb)
                    clear HO473
                    clear BK461
                    clear HB
                    have HO473 := n0_
                    have HO467 := n1_
                    have BK461 := n2_
                    have HB := n3_
                    clear n0_ n1_ n2_ n3_
                    clear hb ho61
                    refine hK.out _ _ ⟨(blk_cell BK461.out 0).trans rfl, (blk_cell BK461.out 1).trans rfl⟩ (fun hHeld => ?_)
                    clear hK K
                    refine norm_ (a' := ?_) ?_ ?_
                    rotate_left
                    · show Act.put _ (some 40) _ = _
                      simp only [Act.put, List.setIfInBounds_toArray, List.set_cons_zero, List.set_cons_succ, i64_w, i32_w]
                      rfl
                    refine one_ (i := 2) (N := some 42) #[true, true, true, true, true, false, false] rfl rfl (by kernel_rfl) (by decide) (fun K hK => ?_)
                    refine Kd.R_append_rows_step k38 (w0 := w) w.heap.size (by rfl) (.tmp 40) (.tmp 41) 33 38 (.agg #[(.int .u64 0), (.int .u64 0)]) 16 rfl Try.underlying33 info38 rfl (by decide) (by omega) v466 y465 l1 _ _ _ (fun k_ => some k_ ≠ (v472 : Value).ownBlock ∧ k_ ≠ gb461) (fun _ => False) rfl rfl ?aO ?aR (fun _ _ h => h) (fun _ h => h.elim) ?aF ?aB ?aS ?aL ?_
                    (case aR => repeat (first | exact (Kd.C_below HR1.out HB.out) | (with_reducible refine Kd.C_alloc ?_ _) | (with_reducible refine Kd.C_drewN ?_ _) | (with_reducible refine Kd.C_drew ?_)))
                    (case aB => exact (by repeat (first | (with_reducible first | exact HB.out | apply below_alloc | apply pw_below_drewN | apply below_drew1 | refine below_set ?_ GE461.out) | exact HB.out)))
                    (case aF => exact (fun k_ hk => ⟨Kd.fresh' (Kd.R_lt (by (with_reducible repeat (first | apply Kd.R_alloc | apply Kd.R_drewN | apply Kd.R_drew)); exact HO473.out)) k_ hk, Kd.freshB (g := gb461) (o := .cells #[.int .u64 a2_0, .int .u64 a2_1] 38 (0, 0)) (by (with_reducible repeat (first | refine blk_drewN ?_ _ | refine blk_drew ?_ | refine blk_alloc ?_ _)); exact BK461.out) k_ hk⟩))
                    (case aO => exact (by (with_reducible repeat (first | apply Kd.R_alloc | apply Kd.R_drewN | apply Kd.R_drew)); exact Kd.R_mono HO467.out (fun _ hk => ⟨hk.1.2, hk.2⟩)))
                    (case aS => exact (below_size (by repeat (first | (with_reducible first | exact HB.out | apply below_alloc | apply pw_below_drewN | apply below_drew1 | refine below_set ?_ GE461.out) | exact HB.out))))
                    (case aL => have := LMc23.out; omega)
                    intro v469 w62 ho hb hg hat
                    rw [← Ny468.out] at ho
                    have n0_ := Aside0.mk (blk_grown (g := gb461) (o := .cells #[.int .u64 a2_0, .int .u64 a2_1] 38 (0, 0)) (by (with_reducible repeat (first | refine blk_drewN ?_ _ | refine blk_drew ?_ | refine blk_alloc ?_ _)); exact BK461.out) hg (Kd.R_away HO467.out (fun _ hk => hk.2)))
                    have n1_ := Aside0.mk (Kd.R_after (ok := (fun k_ => k_ ≠ gb461)) (by (with_reducible repeat (first | apply Kd.R_alloc | apply Kd.R_drewN | apply Kd.R_drew)); exact Kd.R_mono HO473.out (fun _ hk => ⟨hk.1.2, hk.2⟩)) hg hat)
                    have n2_ := Aside0.mk (hb)
                    have n3_ := Aside0.mk (ho)
                    clear BK461
                    clear HO473
                    clear HB
                    clear HO467
                    have BK461 := n0_
                    have HO473 := n1_
                    have HB := n2_
                    have HO470 := n3_
                    clear n0_ n1_ n2_ n3_
                    clear ho hb hg hat
                    refine hK.out _ _ ⟨(blk_cell BK461.out 0).trans rfl, (blk_cell BK461.out 1).trans rfl⟩ (fun hHeld => ?_)
                    clear hK K
                    refine norm_ (a' := ?_) ?_ ?_
                    rotate_left
                    · show Act.put _ (some 42) _ = _
                      simp only [Act.put, List.setIfInBounds_toArray, List.set_cons_zero, List.set_cons_succ, i64_w, i32_w]
                      rfl
                    exact norm_ (by simp only [putAll, Act.put, List.setIfInBounds_toArray, List.set_cons_zero, List.set_cons_succ]) (hCont (v466, v469, v472) _ ⟨hHeld, (by (with_reducible repeat (first | apply Kd.R_alloc | apply Kd.R_drewN | apply Kd.R_drew)); exact HO470.out), (by (with_reducible repeat (first | apply Kd.R_alloc | apply Kd.R_drewN | apply Kd.R_drew)); exact Kd.R_mono HO473.out (fun _ hk => ⟨hk.2, hk.1⟩)), (by (with_reducible repeat (first | refine blk_drewN ?_ _ | refine blk_drew ?_ | refine blk_alloc ?_ _)); exact BK461.out), (by repeat (first | (with_reducible first | exact HB.out | apply below_alloc | apply pw_below_drewN | apply below_drew1 | refine below_set ?_ GE461.out) | exact HB.out))⟩)
                rintro ⟨v466, v469, v472⟩ w63 ⟨hS_, h0_, h1_, h2_, h3_⟩
                have n0_ : Aside0 (Kd.R k38 38 w63 w.heap.size (fun k_ => some k_ ≠ (v472 : Value).ownBlock ∧ k_ ≠ gb461) v469 y468) := ⟨h0_⟩
                have n1_ : Aside0 (Kd.R k38 38 w63 w.heap.size (fun k_ => some k_ ≠ (v469 : Value).ownBlock ∧ k_ ≠ gb461) v472 y471) := ⟨h1_⟩
                have n2_ : Aside0 (w63.heap[gb461]? = some (.cells #[.int .u64 a2_0, .int .u64 a2_1] 38 (0, 0))) := ⟨h2_⟩
                have n3_ : Aside0 (Below w.heap.size w w63) := ⟨h3_⟩
                clear BK461
                clear HB
                clear h0_ h1_ h2_ h3_
                have HO470 := n0_
                have HO473 := n1_
                have BK461 := n2_
                have HB := n3_
                clear n0_ n1_ n2_ n3_
                have hHeld : w63.cell? ⟨gb461, 0, none⟩ = some (.int .u64 a2_0) ∧ w63.cell? ⟨gb461, 1, none⟩ = some (.int .u64 a2_1) := hS_
                obtain ⟨Ao65, co65, eo65⟩ := Kd.R_slice HO473.out
                (first | subst eo65 | (injection eo65 with f1_ f2_ f3_; have f4_ := f1_.symm; have f5_ := f3_.symm; clear f1_ f2_ f3_; subst f4_; subst f5_))
                refine norm_ (a' := ?_) ?_ ?_
                rotate_left
                · simp only [putAll, Act.put, List.setIfInBounds_toArray, List.set_cons_zero, List.set_cons_succ]
                  rfl
                refine one_ (i := 5) (N := some 45) #[true, true, true, true, true, true, false] rfl rfl (by kernel_rfl) (by decide) (fun K hK => ?_)
                refine Kd.R_append_rows_step k38 (w0 := w) w.heap.size (by rfl) (.tmp 42) (.tmp 44) 33 38 (.agg #[(.int .u64 0), (.int .u64 0)]) 16 rfl Try.underlying33 info38 rfl (by decide) (by omega) v469 y468 y471 _ _ _ (fun k_ => some k_ ≠ (.slice Ao65 y471.length co65 : Value).ownBlock ∧ k_ ≠ gb461) (fun _ => False) rfl rfl ?aO ?aR (fun _ _ h => h) (fun _ h => h.elim) ?aF ?aB ?aS ?aL ?_
                (case aR => repeat (first | exact (Kd.R_reads' HO473.out).2.2 | (with_reducible refine Kd.C_alloc ?_ _) | (with_reducible refine Kd.C_drewN ?_ _) | (with_reducible refine Kd.C_drew ?_)))
                (case aB => exact (by repeat (first | (with_reducible first | exact HB.out | apply below_alloc | apply pw_below_drewN | apply below_drew1 | refine below_set ?_ GE461.out) | exact HB.out)))
                (case aF => exact (fun k_ hk => ⟨Kd.fresh' (Kd.R_lt (by (with_reducible repeat (first | apply Kd.R_alloc | apply Kd.R_drewN | apply Kd.R_drew)); exact HO473.out)) k_ hk, Kd.freshB (g := gb461) (o := .cells #[.int .u64 a2_0, .int .u64 a2_1] 38 (0, 0)) (by (with_reducible repeat (first | refine blk_drewN ?_ _ | refine blk_drew ?_ | refine blk_alloc ?_ _)); exact BK461.out) k_ hk⟩))
                (case aO => exact (by (with_reducible repeat (first | apply Kd.R_alloc | apply Kd.R_drewN | apply Kd.R_drew)); exact HO470.out))
                (case aS => exact (below_size (by repeat (first | (with_reducible first | exact HB.out | apply below_alloc | apply pw_below_drewN | apply below_drew1 | refine below_set ?_ GE461.out) | exact HB.out))))
                (case aL => have := LMc24.out; omega)
                intro v475 w64 ho hb hg hat
                rw [← Ny474.out] at ho
                have n0_ := Aside0.mk (blk_grown (g := gb461) (o := .cells #[.int .u64 a2_0, .int .u64 a2_1] 38 (0, 0)) (by (with_reducible repeat (first | refine blk_drewN ?_ _ | refine blk_drew ?_ | refine blk_alloc ?_ _)); exact BK461.out) hg (Kd.R_away HO470.out (fun _ hk => hk.2)))
                have n1_ := Aside0.mk (Kd.R_after (ok := (fun k_ => k_ ≠ gb461)) (by (with_reducible repeat (first | apply Kd.R_alloc | apply Kd.R_drewN | apply Kd.R_drew)); exact Kd.R_mono HO473.out (fun _ hk => ⟨hk.2, hk.1⟩)) hg hat)
                have n2_ := Aside0.mk (hb)
                have n3_ := Aside0.mk (ho)
                clear BK461
                clear HO473
                clear HB
                clear HO470
                have BK461 := n0_
                have HO473 := n1_
                have HB := n2_
                have HO476 := n3_
                clear n0_ n1_ n2_ n3_
                clear ho hb hg hat
                refine hK.out _ _ ⟨(blk_cell BK461.out 0).trans rfl, (blk_cell BK461.out 1).trans rfl⟩ (fun hHeld => ?_)
                clear hK K
                refine norm_ (a' := ?_) ?_ ?_
                rotate_left
                · show Act.put _ (some 45) _ = _
                  simp only [Act.put, List.setIfInBounds_toArray, List.set_cons_zero, List.set_cons_succ, i64_w, i32_w]
                  rfl
                refine pure_ (i := 6) (N := some 7) (v := ?_) (a' := ?_) #[true, true, true, true, true, true, true] rfl rfl (by kernel_rfl) (fun _ _ _ h => h) (Or.inl ⟨by rfl, ?_⟩) ?_ ?_
                rotate_left
                · intro w'
                  go_simp
                  with_reducible rfl
                rotate_left
                · simp only [Act.put, List.setIfInBounds_toArray, List.set_cons_zero, List.set_cons_succ, i64_w, i32_w]
                  rfl
                refine done_ (by kernel_rfl) ?_
                obtain ⟨Ao66, co66, eo66⟩ := Kd.R_slice HO476.out
                subst eo66
                try go_wp2_with (first | ((with_reducible refine gate_callee (f := 19) rfl ?_); refine goesL_ (some 47) rfl rfl Try.func19 (by kernel_rfl) rfl #[.slice Ao66 y474.length co66] rfl (by (try simp only [List.map_toArray, List.map_cons, List.map_nil]); first | done | rfl | (simp only [List.length_drop, List.length_take]; rfl)) ?_; (with_reducible refine (privityref05_Places.calls kj5 _ _ y474 t477 _ ?side1 ?side2 A25.out).mono ?_); (case side1 => repeat (first | exact (Kd.R_reads' HO476.out).2.2 | (with_reducible refine Kd.C_alloc ?_ _) | (with_reducible refine Kd.C_drewN ?_ _) | (with_reducible refine Kd.C_drew ?_))); (case side2 => exact (Kd.R_reads' HO476.out).2.1); rintro e w67 ⟨v478, rfl, ho0, hb⟩; refine ⟨_, rfl, ?_⟩; have n0_ := Aside0.mk (Kd.R_below (by (with_reducible repeat (first | apply Kd.R_alloc | apply Kd.R_drewN | apply Kd.R_drew)); exact HO473.out) hb); have n1_ := Aside0.mk (Kd.R_below (by (with_reducible repeat (first | apply Kd.R_alloc | apply Kd.R_drewN | apply Kd.R_drew)); exact HO476.out) hb); have n2_ := Aside0.mk (Kd.R_lower ho0 (below_size (by repeat (first | (with_reducible first | exact HB.out | apply below_alloc | apply pw_below_drewN | apply below_drew1 | refine below_set ?_ GE461.out) | exact HB.out)))); have n3_ := Aside0.mk (blk_below (g := gb461) (o := .cells #[.int .u64 a2_0, .int .u64 a2_1] 38 (0, 0)) (by (with_reducible repeat (first | refine blk_drewN ?_ _ | refine blk_drew ?_ | refine blk_alloc ?_ _)); exact BK461.out) hb); have n4_ := Aside0.mk (below_step (by repeat (first | (with_reducible first | exact HB.out | apply below_alloc | apply pw_below_drewN | apply below_drew1 | refine below_set ?_ GE461.out) | exact HB.out)) hb); clear HO473; clear HO476; clear BK461; clear HB; have HO473 := n0_; have HO476 := n1_; have HO479 := n2_; have BK461 := n3_; have HB := n4_; clear n0_ n1_ n2_ n3_ n4_; (try clear hb); (try clear hb2); (try clear hk); (try clear hi); (try clear ho0); obtain ⟨Ao68, co68, eo68⟩ := Kd.R_slice HO479.out; subst eo68) | ((with_reducible refine gate_callee (f := 18) rfl ?_); refine goesL_ (some 48) rfl rfl Try.func18 (by kernel_rfl) rfl #[.slice Ao68 t477.length co68] rfl (by (try simp only [List.map_toArray, List.map_cons, List.map_nil]); first | done | rfl | (simp only [List.length_drop, List.length_take]; rfl)) ?_; (with_reducible refine (privityref05_Unlike.calls kj5 _ _ t477 false _ ?side1 ?side2 A26.out).mono ?_); (case side1 => repeat (first | exact (Kd.R_reads' HO479.out).2.2 | (with_reducible refine Kd.C_alloc ?_ _) | (with_reducible refine Kd.C_drewN ?_ _) | (with_reducible refine Kd.C_drew ?_))); (case side2 => exact (Kd.R_reads' HO479.out).2.1); rintro e w' ⟨rfl, ⟨nd, rfl⟩⟩; refine ⟨_, rfl, ?_⟩))
                go_ret
                exact ⟨by first | rfl | (simp [errW_none, errW_some] <;> rfl) | (simp [*, errW_none, errW_some] <;> rfl), by repeat (first | (with_reducible first | exact HB.out | apply below_alloc | apply pw_below_drewN | apply below_drew1 | refine below_set ?_ GE461.out) | exact HB.out)⟩
            · rw [if_neg c24] at H
              exact absurd H (by simp)
          · rw [if_neg c23] at H
            exact absurd H (by simp)
  · replace c5 := Bool.eq_false_iff.mpr c5
    subst c5
    have H1 : (some false) = some r := by rw [if_neg (show ¬ (false = true) by decide)] at H; exact H
    clear H
    have H := H1
    clear H1
    obtain rfl := Option.some.inj H
    go_enter Try.func9, Try.ntmps9
    go_wp2_with (first | ((with_reducible refine gate_dst (N := 5) rfl ?_); (try (refine gate_guard (by rfl) ?_; dsimp only)); refine box_event ?hg (N := 5) ?hd (cs := #[.int .u64 a2_0, .int .u64 a2_1]) (t := 38) ?hr ?_; (case hd => rfl); (case hg => rfl); (case hr => first | (go_simp; done) | (go_simp; rfl)); intro gb461 hg w69 hbox hb; have n0_ := Aside0.mk (below_step (by repeat (first | (with_reducible first | exact HB.out | apply below_alloc | apply pw_below_drewN | apply below_drew1) | exact HB.out)) hb); have n1_ := Aside0.mk (hbox); have n2_ := Aside0.mk ((by rw [hg]; exact (below_size (by repeat (first | (with_reducible first | exact HB.out | apply below_alloc | apply pw_below_drewN | apply below_drew1) | exact HB.out))) : w.heap.size ≤ gb461)); have n3_ := Aside0.mk ((by rw [hg]; exact (below_size (by repeat (first | (with_reducible first | exact HB.out | apply below_alloc | apply pw_below_drewN | apply below_drew1) | exact HB.out))) : w.heap.size ≤ gb461)); clear HB; have HB := n0_; have BK461 := n1_; have GW461 := n2_; have GE461 := n3_; clear n0_ n1_ n2_ n3_; clear hb hbox hg) | ((with_reducible refine gate_callee (f := 10) rfl ?_); refine goesL_ (some 12) rfl rfl Try.func10 (by kernel_rfl) rfl #[] rfl (by (try simp only [List.map_toArray, List.map_cons, List.map_nil]); first | done | rfl | (simp only [List.length_drop, List.length_take]; rfl)) ?_; (with_reducible refine (privitylaw05_awake.calls k  false _ A4.out).mono ?_); rintro e w70 ⟨rfl, hb⟩; refine ⟨_, rfl, ?_⟩; have n0_ := Aside0.mk (blk_below (g := gb461) (o := .cells #[.int .u64 a2_0, .int .u64 a2_1] 38 (0, 0)) (by (with_reducible repeat (first | refine blk_drewN ?_ _ | refine blk_drew ?_ | refine blk_alloc ?_ _)); exact BK461.out) hb); have n1_ := Aside0.mk (below_step (by repeat (first | (with_reducible first | exact HB.out | apply below_alloc | apply pw_below_drewN | apply below_drew1 | refine below_set ?_ GE461.out) | exact HB.out)) hb); clear BK461; clear HB; have BK461 := n0_; have HB := n1_; clear n0_ n1_; (try clear hb); (try clear hb2); (try clear hk); (try clear hi)))
    go_ret
    exact ⟨by first | rfl | (simp [errW_none, errW_some] <;> rfl) | (simp [*, errW_none, errW_some] <;> rfl), by repeat (first | (with_reducible first | exact HB.out | apply below_alloc | apply pw_below_drewN | apply below_drew1 | refine below_set ?_ GE461.out) | exact HB.out)⟩
end Go.Proofs.Ytdbmhpfbbikjjaa.Pr
end
section
/- Printed by a program of this seat (the kit's printer, with the functions that were proved by hand given to it). What stands here: the functions that the statements reach, as plain functions, and that the Go code computes them. -/
namespace Go.Proofs.Ytdbmhpfbbikjjaa.Pr
open Go.RowKit Go.Proofs.YtdbmhpfbbikjjaaW.PrintWords Go.Proofs.YtdbmhpfbbikjjaaW.PrintLast Go.Proofs.YtdbmhpfbbikjjaaW.PrintMore
attribute [local go_sem] max2_int min2_int max_two min_two max_three min_three max_four min_four   -- for this text's walks alone
set_option linter.unusedVariables false
set_option linter.unusedSimpArgs false

open Go.Proofs.Ytdbmhpfbbikjjaa.Hw
/-! ### privityref04_Eval: function 36 -/
/-! ### privityref01_Pow: function 65 -/
/-! ### privityref01_Inverse: function 55 -/
/-! ### privityref01_Sub: function 56 -/
end Go.Proofs.Ytdbmhpfbbikjjaa.Pr
end
section
/- Printed by a program of this seat (the kit's printer, with the functions that were proved by hand given to it). What stands here: the functions that the statements reach, as plain functions, and that the Go code computes them. -/
namespace Go.Proofs.Ytdbmhpfbbikjjaa.Pr
open Go.RowKit Go.Proofs.YtdbmhpfbbikjjaaW.PrintWords Go.Proofs.YtdbmhpfbbikjjaaW.PrintLast Go.Proofs.YtdbmhpfbbikjjaaW.PrintMore
attribute [local go_sem] max2_int min2_int max_two min_two max_three min_three max_four min_four   -- for this text's walks alone
set_option linter.unusedVariables false
set_option linter.unusedSimpArgs false

open Go.Proofs.Ytdbmhpfbbikjjaa.Hw
/-! ### privityref04_Trim: function 24 -/
end Go.Proofs.Ytdbmhpfbbikjjaa.Pr
end
section
/- Printed by a program of this seat (the kit's printer, with the functions that were proved by hand given to it). What stands here: the functions that the statements reach, as plain functions, and that the Go code computes them. -/
namespace Go.Proofs.Ytdbmhpfbbikjjaa.Pr
open Go.RowKit Go.Proofs.YtdbmhpfbbikjjaaW.PrintWords Go.Proofs.YtdbmhpfbbikjjaaW.PrintLast Go.Proofs.YtdbmhpfbbikjjaaW.PrintMore
attribute [local go_sem] max2_int min2_int max_two min_two max_three min_three max_four min_four   -- for this text's walks alone
set_option linter.unusedVariables false
set_option linter.unusedSimpArgs false

open Go.Proofs.Ytdbmhpfbbikjjaa.Hw
/-! ### privityref04_Mul: function 57 -/
end Go.Proofs.Ytdbmhpfbbikjjaa.Pr
end
section
/- Printed by a program of this seat (the kit's printer, with the functions that were proved by hand given to it). What stands here: the functions that the statements reach, as plain functions, and that the Go code computes them. -/
namespace Go.Proofs.Ytdbmhpfbbikjjaa.Pr
open Go.RowKit Go.Proofs.YtdbmhpfbbikjjaaW.PrintWords Go.Proofs.YtdbmhpfbbikjjaaW.PrintLast Go.Proofs.YtdbmhpfbbikjjaaW.PrintMore
attribute [local go_sem] max2_int min2_int max_two min_two max_three min_three max_four min_four   -- for this text's walks alone
set_option linter.unusedVariables false
set_option linter.unusedSimpArgs false

open Go.Proofs.Ytdbmhpfbbikjjaa.Hw
/-! ### privityref01_Neg: function 58 -/
/-! ### privityref05_base: function 37 -/
/-! ### privityref05_LagrangeWeights: function 14 -/
end Go.Proofs.Ytdbmhpfbbikjjaa.Pr
end
section
/-
  The reference of layer 1: what its printed functions answer.
-/
namespace Go.Proofs.Ytdbmhpfbbikjjaa.E
open Go.RowKit Go.Proofs.Ytdbmhpfbbikjjaa.Pr Go.Proofs.Ytdbmhpfbbikjjaa.Hw Go.Proofs.YtdbmhpfbbikjjaaW.PrintWords Go.Proofs.YtdbmhpfbbikjjaaW.PrintLast Go.Proofs.YtdbmhpfbbikjjaaW.PrintMore
set_option linter.unusedVariables false
set_option linter.unusedSimpArgs false

theorem wcap {n : Int} (h : 0 ≤ n) (h2 : n < 9223372036854775808) : wrap64 n = n := by unfold wrap64; omega
theorem wnat {n : Nat} (h : n < 1099511627776) : wrap64 ((n : Int) + 1) = ((n + 1 : Nat) : Int) := by rw [wcap (by omega) (by omega)]; omega
/-- From the end back to the start. -/
theorem up {Q : Nat → Prop} {n : Nat} (hn : Q n) (hs : ∀ i, i < n → Q (i + 1) → Q i) : Q 0 := by
  have : ∀ d, d ≤ n → Q (n - d) := by
    intro d
    induction d with
    | zero => intro _; exact hn
    | succ d ih =>
      intro h
      have h1 := ih (by omega)
      refine hs (n - (d + 1)) (by omega) ?_
      rwa [show n - (d + 1) + 1 = n - d from by omega]
  have := this n (Nat.le_refl _)
  rwa [Nat.sub_self] at this
theorem exponent_eq (p : Int) : privityref01_Exponent.f 10 p = if p = 31 then some 5 else if p = 127 then some 7 else if p = 8191 then some 13 else if p = 131071 then some 17 else if p = 524287 then some 19 else if p = 2147483647 then some 31 else if p = 2305843009213693951 then some 61 else some 0 := by kernel_rfl
theorem supported_ev (p : Int) : Ev (fun k => privityref01_Supported.f k p) (supB p) := by
  refine Ev.of (fun k => privityref01_Supported.mono _ _) (k := 10) ?_
  show (privityref01_Exponent.f 10 p).bind _ = _
  rw [exponent_eq]
  unfold supB
  by_cases h1 : p = 31
  · subst h1; rfl
  by_cases h2 : p = 127
  · subst h2; rfl
  by_cases h3 : p = 8191
  · subst h3; rfl
  by_cases h4 : p = 131071
  · subst h4; rfl
  by_cases h5 : p = 524287
  · subst h5; rfl
  by_cases h6 : p = 2147483647
  · subst h6; rfl
  by_cases h7 : p = 2305843009213693951
  · subst h7; rfl
  rw [if_neg h1, if_neg h2, if_neg h3, if_neg h4, if_neg h5, if_neg h6, if_neg h7]
  simp [h1, h2, h3, h4, h5, h6, h7]
end Go.Proofs.Ytdbmhpfbbikjjaa.E
end
section
/-
  Plain mathematics: polynomials over a prime field, as lists of coefficients: values, roots, uniqueness. No program in sight.
-/
namespace Go.Proofs.Ytdbmhpfbbikjjaa.Pl
open Go.Proofs.Ytdbmhpfbbikjjaa.Fd

section
variable {p : Nat} [NeZero p]

/-- The value at x: the lowest coefficient first. -/
def ev (x : Fin p) : List (Fin p) → Fin p
  | [] => 0
  | c :: f => c + x * ev x f
/-- The quotient by X - a. -/
def quot (a : Fin p) : List (Fin p) → List (Fin p)
  | [] => []
  | _ :: f => match f with
    | [] => []
    | _ => ev a f :: quot a f
theorem quot_length (a : Fin p) : ∀ f : List (Fin p), (quot a f).length = f.length - 1
  | [] => rfl
  | [_] => rfl
  | _ :: d :: f => by
    have := quot_length a (d :: f)
    simp only [quot, List.length_cons] at *
    omega
theorem quot_spec (a x : Fin p) : ∀ f : List (Fin p), ev x f = (x - a) * ev x (quot a f) + ev a f
  | [] => by simp only [quot, ev]; grind
  | [c] => by simp only [quot, ev]; grind
  | c :: d :: f => by
    have h := quot_spec a x (d :: f)
    have e : quot a (c :: d :: f) = ev a (d :: f) :: quot a (d :: f) := rfl
    rw [e]
    generalize hq : quot a (d :: f) = q at *
    rw [ev, h]
    show _ = (x - a) * (ev a (d :: f) + x * ev x q) + (c + a * ev a (d :: f))
    grind
theorem zero_of_quot (a : Fin p) : ∀ f : List (Fin p), (∀ c ∈ quot a f, c = 0) → ev a f = 0 → ∀ c ∈ f, c = 0
  | [], _, _ => by simp
  | [c], _, h => by
    intro x hx
    have h : c + a * 0 = 0 := h
    simp only [List.mem_cons, List.not_mem_nil, or_false] at hx
    subst hx; grind
  | c :: d :: f, hq, h => by
    have e : quot a (c :: d :: f) = ev a (d :: f) :: quot a (d :: f) := rfl
    rw [e] at hq
    have h1 : ev a (d :: f) = 0 := hq _ (by simp)
    have ih := zero_of_quot a (d :: f) (fun x hx => hq x (List.mem_cons_of_mem _ hx)) h1
    have h2 : c + a * ev a (d :: f) = 0 := h
    rw [h1] at h2
    have hc : c = 0 := by grind
    intro x hx
    rcases List.mem_cons.1 hx with rfl | hx
    · exact hc
    · exact ih x hx
/-- No zero divisors. -/
def Dom (p : Nat) [NeZero p] : Prop := ∀ a b : Fin p, a * b = 0 → a = 0 ∨ b = 0
theorem zero_of_roots (hd : Dom p) : ∀ (xs f : List (Fin p)), xs.Nodup → f.length ≤ xs.length → (∀ x ∈ xs, ev x f = 0) → ∀ c ∈ f, c = 0
  | [], f, _, hl, _ => by
    have : f = [] := by cases f with | nil => rfl | cons _ _ => simp at hl
    subst this; simp
  | a :: xs, f, hn, hl, h => by
    have hn' := List.nodup_cons.1 hn
    refine zero_of_quot a f (zero_of_roots hd xs (quot a f) hn'.2 (by rw [quot_length]; simp at hl; omega) fun x hx => ?_) (h a (by simp))
    have h1 := quot_spec a x f
    rw [h x (List.mem_cons_of_mem _ hx), h a (by simp)] at h1
    have h2 : (x - a) * ev x (quot a f) = 0 := by grind
    rcases hd _ _ h2 with h3 | h3
    · have : x = a := by grind
      subst this; exact absurd hx hn'.1
    · exact h3
/-- The difference, coefficient by coefficient. -/
def sub : List (Fin p) → List (Fin p) → List (Fin p)
  | [], g => g.map fun c => -c
  | f, [] => f
  | c :: f, d :: g => (c - d) :: sub f g
omit [NeZero p] in
theorem sub_length : ∀ f g : List (Fin p), (sub f g).length = max f.length g.length
  | [], g => by simp [sub]
  | _ :: _, [] => by simp [sub]
  | _ :: f, _ :: g => by simp [sub, sub_length f g]
theorem ev_neg (x : Fin p) : ∀ f : List (Fin p), ev x (f.map fun c => -c) = - ev x f
  | [] => by simp only [List.map_nil, ev]; grind
  | c :: f => by simp only [List.map_cons, ev, ev_neg x f]; grind
theorem ev_sub (x : Fin p) : ∀ f g : List (Fin p), ev x (sub f g) = ev x f - ev x g
  | [], g => by simp only [sub, ev_neg, ev]; grind
  | _ :: _, [] => by simp only [sub, ev]; grind
  | c :: f, d :: g => by simp only [sub, ev, ev_sub x f g]; grind
theorem getD_sub (i : Nat) : ∀ f g : List (Fin p), (sub f g).getD i 0 = f.getD i 0 - g.getD i 0 := by
  induction i with
  | zero =>
    intro f g
    cases f with
    | nil => cases g with
      | nil => simp only [sub, List.map_nil, List.getD_nil]; grind
      | cons d g => simp only [sub, List.map_cons, List.getD_cons_zero, List.getD_nil]; grind
    | cons c f => cases g with
      | nil => simp only [sub, List.getD_cons_zero, List.getD_nil]; grind
      | cons d g => simp only [sub, List.getD_cons_zero]
  | succ i ih =>
    intro f g
    cases f with
    | nil => cases g with
      | nil => simp only [sub, List.map_nil, List.getD_nil]; grind
      | cons d g =>
        have := ih [] g
        simp only [sub, List.map_cons, List.getD_cons_succ, List.getD_nil] at *
        exact this
    | cons c f => cases g with
      | nil => simp only [sub, List.getD_cons_succ, List.getD_nil]; grind
      | cons d g => simp only [sub, List.getD_cons_succ]; exact ih f g
theorem getD_zero {f : List (Fin p)} (h : ∀ c ∈ f, c = 0) (i : Nat) : f.getD i 0 = 0 := by
  rw [List.getD_eq_getElem?_getD]
  by_cases hi : i < f.length
  · rw [List.getElem?_eq_getElem hi]; exact h _ (List.getElem_mem hi)
  · rw [List.getElem?_eq_none (by omega)]; rfl
/-- Two polynomials of at most n coefficients that agree at n points are one. -/
theorem unique (hd : Dom p) (xs f g : List (Fin p)) (hn : xs.Nodup) (hf : f.length ≤ xs.length) (hg : g.length ≤ xs.length) (h : ∀ x ∈ xs, ev x f = ev x g) (i : Nat) : f.getD i 0 = g.getD i 0 := by
  have h1 := getD_zero (zero_of_roots hd xs (sub f g) hn (by rw [sub_length]; omega) fun x hx => by rw [ev_sub, h x hx]; grind) i
  rw [getD_sub] at h1
  grind
/-- Values do not see zeros at the end. -/
theorem ev_congr (x : Fin p) : ∀ f g : List (Fin p), (∀ i, f.getD i 0 = g.getD i 0) → ev x f = ev x g := by
  intro f g h
  have : ∀ c ∈ sub f g, c = 0 := by
    intro c hc
    obtain ⟨i, hi, rfl⟩ := List.getElem_of_mem hc
    have := getD_sub i f g
    rw [h i, List.getD_eq_getElem?_getD, List.getElem?_eq_getElem hi] at this
    simp only [Option.getD_some] at this
    rw [this]; grind
  have h0 : ∀ l : List (Fin p), (∀ c ∈ l, c = 0) → ev x l = 0 := by
    intro l
    induction l with
    | nil => intro _; rfl
    | cons c l ih => intro hl; rw [ev, ih (fun d hd => hl d (List.mem_cons_of_mem _ hd)), hl c (by simp)]; grind
  have h1 := h0 _ this
  rw [ev_sub] at h1
  grind
end
end Go.Proofs.Ytdbmhpfbbikjjaa.Pl
end
section
/-
  Plain mathematics: values of lists of residues, whole numbers as residues, products of linear factors. No program in sight.
-/
namespace Go.Proofs.Ytdbmhpfbbikjjaa.Pl
open Go.Proofs.Ytdbmhpfbbikjjaa.Fd

section
variable {p : Nat} [NeZero p]

/-- The n-th power. -/
def mono (x : Fin p) : Nat → Fin p
  | 0 => 1
  | n + 1 => x * mono x n
theorem mono_add (x : Fin p) (a : Nat) : ∀ b, mono x (a + b) = mono x a * mono x b
  | 0 => by simp only [mono, Nat.add_zero]; grind
  | b + 1 => by rw [← Nat.add_assoc]; simp only [mono]; rw [mono_add x a b]; grind
theorem ev_append (x : Fin p) : ∀ f g : List (Fin p), ev x (f ++ g) = ev x f + mono x f.length * ev x g
  | [], g => by simp only [List.nil_append, ev, List.length_nil, mono]; grind
  | c :: f, g => by simp only [List.cons_append, ev, List.length_cons, mono, ev_append x f g]; grind
theorem ev_zeros (x : Fin p) : ∀ n, ev x (List.replicate n 0) = 0
  | 0 => rfl
  | n + 1 => by simp only [List.replicate_succ, ev, ev_zeros x n]; grind
theorem ev_set (x v : Fin p) : ∀ (f : List (Fin p)) (i : Nat), i < f.length → ev x (f.set i v) = ev x f + (v - f.getD i 0) * mono x i
  | [], _, h => by simp at h
  | c :: f, 0, _ => by simp only [List.set_cons_zero, ev, mono, List.getD_cons_zero]; grind
  | c :: f, i + 1, h => by
    have := ev_set x v f i (by simpa using h)
    simp only [List.set_cons_succ, ev, mono, List.getD_cons_succ, this]; grind
theorem ev_take_succ (x : Fin p) : ∀ (f : List (Fin p)) (n : Nat), ev x (f.take (n + 1)) = ev x (f.take n) + f.getD n 0 * mono x n
  | [], n => by simp only [List.take_nil, List.getD_nil, ev]; grind
  | c :: f, 0 => by simp only [List.take_succ_cons, List.take_zero, ev, List.getD_cons_zero, mono]; grind
  | c :: f, n + 1 => by
    have := ev_take_succ x f n
    simp only [List.take_succ_cons, ev, List.getD_cons_succ, mono] at *
    rw [this]; grind
/-- A whole number's residue. -/
def tf (p : Nat) [NeZero p] (a : Int) : Fin p := ⟨(a % (p : Int)).toNat, by
  have h : (0 : Int) < p := by have := Nat.pos_of_neZero p; omega
  have := Int.emod_lt_of_pos a h
  have := Int.emod_nonneg a (by omega : (p : Int) ≠ 0)
  omega⟩
theorem tf_val (a : Int) : (((tf p a).val : Nat) : Int) = a % (p : Int) := by
  have h : (0 : Int) < p := by have := Nat.pos_of_neZero p; omega
  show (((a % (p : Int)).toNat : Nat) : Int) = _
  rw [Int.toNat_of_nonneg (Int.emod_nonneg a (by omega))]
theorem tf_eq {a : Int} {x : Fin p} (h : ((x.val : Nat) : Int) = a % (p : Int)) : tf p a = x := by
  apply Fin.ext
  have := tf_val (p := p) a
  omega
theorem tf_of_emod {a b : Int} (h : a % (p : Int) = b % (p : Int)) : tf p a = tf p b := tf_eq (by rw [tf_val, h])
theorem tf_emod (a : Int) : tf p (a % (p : Int)) = tf p a := tf_of_emod (Int.emod_emod_of_dvd _ (Int.dvd_refl _))
theorem tf_add (a b : Int) : tf p (a + b) = tf p a + tf p b := by
  refine tf_eq ?_
  rw [Fin.val_add, Int.natCast_emod, Int.natCast_add, tf_val, tf_val, ← Int.add_emod]
theorem tf_mul (a b : Int) : tf p (a * b) = tf p a * tf p b := by
  refine tf_eq ?_
  rw [Fin.val_mul, Int.natCast_emod, Int.natCast_mul, tf_val, tf_val, ← Int.mul_emod]
theorem tf_zero : tf p 0 = 0 := tf_eq (by simp)
theorem tf_one : tf p 1 = 1 := by
  refine tf_eq ?_
  rw [show ((1 : Fin p).val) = 1 % p from rfl]; simp
theorem tf_neg (a : Int) : tf p (-a) = - tf p a := by
  have h : tf p (-a) + tf p a = 0 := by rw [← tf_add, show -a + a = 0 from by omega, tf_zero]
  grind
theorem tf_sub (a b : Int) : tf p (a - b) = tf p a - tf p b := by rw [Int.sub_eq_add_neg, tf_add, tf_neg]; grind
theorem tf_of_val (x : Fin p) : tf p ((x.val : Nat) : Int) = x := tf_eq (by
  have := x.isLt
  rw [← Int.natCast_emod, Nat.mod_eq_of_lt this])
theorem tf_inj {a b : Int} (ha : 0 ≤ a ∧ a < (p : Int)) (hb : 0 ≤ b ∧ b < (p : Int)) (h : tf p a = tf p b) : a = b := by
  have h1 := tf_val (p := p) a
  rw [h, tf_val, Int.emod_eq_of_lt ha.1 ha.2, Int.emod_eq_of_lt hb.1 hb.2] at h1
  exact h1.symm
theorem getD_tf (l : List Int) (i : Nat) : (l.map (tf p)).getD i 0 = tf p (l.getD i 0) := by
  rw [List.getD_eq_getElem?_getD, List.getD_eq_getElem?_getD, List.getElem?_map]
  cases l[i]? with
  | none => simp [tf_zero]
  | some v => rfl
/-- The product of the factors y - o. -/
def lin (y : Fin p) : List (Fin p) → Fin p
  | [] => 1
  | o :: l => (y - o) * lin y l
theorem lin_zero {y : Fin p} : ∀ {l : List (Fin p)}, y ∈ l → lin y l = 0
  | o :: l, h => by
    rcases List.mem_cons.1 h with h | h
    · subst h; simp only [lin]; grind
    · simp only [lin]; rw [lin_zero h]; grind
end
end Go.Proofs.Ytdbmhpfbbikjjaa.Pl
end
section
/-
  What the hand-proved functions compute, as polynomials over the field: values, lengths, uniqueness.
-/
namespace Go.Proofs.Ytdbmhpfbbikjjaa.E
open Go.RowKit Go.Proofs.Ytdbmhpfbbikjjaa.Pr Go.Proofs.Ytdbmhpfbbikjjaa.Hw Go.Proofs.Ytdbmhpfbbikjjaa.Pl Go.Proofs.YtdbmhpfbbikjjaaW.PrintWords Go.Proofs.YtdbmhpfbbikjjaaW.PrintLast Go.Proofs.YtdbmhpfbbikjjaaW.PrintMore
set_option linter.unusedVariables false
set_option linter.unusedSimpArgs false

theorem nz {p : Int} (hp : Supp p) : NeZero p.toNat := ⟨by have := hp.bd; omega⟩
theorem cast_p {p : Int} (hp : Supp p) : ((p.toNat : Nat) : Int) = p := by have := hp.bd; omega
section
variable {p : Int} (hp : Supp p) [NeZero p.toNat]

/-- The residue, in the field. -/
def T (p : Int) [NeZero p.toNat] (a : Int) : Fin p.toNat := tf p.toNat a
def M (p : Int) [NeZero p.toNat] (l : List Int) : List (Fin p.toNat) := l.map (T p)
include hp in
theorem T_mod (a : Int) : T p (a % p) = T p a := by
  have h := tf_emod (p := p.toNat) a
  rw [cast_p hp] at h; exact h
theorem T_add (a b : Int) : T p (a + b) = T p a + T p b := tf_add a b
theorem T_mul (a b : Int) : T p (a * b) = T p a * T p b := tf_mul a b
theorem T_sub (a b : Int) : T p (a - b) = T p a - T p b := tf_sub a b
theorem T_neg (a : Int) : T p (-a) = - T p a := tf_neg a
theorem T_zero : T p 0 = 0 := tf_zero
theorem T_one : T p 1 = 1 := tf_one
include hp in
theorem T_inj {a b : Int} (ha : Res p a) (hb : Res p b) (h : T p a = T p b) : a = b :=
  tf_inj (p := p.toNat) (by rw [cast_p hp]; exact ha) (by rw [cast_p hp]; exact hb) h
include hp in
theorem T_inv {a : Int} (ha : Res p a) (h0 : a ≠ 0) : T p a * T p (invp p a) = 1 := by
  rw [← T_mul, ← T_one, ← T_mod hp (a * invp p a), inv_spec hp ha h0]
include hp in
theorem T_back (x : Fin p.toNat) : Res p ((x.val : Nat) : Int) ∧ T p ((x.val : Nat) : Int) = x := by
  have := x.isLt
  have := cast_p hp
  exact ⟨⟨by omega, by omega⟩, tf_of_val x⟩
include hp in
theorem dom : Dom p.toNat := by
  intro a b h
  obtain ⟨r, e⟩ := T_back hp a
  by_cases h0 : ((a.val : Nat) : Int) = 0
  · left; rw [← e, h0, T_zero]
  · right
    have h1 := T_inv hp r h0
    rw [e] at h1
    grind
include hp in
theorem ev_evI (x : Int) : ∀ l, T p (evI p x l) = ev (T p x) (M p l)
  | [] => T_zero
  | c :: l => by
    have := ev_evI x l
    simp only [evI, M, List.map_cons, ev]
    rw [T_mod hp, T_add, T_mod hp, T_mul, this, M]
    grind
theorem M_getD (l : List Int) (i : Nat) : (M p l).getD i 0 = T p (l.getD i 0) := getD_tf l i
theorem M_length (l : List Int) : (M p l).length = l.length := List.length_map _
theorem ev_trimL (x : Fin p.toNat) (l : List Int) : ev x (M p (trimL l)) = ev x (M p l) :=
  ev_congr x _ _ (fun i => by rw [M_getD, M_getD, trimL_getD])
theorem ev_grow (x : Fin p.toNat) (l : List Int) (n : Nat) : ev x (M p (grow l n)) = ev x (M p l) := by
  have : M p (grow l n) = M p l ++ List.replicate (n - l.length) 0 := by
    unfold grow M; rw [List.map_append, List.map_replicate, T_zero]
  rw [this, ev_append, ev_zeros]; grind
include hp in
theorem ev_put (x : Fin p.toNat) (l : List Int) (i : Nat) (k : Int) : ev x (M p (putL p l i k)) = ev x (M p l) + T p k * mono x i := by
  have hg : i < (grow l (i + 1)).length := by unfold grow; simp; omega
  have : M p (putL p l i k) = (M p (grow l (i + 1))).set i (T p ((grow l (i + 1)).getD i 0) + T p k) := by
    unfold putL M; rw [List.map_set, T_mod hp, T_add]
  rw [this, ev_set _ _ _ _ (by rw [M_length]; exact hg), ev_grow, M_getD]
  grind
include hp in
theorem ev_puts (x : Fin p.toNat) (m l : List Int) : ∀ n, ev x (M p (putsL p m l n)) = ev x (M p m) + ev x ((M p l).take n)
  | 0 => by simp only [putsL, List.take_zero, ev]; grind
  | n + 1 => by rw [putsL, ev_put hp, ev_puts x m l n, ev_take_succ, M_getD]; grind
theorem M_take_all (l : List Int) : (M p l).take l.length = M p l := by rw [← M_length (p := p) l, List.take_length]
include hp in
theorem ev_addP (x : Fin p.toNat) (a b : List Int) : ev x (M p (addP p a b)) = ev x (M p a) + ev x (M p b) := by
  unfold addP
  rw [ev_puts hp, ev_puts hp, M_take_all, M_take_all]
  show ev x [] + _ + _ = _
  simp only [ev]; grind
include hp in
theorem ev_row (x : Fin p.toNat) (m : List Int) (u : Int) (b : List Int) (i : Nat) : ∀ n, ev x (M p (rowL p m u b i n)) = ev x (M p m) + T p u * mono x i * ev x ((M p b).take n)
  | 0 => by simp only [rowL, List.take_zero, ev]; grind
  | n + 1 => by
    rw [rowL, ev_put hp, ev_row x m u b i n, ev_take_succ, M_getD, T_mod hp, T_mul, mono_add, rd_nat]; grind
include hp in
theorem ev_muls (x : Fin p.toNat) (a b : List Int) : ∀ n, ev x (M p (mulsL p a b n)) = ev x ((M p a).take n) * ev x (M p b)
  | 0 => by simp only [mulsL, List.take_zero, M, List.map_nil, ev]; grind
  | n + 1 => by rw [mulsL, ev_row hp, ev_muls x a b n, M_take_all, ev_take_succ, M_getD, rd_nat]; grind
include hp in
theorem ev_scaleL (x : Fin p.toNat) (k : Int) : ∀ l, ev x (M p (l.map fun v => k * v % p)) = T p k * ev x (M p l)
  | [] => by simp only [M, List.map_nil, ev]; grind
  | c :: l => by
    have := ev_scaleL x k l
    simp only [M, List.map_cons, ev] at *
    rw [this, T_mod hp, T_mul]; grind
include hp in
theorem M_nodup : ∀ {xs : List Int}, (∀ x ∈ xs, Res p x) → xs.Nodup → (M p xs).Nodup
  | [], _, _ => List.nodup_nil
  | a :: xs, h, hn => by
    have hn' := List.nodup_cons.1 hn
    refine List.nodup_cons.2 ⟨fun hm => ?_, M_nodup (fun x hx => h x (List.mem_cons_of_mem _ hx)) hn'.2⟩
    obtain ⟨b, hb, e⟩ := List.mem_map.1 hm
    have := T_inj hp (h b (List.mem_cons_of_mem _ hb)) (h a (by simp)) e
    exact hn'.1 (this ▸ hb)
end

/-- Two lists of residues with at most n coefficients that agree at n points are one, but for zeros at the end. -/
theorem uniq {p : Int} (hp : Supp p) {xs f g : List Int} (hx : ∀ x ∈ xs, Res p x) (hn : xs.Nodup) (hf : ∀ x ∈ f, Res p x) (hg : ∀ x ∈ g, Res p x) (lf : f.length ≤ xs.length) (lg : g.length ≤ xs.length)
    (h : ∀ x ∈ xs, evI p x f = evI p x g) : trimL f = trimL g := by
  haveI := nz hp
  have hb := hp.bd
  refine trimL_ext fun i => ?_
  have hz : ∀ {l : List Int}, (∀ x ∈ l, Res p x) → Res p (l.getD i 0) := by
    intro l hl
    rw [List.getD_eq_getElem?_getD]
    by_cases hi : i < l.length
    · rw [List.getElem?_eq_getElem hi]; exact hl _ (List.getElem_mem hi)
    · rw [List.getElem?_eq_none (by omega)]; exact ⟨Int.le_refl 0, by show (0 : Int) < p; omega⟩
  refine T_inj hp (hz hf) (hz hg) ?_
  rw [← M_getD, ← M_getD]
  refine unique (dom hp) (M p xs) (M p f) (M p g) (M_nodup hp hx hn) (by simp only [M_length]; exact lf) (by simp only [M_length]; exact lg) (fun y hy => ?_) i
  obtain ⟨x, hxx, rfl⟩ := List.mem_map.1 hy
  rw [← ev_evI hp, ← ev_evI hp, h x hxx]
theorem mulsL_lin_length {p : Int} (f : List Int) (o : Int) : ∀ n, (mulsL p f [o, 1] n).length ≤ n + 1 := by
  intro n
  induction n with
  | zero => simp [mulsL]
  | succ n ih =>
    show (rowL p (mulsL p f [o, 1] n) (rd f n) [o, 1] n 2).length ≤ _
    simp only [rowL, putL_length, Nat.add_zero]; omega
section
variable {p : Int} (hp : Supp p) [NeZero p.toNat]
include hp in
/-- The factors of one round, as values. -/
theorem polS_ev (y : Fin p.toNat) (X : Int) : ∀ (l : List Int) (s : List Int × Int),
    ev y (M p (l.foldl (polStep p X) s).1) = ev y (M p s.1) * lin y (M p l) ∧ T p (l.foldl (polStep p X) s).2 = T p s.2 * lin (T p X) (M p l) ∧ (l.foldl (polStep p X) s).1.length ≤ s.1.length + l.length
  | [], s => ⟨by show _ = _ * 1; grind, by show _ = _ * 1; grind, by simp⟩
  | o :: l, s => by
    obtain ⟨h1, h2, h3⟩ := polS_ev y X l (polStep p X s o)
    have e1 : ev y (M p (polStep p X s o).1) = ev y (M p s.1) * (y - T p o) := by
      show ev y (M p (trimL (mulsL p s.1 [-o % p, 1] s.1.length))) = _
      rw [ev_trimL, ev_muls hp, M_take_all]
      simp only [M, List.map_cons, List.map_nil, ev, T_mod hp, T_neg, T_one]
      grind
    have e2 : T p (polStep p X s o).2 = T p s.2 * (T p X - T p o) := by
      show T p (s.2 * ((X - o) % p) % p) = _
      rw [T_mod hp, T_mul, T_mod hp, T_sub]
    have e3 : (polStep p X s o).1.length ≤ s.1.length + 1 := Nat.le_trans (trimL_length _) (mulsL_lin_length s.1 _ _)
    simp only [List.foldl_cons, List.length_cons]
    rw [h1, h2, e1, e2]
    refine ⟨?_, ?_, by omega⟩
    · simp only [M, List.map_cons, lin]; grind
    · simp only [M, List.map_cons, lin]; grind
end

theorem othersN_len (xs : List Int) (i : Nat) : ∀ n, (othersN xs i n).length = if i < n then n - 1 else n
  | 0 => rfl
  | n + 1 => by
    have ih := othersN_len xs i n
    unfold othersN
    by_cases h : n = i
    · subst h; rw [if_pos rfl, ih, if_neg (by omega), if_pos (by omega)]; omega
    · rw [if_neg h, List.length_append, ih]
      by_cases h2 : i < n
      · rw [if_pos h2, if_pos (by omega)]; simp; omega
      · rw [if_neg h2, if_neg (by omega)]; simp
theorem othersN_has (xs : List Int) (i j : Nat) (hne : j ≠ i) : ∀ n, j < n → rd xs j ∈ othersN xs i n
  | n + 1, h => by
    unfold othersN
    by_cases hj : j = n
    · subst hj; rw [if_neg hne]; simp
    · have := othersN_has xs i j hne n (by omega)
      split
      · exact this
      · exact List.mem_append_left _ this
section
variable {p : Int} (hp : Supp p) [NeZero p.toNat]
/-- The sum of n values. -/
def sumF (f : Nat → Fin p.toNat) : Nat → Fin p.toNat
  | 0 => 0
  | n + 1 => sumF f n + f n
theorem sumF_one {f : Nat → Fin p.toNat} {j : Nat} : ∀ n, (∀ i, i < n → i ≠ j → f i = 0) → sumF f n = if j < n then f j else 0
  | 0, _ => rfl
  | n + 1, h => by
    simp only [sumF]
    rw [sumF_one n (fun i hi => h i (by omega))]
    by_cases hj : j = n
    · subst hj; rw [if_neg (by omega), if_pos (by omega)]; grind
    · rw [h n (by omega) (fun e => hj e.symm)]
      by_cases h2 : j < n
      · rw [if_pos h2, if_pos (by omega)]; grind
      · rw [if_neg h2, if_neg (by omega)]; grind
/-- The other places, in the field. -/
def oth (p : Int) [NeZero p.toNat] (xs : List Int) (i : Nat) : List (Fin p.toNat) := M p (othersN xs i xs.length)
/-- One over the product of the differences. -/
def dinv (p : Int) [NeZero p.toNat] (xs : List Int) (i : Nat) : Fin p.toNat := T p (invp p (lagS p 0 xs i).2)
include hp in
theorem lagS_ev (a : Int) (X : Int) : ∀ (l : List Int) (s : Int × Int),
    T p (l.foldl (lagStep p a X) s).1 = T p s.1 * lin (T p a) (M p l) ∧ T p (l.foldl (lagStep p a X) s).2 = T p s.2 * lin (T p X) (M p l)
  | [], s => ⟨by show _ = _ * 1; grind, by show _ = _ * 1; grind⟩
  | o :: l, s => by
    obtain ⟨h1, h2⟩ := lagS_ev a X l (lagStep p a X s o)
    simp only [List.foldl_cons, M, List.map_cons, lin]
    rw [h1, h2]
    simp only [lagStep, M]
    rw [T_mod hp, T_mod hp, T_mul, T_mul, T_mod hp, T_mod hp, T_sub, T_sub]
    constructor <;> grind
include hp in
theorem dinv_spec {xs : List Int} (hx : ∀ x ∈ xs, Res p x) (hn : xs.Nodup) (i : Nat) (hi : i < xs.length) : lin (T p (rd xs i)) (oth p xs i) * dinv p xs i = 1 := by
  have hb := hp.bd
  obtain ⟨h1, h2, h3⟩ := lagS_ok hp (a := 0) hx hn i hi
  have h := (lagS_ev hp 0 (rd xs i) (othersN xs i xs.length) (1, 1)).2
  have e := T_inv hp h2 h3
  have h' : T p (lagS p 0 xs i).2 = lin (T p (rd xs i)) (oth p xs i) := by
    unfold lagS oth; rw [h, T_one]; grind
  rw [h'] at e
  exact e
include hp in
theorem polTerm_ev {pts : List S38} (hx : PtsOk p pts) (hn : (xsOf pts).Nodup) (i : Nat) (hi : i < pts.length) (y : Fin p.toNat) :
    ev y (M p (polTerm p pts i)) = T p (rd_T38 pts (i : Int)).f1 * (lin y (oth p (xsOf pts) i) * dinv p (xsOf pts) i) := by
  have hl : (xsOf pts).length = pts.length := by simp [xsOf]
  obtain ⟨h1, h2, h3⟩ := polS_ev hp y (rd_T38 pts (i : Int)).f0 (othersN (xsOf pts) i pts.length) ([1], 1)
  obtain ⟨hr1, hr2, hlen, hD0⟩ := polS_ok hp hx hi hn
  have d := dinv_spec hp hx.xs hn i (by omega)
  have e := T_inv hp hr2 hD0
  unfold polTerm
  rw [ev_trimL, ev_scaleL hp, T_mod hp, T_mul]
  have e1 : ev y (M p (polS p pts i).1) = lin y (oth p (xsOf pts) i) := by
    unfold polS oth; rw [h1, hl]; simp only [M, List.map_cons, List.map_nil, ev, T_one]; grind
  have e2 : T p (polS p pts i).2 = lin (T p (rd (xsOf pts) i)) (oth p (xsOf pts) i) := by
    unfold polS oth; rw [h2, T_one, xsOf_rd pts i hi, hl]; grind
  rw [e1]
  rw [e2] at e
  generalize lin (T p (rd (xsOf pts) i)) (oth p (xsOf pts) i) = D at *
  have : T p (invp p (polS p pts i).2) = dinv p (xsOf pts) i := by grind
  rw [this]; grind
include hp in
theorem polSum_ev {pts : List S38} (hx : PtsOk p pts) (hn : (xsOf pts).Nodup) (y : Fin p.toNat) : ∀ n, n ≤ pts.length →
    ev y (M p (polSum p pts n)) = sumF (fun i => T p (rd_T38 pts (i : Int)).f1 * (lin y (oth p (xsOf pts) i) * dinv p (xsOf pts) i)) n
  | 0, _ => rfl
  | n + 1, h => by
    rw [polSum, ev_trimL, ev_addP hp, polSum_ev hx hn y n (by omega), polTerm_ev hp hx hn n (by omega) y]; rfl
include hp in
theorem polTerm_len {pts : List S38} (i : Nat) (hi : i < pts.length) : (polTerm p pts i).length ≤ pts.length := by
  obtain ⟨h1, h2, h3⟩ := polS_ev hp 0 (rd_T38 pts (i : Int)).f0 (othersN (xsOf pts) i pts.length) ([1], 1)
  rw [othersN_len, if_pos hi] at h3
  simp only [List.length_cons, List.length_nil] at h3
  refine Nat.le_trans (trimL_length _) ?_
  rw [List.length_map]
  unfold polS
  omega
include hp in
theorem polSum_len {pts : List S38} : ∀ n, n ≤ pts.length → (polSum p pts n).length ≤ pts.length
  | 0, _ => by simp [polSum]
  | n + 1, h => by
    have h1 := polSum_len (pts := pts) n (by omega)
    have h2 := polTerm_len hp (pts := pts) n (by omega)
    refine Nat.le_trans (trimL_length _) ?_
    rw [addP_length]; omega
include hp in
theorem polL_ev {pts : List S38} (hx : PtsOk p pts) (hn : (xsOf pts).Nodup) (y : Fin p.toNat) :
    ev y (M p (polL p pts)) = sumF (fun i => T p (rd_T38 pts (i : Int)).f1 * (lin y (oth p (xsOf pts) i) * dinv p (xsOf pts) i)) pts.length := by
  unfold polL; rw [ev_trimL, polSum_ev hp hx hn y pts.length (Nat.le_refl _)]
end

theorem polL_res {p : Int} (hp : Supp p) {pts : List S38} (hx : PtsOk p pts) : ∀ x ∈ polL p pts, Res p x := fun x h => (polSum_ok hp hx pts.length (Nat.le_refl _)).1 x (trimL_mem h)
theorem polL_len {p : Int} (hp : Supp p) {pts : List S38} : (polL p pts).length ≤ pts.length := by
  haveI := nz hp
  exact Nat.le_trans (trimL_length _) (polSum_len hp pts.length (Nat.le_refl _))
theorem polL_trim (p : Int) (pts : List S38) : trimL (polL p pts) = polL p pts := trimL_trimL _
/-- The polynomial passes through the points. -/
theorem polL_at {p : Int} (hp : Supp p) {pts : List S38} (hx : PtsOk p pts) (hn : (xsOf pts).Nodup) (j : Nat) (hj : j < pts.length) :
    evI p (rd_T38 pts (j : Int)).f0 (polL p pts) = (rd_T38 pts (j : Int)).f1 := by
  haveI := nz hp
  have hl : (xsOf pts).length = pts.length := by simp [xsOf]
  refine T_inj hp (evI_res hp _ _) (hx.at_ j hj).2 ?_
  rw [ev_evI hp, polL_ev hp hx hn, sumF_one (j := j) _ (fun i hi hij => ?_), if_pos hj]
  · have d := dinv_spec hp hx.xs hn j (by omega)
    rw [xsOf_rd pts j hj] at d
    grind
  · have : lin (T p (rd_T38 pts (j : Int)).f0) (oth p (xsOf pts) i) = 0 := by
      refine lin_zero ?_
      rw [← xsOf_rd pts j hj]
      exact List.mem_map_of_mem (othersN_has _ _ _ (fun e => hij e.symm) _ (by omega))
    rw [this]; grind
/-- What is known of a polynomial through the points. -/
theorem polL_char {p : Int} (hp : Supp p) {pts : List S38} (hx : PtsOk p pts) (hn : (xsOf pts).Nodup) {g : List Int} (hg : ∀ x ∈ g, Res p x) (lg : g.length ≤ pts.length)
    (h : ∀ j, j < pts.length → evI p (rd_T38 pts (j : Int)).f0 g = (rd_T38 pts (j : Int)).f1) : polL p pts = trimL g := by
  have hl : (xsOf pts).length = pts.length := by simp [xsOf]
  rw [← polL_trim]
  refine uniq hp hx.xs hn (polL_res hp hx) hg (by rw [hl]; exact polL_len hp) (by omega) (fun x hxx => ?_)
  obtain ⟨j, hj, rfl⟩ := List.getElem_of_mem hxx
  have e := xsOf_rd pts j (by omega)
  rw [rd_nat, Hw.getD_in _ _ hj] at e
  rw [e, polL_at hp hx hn j (by omega), h j (by omega)]
end Go.Proofs.Ytdbmhpfbbikjjaa.E
end
section
/- Printed by a program of this seat (the kit's printer, with the functions that were proved by hand given to it). What stands here: the functions that the statements reach, as plain functions, and that the Go code computes them. -/
namespace Go.Proofs.Ytdbmhpfbbikjjaa.Pr
open Go.RowKit Go.Proofs.YtdbmhpfbbikjjaaW.PrintWords Go.Proofs.YtdbmhpfbbikjjaaW.PrintLast Go.Proofs.YtdbmhpfbbikjjaaW.PrintMore
attribute [local go_sem] max2_int min2_int max_two min_two max_three min_three max_four min_four   -- for this text's walks alone
set_option linter.unusedVariables false
set_option linter.unusedSimpArgs false

open Go.Proofs.Ytdbmhpfbbikjjaa.Hw
/-! ### privityref04_Coefficient: function 61 -/
/-! ### privityref04_Add: function 45 -/
/-! ### privityref04_Scale: function 46 -/
end Go.Proofs.Ytdbmhpfbbikjjaa.Pr
end
section
/-
  The reference of layer 4: what its printed functions answer.
-/
namespace Go.Proofs.Ytdbmhpfbbikjjaa.E
open Go.RowKit Go.Proofs.Ytdbmhpfbbikjjaa.Pr Go.Proofs.Ytdbmhpfbbikjjaa.Hw Go.Proofs.Ytdbmhpfbbikjjaa.Pl Go.Proofs.YtdbmhpfbbikjjaaW.PrintWords Go.Proofs.YtdbmhpfbbikjjaaW.PrintLast Go.Proofs.YtdbmhpfbbikjjaaW.PrintMore
set_option linter.unusedVariables false
set_option linter.unusedSimpArgs false

theorem getD_out (l : List Int) (j : Nat) (h : l.length ≤ j) : l.getD j 0 = 0 := by rw [List.getD_eq_getElem?_getD, List.getElem?_eq_none h]; rfl
/-! ### Coefficients of what the program adds up -/
/-! ### Sum -/
/-! ### Scale -/
/-! ### Eval -/
/-! ### Product -/
theorem list_ext_getD {a b : List Int} (hl : a.length = b.length) (h : ∀ i, a.getD i 0 = b.getD i 0) : a = b := by
  apply List.ext_getElem hl
  intro i h1 h2
  have := h i
  rwa [Hw.getD_in _ _ h1, Hw.getD_in _ _ h2] at this
end Go.Proofs.Ytdbmhpfbbikjjaa.E
end
section
/- Printed by a program of this seat (the kit's printer, with the functions that were proved by hand given to it). What stands here: the functions that the statements reach, as plain functions, and that the Go code computes them. -/
namespace Go.Proofs.Ytdbmhpfbbikjjaa.Pr
open Go.RowKit Go.Proofs.YtdbmhpfbbikjjaaW.PrintWords Go.Proofs.YtdbmhpfbbikjjaaW.PrintLast Go.Proofs.YtdbmhpfbbikjjaaW.PrintMore
attribute [local go_sem] max2_int min2_int max_two min_two max_three min_three max_four min_four   -- for this text's walks alone
set_option linter.unusedVariables false
set_option linter.unusedSimpArgs false

open Go.Proofs.Ytdbmhpfbbikjjaa.Hw
/-! ### privityref05_Polynomial: function 22 -/
end Go.Proofs.Ytdbmhpfbbikjjaa.Pr
end
section
/- Printed by a program of this seat (the kit's printer, with the functions that were proved by hand given to it). What stands here: the functions that the statements reach, as plain functions, and that the Go code computes them. -/
namespace Go.Proofs.Ytdbmhpfbbikjjaa.Pr
open Go.RowKit Go.Proofs.YtdbmhpfbbikjjaaW.PrintWords Go.Proofs.YtdbmhpfbbikjjaaW.PrintLast Go.Proofs.YtdbmhpfbbikjjaaW.PrintMore
attribute [local go_sem] max2_int min2_int max_two min_two max_three min_three max_four min_four   -- for this text's walks alone
set_option linter.unusedVariables false
set_option linter.unusedSimpArgs false

open Go.Proofs.Ytdbmhpfbbikjjaa.Hw
/-! ### privityref05_Vandermonde: function 28 -/
end Go.Proofs.Ytdbmhpfbbikjjaa.Pr
end
section
/-
  The reference of layer 5: what its printed functions answer.
-/
namespace Go.Proofs.Ytdbmhpfbbikjjaa.E
open Go.RowKit Go.Proofs.Ytdbmhpfbbikjjaa.Pr Go.Proofs.Ytdbmhpfbbikjjaa.Hw Go.Proofs.Ytdbmhpfbbikjjaa.Pl Go.Proofs.YtdbmhpfbbikjjaaW.PrintWords Go.Proofs.YtdbmhpfbbikjjaaW.PrintLast Go.Proofs.YtdbmhpfbbikjjaaW.PrintMore
set_option linter.unusedVariables false
set_option linter.unusedSimpArgs false

/-- A loop that answers false at the first i that Q does not hold of. -/
theorem allLoop {F : Nat → Int → Option Bool} {n : Nat} {Q : Nat → Prop} [DecidablePred Q] (hend : ∀ k, F (k + 1) (n : Int) = some true) (hyes : ∀ i, i < n → Q i → ∀ r, Ev (fun k => F k ((i + 1 : Nat) : Int)) r → Ev (fun k => F k (i : Int)) r)
    (hno : ∀ i, i < n → ¬ Q i → Ev (fun k => F k (i : Int)) false) (r : Bool) (hr : r = true ↔ ∀ i, i < n → Q i) : Ev (fun k => F k ((0 : Nat) : Int)) r := by
  have main : ∀ d i, i + d = n → ∀ r : Bool, (r = true ↔ ∀ j, i ≤ j → j < n → Q j) → Ev (fun k => F k (i : Int)) r := by
    intro d
    induction d with
    | zero =>
      intro i hi r hr
      have : i = n := by omega
      subst this
      have : r = true := hr.2 (fun j h1 h2 => by omega)
      subst this
      exact Ev.step (fun k => hend k) (Ev.now _)
    | succ d ih =>
      intro i hi r hr
      by_cases h : Q i
      · refine hyes i (by omega) h r (ih (i + 1) (by omega) r ⟨fun e j h1 h2 => hr.1 e j (by omega) h2, fun e => hr.2 fun j h1 h2 => ?_⟩)
        by_cases e2 : j = i
        · rw [e2]; exact h
        · exact e j (by omega) h2
      · have : r = false := by
          cases r with
          | false => rfl
          | true => exact absurd (hr.1 rfl i (Nat.le_refl _) (by omega)) h
        subst this
        exact hno i (by omega) h
  exact main n 0 (by omega) r ⟨fun e j _ h2 => hr.1 e j h2, fun e => hr.2 fun j h => e j (Nat.zero_le _) h⟩
theorem same_ev (a b : List Int) (ha : a.length ≤ 1000000000) : Ev (fun k => privityref05_Same.f k a b) (decide (a = b)) := by
  by_cases hl : a.length = b.length
  · have h := allLoop (F := fun k i => privityref05_Same.l0 k a b i) (n := a.length) (Q := fun i => a.getD i 0 = b.getD i 0) (fun k => ?_) (fun i hi hq r h => ?_) (fun i hi hq => ?_) (decide (a = b)) ?_
    · refine h.congr fun k => ?_
      unfold privityref05_Same.f
      rw [if_pos (by omega)]; rfl
    · simp only [privityref05_Same.l0]
      rw [if_neg (by omega)]
    · refine Ev.step (fun k => ?_) h
      simp only [privityref05_Same.l0]
      rw [if_pos (by omega), if_pos (by omega), if_pos (by omega), rd_nat, rd_nat, if_pos hq, wnat (by omega)]
    · refine Ev.step (fun k => ?_) (Ev.now _)
      simp only [privityref05_Same.l0]
      rw [if_pos (by omega), if_pos (by omega), if_pos (by omega), rd_nat, rd_nat, if_neg hq]
    · rw [decide_eq_true_iff]
      refine ⟨fun e i _ => by rw [e], fun h => list_ext_getD hl fun i => ?_⟩
      by_cases hi : i < a.length
      · exact h i hi
      · rw [getD_out a i (by omega), getD_out b i (by omega)]
  · have : decide (a = b) = false := decide_eq_false fun e => hl (by rw [e])
    rw [this]
    refine Ev.congr (fun k => ?_) (Ev.now _)
    unfold privityref05_Same.f
    rw [if_neg (by omega)]
def belowP (p : Int) (l : List S38) : Bool := l.all fun x => decide (x.f0 < p) && decide (x.f1 < p)
theorem points_ev (p : Int) (l : List S38) (hl : l.length ≤ 1000000000) : Ev (fun k => privityref05_Points.f k p l) (belowP p l) := by
  have h := allLoop (F := fun k i => privityref05_Points.l0 k p l i) (n := l.length) (Q := fun i => (rd_T38 l (i : Int)).f0 < p ∧ (rd_T38 l (i : Int)).f1 < p) (fun k => ?_) (fun i hi hq r h => ?_) (fun i hi hq => ?_) (belowP p l) ?_
  · exact h
  · simp only [privityref05_Points.l0]
    rw [if_neg (by omega)]
  · refine Ev.step (fun k => ?_) h
    simp only [privityref05_Points.l0]
    rw [if_pos (by omega), if_pos (by omega), if_neg (by omega), if_neg (by omega), wnat (by omega)]
  · refine Ev.step (fun k => ?_) (Ev.now _)
    simp only [privityref05_Points.l0]
    rw [if_pos (by omega), if_pos (by omega)]
    by_cases h1 : (rd_T38 l (i : Int)).f0 < p
    · rw [if_neg (by omega), if_pos (by omega)]
    · rw [if_pos (by omega)]
  · unfold belowP
    rw [List.all_eq_true]
    refine ⟨fun h i hi => ?_, fun h x hx => ?_⟩
    · rw [rdT_nat _ _ hi]; simpa using h _ (List.getElem_mem hi)
    · obtain ⟨i, hi, rfl⟩ := List.getElem_of_mem hx
      have := h i hi
      rw [rdT_nat _ _ hi] at this
      simpa using this
theorem points_res {p : Int} {l : List S38} (h : belowP p l = true) (hw : ∀ x ∈ l, 0 ≤ x.f0 ∧ 0 ≤ x.f1) : PtsOk p l := by
  intro x hx
  have := List.all_eq_true.1 h x hx
  simp only [Bool.and_eq_true, decide_eq_true_eq] at this
  exact ⟨⟨(hw x hx).1, this.1⟩, ⟨(hw x hx).2, this.2⟩⟩
theorem places_ev (l : List S38) (hl : l.length ≤ 1000000000) : Ev (fun k => privityref05_Places.f k l) (xsOf l) := by
  have := up (Q := fun i => Ev (fun k => privityref05_Places.l0 k l (xsOf (l.take i)) (i : Int)) (xsOf l)) (n := l.length) ?_ ?_
  · exact this
  · rw [List.take_length]
    refine Ev.step (fun k => ?_) (Ev.now _)
    simp only [privityref05_Places.l0]
    rw [if_neg (by omega)]
  · intro i hi h
    rw [← xsOf_next l i hi] at h
    refine Ev.step (fun k => ?_) h
    simp only [privityref05_Places.l0]
    rw [if_pos (by omega), if_pos (by omega), if_pos (by rw [xsOf_take_length l i (by omega)]; omega), wnat (by omega)]
theorem unlike_ev (l : List Int) (hl : l.length ≤ 1000000000) : Ev (fun k => privityref05_Unlike.f k l) (decide l.Nodup) := by
  have h := allLoop (F := fun k i => privityref05_Unlike.l0 k l i) (n := l.length) (Q := fun i => ∀ j, j < i → l.getD i 0 ≠ l.getD j 0) (fun k => ?_) (fun i hi hq r h => ?_) (fun i hi hq => ?_) (decide l.Nodup) ?_
  · exact h
  · simp only [privityref05_Unlike.l0]
    rw [if_neg (by omega)]
  · have row : Ev (fun k => privityref05_Unlike.l1 k l (i : Int) ((0 : Nat) : Int)) r := by
      refine up (Q := fun j => Ev (fun k => privityref05_Unlike.l1 k l (i : Int) (j : Int)) r) (n := i) ?_ ?_
      · refine Ev.step (fun k => ?_) h
        simp only [privityref05_Unlike.l1]
        rw [if_neg (by omega), wnat (by omega)]
      · intro j hj h2
        refine Ev.step (fun k => ?_) h2
        simp only [privityref05_Unlike.l1]
        rw [if_pos (by omega), if_pos (by omega), if_pos (by omega), if_pos (by omega), if_pos (by omega), rd_nat, rd_nat, if_neg (hq j hj), wnat (by omega)]
    refine Ev.step (fun k => ?_) row
    simp only [privityref05_Unlike.l0]
    rw [if_pos (by omega)]; rfl
  · have row : Ev (fun k => privityref05_Unlike.l1 k l (i : Int) ((0 : Nat) : Int)) false := by
      obtain ⟨j, hj, he⟩ : ∃ j, j < i ∧ l.getD i 0 = l.getD j 0 := by
        apply Classical.byContradiction
        intro hc
        exact hq fun j hj e => hc ⟨j, hj, e⟩
      refine up (Q := fun j => Ev (fun k => privityref05_Unlike.l1 k l (i : Int) (j : Int)) false) (n := j) ?_ ?_
      · refine Ev.step (fun k => ?_) (Ev.now _)
        simp only [privityref05_Unlike.l1]
        rw [if_pos (by omega), if_pos (by omega), if_pos (by omega), if_pos (by omega), if_pos (by omega), rd_nat, rd_nat, if_pos he]
      · intro j' hj' h2
        by_cases e : l.getD i 0 = l.getD j' 0
        · refine Ev.step (fun k => ?_) (Ev.now _)
          simp only [privityref05_Unlike.l1]
          rw [if_pos (by omega), if_pos (by omega), if_pos (by omega), if_pos (by omega), if_pos (by omega), rd_nat, rd_nat, if_pos e]
        · refine Ev.step (fun k => ?_) h2
          simp only [privityref05_Unlike.l1]
          rw [if_pos (by omega), if_pos (by omega), if_pos (by omega), if_pos (by omega), if_pos (by omega), rd_nat, rd_nat, if_neg e, wnat (by omega)]
    refine Ev.step (fun k => ?_) row
    simp only [privityref05_Unlike.l0]
    rw [if_pos (by omega)]; rfl
  · rw [decide_eq_true_iff, List.nodup_iff_pairwise_ne, List.pairwise_iff_getElem]
    refine ⟨fun h i hi j hj e => ?_, fun h i j hi hj hij e => ?_⟩
    · rw [Hw.getD_in _ _ hi, Hw.getD_in _ _ (by omega)] at e
      exact h j i (by omega) hi hj e.symm
    · have := h j hj i hij
      rw [Hw.getD_in _ _ hi, Hw.getD_in _ _ hj] at this
      exact this e.symm
end Go.Proofs.Ytdbmhpfbbikjjaa.E
end
section
/-
  The reference's Lagrange formula: the same polynomial, the same weights.
-/
namespace Go.Proofs.Ytdbmhpfbbikjjaa.E
open Go.RowKit Go.Proofs.Ytdbmhpfbbikjjaa.Pr Go.Proofs.Ytdbmhpfbbikjjaa.Hw Go.Proofs.Ytdbmhpfbbikjjaa.Pl Go.Proofs.YtdbmhpfbbikjjaaW.PrintWords Go.Proofs.YtdbmhpfbbikjjaaW.PrintLast Go.Proofs.YtdbmhpfbbikjjaaW.PrintMore
set_option linter.unusedVariables false
set_option linter.unusedSimpArgs false

section
variable {p : Int} (hp : Supp p) [NeZero p.toNat]
end

/-! ### Weights -/
/-! ### Polynomial -/
end Go.Proofs.Ytdbmhpfbbikjjaa.E
end
section
/-
  What the statements of chapter 5 share: the first check, the guards, sums.
-/
namespace Go.Proofs.Ytdbmhpfbbikjjaa.E
open Go.RowKit Go.Proofs.Ytdbmhpfbbikjjaa.Pr Go.Proofs.Ytdbmhpfbbikjjaa.Hw Go.Proofs.Ytdbmhpfbbikjjaa.Pl Go.Proofs.YtdbmhpfbbikjjaaW.PrintWords Go.Proofs.YtdbmhpfbbikjjaaW.PrintLast Go.Proofs.YtdbmhpfbbikjjaaW.PrintMore
set_option linter.unusedVariables false
set_option linter.unusedSimpArgs false

theorem awake05 : Ev (fun k => privitylaw05_awake.f k) true := Ev.of (fun k => privitylaw05_awake.mono _) (k := 40) (by kernel_rfl)
end Go.Proofs.Ytdbmhpfbbikjjaa.E
end
section
/-
  Guards, sums, and the hand-proved functions' answers, for the statements.
-/
namespace Go.Proofs.Ytdbmhpfbbikjjaa.E
open Go.RowKit Go.Proofs.Ytdbmhpfbbikjjaa.Pr Go.Proofs.Ytdbmhpfbbikjjaa.Hw Go.Proofs.Ytdbmhpfbbikjjaa.Pl Go.Proofs.YtdbmhpfbbikjjaaW.PrintWords Go.Proofs.YtdbmhpfbbikjjaaW.PrintLast Go.Proofs.YtdbmhpfbbikjjaaW.PrintMore
set_option linter.unusedVariables false
set_option linter.unusedSimpArgs false

theorem wf64 {x : Int} (h : (Lit.int .u64 x).wf = true) : 0 ≤ x ∧ x < 18446744073709551616 := by
  have h1 : IntKind.u64.min ≤ x ∧ x ≤ IntKind.u64.max := by simpa [Lit.wf] using h
  have e1 : IntKind.u64.min = 0 := by decide
  have e2 : IntKind.u64.max = 18446744073709551615 := by decide
  omega
/-- A check, and both ways on. -/
theorem ev_if {α : Type} {A : Nat → Option Bool} {b : Bool} (hA : Ev A b) {X Y : Nat → Option α} {r : α} (hx : b = true → Ev X r) (hy : b = false → Ev Y r) : Ev (fun k => (A k).bind fun t => if t = true then X k else Y k) r := by
  refine Ev.bind (f := fun k t => if t = true then X k else Y k) hA ?_
  cases b with
  | true => exact (hx rfl).congr fun k => if_pos rfl
  | false => exact (hy rfl).congr fun k => if_neg (by simp)
theorem ev_ite {α : Type} {c : Prop} [Decidable c] {X Y : Nat → Option α} {r : α} (hx : c → Ev X r) (hy : ¬ c → Ev Y r) : Ev (fun k => if c then X k else Y k) r := by
  by_cases h : c
  · exact (hx h).congr fun k => if_pos h
  · exact (hy h).congr fun k => if_neg h
/-- A check whose negation is handed on. -/
theorem ev_now_bind {α β : Type} {x : Option α} {a : α} (hx : x = some a) {f : Nat → α → Option β} {r : β} (h : Ev (fun k => f k a) r) : Ev (fun k => x.bind (f k)) r := by subst hx; exact h
theorem ipol_eq {p : Int} (hp : Supp p) {pts : List S38} (hx : PtsOk p pts) (hl : pts.length ≤ 12) : interpolate_Polynomial.f p pts = some (if (xsOf pts).Nodup then polL p pts else [], if (xsOf pts).Nodup then 0 else 1) := by
  unfold interpolate_Polynomial.f
  rw [if_pos (supB_iff.2 hp), if_pos (ptsB_iff.2 hx), if_pos hl]
end Go.Proofs.Ytdbmhpfbbikjjaa.E
end
section
/-
  A further point: on the polynomial it changes nothing, off it the degree is the former number of points.
-/
namespace Go.Proofs.Ytdbmhpfbbikjjaa.Pure
open Go.RowKit Go.Proofs.Ytdbmhpfbbikjjaa.Pr Go.Proofs.Ytdbmhpfbbikjjaa.Hw Go.Proofs.Ytdbmhpfbbikjjaa.E Go.Proofs.YtdbmhpfbbikjjaaW.PrintWords Go.Proofs.YtdbmhpfbbikjjaaW.PrintLast Go.Proofs.YtdbmhpfbbikjjaaW.PrintMore
set_option linter.unusedVariables false
set_option linter.unusedSimpArgs false

theorem extra_skip (p : Int) (pts : List S38) (x y : Int) : Ev (fun k => privitylaw05_InterpolateExtraPoint.j0 k p pts true x y) true :=
  Ev.step (f := fun _ => some true) (fun k => by simp only [privitylaw05_InterpolateExtraPoint.j0]; rw [if_pos trivial]) (Ev.now _)
theorem rdT_append_left (pts : List S38) (m : S38) (j : Nat) (hj : j < pts.length) : rd_T38 (pts ++ [m]) (j : Int) = rd_T38 pts (j : Int) := by
  rw [rdT_nat _ _ (by simp; omega), rdT_nat _ _ hj, List.getElem_append_left hj]
theorem rdT_append_right (pts : List S38) (m : S38) : rd_T38 (pts ++ [m]) ((pts.length : Nat) : Int) = m := by
  rw [rdT_nat _ _ (by simp), List.getElem_append_right (Nat.le_refl _)]; simp
theorem extra_main {p : Int} (hp : Supp p) {pts : List S38} (hx : PtsOk p pts) (lx : pts.length ≤ 11) {x y : Int} (rx : Res p x) (ry : Res p y) : Ev (fun k => privitylaw05_InterpolateExtraPoint.j0 k p pts false x y) true := by
  obtain ⟨all, hall⟩ : ∃ a, a = pts ++ [(⟨x, y⟩ : S38)] := ⟨_, rfl⟩
  have la : all.length = pts.length + 1 := by rw [hall]; simp
  have hxa : PtsOk p all := by
    intro z hz
    rw [hall] at hz
    rcases List.mem_append.1 hz with h | h
    · exact hx z h
    · simp only [List.mem_cons, List.not_mem_nil, or_false] at h
      rw [h]; exact ⟨rx, ry⟩
  have hxs : xsOf all = xsOf pts ++ [x] := by rw [hall]; simp [xsOf]
  refine Ev.step (f := fun k => (privityref05_Places.f k all).bind fun t477 => ((privityref05_Unlike.f k t477).bind fun t480 => (if t480 = true then ((interpolate_Polynomial.f p pts).bind fun bt481 => ((interpolate_Polynomial.f p all).bind fun bt485 => (if bt481.2 = 0 then (privitylaw05_InterpolateExtraPoint.j1 k p pts bt481.1 bt485.1 (bt485.2 != 0) x y) else (privitylaw05_InterpolateExtraPoint.j1 k p pts bt481.1 bt485.1 true x y)))) else (some true)))) (fun k => ?_) (Ev.bind (places_ev all (by omega)) (ev_if (unlike_ev (xsOf all) (by rw [hxs]; simp [xsOf]; omega)) (fun hn => ?_) fun _ => Ev.now _))
  · simp only [privitylaw05_InterpolateExtraPoint.j0]
    rw [if_neg (by simp)]
    simp only [Option.bind_some, List.nil_append, List.length_nil]
    rw [if_pos (by omega), if_pos (by simp; omega), ← hall]
  · have hna : (xsOf all).Nodup := of_decide_eq_true hn
    have hnp : (xsOf pts).Nodup := by
      rw [hxs] at hna
      exact (List.nodup_append.1 hna).1
    have e0 := ipol_eq hp hx (by omega)
    have e1 := ipol_eq hp hxa (by omega)
    rw [if_pos hnp, if_pos hnp] at e0
    rw [if_pos hna, if_pos hna] at e1
    have l0 := polL_len hp (pts := pts)
    have l1 := polL_len hp (pts := all)
    refine ev_now_bind e0 (ev_now_bind e1 (Ev.congr (fun k => if_pos rfl) ?_))
    refine Ev.step (f := fun k => (poly_Eval.f k p (polL p pts) x).bind fun t489 => (if t489 = y then ((privityref05_Same.f k (polL p pts) (polL p all)).bind fun t490 => (some t490)) else ((poly_Degree.f k (polL p all)).bind fun t491 => (some (t491 == (pts.length : Int)))))) (fun k => ?_) (Ev.bind (eval_ev hp rx _ (polL_res hp hx) (by omega)) (ev_ite (fun he => ?_) fun he => ?_))
    · simp only [privitylaw05_InterpolateExtraPoint.j1]
      rw [if_neg (by simp)]
    · have : polL p all = polL p pts := by
        rw [← polL_trim p pts]
        refine polL_char hp hxa hna (polL_res hp hx) (by omega) (fun j hj => ?_)
        by_cases hj2 : j < pts.length
        · rw [hall, rdT_append_left _ _ _ hj2, polL_at hp hx hnp j hj2]
        · have : j = pts.length := by omega
          subst this
          rw [hall, rdT_append_right]; exact he
      rw [this]
      refine Ev.bind (same_ev _ _ (by omega)) ?_
      rw [decide_eq_true rfl]; exact Ev.now _
    · refine Ev.bind (degree_ev (polL p all) (by omega)) ?_
      rw [polL_trim]
      have : (polL p all).length = pts.length + 1 := by
        apply Classical.byContradiction
        intro hne
        have hc := polL_char hp hx hnp (polL_res hp hxa) (by omega) (fun j hj => by
          have := polL_at hp hxa hna j (by omega)
          rw [hall, rdT_append_left _ _ _ hj] at this
          rw [hall]; exact this)
        rw [polL_trim] at hc
        have h2 := polL_at hp hxa hna pts.length (by omega)
        rw [hall, rdT_append_right] at h2
        rw [hall] at hc
        rw [hc] at he
        exact he h2
      rw [this, show (((pts.length + 1 : Nat) : Int) - 1 == (pts.length : Int)) = true from by rw [beq_iff_eq]; omega]
      exact Ev.now _
theorem InterpolateExtraPoint (p : Int) (pts : List S38) (x y : Int) (wp : (Lit.int .u64 p).wf = true) (hw : ∀ x ∈ pts, (Lit.int .u64 x.f0).wf = true ∧ (Lit.int .u64 x.f1).wf = true) (wx : (Lit.int .u64 x).wf = true) (wy : (Lit.int .u64 y).wf = true) : ∃ k, privitylaw05_InterpolateExtraPoint.f k p pts x y = some true := by
  refine Ev.rounds (r := true) ?_
  refine ev_if awake05 (fun _ => ev_if (supported_ev p) (fun hs => ev_ite (fun _ => extra_skip p pts x y) fun h1 =>
    ev_if (points_ev p pts (by omega)) (fun hb1 => ev_ite (fun _ => extra_skip p pts x y) fun h2 => ?_) fun _ => extra_skip p pts x y) fun _ => extra_skip p pts x y) (fun h => by cases h)
  by_cases h : y ≥ p
  · rw [decide_eq_true h]; exact extra_skip p pts x y
  · rw [decide_eq_false h]
    exact extra_main (supB_of hs) (points_res hb1 fun x hx => ⟨(wf64 (hw x hx).1).1, (wf64 (hw x hx).2).1⟩) (by omega) ⟨(wf64 wx).1, by omega⟩ ⟨(wf64 wy).1, by omega⟩
end Go.Proofs.Ytdbmhpfbbikjjaa.Pure
end
section
/-
  What came in, opened: numbers, bools, rows and structs of them, to any depth.
-/
namespace Go.Proofs.Ytdbmhpfbbikjjaa.Op
open Go.RowKit Go.Proofs.YtdbmhpfbbikjjaaW.PrintWords
set_option linter.unusedVariables false

/-- What is read of a type's value is a value of d, and Q holds of it. -/
def OpenK {α : Type} (P : Program) (t : TypeId) (d : Kd α) (Q : α → Prop) : Prop :=
  ∀ {H : Type} {enc : TypeId × Value → H} {w : World} {base : Nat} {sp : Nat → Bool} {hd : Bool} {fuel : Nat} {cs : List Value} {x : DataW H × List MemPlace}, DataW.trod enc P w base sp hd fuel t cs = some x → ∃ v : α, d.K w v cs ∧ Q v
theorem openInt {P : Program} {t : TypeId} {k : IntKind} (ht : P.underlying t = some (.int k)) : OpenK P t (Kd.int k) (fun n => (Lit.int k n).wf = true) := by
  intro H enc w base sp hd fuel cs x h
  obtain ⟨n, rfl, _, hw⟩ := DataW.trod_int ht h
  exact ⟨n, rfl, hw⟩
theorem exists_list {α : Type} {R : Nat → α → Prop} : ∀ (n : Nat), (∀ i, i < n → ∃ v, R i v) → ∃ l : List α, l.length = n ∧ ∀ i v, l[i]? = some v → R i v
  | 0, _ => ⟨[], rfl, fun i v h => by simp at h⟩
  | n + 1, h => by
    obtain ⟨l, hl, hr⟩ := exists_list n (fun i hi => h i (by omega))
    obtain ⟨v, hv⟩ := h n (by omega)
    refine ⟨l ++ [v], by simp [hl], fun i u hu => ?_⟩
    by_cases hi : i < n
    · rw [List.getElem?_append_left (by omega)] at hu
      exact hr i u hu
    · rw [List.getElem?_append_right (by omega)] at hu
      by_cases h0 : i - l.length = 0
      · rw [h0] at hu
        simp only [List.getElem?_cons_zero, Option.some.injEq] at hu
        rw [← hu, show i = n from by omega]; exact hv
      · rw [List.getElem?_eq_none (by simp; omega)] at hu; cases hu
theorem openSlice {α : Type} {P : Program} {t e : TypeId} {d : Kd α} {Q : α → Prop} (ht : P.underlying t = some (.slice e)) (hc : P.cellsOf e = d.sz) (he : OpenK P e d Q) : OpenK P t (Kd.slice e d) (fun l => ∀ x ∈ l, Q x) := by
  intro H enc w base sp hd fuel cs x h
  rcases DataW.trod_slice ht h with ⟨rfl, _⟩ | ⟨a, len, cap, elems, rest, n, _, rfl, _, _, hlc, hm, hlen, hel, _, _⟩
  · exact ⟨[], ⟨none, 0, rfl, Nat.le_refl _, rfl, Nat.zero_le _, fun h => absurd h (Nat.lt_irrefl 0)⟩, fun x hx => by cases hx⟩
  · have each : ∀ i, i < len → ∃ v, (∃ c, c.length = d.sz ∧ d.K w v c ∧ ∀ j u, c[j]? = some u → w.cell? (a.add (i * d.sz + j)) = some u) ∧ Q v := by
      intro i hi
      have h1 := hel i hi
      rw [List.getElem?_eq_getElem (by omega), hc] at h1
      obtain ⟨c, hcs, htr⟩ := Option.bind_eq_some_iff.1 h1
      obtain ⟨v, hk, hq⟩ := he htr
      refine ⟨v, ⟨c, d.K_len hk, hk, fun j u hu => ?_⟩, hq⟩
      have h2 := World.cells?_some hcs
      have hj := (List.getElem?_eq_some_iff.1 hu).1
      have h3 := h2.2.2 j (by rw [← d.K_len hk]; exact hj)
      rw [hu] at h3
      rw [← h3, ← Addr.add_add]
    obtain ⟨l, hl, hr⟩ := exists_list len each
    refine ⟨l, ⟨some a, cap, by rw [hl], by omega, rfl, by rw [hl]; simp only [maxLen] at hm; omega, fun _ => ⟨a, rfl, fun j p hj => (hr j p hj).1⟩⟩, fun x hx => ?_⟩
    obtain ⟨i, hi, rfl⟩ := List.getElem_of_mem hx
    exact (hr i _ (List.getElem?_eq_getElem hi)).2
/-- A struct's fields. -/
theorem openFields {P : Program} {H : Type} {enc : TypeId × Value → H} {w : World} {base : Nat} {sp : Nat → Bool} {hd : Bool} {fuel : Nat} {t : TypeId} {cs : List Value} {x : DataW H × List MemPlace} {fs : Array Field} (ht : P.underlying t = some (.struct fs))
    (h : DataW.trod enc P w base sp hd fuel t cs = some x) : cs.length = P.cellsOf t ∧ ∀ (i : Nat) (f : Field), fs[i]? = some f → ∃ n y, DataW.trod enc P w base sp hd n f.type ((cs.drop f.offset).take (P.cellsOf f.type)) = some y := by
  obtain ⟨xs, n, _, _, hl, hlen, hf⟩ := DataW.trod_struct ht h
  refine ⟨hl, fun i f hi => ?_⟩
  have h1 := hf i f hi
  have h2 : i < fs.size := (Array.getElem?_eq_some_iff.1 hi).1
  rw [List.getElem?_eq_getElem (by omega)] at h1
  exact ⟨n, _, h1⟩
end Go.Proofs.Ytdbmhpfbbikjjaa.Op
end
