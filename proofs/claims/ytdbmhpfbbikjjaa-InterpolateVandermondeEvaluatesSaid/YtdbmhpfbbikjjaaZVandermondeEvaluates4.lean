/- Printed by a program of this seat (the kit's printer, with the functions that were proved by hand given to it). What stands here: the functions that the statements reach, as plain functions, and that the Go code computes them. -/
import Derived.Test.YtdbmhpfbbikjjaaZVandermondeEvaluates1
import Derived.Test.YtdbmhpfbbikjjaaZVandermondeEvaluates3
import Derived.Test.YtdbmhpfbbikjjaaZVandermondeEvaluates2
import Derived.Test.YtdbmhpfbbikjjaaRows
import Derived.WalkKit
import Derived.ProofKit
import Derived.OpenShut
import Derived.ShutString
import Derived.ChangeOld
import Derived.Below
import Derived.SizedLaws
import Derived.Test.YtdbmhpfbbikjjaaZVandermondeEvaluates0
section
/- Printed by a program of this seat (the kit's printer, with the functions that were proved by hand given to it). What stands here: the functions that the statements reach, as plain functions, and that the Go code computes them. -/
namespace Go.Proofs.Ytdbmhpfbbikjjaa.Pr
open Go.RowKit Go.Proofs.YtdbmhpfbbikjjaaW.PrintWords Go.Proofs.YtdbmhpfbbikjjaaW.PrintLast Go.Proofs.YtdbmhpfbbikjjaaW.PrintMore
attribute [local go_sem] max2_int min2_int max_two min_two max_three min_three max_four min_four   -- for this text's walks alone
set_option linter.unusedVariables false
set_option linter.unusedSimpArgs false

open Go.Proofs.Ytdbmhpfbbikjjaa.Hw
/-! ### privitylaw05_InterpolateVandermondeEvaluates: function 8 -/
mutual
def privitylaw05_InterpolateVandermondeEvaluates.j0 : Nat → Int → List Int → List Int → Bool → Option (Bool)
  | 0, _, _, _, _ => none
  | k + 1, x0, x1, x2, x37 => if x37 = true then (some true) else ((interpolate_Vandermonde.f k x0 x1 (x2.length : Int)).bind fun t444 => ((privityref05_Vandermonde.f k x0 x1 (x2.length : Int)).bind fun t447 => ((privityref05_SameRows.f k t444 t447).bind fun t450 => (if t450 = true then ((interpolate_Vandermonde.f k x0 x1 (-1)).bind fun t451 => (privitylaw05_InterpolateVandermondeEvaluates.j1 k x0 x1 x2 t444 ((t451.length : Int) != (x1.length : Int)))) else (privitylaw05_InterpolateVandermondeEvaluates.j1 k x0 x1 x2 t444 true)))))
def privitylaw05_InterpolateVandermondeEvaluates.j1 : Nat → Int → List Int → List Int → List (List Int) → Bool → Option (Bool)
  | 0, _, _, _, _, _ => none
  | k + 1, x0, x1, x2, x7, x59 => if x59 = true then (some false) else (privitylaw05_InterpolateVandermondeEvaluates.l0 k x0 x1 x2 x7 0)
def privitylaw05_InterpolateVandermondeEvaluates.l0 : Nat → Int → List Int → List Int → List (List Int) → Int → Option (Bool)
  | 0, _, _, _, _, _ => none
  | k + 1, x0, x1, x2, x7, x8 => if x8 < (x1.length : Int) then (privitylaw05_InterpolateVandermondeEvaluates.l1 k x0 x1 x2 x7 x8 0 0) else (some true)
def privitylaw05_InterpolateVandermondeEvaluates.l1 : Nat → Int → List Int → List Int → List (List Int) → Int → Int → Int → Option (Bool)
  | 0, _, _, _, _, _, _, _ => none
  | k + 1, x0, x1, x2, x7, x8, x9, x10 => if x10 < (x2.length : Int) then (if 0 ≤ x8 then (if x8 < (x7.length : Int) then (if 0 ≤ x10 then (if x10 < ((rd_L1 x7 x8).length : Int) then ((field_Mul.f k x0 (rd (rd_L1 x7 x8) x10) (rd x2 x10)).bind fun t457 => ((field_Add.f k x0 x9 t457).bind fun t458 => (privitylaw05_InterpolateVandermondeEvaluates.l1 k x0 x1 x2 x7 x8 t458 (wrap64 (x10 + 1))))) else (none)) else (none)) else (none)) else (none)) else (if 0 ≤ x8 then (if x8 < (x1.length : Int) then ((poly_Eval.f k x0 x2 (rd x1 x8)).bind fun t460 => (if x9 = t460 then (privitylaw05_InterpolateVandermondeEvaluates.l0 k x0 x1 x2 x7 (wrap64 (x8 + 1))) else (some false))) else (none)) else (none))
end
def privitylaw05_InterpolateVandermondeEvaluates.f (k : Nat) (a0 : Int) (l1 : List Int) (l2 : List Int) : Option (Bool) := (privitylaw05_awake.f k).bind fun t440 => (if t440 = true then ((privityref01_Supported.f k a0).bind fun t441 => (if t441 = true then (if (l1.length : Int) > 12 then (privitylaw05_InterpolateVandermondeEvaluates.j0 k a0 l1 l2 true) else (if (l2.length : Int) > 12 then (privitylaw05_InterpolateVandermondeEvaluates.j0 k a0 l1 l2 true) else ((privityref05_Below.f k a0 l1).bind fun t442 => (if t442 = true then ((privityref05_Below.f k a0 l2).bind fun t443 => (privitylaw05_InterpolateVandermondeEvaluates.j0 k a0 l1 l2 (!t443))) else (privitylaw05_InterpolateVandermondeEvaluates.j0 k a0 l1 l2 true))))) else (privitylaw05_InterpolateVandermondeEvaluates.j0 k a0 l1 l2 true))) else (some false))
set_option maxHeartbeats 8000000 in
set_option maxRecDepth 100000 in
theorem privitylaw05_InterpolateVandermondeEvaluates.calls (k : Nat) (a0 : Int) (A1 : Option Addr) (c1 : Nat) (l1 : List Int) (A2 : Option Addr) (c2 : Nat) (l2 : List Int) (r : Bool) (w : World) (hr1 : Kd.C (Kd.int .u64) w A1 l1.length l1) (hc1 : l1.length ≤ c1) (hr2 : Kd.C (Kd.int .u64) w A2 l2.length l2) (hc2 : l2.length ≤ c2) (h : privitylaw05_InterpolateVandermondeEvaluates.f k a0 l1 l2 = some r) :
    Calls Try.prog 8 #[.int .u64 a0, .slice A1 l1.length c1, .slice A2 l2.length c2] w fun e w' => e = .returned (.bool r) ∧ Below w.heap.size w w' := by
  have HR1 := Aside0.mk hr1
  have HC1 := Aside0.mk hc1
  clear hr1 hc1
  have HR2 := Aside0.mk hr2
  have HC2 := Aside0.mk hc2
  clear hr2 hc2
  have HB := Aside0.mk (Below.refl w.heap.size w)
  have H : ((privitylaw05_awake.f k).bind fun t440 => (if t440 = true then ((privityref01_Supported.f k a0).bind fun t441 => (if t441 = true then (if (l1.length : Int) > 12 then (privitylaw05_InterpolateVandermondeEvaluates.j0 k a0 l1 l2 true) else (if (l2.length : Int) > 12 then (privitylaw05_InterpolateVandermondeEvaluates.j0 k a0 l1 l2 true) else ((privityref05_Below.f k a0 l1).bind fun t442 => (if t442 = true then ((privityref05_Below.f k a0 l2).bind fun t443 => (privitylaw05_InterpolateVandermondeEvaluates.j0 k a0 l1 l2 (!t443))) else (privitylaw05_InterpolateVandermondeEvaluates.j0 k a0 l1 l2 true))))) else (privitylaw05_InterpolateVandermondeEvaluates.j0 k a0 l1 l2 true))) else (some false))) = some r := h
  clear h
  replace H := Option.bind_eq_some_iff.mp H
  obtain ⟨t440, A40, H⟩ := H
  replace H : (if t440 = true then ((privityref01_Supported.f k a0).bind fun t441 => (if t441 = true then (if (l1.length : Int) > 12 then (privitylaw05_InterpolateVandermondeEvaluates.j0 k a0 l1 l2 true) else (if (l2.length : Int) > 12 then (privitylaw05_InterpolateVandermondeEvaluates.j0 k a0 l1 l2 true) else ((privityref05_Below.f k a0 l1).bind fun t442 => (if t442 = true then ((privityref05_Below.f k a0 l2).bind fun t443 => (privitylaw05_InterpolateVandermondeEvaluates.j0 k a0 l1 l2 (!t443))) else (privitylaw05_InterpolateVandermondeEvaluates.j0 k a0 l1 l2 true))))) else (privitylaw05_InterpolateVandermondeEvaluates.j0 k a0 l1 l2 true))) else (some false)) = some r := H
  have A4 := Aside0.mk A40
  clear A40
  by_cases c5 : t440 = true
  · subst c5
    have H1 : ((privityref01_Supported.f k a0).bind fun t441 => (if t441 = true then (if (l1.length : Int) > 12 then (privitylaw05_InterpolateVandermondeEvaluates.j0 k a0 l1 l2 true) else (if (l2.length : Int) > 12 then (privitylaw05_InterpolateVandermondeEvaluates.j0 k a0 l1 l2 true) else ((privityref05_Below.f k a0 l1).bind fun t442 => (if t442 = true then ((privityref05_Below.f k a0 l2).bind fun t443 => (privitylaw05_InterpolateVandermondeEvaluates.j0 k a0 l1 l2 (!t443))) else (privitylaw05_InterpolateVandermondeEvaluates.j0 k a0 l1 l2 true))))) else (privitylaw05_InterpolateVandermondeEvaluates.j0 k a0 l1 l2 true))) = some r := by rw [if_pos rfl] at H; exact H
    clear H
    have H := H1
    clear H1
    have HC6 := Aside0.mk H
    clear H
    go_enter Try.func8, Try.ntmps8
    go_upto_region 3 with (first | (go_at_call 10; (with_reducible refine (privitylaw05_awake.calls k  true _ A4.out).mono ?_); rintro e w7 ⟨rfl, hb⟩; have n0_ := Aside0.mk (below_step (by repeat (first | (with_reducible first | exact HB.out | apply below_alloc | apply pw_below_drewN | apply below_drew1) | exact HB.out)) hb); clear HB; have HB := n0_; clear n0_; (try clear hb); (try clear hb2); (try clear hk); (try clear hi)))
    repeat (go_quiet (first | (go_at_call 10; (with_reducible refine (privitylaw05_awake.calls k  true _ A4.out).mono ?_); rintro e w7 ⟨rfl, hb⟩; have n0_ := Aside0.mk (below_step (by repeat (first | (with_reducible first | exact HB.out | apply below_alloc | apply pw_below_drewN | apply below_drew1) | exact HB.out)) hb); clear HB; have HB := n0_; clear n0_; (try clear hb); (try clear hb2); (try clear hk); (try clear hi))); go_upto_region 3 with (first | (go_at_call 10; (with_reducible refine (privitylaw05_awake.calls k  true _ A4.out).mono ?_); rintro e w7 ⟨rfl, hb⟩; have n0_ := Aside0.mk (below_step (by repeat (first | (with_reducible first | exact HB.out | apply below_alloc | apply pw_below_drewN | apply below_drew1) | exact HB.out)) hb); clear HB; have HB := n0_; clear n0_; (try clear hb); (try clear hb2); (try clear hk); (try clear hi))))
    (try simp only [Act.put, List.setIfInBounds_toArray, List.set_cons_zero, List.set_cons_succ])
    go_cut [37] (fun v37 wc => ∃ (kq : Nat) (x37_5 : Bool), v37 = .bool x37_5 ∧ Aside0 (privitylaw05_InterpolateVandermondeEvaluates.j0 kq a0 l1 l2 x37_5 = some r) ∧ Aside0 (kq ≤ k) ∧ Aside0 (Below w.heap.size w wc))
    case first =>
      have H := HC6.out
      clear HC6
      replace H := Option.bind_eq_some_iff.mp H
      obtain ⟨t441, A80, H⟩ := H
      replace H : (if t441 = true then (if (l1.length : Int) > 12 then (privitylaw05_InterpolateVandermondeEvaluates.j0 k a0 l1 l2 true) else (if (l2.length : Int) > 12 then (privitylaw05_InterpolateVandermondeEvaluates.j0 k a0 l1 l2 true) else ((privityref05_Below.f k a0 l1).bind fun t442 => (if t442 = true then ((privityref05_Below.f k a0 l2).bind fun t443 => (privitylaw05_InterpolateVandermondeEvaluates.j0 k a0 l1 l2 (!t443))) else (privitylaw05_InterpolateVandermondeEvaluates.j0 k a0 l1 l2 true))))) else (privitylaw05_InterpolateVandermondeEvaluates.j0 k a0 l1 l2 true)) = some r := H
      have A8 := Aside0.mk A80
      clear A80
      by_cases c9 : t441 = true
      · subst c9
        have H1 : (if (l1.length : Int) > 12 then (privitylaw05_InterpolateVandermondeEvaluates.j0 k a0 l1 l2 true) else (if (l2.length : Int) > 12 then (privitylaw05_InterpolateVandermondeEvaluates.j0 k a0 l1 l2 true) else ((privityref05_Below.f k a0 l1).bind fun t442 => (if t442 = true then ((privityref05_Below.f k a0 l2).bind fun t443 => (privitylaw05_InterpolateVandermondeEvaluates.j0 k a0 l1 l2 (!t443))) else (privitylaw05_InterpolateVandermondeEvaluates.j0 k a0 l1 l2 true))))) = some r := by rw [if_pos rfl] at H; exact H
        clear H
        have H := H1
        clear H1
        by_cases c10 : (l1.length : Int) > 12
        · rw [if_pos c10] at H
          have c10b0 : decide (12 < (l1.length : Int)) = true := decide_eq_true c10
          have c10b1 : decide (12 < l1.length) = true := decide_eq_true (by omega)
          clear c10
          (first | rw [c10b0] | (simp only [i64_w, i32_w]; rw [c10b0]) | skip)
          have H' := Aside0.mk H
          clear H
          go_wp2_with (first | (go_at_call 11; (with_reducible refine (privityref01_Supported.calls k a0 true _ A8.out).mono ?_); rintro e w11 ⟨rfl, hb⟩; have n0_ := Aside0.mk (below_step (by repeat (first | (with_reducible first | exact HB.out | apply below_alloc | apply pw_below_drewN | apply below_drew1) | exact HB.out)) hb); clear HB; have HB := n0_; clear n0_; (try clear hb); (try clear hb2); (try clear hk); (try clear hi)))
          repeat (go_quiet (first | (go_at_call 11; (with_reducible refine (privityref01_Supported.calls k a0 true _ A8.out).mono ?_); rintro e w11 ⟨rfl, hb⟩; have n0_ := Aside0.mk (below_step (by repeat (first | (with_reducible first | exact HB.out | apply below_alloc | apply pw_below_drewN | apply below_drew1) | exact HB.out)) hb); clear HB; have HB := n0_; clear n0_; (try clear hb); (try clear hb2); (try clear hk); (try clear hi))); try go_wp2_with (first | (go_at_call 11; (with_reducible refine (privityref01_Supported.calls k a0 true _ A8.out).mono ?_); rintro e w11 ⟨rfl, hb⟩; have n0_ := Aside0.mk (below_step (by repeat (first | (with_reducible first | exact HB.out | apply below_alloc | apply pw_below_drewN | apply below_drew1) | exact HB.out)) hb); clear HB; have HB := n0_; clear n0_; (try clear hb); (try clear hb2); (try clear hk); (try clear hi))))
          go_meet
          case rel => exact ⟨_, (true), (by first | rfl | (simp; done) | (simp [*]; done)), H', ⟨by first | omega | exact Nat.le_refl _⟩, ⟨by repeat (first | (with_reducible first | exact HB.out | apply below_alloc | apply pw_below_drewN | apply below_drew1) | exact HB.out)⟩⟩
        · rw [if_neg c10] at H
          have c10b0 : decide (12 < (l1.length : Int)) = false := decide_eq_false c10
          have c10b1 : decide (12 < l1.length) = false := decide_eq_false (by omega)
          clear c10
          (first | rw [c10b0] | (simp only [i64_w, i32_w]; rw [c10b0]) | skip)
          by_cases c12 : (l2.length : Int) > 12
          · rw [if_pos c12] at H
            have c12b0 : decide (12 < (l2.length : Int)) = true := decide_eq_true c12
            have c12b1 : decide (12 < l2.length) = true := decide_eq_true (by omega)
            clear c12
            have H' := Aside0.mk H
            clear H
            go_wp2_with (first | (go_at_call 11; (with_reducible refine (privityref01_Supported.calls k a0 true _ A8.out).mono ?_); rintro e w13 ⟨rfl, hb⟩; have n0_ := Aside0.mk (below_step (by repeat (first | (with_reducible first | exact HB.out | apply below_alloc | apply pw_below_drewN | apply below_drew1) | exact HB.out)) hb); clear HB; have HB := n0_; clear n0_; (try clear hb); (try clear hb2); (try clear hk); (try clear hi)))
            repeat (go_quiet (first | (go_at_call 11; (with_reducible refine (privityref01_Supported.calls k a0 true _ A8.out).mono ?_); rintro e w13 ⟨rfl, hb⟩; have n0_ := Aside0.mk (below_step (by repeat (first | (with_reducible first | exact HB.out | apply below_alloc | apply pw_below_drewN | apply below_drew1) | exact HB.out)) hb); clear HB; have HB := n0_; clear n0_; (try clear hb); (try clear hb2); (try clear hk); (try clear hi))); try go_wp2_with (first | (go_at_call 11; (with_reducible refine (privityref01_Supported.calls k a0 true _ A8.out).mono ?_); rintro e w13 ⟨rfl, hb⟩; have n0_ := Aside0.mk (below_step (by repeat (first | (with_reducible first | exact HB.out | apply below_alloc | apply pw_below_drewN | apply below_drew1) | exact HB.out)) hb); clear HB; have HB := n0_; clear n0_; (try clear hb); (try clear hb2); (try clear hk); (try clear hi))))
            go_meet
            case rel => exact ⟨_, (true), (by first | rfl | (simp; done) | (simp [*]; done)), H', ⟨by first | omega | exact Nat.le_refl _⟩, ⟨by repeat (first | (with_reducible first | exact HB.out | apply below_alloc | apply pw_below_drewN | apply below_drew1) | exact HB.out)⟩⟩
          · rw [if_neg c12] at H
            have c12b0 : decide (12 < (l2.length : Int)) = false := decide_eq_false c12
            have c12b1 : decide (12 < l2.length) = false := decide_eq_false (by omega)
            clear c12
            replace H := Option.bind_eq_some_iff.mp H
            obtain ⟨t442, A140, H⟩ := H
            replace H : (if t442 = true then ((privityref05_Below.f k a0 l2).bind fun t443 => (privitylaw05_InterpolateVandermondeEvaluates.j0 k a0 l1 l2 (!t443))) else (privitylaw05_InterpolateVandermondeEvaluates.j0 k a0 l1 l2 true)) = some r := H
            have A14 := Aside0.mk A140
            clear A140
            by_cases c15 : t442 = true
            · subst c15
              have H1 : ((privityref05_Below.f k a0 l2).bind fun t443 => (privitylaw05_InterpolateVandermondeEvaluates.j0 k a0 l1 l2 (!t443))) = some r := by rw [if_pos rfl] at H; exact H
              clear H
              have H := H1
              clear H1
              replace H := Option.bind_eq_some_iff.mp H
              obtain ⟨t443, A160, H⟩ := H
              replace H : (privitylaw05_InterpolateVandermondeEvaluates.j0 k a0 l1 l2 (!t443)) = some r := H
              have A16 := Aside0.mk A160
              clear A160
              have H' := Aside0.mk H
              clear H
              go_wp2_with (first | (go_at_call 11; (with_reducible refine (privityref01_Supported.calls k a0 true _ A8.out).mono ?_); rintro e w17 ⟨rfl, hb⟩; have n0_ := Aside0.mk (below_step (by repeat (first | (with_reducible first | exact HB.out | apply below_alloc | apply pw_below_drewN | apply below_drew1) | exact HB.out)) hb); clear HB; have HB := n0_; clear n0_; (try clear hb); (try clear hb2); (try clear hk); (try clear hi)) | (go_at_call 12; (with_reducible refine (privityref05_Below.calls k a0 _ _ l1 true _ ?side1 ?side2 A14.out).mono ?_); (case side1 => repeat (first | exact (Kd.C_below HR1.out HB.out) | (with_reducible refine Kd.C_alloc ?_ _) | (with_reducible refine Kd.C_drewN ?_ _) | (with_reducible refine Kd.C_drew ?_))); (case side2 => exact HC1.out); rintro e w' ⟨rfl, ⟨nd, rfl⟩⟩; (try first | exact ⟨rfl, _, World.drewN_drewN _ _ _⟩ | exact ⟨rfl, _, Eq.trans (World.drewN_drewN _ _ _) (congrArg (World.drewN _) (Nat.add_assoc _ _ _))⟩)) | (go_at_call 12; (with_reducible refine (privityref05_Below.calls k a0 _ _ l2 t443 _ ?side1 ?side2 A16.out).mono ?_); (case side1 => repeat (first | exact (Kd.C_below HR2.out (by repeat (first | (with_reducible first | exact HB.out | apply below_alloc | apply pw_below_drewN | apply below_drew1) | exact HB.out))) | (with_reducible refine Kd.C_alloc ?_ _) | (with_reducible refine Kd.C_drewN ?_ _) | (with_reducible refine Kd.C_drew ?_))); (case side2 => exact HC2.out); rintro e w' ⟨rfl, ⟨nd, rfl⟩⟩; (try first | exact ⟨rfl, _, World.drewN_drewN _ _ _⟩ | exact ⟨rfl, _, Eq.trans (World.drewN_drewN _ _ _) (congrArg (World.drewN _) (Nat.add_assoc _ _ _))⟩)))
              repeat (go_quiet (first | (go_at_call 11; (with_reducible refine (privityref01_Supported.calls k a0 true _ A8.out).mono ?_); rintro e w17 ⟨rfl, hb⟩; have n0_ := Aside0.mk (below_step (by repeat (first | (with_reducible first | exact HB.out | apply below_alloc | apply pw_below_drewN | apply below_drew1) | exact HB.out)) hb); clear HB; have HB := n0_; clear n0_; (try clear hb); (try clear hb2); (try clear hk); (try clear hi)) | (go_at_call 12; (with_reducible refine (privityref05_Below.calls k a0 _ _ l1 true _ ?side1 ?side2 A14.out).mono ?_); (case side1 => repeat (first | exact (Kd.C_below HR1.out HB.out) | (with_reducible refine Kd.C_alloc ?_ _) | (with_reducible refine Kd.C_drewN ?_ _) | (with_reducible refine Kd.C_drew ?_))); (case side2 => exact HC1.out); rintro e w' ⟨rfl, ⟨nd, rfl⟩⟩; (try first | exact ⟨rfl, _, World.drewN_drewN _ _ _⟩ | exact ⟨rfl, _, Eq.trans (World.drewN_drewN _ _ _) (congrArg (World.drewN _) (Nat.add_assoc _ _ _))⟩)) | (go_at_call 12; (with_reducible refine (privityref05_Below.calls k a0 _ _ l2 t443 _ ?side1 ?side2 A16.out).mono ?_); (case side1 => repeat (first | exact (Kd.C_below HR2.out (by repeat (first | (with_reducible first | exact HB.out | apply below_alloc | apply pw_below_drewN | apply below_drew1) | exact HB.out))) | (with_reducible refine Kd.C_alloc ?_ _) | (with_reducible refine Kd.C_drewN ?_ _) | (with_reducible refine Kd.C_drew ?_))); (case side2 => exact HC2.out); rintro e w' ⟨rfl, ⟨nd, rfl⟩⟩; (try first | exact ⟨rfl, _, World.drewN_drewN _ _ _⟩ | exact ⟨rfl, _, Eq.trans (World.drewN_drewN _ _ _) (congrArg (World.drewN _) (Nat.add_assoc _ _ _))⟩))); try go_wp2_with (first | (go_at_call 11; (with_reducible refine (privityref01_Supported.calls k a0 true _ A8.out).mono ?_); rintro e w17 ⟨rfl, hb⟩; have n0_ := Aside0.mk (below_step (by repeat (first | (with_reducible first | exact HB.out | apply below_alloc | apply pw_below_drewN | apply below_drew1) | exact HB.out)) hb); clear HB; have HB := n0_; clear n0_; (try clear hb); (try clear hb2); (try clear hk); (try clear hi)) | (go_at_call 12; (with_reducible refine (privityref05_Below.calls k a0 _ _ l1 true _ ?side1 ?side2 A14.out).mono ?_); (case side1 => repeat (first | exact (Kd.C_below HR1.out HB.out) | (with_reducible refine Kd.C_alloc ?_ _) | (with_reducible refine Kd.C_drewN ?_ _) | (with_reducible refine Kd.C_drew ?_))); (case side2 => exact HC1.out); rintro e w' ⟨rfl, ⟨nd, rfl⟩⟩; (try first | exact ⟨rfl, _, World.drewN_drewN _ _ _⟩ | exact ⟨rfl, _, Eq.trans (World.drewN_drewN _ _ _) (congrArg (World.drewN _) (Nat.add_assoc _ _ _))⟩)) | (go_at_call 12; (with_reducible refine (privityref05_Below.calls k a0 _ _ l2 t443 _ ?side1 ?side2 A16.out).mono ?_); (case side1 => repeat (first | exact (Kd.C_below HR2.out (by repeat (first | (with_reducible first | exact HB.out | apply below_alloc | apply pw_below_drewN | apply below_drew1) | exact HB.out))) | (with_reducible refine Kd.C_alloc ?_ _) | (with_reducible refine Kd.C_drewN ?_ _) | (with_reducible refine Kd.C_drew ?_))); (case side2 => exact HC2.out); rintro e w' ⟨rfl, ⟨nd, rfl⟩⟩; (try first | exact ⟨rfl, _, World.drewN_drewN _ _ _⟩ | exact ⟨rfl, _, Eq.trans (World.drewN_drewN _ _ _) (congrArg (World.drewN _) (Nat.add_assoc _ _ _))⟩))))
              go_meet
              case rel => exact ⟨_, (!t443), (by first | rfl | (simp; done) | (simp [*]; done)), H', ⟨by first | omega | exact Nat.le_refl _⟩, ⟨by repeat (first | (with_reducible first | exact HB.out | apply below_alloc | apply pw_below_drewN | apply below_drew1) | exact HB.out)⟩⟩
            · replace c15 := Bool.eq_false_iff.mpr c15
              subst c15
              have H1 : (privitylaw05_InterpolateVandermondeEvaluates.j0 k a0 l1 l2 true) = some r := by rw [if_neg (show ¬ (false = true) by decide)] at H; exact H
              clear H
              have H := H1
              clear H1
              have H' := Aside0.mk H
              clear H
              go_wp2_with (first | (go_at_call 11; (with_reducible refine (privityref01_Supported.calls k a0 true _ A8.out).mono ?_); rintro e w18 ⟨rfl, hb⟩; have n0_ := Aside0.mk (below_step (by repeat (first | (with_reducible first | exact HB.out | apply below_alloc | apply pw_below_drewN | apply below_drew1) | exact HB.out)) hb); clear HB; have HB := n0_; clear n0_; (try clear hb); (try clear hb2); (try clear hk); (try clear hi)) | (go_at_call 12; (with_reducible refine (privityref05_Below.calls k a0 _ _ l1 false _ ?side1 ?side2 A14.out).mono ?_); (case side1 => repeat (first | exact (Kd.C_below HR1.out HB.out) | (with_reducible refine Kd.C_alloc ?_ _) | (with_reducible refine Kd.C_drewN ?_ _) | (with_reducible refine Kd.C_drew ?_))); (case side2 => exact HC1.out); rintro e w' ⟨rfl, ⟨nd, rfl⟩⟩; (try first | exact ⟨rfl, _, World.drewN_drewN _ _ _⟩ | exact ⟨rfl, _, Eq.trans (World.drewN_drewN _ _ _) (congrArg (World.drewN _) (Nat.add_assoc _ _ _))⟩)))
              repeat (go_quiet (first | (go_at_call 11; (with_reducible refine (privityref01_Supported.calls k a0 true _ A8.out).mono ?_); rintro e w18 ⟨rfl, hb⟩; have n0_ := Aside0.mk (below_step (by repeat (first | (with_reducible first | exact HB.out | apply below_alloc | apply pw_below_drewN | apply below_drew1) | exact HB.out)) hb); clear HB; have HB := n0_; clear n0_; (try clear hb); (try clear hb2); (try clear hk); (try clear hi)) | (go_at_call 12; (with_reducible refine (privityref05_Below.calls k a0 _ _ l1 false _ ?side1 ?side2 A14.out).mono ?_); (case side1 => repeat (first | exact (Kd.C_below HR1.out HB.out) | (with_reducible refine Kd.C_alloc ?_ _) | (with_reducible refine Kd.C_drewN ?_ _) | (with_reducible refine Kd.C_drew ?_))); (case side2 => exact HC1.out); rintro e w' ⟨rfl, ⟨nd, rfl⟩⟩; (try first | exact ⟨rfl, _, World.drewN_drewN _ _ _⟩ | exact ⟨rfl, _, Eq.trans (World.drewN_drewN _ _ _) (congrArg (World.drewN _) (Nat.add_assoc _ _ _))⟩))); try go_wp2_with (first | (go_at_call 11; (with_reducible refine (privityref01_Supported.calls k a0 true _ A8.out).mono ?_); rintro e w18 ⟨rfl, hb⟩; have n0_ := Aside0.mk (below_step (by repeat (first | (with_reducible first | exact HB.out | apply below_alloc | apply pw_below_drewN | apply below_drew1) | exact HB.out)) hb); clear HB; have HB := n0_; clear n0_; (try clear hb); (try clear hb2); (try clear hk); (try clear hi)) | (go_at_call 12; (with_reducible refine (privityref05_Below.calls k a0 _ _ l1 false _ ?side1 ?side2 A14.out).mono ?_); (case side1 => repeat (first | exact (Kd.C_below HR1.out HB.out) | (with_reducible refine Kd.C_alloc ?_ _) | (with_reducible refine Kd.C_drewN ?_ _) | (with_reducible refine Kd.C_drew ?_))); (case side2 => exact HC1.out); rintro e w' ⟨rfl, ⟨nd, rfl⟩⟩; (try first | exact ⟨rfl, _, World.drewN_drewN _ _ _⟩ | exact ⟨rfl, _, Eq.trans (World.drewN_drewN _ _ _) (congrArg (World.drewN _) (Nat.add_assoc _ _ _))⟩))))
              go_meet
              case rel => exact ⟨_, (true), (by first | rfl | (simp; done) | (simp [*]; done)), H', ⟨by first | omega | exact Nat.le_refl _⟩, ⟨by repeat (first | (with_reducible first | exact HB.out | apply below_alloc | apply pw_below_drewN | apply below_drew1) | exact HB.out)⟩⟩
      · replace c9 := Bool.eq_false_iff.mpr c9
        subst c9
        have H1 : (privitylaw05_InterpolateVandermondeEvaluates.j0 k a0 l1 l2 true) = some r := by rw [if_neg (show ¬ (false = true) by decide)] at H; exact H
        clear H
        have H := H1
        clear H1
        have H' := Aside0.mk H
        clear H
        go_wp2_with (first | (go_at_call 11; (with_reducible refine (privityref01_Supported.calls k a0 false _ A8.out).mono ?_); rintro e w19 ⟨rfl, hb⟩; have n0_ := Aside0.mk (below_step (by repeat (first | (with_reducible first | exact HB.out | apply below_alloc | apply pw_below_drewN | apply below_drew1) | exact HB.out)) hb); clear HB; have HB := n0_; clear n0_; (try clear hb); (try clear hb2); (try clear hk); (try clear hi)))
        repeat (go_quiet (first | (go_at_call 11; (with_reducible refine (privityref01_Supported.calls k a0 false _ A8.out).mono ?_); rintro e w19 ⟨rfl, hb⟩; have n0_ := Aside0.mk (below_step (by repeat (first | (with_reducible first | exact HB.out | apply below_alloc | apply pw_below_drewN | apply below_drew1) | exact HB.out)) hb); clear HB; have HB := n0_; clear n0_; (try clear hb); (try clear hb2); (try clear hk); (try clear hi))); try go_wp2_with (first | (go_at_call 11; (with_reducible refine (privityref01_Supported.calls k a0 false _ A8.out).mono ?_); rintro e w19 ⟨rfl, hb⟩; have n0_ := Aside0.mk (below_step (by repeat (first | (with_reducible first | exact HB.out | apply below_alloc | apply pw_below_drewN | apply below_drew1) | exact HB.out)) hb); clear HB; have HB := n0_; clear n0_; (try clear hb); (try clear hb2); (try clear hk); (try clear hi))))
        go_meet
        case rel => exact ⟨_, (true), (by first | rfl | (simp; done) | (simp [*]; done)), H', ⟨by first | omega | exact Nat.le_refl _⟩, ⟨by repeat (first | (with_reducible first | exact HB.out | apply below_alloc | apply pw_below_drewN | apply below_drew1) | exact HB.out)⟩⟩
    case rest =>
      clear HC6
      try clear c1
      try clear c2
      try clear p2
      try clear c5
      try clear c8
      try clear c9
      try clear c10
      try clear c10b0
      try clear c10b1
      try clear c12
      try clear c12b0
      try clear c12b1
      try clear c15
      obtain ⟨kq, x37_5, rfl, HA, HJ5, HB⟩ := hcut
      cases kq with
      | zero => exact absurd HA.out (by simp [privitylaw05_InterpolateVandermondeEvaluates.j0])
      | succ kj5 =>
        have H := HA.out
        clear HA
        simp only [privitylaw05_InterpolateVandermondeEvaluates.j0] at H
        by_cases c20 : x37_5 = true
        · subst c20
          have H1 : (some true) = some r := by rw [if_pos rfl] at H; exact H
          clear H
          have H := H1
          clear H1
          obtain rfl := Option.some.inj H
          go_wp2
          repeat (go_quiet (fail); try go_wp2)
          go_ret
          exact ⟨by first | rfl | (simp [errW_none, errW_some] <;> rfl) | (simp [*, errW_none, errW_some] <;> rfl), by repeat (first | (with_reducible first | exact HB.out | apply below_alloc | apply pw_below_drewN | apply below_drew1) | exact HB.out)⟩
        · replace c20 := Bool.eq_false_iff.mpr c20
          subst c20
          have H1 : ((interpolate_Vandermonde.f kj5 a0 l1 (l2.length : Int)).bind fun t444 => ((privityref05_Vandermonde.f kj5 a0 l1 (l2.length : Int)).bind fun t447 => ((privityref05_SameRows.f kj5 t444 t447).bind fun t450 => (if t450 = true then ((interpolate_Vandermonde.f kj5 a0 l1 (-1)).bind fun t451 => (privitylaw05_InterpolateVandermondeEvaluates.j1 kj5 a0 l1 l2 t444 ((t451.length : Int) != (l1.length : Int)))) else (privitylaw05_InterpolateVandermondeEvaluates.j1 kj5 a0 l1 l2 t444 true))))) = some r := by rw [if_neg (show ¬ (false = true) by decide)] at H; exact H
          clear H
          have H := H1
          clear H1
          replace H := Option.bind_eq_some_iff.mp H
          obtain ⟨t444, A210, H⟩ := H
          replace H : ((privityref05_Vandermonde.f kj5 a0 l1 (l2.length : Int)).bind fun t447 => ((privityref05_SameRows.f kj5 t444 t447).bind fun t450 => (if t450 = true then ((interpolate_Vandermonde.f kj5 a0 l1 (-1)).bind fun t451 => (privitylaw05_InterpolateVandermondeEvaluates.j1 kj5 a0 l1 l2 t444 ((t451.length : Int) != (l1.length : Int)))) else (privitylaw05_InterpolateVandermondeEvaluates.j1 kj5 a0 l1 l2 t444 true)))) = some r := H
          have A21 := Aside0.mk A210
          clear A210
          have HC22 := Aside0.mk H
          clear H
          go_upto_region 6 with (first | (go_at_call 26; (with_reducible refine (interpolate_Vandermonde.calls kj5 a0 _ _ l1 (l2.length : Int) t444 _ ?side1 ?side2 A21.out).mono ?_); (case side1 => repeat (first | exact (Kd.C_below HR1.out HB.out) | (with_reducible refine Kd.C_alloc ?_ _) | (with_reducible refine Kd.C_drewN ?_ _) | (with_reducible refine Kd.C_drew ?_))); (case side2 => exact HC1.out); rintro e w23 ⟨v445, rfl, ho0, hb⟩; have n0_ := Aside0.mk (Kd.S_lower ho0 (below_size (by repeat (first | (with_reducible first | exact HB.out | apply below_alloc | apply pw_below_drewN | apply below_drew1) | exact HB.out)))); have n1_ := Aside0.mk (below_step (by repeat (first | (with_reducible first | exact HB.out | apply below_alloc | apply pw_below_drewN | apply below_drew1) | exact HB.out)) hb); clear HB; have HO446 := n0_; have HB := n1_; clear n0_ n1_; (try clear hb); (try clear hb2); (try clear hk); (try clear hi); (try clear ho0)))
          repeat (go_quiet (first | (go_at_call 26; (with_reducible refine (interpolate_Vandermonde.calls kj5 a0 _ _ l1 (l2.length : Int) t444 _ ?side1 ?side2 A21.out).mono ?_); (case side1 => repeat (first | exact (Kd.C_below HR1.out HB.out) | (with_reducible refine Kd.C_alloc ?_ _) | (with_reducible refine Kd.C_drewN ?_ _) | (with_reducible refine Kd.C_drew ?_))); (case side2 => exact HC1.out); rintro e w23 ⟨v445, rfl, ho0, hb⟩; have n0_ := Aside0.mk (Kd.S_lower ho0 (below_size (by repeat (first | (with_reducible first | exact HB.out | apply below_alloc | apply pw_below_drewN | apply below_drew1) | exact HB.out)))); have n1_ := Aside0.mk (below_step (by repeat (first | (with_reducible first | exact HB.out | apply below_alloc | apply pw_below_drewN | apply below_drew1) | exact HB.out)) hb); clear HB; have HO446 := n0_; have HB := n1_; clear n0_ n1_; (try clear hb); (try clear hb2); (try clear hk); (try clear hi); (try clear ho0))); go_upto_region 6 with (first | (go_at_call 26; (with_reducible refine (interpolate_Vandermonde.calls kj5 a0 _ _ l1 (l2.length : Int) t444 _ ?side1 ?side2 A21.out).mono ?_); (case side1 => repeat (first | exact (Kd.C_below HR1.out HB.out) | (with_reducible refine Kd.C_alloc ?_ _) | (with_reducible refine Kd.C_drewN ?_ _) | (with_reducible refine Kd.C_drew ?_))); (case side2 => exact HC1.out); rintro e w23 ⟨v445, rfl, ho0, hb⟩; have n0_ := Aside0.mk (Kd.S_lower ho0 (below_size (by repeat (first | (with_reducible first | exact HB.out | apply below_alloc | apply pw_below_drewN | apply below_drew1) | exact HB.out)))); have n1_ := Aside0.mk (below_step (by repeat (first | (with_reducible first | exact HB.out | apply below_alloc | apply pw_below_drewN | apply below_drew1) | exact HB.out)) hb); clear HB; have HO446 := n0_; have HB := n1_; clear n0_ n1_; (try clear hb); (try clear hb2); (try clear hk); (try clear hi); (try clear ho0))))
          (try simp only [Act.put, List.setIfInBounds_toArray, List.set_cons_zero, List.set_cons_succ])
          go_cut [59] (fun v59 wc => ∃ (kq : Nat) (x59_21 : Bool), v59 = .bool x59_21 ∧ Aside0 (privitylaw05_InterpolateVandermondeEvaluates.j1 kq a0 l1 l2 t444 x59_21 = some r) ∧ Aside0 (kq ≤ kj5) ∧ Aside0 (Kd.S (Kd.slice 22 (Kd.int .u64)) 23 wc w.heap.size (fun _ => True) v445 t444) ∧ Aside0 (Below w.heap.size w wc))
          case first =>
            have H := HC22.out
            clear HC22
            replace H := Option.bind_eq_some_iff.mp H
            obtain ⟨t447, A240, H⟩ := H
            replace H : ((privityref05_SameRows.f kj5 t444 t447).bind fun t450 => (if t450 = true then ((interpolate_Vandermonde.f kj5 a0 l1 (-1)).bind fun t451 => (privitylaw05_InterpolateVandermondeEvaluates.j1 kj5 a0 l1 l2 t444 ((t451.length : Int) != (l1.length : Int)))) else (privitylaw05_InterpolateVandermondeEvaluates.j1 kj5 a0 l1 l2 t444 true))) = some r := H
            have A24 := Aside0.mk A240
            clear A240
            replace H := Option.bind_eq_some_iff.mp H
            obtain ⟨t450, A250, H⟩ := H
            replace H : (if t450 = true then ((interpolate_Vandermonde.f kj5 a0 l1 (-1)).bind fun t451 => (privitylaw05_InterpolateVandermondeEvaluates.j1 kj5 a0 l1 l2 t444 ((t451.length : Int) != (l1.length : Int)))) else (privitylaw05_InterpolateVandermondeEvaluates.j1 kj5 a0 l1 l2 t444 true)) = some r := H
            have A25 := Aside0.mk A250
            clear A250
            by_cases c26 : t450 = true
            · subst c26
              have H1 : ((interpolate_Vandermonde.f kj5 a0 l1 (-1)).bind fun t451 => (privitylaw05_InterpolateVandermondeEvaluates.j1 kj5 a0 l1 l2 t444 ((t451.length : Int) != (l1.length : Int)))) = some r := by rw [if_pos rfl] at H; exact H
              clear H
              have H := H1
              clear H1
              replace H := Option.bind_eq_some_iff.mp H
              obtain ⟨t451, A270, H⟩ := H
              replace H : (privitylaw05_InterpolateVandermondeEvaluates.j1 kj5 a0 l1 l2 t444 ((t451.length : Int) != (l1.length : Int))) = some r := H
              have A27 := Aside0.mk A270
              clear A270
              have H' := Aside0.mk H
              clear H
              go_wp2_with (first | (go_at_call 28; (with_reducible refine (privityref05_Vandermonde.calls kj5 a0 _ _ l1 (l2.length : Int) t447 _ ?side1 ?side2 A24.out).mono ?_); (case side1 => repeat (first | exact (Kd.C_below HR1.out HB.out) | (with_reducible refine Kd.C_alloc ?_ _) | (with_reducible refine Kd.C_drewN ?_ _) | (with_reducible refine Kd.C_drew ?_))); (case side2 => exact HC1.out); rintro e w28 ⟨v448, rfl, ho0, hb⟩; have n0_ := Aside0.mk (Kd.S_elder' (by (with_reducible repeat (first | apply Kd.S_alloc | apply Kd.S_drewN | apply Kd.S_drew)); exact HO446.out) (Kd.S_base ho0) hb); have n1_ := Aside0.mk (Kd.S_lower (Kd.S_new' ho0 (Kd.S_lt (by (with_reducible repeat (first | apply Kd.S_alloc | apply Kd.S_drewN | apply Kd.S_drew)); exact HO446.out))) (below_size (by repeat (first | (with_reducible first | exact HB.out | apply below_alloc | apply pw_below_drewN | apply below_drew1) | exact HB.out)))); have n2_ := Aside0.mk (below_step (by repeat (first | (with_reducible first | exact HB.out | apply below_alloc | apply pw_below_drewN | apply below_drew1) | exact HB.out)) hb); clear HO446; clear HB; have HO446 := n0_; have HO449 := n1_; have HB := n2_; clear n0_ n1_ n2_; (try clear hb); (try clear hb2); (try clear hk); (try clear hi); (try clear ho0); obtain ⟨Ao29, co29, eo29⟩ := Kd.S_slice HO446.out; subst eo29; obtain ⟨Ao30, co30, eo30⟩ := Kd.S_slice HO449.out; subst eo30) | (go_at_call 27; (with_reducible refine (privityref05_SameRows.calls kj5 _ _ t444 _ _ t447 true _ ?side1 ?side2 ?side3 ?side4 A25.out).mono ?_); (case side1 => repeat (first | exact (Kd.S_reads' HO446.out).2.2 | (with_reducible refine Kd.C_alloc ?_ _) | (with_reducible refine Kd.C_drewN ?_ _) | (with_reducible refine Kd.C_drew ?_))); (case side2 => exact (Kd.S_reads' HO446.out).2.1); (case side3 => repeat (first | exact (Kd.S_reads' HO449.out).2.2 | (with_reducible refine Kd.C_alloc ?_ _) | (with_reducible refine Kd.C_drewN ?_ _) | (with_reducible refine Kd.C_drew ?_))); (case side4 => exact (Kd.S_reads' HO449.out).2.1); rintro e w' ⟨rfl, ⟨nd, rfl⟩⟩; (try first | exact ⟨rfl, _, World.drewN_drewN _ _ _⟩ | exact ⟨rfl, _, Eq.trans (World.drewN_drewN _ _ _) (congrArg (World.drewN _) (Nat.add_assoc _ _ _))⟩)) | (go_at_call 26; (with_reducible refine (interpolate_Vandermonde.calls kj5 a0 _ _ l1 (-1) t451 _ ?side1 ?side2 A27.out).mono ?_); (case side1 => repeat (first | exact (Kd.C_below HR1.out (by repeat (first | (with_reducible first | exact HB.out | apply below_alloc | apply pw_below_drewN | apply below_drew1) | exact HB.out))) | (with_reducible refine Kd.C_alloc ?_ _) | (with_reducible refine Kd.C_drewN ?_ _) | (with_reducible refine Kd.C_drew ?_))); (case side2 => exact HC1.out); rintro e w31 ⟨v452, rfl, ho0, hb⟩; have n0_ := Aside0.mk (Kd.S_elder' (by (with_reducible repeat (first | apply Kd.S_alloc | apply Kd.S_drewN | apply Kd.S_drew)); exact HO446.out) (Kd.S_base ho0) hb); have n1_ := Aside0.mk (Kd.S_elder' (by (with_reducible repeat (first | apply Kd.S_alloc | apply Kd.S_drewN | apply Kd.S_drew)); exact HO449.out) (Kd.S_base ho0) hb); have n2_ := Aside0.mk (Kd.S_lower (Kd.S_new' (Kd.S_new' ho0 (Kd.S_lt (by (with_reducible repeat (first | apply Kd.S_alloc | apply Kd.S_drewN | apply Kd.S_drew)); exact HO446.out))) (Kd.S_lt (by (with_reducible repeat (first | apply Kd.S_alloc | apply Kd.S_drewN | apply Kd.S_drew)); exact HO449.out))) (below_size (by repeat (first | (with_reducible first | exact HB.out | apply below_alloc | apply pw_below_drewN | apply below_drew1) | exact HB.out)))); have n3_ := Aside0.mk (below_step (by repeat (first | (with_reducible first | exact HB.out | apply below_alloc | apply pw_below_drewN | apply below_drew1) | exact HB.out)) hb); clear HO446; clear HO449; clear HB; have HO446 := n0_; have HO449 := n1_; have HO453 := n2_; have HB := n3_; clear n0_ n1_ n2_ n3_; (try clear hb); (try clear hb2); (try clear hk); (try clear hi); (try clear ho0); obtain ⟨Ao32, co32, eo32⟩ := Kd.S_slice HO453.out; subst eo32))
              repeat (go_quiet (first | (go_at_call 28; (with_reducible refine (privityref05_Vandermonde.calls kj5 a0 _ _ l1 (l2.length : Int) t447 _ ?side1 ?side2 A24.out).mono ?_); (case side1 => repeat (first | exact (Kd.C_below HR1.out HB.out) | (with_reducible refine Kd.C_alloc ?_ _) | (with_reducible refine Kd.C_drewN ?_ _) | (with_reducible refine Kd.C_drew ?_))); (case side2 => exact HC1.out); rintro e w28 ⟨v448, rfl, ho0, hb⟩; have n0_ := Aside0.mk (Kd.S_elder' (by (with_reducible repeat (first | apply Kd.S_alloc | apply Kd.S_drewN | apply Kd.S_drew)); exact HO446.out) (Kd.S_base ho0) hb); have n1_ := Aside0.mk (Kd.S_lower (Kd.S_new' ho0 (Kd.S_lt (by (with_reducible repeat (first | apply Kd.S_alloc | apply Kd.S_drewN | apply Kd.S_drew)); exact HO446.out))) (below_size (by repeat (first | (with_reducible first | exact HB.out | apply below_alloc | apply pw_below_drewN | apply below_drew1) | exact HB.out)))); have n2_ := Aside0.mk (below_step (by repeat (first | (with_reducible first | exact HB.out | apply below_alloc | apply pw_below_drewN | apply below_drew1) | exact HB.out)) hb); clear HO446; clear HB; have HO446 := n0_; have HO449 := n1_; have HB := n2_; clear n0_ n1_ n2_; (try clear hb); (try clear hb2); (try clear hk); (try clear hi); (try clear ho0); obtain ⟨Ao29, co29, eo29⟩ := Kd.S_slice HO446.out; subst eo29; obtain ⟨Ao30, co30, eo30⟩ := Kd.S_slice HO449.out; subst eo30) | (go_at_call 27; (with_reducible refine (privityref05_SameRows.calls kj5 _ _ t444 _ _ t447 true _ ?side1 ?side2 ?side3 ?side4 A25.out).mono ?_); (case side1 => repeat (first | exact (Kd.S_reads' HO446.out).2.2 | (with_reducible refine Kd.C_alloc ?_ _) | (with_reducible refine Kd.C_drewN ?_ _) | (with_reducible refine Kd.C_drew ?_))); (case side2 => exact (Kd.S_reads' HO446.out).2.1); (case side3 => repeat (first | exact (Kd.S_reads' HO449.out).2.2 | (with_reducible refine Kd.C_alloc ?_ _) | (with_reducible refine Kd.C_drewN ?_ _) | (with_reducible refine Kd.C_drew ?_))); (case side4 => exact (Kd.S_reads' HO449.out).2.1); rintro e w' ⟨rfl, ⟨nd, rfl⟩⟩; (try first | exact ⟨rfl, _, World.drewN_drewN _ _ _⟩ | exact ⟨rfl, _, Eq.trans (World.drewN_drewN _ _ _) (congrArg (World.drewN _) (Nat.add_assoc _ _ _))⟩)) | (go_at_call 26; (with_reducible refine (interpolate_Vandermonde.calls kj5 a0 _ _ l1 (-1) t451 _ ?side1 ?side2 A27.out).mono ?_); (case side1 => repeat (first | exact (Kd.C_below HR1.out (by repeat (first | (with_reducible first | exact HB.out | apply below_alloc | apply pw_below_drewN | apply below_drew1) | exact HB.out))) | (with_reducible refine Kd.C_alloc ?_ _) | (with_reducible refine Kd.C_drewN ?_ _) | (with_reducible refine Kd.C_drew ?_))); (case side2 => exact HC1.out); rintro e w31 ⟨v452, rfl, ho0, hb⟩; have n0_ := Aside0.mk (Kd.S_elder' (by (with_reducible repeat (first | apply Kd.S_alloc | apply Kd.S_drewN | apply Kd.S_drew)); exact HO446.out) (Kd.S_base ho0) hb); have n1_ := Aside0.mk (Kd.S_elder' (by (with_reducible repeat (first | apply Kd.S_alloc | apply Kd.S_drewN | apply Kd.S_drew)); exact HO449.out) (Kd.S_base ho0) hb); have n2_ := Aside0.mk (Kd.S_lower (Kd.S_new' (Kd.S_new' ho0 (Kd.S_lt (by (with_reducible repeat (first | apply Kd.S_alloc | apply Kd.S_drewN | apply Kd.S_drew)); exact HO446.out))) (Kd.S_lt (by (with_reducible repeat (first | apply Kd.S_alloc | apply Kd.S_drewN | apply Kd.S_drew)); exact HO449.out))) (below_size (by repeat (first | (with_reducible first | exact HB.out | apply below_alloc | apply pw_below_drewN | apply below_drew1) | exact HB.out)))); have n3_ := Aside0.mk (below_step (by repeat (first | (with_reducible first | exact HB.out | apply below_alloc | apply pw_below_drewN | apply below_drew1) | exact HB.out)) hb); clear HO446; clear HO449; clear HB; have HO446 := n0_; have HO449 := n1_; have HO453 := n2_; have HB := n3_; clear n0_ n1_ n2_ n3_; (try clear hb); (try clear hb2); (try clear hk); (try clear hi); (try clear ho0); obtain ⟨Ao32, co32, eo32⟩ := Kd.S_slice HO453.out; subst eo32)); try go_wp2_with (first | (go_at_call 28; (with_reducible refine (privityref05_Vandermonde.calls kj5 a0 _ _ l1 (l2.length : Int) t447 _ ?side1 ?side2 A24.out).mono ?_); (case side1 => repeat (first | exact (Kd.C_below HR1.out HB.out) | (with_reducible refine Kd.C_alloc ?_ _) | (with_reducible refine Kd.C_drewN ?_ _) | (with_reducible refine Kd.C_drew ?_))); (case side2 => exact HC1.out); rintro e w28 ⟨v448, rfl, ho0, hb⟩; have n0_ := Aside0.mk (Kd.S_elder' (by (with_reducible repeat (first | apply Kd.S_alloc | apply Kd.S_drewN | apply Kd.S_drew)); exact HO446.out) (Kd.S_base ho0) hb); have n1_ := Aside0.mk (Kd.S_lower (Kd.S_new' ho0 (Kd.S_lt (by (with_reducible repeat (first | apply Kd.S_alloc | apply Kd.S_drewN | apply Kd.S_drew)); exact HO446.out))) (below_size (by repeat (first | (with_reducible first | exact HB.out | apply below_alloc | apply pw_below_drewN | apply below_drew1) | exact HB.out)))); have n2_ := Aside0.mk (below_step (by repeat (first | (with_reducible first | exact HB.out | apply below_alloc | apply pw_below_drewN | apply below_drew1) | exact HB.out)) hb); clear HO446; clear HB; have HO446 := n0_; have HO449 := n1_; have HB := n2_; clear n0_ n1_ n2_; (try clear hb); (try clear hb2); (try clear hk); (try clear hi); (try clear ho0); obtain ⟨Ao29, co29, eo29⟩ := Kd.S_slice HO446.out; subst eo29; obtain ⟨Ao30, co30, eo30⟩ := Kd.S_slice HO449.out; subst eo30) | (go_at_call 27; (with_reducible refine (privityref05_SameRows.calls kj5 _ _ t444 _ _ t447 true _ ?side1 ?side2 ?side3 ?side4 A25.out).mono ?_); (case side1 => repeat (first | exact (Kd.S_reads' HO446.out).2.2 | (with_reducible refine Kd.C_alloc ?_ _) | (with_reducible refine Kd.C_drewN ?_ _) | (with_reducible refine Kd.C_drew ?_))); (case side2 => exact (Kd.S_reads' HO446.out).2.1); (case side3 => repeat (first | exact (Kd.S_reads' HO449.out).2.2 | (with_reducible refine Kd.C_alloc ?_ _) | (with_reducible refine Kd.C_drewN ?_ _) | (with_reducible refine Kd.C_drew ?_))); (case side4 => exact (Kd.S_reads' HO449.out).2.1); rintro e w' ⟨rfl, ⟨nd, rfl⟩⟩; (try first | exact ⟨rfl, _, World.drewN_drewN _ _ _⟩ | exact ⟨rfl, _, Eq.trans (World.drewN_drewN _ _ _) (congrArg (World.drewN _) (Nat.add_assoc _ _ _))⟩)) | (go_at_call 26; (with_reducible refine (interpolate_Vandermonde.calls kj5 a0 _ _ l1 (-1) t451 _ ?side1 ?side2 A27.out).mono ?_); (case side1 => repeat (first | exact (Kd.C_below HR1.out (by repeat (first | (with_reducible first | exact HB.out | apply below_alloc | apply pw_below_drewN | apply below_drew1) | exact HB.out))) | (with_reducible refine Kd.C_alloc ?_ _) | (with_reducible refine Kd.C_drewN ?_ _) | (with_reducible refine Kd.C_drew ?_))); (case side2 => exact HC1.out); rintro e w31 ⟨v452, rfl, ho0, hb⟩; have n0_ := Aside0.mk (Kd.S_elder' (by (with_reducible repeat (first | apply Kd.S_alloc | apply Kd.S_drewN | apply Kd.S_drew)); exact HO446.out) (Kd.S_base ho0) hb); have n1_ := Aside0.mk (Kd.S_elder' (by (with_reducible repeat (first | apply Kd.S_alloc | apply Kd.S_drewN | apply Kd.S_drew)); exact HO449.out) (Kd.S_base ho0) hb); have n2_ := Aside0.mk (Kd.S_lower (Kd.S_new' (Kd.S_new' ho0 (Kd.S_lt (by (with_reducible repeat (first | apply Kd.S_alloc | apply Kd.S_drewN | apply Kd.S_drew)); exact HO446.out))) (Kd.S_lt (by (with_reducible repeat (first | apply Kd.S_alloc | apply Kd.S_drewN | apply Kd.S_drew)); exact HO449.out))) (below_size (by repeat (first | (with_reducible first | exact HB.out | apply below_alloc | apply pw_below_drewN | apply below_drew1) | exact HB.out)))); have n3_ := Aside0.mk (below_step (by repeat (first | (with_reducible first | exact HB.out | apply below_alloc | apply pw_below_drewN | apply below_drew1) | exact HB.out)) hb); clear HO446; clear HO449; clear HB; have HO446 := n0_; have HO449 := n1_; have HO453 := n2_; have HB := n3_; clear n0_ n1_ n2_ n3_; (try clear hb); (try clear hb2); (try clear hk); (try clear hi); (try clear ho0); obtain ⟨Ao32, co32, eo32⟩ := Kd.S_slice HO453.out; subst eo32)))
              go_meet
              case rel => exact ⟨_, (((t451.length : Int) != (l1.length : Int))), (by first | rfl | (simp; done) | (simp [*]; done)), H', ⟨by have := HJ5.out; first | omega | exact Nat.le_refl _⟩, ⟨by (with_reducible repeat (first | apply Kd.S_alloc | apply Kd.S_drewN | apply Kd.S_drew)); exact Kd.S_mono HO446.out (fun _ hk => trivial)⟩, ⟨by repeat (first | (with_reducible first | exact HB.out | apply below_alloc | apply pw_below_drewN | apply below_drew1) | exact HB.out)⟩⟩
            · replace c26 := Bool.eq_false_iff.mpr c26
              subst c26
              have H1 : (privitylaw05_InterpolateVandermondeEvaluates.j1 kj5 a0 l1 l2 t444 true) = some r := by rw [if_neg (show ¬ (false = true) by decide)] at H; exact H
              clear H
              have H := H1
              clear H1
              have H' := Aside0.mk H
              clear H
              go_wp2_with (first | (go_at_call 28; (with_reducible refine (privityref05_Vandermonde.calls kj5 a0 _ _ l1 (l2.length : Int) t447 _ ?side1 ?side2 A24.out).mono ?_); (case side1 => repeat (first | exact (Kd.C_below HR1.out HB.out) | (with_reducible refine Kd.C_alloc ?_ _) | (with_reducible refine Kd.C_drewN ?_ _) | (with_reducible refine Kd.C_drew ?_))); (case side2 => exact HC1.out); rintro e w33 ⟨v448, rfl, ho0, hb⟩; have n0_ := Aside0.mk (Kd.S_elder' (by (with_reducible repeat (first | apply Kd.S_alloc | apply Kd.S_drewN | apply Kd.S_drew)); exact HO446.out) (Kd.S_base ho0) hb); have n1_ := Aside0.mk (Kd.S_lower (Kd.S_new' ho0 (Kd.S_lt (by (with_reducible repeat (first | apply Kd.S_alloc | apply Kd.S_drewN | apply Kd.S_drew)); exact HO446.out))) (below_size (by repeat (first | (with_reducible first | exact HB.out | apply below_alloc | apply pw_below_drewN | apply below_drew1) | exact HB.out)))); have n2_ := Aside0.mk (below_step (by repeat (first | (with_reducible first | exact HB.out | apply below_alloc | apply pw_below_drewN | apply below_drew1) | exact HB.out)) hb); clear HO446; clear HB; have HO446 := n0_; have HO449 := n1_; have HB := n2_; clear n0_ n1_ n2_; (try clear hb); (try clear hb2); (try clear hk); (try clear hi); (try clear ho0); obtain ⟨Ao34, co34, eo34⟩ := Kd.S_slice HO446.out; subst eo34; obtain ⟨Ao35, co35, eo35⟩ := Kd.S_slice HO449.out; subst eo35) | (go_at_call 27; (with_reducible refine (privityref05_SameRows.calls kj5 _ _ t444 _ _ t447 false _ ?side1 ?side2 ?side3 ?side4 A25.out).mono ?_); (case side1 => repeat (first | exact (Kd.S_reads' HO446.out).2.2 | (with_reducible refine Kd.C_alloc ?_ _) | (with_reducible refine Kd.C_drewN ?_ _) | (with_reducible refine Kd.C_drew ?_))); (case side2 => exact (Kd.S_reads' HO446.out).2.1); (case side3 => repeat (first | exact (Kd.S_reads' HO449.out).2.2 | (with_reducible refine Kd.C_alloc ?_ _) | (with_reducible refine Kd.C_drewN ?_ _) | (with_reducible refine Kd.C_drew ?_))); (case side4 => exact (Kd.S_reads' HO449.out).2.1); rintro e w' ⟨rfl, ⟨nd, rfl⟩⟩; (try first | exact ⟨rfl, _, World.drewN_drewN _ _ _⟩ | exact ⟨rfl, _, Eq.trans (World.drewN_drewN _ _ _) (congrArg (World.drewN _) (Nat.add_assoc _ _ _))⟩)))
              repeat (go_quiet (first | (go_at_call 28; (with_reducible refine (privityref05_Vandermonde.calls kj5 a0 _ _ l1 (l2.length : Int) t447 _ ?side1 ?side2 A24.out).mono ?_); (case side1 => repeat (first | exact (Kd.C_below HR1.out HB.out) | (with_reducible refine Kd.C_alloc ?_ _) | (with_reducible refine Kd.C_drewN ?_ _) | (with_reducible refine Kd.C_drew ?_))); (case side2 => exact HC1.out); rintro e w33 ⟨v448, rfl, ho0, hb⟩; have n0_ := Aside0.mk (Kd.S_elder' (by (with_reducible repeat (first | apply Kd.S_alloc | apply Kd.S_drewN | apply Kd.S_drew)); exact HO446.out) (Kd.S_base ho0) hb); have n1_ := Aside0.mk (Kd.S_lower (Kd.S_new' ho0 (Kd.S_lt (by (with_reducible repeat (first | apply Kd.S_alloc | apply Kd.S_drewN | apply Kd.S_drew)); exact HO446.out))) (below_size (by repeat (first | (with_reducible first | exact HB.out | apply below_alloc | apply pw_below_drewN | apply below_drew1) | exact HB.out)))); have n2_ := Aside0.mk (below_step (by repeat (first | (with_reducible first | exact HB.out | apply below_alloc | apply pw_below_drewN | apply below_drew1) | exact HB.out)) hb); clear HO446; clear HB; have HO446 := n0_; have HO449 := n1_; have HB := n2_; clear n0_ n1_ n2_; (try clear hb); (try clear hb2); (try clear hk); (try clear hi); (try clear ho0); obtain ⟨Ao34, co34, eo34⟩ := Kd.S_slice HO446.out; subst eo34; obtain ⟨Ao35, co35, eo35⟩ := Kd.S_slice HO449.out; subst eo35) | (go_at_call 27; (with_reducible refine (privityref05_SameRows.calls kj5 _ _ t444 _ _ t447 false _ ?side1 ?side2 ?side3 ?side4 A25.out).mono ?_); (case side1 => repeat (first | exact (Kd.S_reads' HO446.out).2.2 | (with_reducible refine Kd.C_alloc ?_ _) | (with_reducible refine Kd.C_drewN ?_ _) | (with_reducible refine Kd.C_drew ?_))); (case side2 => exact (Kd.S_reads' HO446.out).2.1); (case side3 => repeat (first | exact (Kd.S_reads' HO449.out).2.2 | (with_reducible refine Kd.C_alloc ?_ _) | (with_reducible refine Kd.C_drewN ?_ _) | (with_reducible refine Kd.C_drew ?_))); (case side4 => exact (Kd.S_reads' HO449.out).2.1); rintro e w' ⟨rfl, ⟨nd, rfl⟩⟩; (try first | exact ⟨rfl, _, World.drewN_drewN _ _ _⟩ | exact ⟨rfl, _, Eq.trans (World.drewN_drewN _ _ _) (congrArg (World.drewN _) (Nat.add_assoc _ _ _))⟩))); try go_wp2_with (first | (go_at_call 28; (with_reducible refine (privityref05_Vandermonde.calls kj5 a0 _ _ l1 (l2.length : Int) t447 _ ?side1 ?side2 A24.out).mono ?_); (case side1 => repeat (first | exact (Kd.C_below HR1.out HB.out) | (with_reducible refine Kd.C_alloc ?_ _) | (with_reducible refine Kd.C_drewN ?_ _) | (with_reducible refine Kd.C_drew ?_))); (case side2 => exact HC1.out); rintro e w33 ⟨v448, rfl, ho0, hb⟩; have n0_ := Aside0.mk (Kd.S_elder' (by (with_reducible repeat (first | apply Kd.S_alloc | apply Kd.S_drewN | apply Kd.S_drew)); exact HO446.out) (Kd.S_base ho0) hb); have n1_ := Aside0.mk (Kd.S_lower (Kd.S_new' ho0 (Kd.S_lt (by (with_reducible repeat (first | apply Kd.S_alloc | apply Kd.S_drewN | apply Kd.S_drew)); exact HO446.out))) (below_size (by repeat (first | (with_reducible first | exact HB.out | apply below_alloc | apply pw_below_drewN | apply below_drew1) | exact HB.out)))); have n2_ := Aside0.mk (below_step (by repeat (first | (with_reducible first | exact HB.out | apply below_alloc | apply pw_below_drewN | apply below_drew1) | exact HB.out)) hb); clear HO446; clear HB; have HO446 := n0_; have HO449 := n1_; have HB := n2_; clear n0_ n1_ n2_; (try clear hb); (try clear hb2); (try clear hk); (try clear hi); (try clear ho0); obtain ⟨Ao34, co34, eo34⟩ := Kd.S_slice HO446.out; subst eo34; obtain ⟨Ao35, co35, eo35⟩ := Kd.S_slice HO449.out; subst eo35) | (go_at_call 27; (with_reducible refine (privityref05_SameRows.calls kj5 _ _ t444 _ _ t447 false _ ?side1 ?side2 ?side3 ?side4 A25.out).mono ?_); (case side1 => repeat (first | exact (Kd.S_reads' HO446.out).2.2 | (with_reducible refine Kd.C_alloc ?_ _) | (with_reducible refine Kd.C_drewN ?_ _) | (with_reducible refine Kd.C_drew ?_))); (case side2 => exact (Kd.S_reads' HO446.out).2.1); (case side3 => repeat (first | exact (Kd.S_reads' HO449.out).2.2 | (with_reducible refine Kd.C_alloc ?_ _) | (with_reducible refine Kd.C_drewN ?_ _) | (with_reducible refine Kd.C_drew ?_))); (case side4 => exact (Kd.S_reads' HO449.out).2.1); rintro e w' ⟨rfl, ⟨nd, rfl⟩⟩; (try first | exact ⟨rfl, _, World.drewN_drewN _ _ _⟩ | exact ⟨rfl, _, Eq.trans (World.drewN_drewN _ _ _) (congrArg (World.drewN _) (Nat.add_assoc _ _ _))⟩))))
              go_meet
              case rel => exact ⟨_, (true), (by first | rfl | (simp; done) | (simp [*]; done)), H', ⟨by have := HJ5.out; first | omega | exact Nat.le_refl _⟩, ⟨by (with_reducible repeat (first | apply Kd.S_alloc | apply Kd.S_drewN | apply Kd.S_drew)); exact Kd.S_mono HO446.out (fun _ hk => trivial)⟩, ⟨by repeat (first | (with_reducible first | exact HB.out | apply below_alloc | apply pw_below_drewN | apply below_drew1) | exact HB.out)⟩⟩
          case rest =>
            clear HC22
            try clear c1
            try clear c2
            try clear p2
            try clear c5
            try clear c8
            try clear c9
            try clear c10
            try clear c10b0
            try clear c10b1
            try clear c12
            try clear c12b0
            try clear c12b1
            try clear c15
            try clear c20
            try clear c26
            try clear p2
            obtain ⟨kq, x59_21, rfl, HA, HJ21, HO_7, HB⟩ := hcut
            cases kq with
            | zero => exact absurd HA.out (by simp [privitylaw05_InterpolateVandermondeEvaluates.j1])
            | succ kj21 =>
              have H := HA.out
              clear HA
              simp only [privitylaw05_InterpolateVandermondeEvaluates.j1] at H
              by_cases c36 : x59_21 = true
              · subst c36
                have H1 : (some false) = some r := by rw [if_pos rfl] at H; exact H
                clear H
                have H := H1
                clear H1
                obtain rfl := Option.some.inj H
                go_wp2
                repeat (go_quiet (fail); try go_wp2)
                go_ret
                exact ⟨by first | rfl | (simp [errW_none, errW_some] <;> rfl) | (simp [*, errW_none, errW_some] <;> rfl), by repeat (first | (with_reducible first | exact HB.out | apply below_alloc | apply pw_below_drewN | apply below_drew1) | exact HB.out)⟩
              · replace c36 := Bool.eq_false_iff.mpr c36
                subst c36
                have H1 : (privitylaw05_InterpolateVandermondeEvaluates.l0 kj21 a0 l1 l2 t444 0) = some r := by rw [if_neg (show ¬ (false = true) by decide)] at H; exact H
                clear H
                have H := H1
                clear H1
                have H' := Aside0.mk H
                clear H
                go_wp2
                repeat (go_quiet (fail); try go_wp2)
                go_loopg [8] kj21 (fun kq v8 w' => ∃ (x8_3 : Int), v8 = .int .i64 x8_3 ∧ Aside0 (privitylaw05_InterpolateVandermondeEvaluates.l0 kq a0 l1 l2 t444 x8_3 = some r) ∧ Aside0 (kq ≤ kj21) ∧ Aside0 (Kd.S (Kd.slice 22 (Kd.int .u64)) 23 w' w.heap.size (fun _ => True) v445 t444) ∧ Aside0 (Below w.heap.size w w'))
                case atStart => exact ⟨(0), (by first | rfl | (simp; done) | (simp [*]; done)), H', ⟨Nat.le_refl _⟩, ⟨by (with_reducible repeat (first | apply Kd.S_alloc | apply Kd.S_drewN | apply Kd.S_drew)); exact HO_7.out⟩, ⟨by repeat (first | (with_reducible first | exact HB.out | apply below_alloc | apply pw_below_drewN | apply below_drew1) | exact HB.out)⟩⟩
                case round =>
                  clear H'
                  try clear c1
                  try clear c2
                  try clear p2
                  try clear c3
                  try clear c5
                  try clear c8
                  try clear c9
                  try clear c10
                  try clear c10b0
                  try clear c10b1
                  try clear c12
                  try clear c12b0
                  try clear c12b1
                  try clear c15
                  try clear c20
                  try clear c26
                  try clear c36
                  try clear p2
                  obtain ⟨x8_3, rfl, HA, HK3, HO_7, HB⟩ := hrel
                  cases gk with
                  | zero => exact absurd HA.out (by simp [privitylaw05_InterpolateVandermondeEvaluates.l0])
                  | succ k3 =>
                    have H := HA.out
                    clear HA
                    simp only [privitylaw05_InterpolateVandermondeEvaluates.l0] at H
                    by_cases c37 : x8_3 < (l1.length : Int)
                    · rw [if_pos c37] at H
                      have c37b0 : decide (x8_3 < (l1.length : Int)) = true := decide_eq_true c37
                      clear c37
                      have H' := Aside0.mk H
                      clear H
                      go_wp2
                      repeat (go_quiet (fail); try go_wp2)
                      go_loopg [9, 10] k3 (fun kq v9 v10 w' => ∃ (x9_4 : Int) (x10_4 : Int), v9 = .int .u64 x9_4 ∧ v10 = .int .i64 x10_4 ∧ Aside0 (privitylaw05_InterpolateVandermondeEvaluates.l1 kq a0 l1 l2 t444 x8_3 x9_4 x10_4 = some r) ∧ Aside0 (kq ≤ k3) ∧ Aside0 (Kd.S (Kd.slice 22 (Kd.int .u64)) 23 w' w.heap.size (fun _ => True) v445 t444) ∧ Aside0 (Below w.heap.size w w'))
                      case atStart => exact ⟨(0), (0), (by first | rfl | (simp; done) | (simp [*]; done)), (by first | rfl | (simp; done) | (simp [*]; done)), H', ⟨Nat.le_refl _⟩, ⟨by (with_reducible repeat (first | apply Kd.S_alloc | apply Kd.S_drewN | apply Kd.S_drew)); exact HO_7.out⟩, ⟨by repeat (first | (with_reducible first | exact HB.out | apply below_alloc | apply pw_below_drewN | apply below_drew1) | exact HB.out)⟩⟩
                      case round =>
                        clear H'
                        try clear c1
                        try clear c2
                        try clear p2
                        try clear c3
                        try clear c5
                        try clear c8
                        try clear c9
                        try clear c10
                        try clear c10b0
                        try clear c10b1
                        try clear c12
                        try clear c12b0
                        try clear c12b1
                        try clear c15
                        try clear c20
                        try clear c26
                        try clear c36
                        try clear c37
                        try clear c37b0
                        try clear p2
                        obtain ⟨x9_4, x10_4, rfl, rfl, HA, HK4, HO_7, HB⟩ := hrel
                        cases gk with
                        | zero => exact absurd HA.out (by simp [privitylaw05_InterpolateVandermondeEvaluates.l1])
                        | succ k4 =>
                          have H := HA.out
                          clear HA
                          simp only [privitylaw05_InterpolateVandermondeEvaluates.l1] at H
                          by_cases c38 : x10_4 < (l2.length : Int)
                          · rw [if_pos c38] at H
                            have c38b0 : decide (x10_4 < (l2.length : Int)) = true := decide_eq_true c38
                            clear c38
                            by_cases c39 : 0 ≤ x8_3
                            · rw [if_pos c39] at H
                              have c39b0 : decide (0 ≤ x8_3) = true := decide_eq_true c39
                              clear c39
                              by_cases c40 : x8_3 < (t444.length : Int)
                              · rw [if_pos c40] at H
                                have c40b0 : decide (x8_3 < (t444.length : Int)) = true := decide_eq_true c40
                                clear c40
                                by_cases c41 : 0 ≤ x10_4
                                · rw [if_pos c41] at H
                                  have c41b0 : decide (0 ≤ x10_4) = true := decide_eq_true c41
                                  clear c41
                                  by_cases c42 : x10_4 < ((rd_L1 t444 x8_3).length : Int)
                                  · rw [if_pos c42] at H
                                    have c42b0 : decide (x10_4 < ((rd_L1 t444 x8_3).length : Int)) = true := decide_eq_true c42
                                    clear c42
                                    replace H := Option.bind_eq_some_iff.mp H
                                    obtain ⟨t457, A430, H⟩ := H
                                    replace H : ((field_Add.f k4 a0 x9_4 t457).bind fun t458 => (privitylaw05_InterpolateVandermondeEvaluates.l1 k4 a0 l1 l2 t444 x8_3 t458 (wrap64 (x10_4 + 1)))) = some r := H
                                    have A43 := Aside0.mk A430
                                    clear A430
                                    replace H := Option.bind_eq_some_iff.mp H
                                    obtain ⟨t458, A440, H⟩ := H
                                    replace H : (privitylaw05_InterpolateVandermondeEvaluates.l1 k4 a0 l1 l2 t444 x8_3 t458 (wrap64 (x10_4 + 1))) = some r := H
                                    have A44 := Aside0.mk A440
                                    clear A440
                                    have H' := Aside0.mk H
                                    clear H
                                    obtain ⟨Ao45, co45, eo45⟩ := Kd.S_slice HO_7.out
                                    subst eo45
                                    have p454 : 0 ≤ (x8_3 : Int) := of_decide_eq_true (by first | (with_reducible assumption) | assumption)
                                    have q454 : x8_3 < (t444.length : Int) := of_decide_eq_true (by first | (with_reducible assumption) | assumption)
                                    obtain ⟨ad454, A454_0, c454_0, e454, hx454_0, hl454_0, hi454_0⟩ := at_L1 (Kd.S_reads' HO_7.out).2.2 x8_3 p454 q454
                                    cases e454
                                    obtain ⟨ce454, hce454, hMe454, hcc454⟩ := Kd.S_get HO_7.out [] x8_3 p454 (by first | exact q454 | exact of_decide_eq_true (by first | (with_reducible assumption) | assumption) | (have e_ := (Kd.S_reads' HO_7.out).1; omega))
                                    obtain ⟨ve454_0, rfl, ge454_0⟩ := hMe454
                                    have hv454_0 := hcc454 0 _ rfl
                                    rw [Nat.add_zero, show ((Kd.slice 22 (Kd.int .u64))).sz = 1 from rfl, Nat.mul_one] at hv454_0
                                    replace hv454_0 := Option.some.inj (hv454_0.symm.trans hx454_0)
                                    rw [hv454_0] at ge454_0
                                    have HL454_0 := Aside0.mk (show Kd.R (Kd.int .u64) 22 _ _ _ _ (rd_L1 t444 x8_3) from ge454_0)
                                    clear hv454_0 ge454_0
                                    clear hcc454 hce454
                                    have HR454_0 := Aside0.mk hi454_0
                                    have HC454_0 := Aside0.mk hl454_0
                                    clear hi454_0 hl454_0
                                    replace p454 := eq_true p454
                                    replace q454 := eq_true q454
                                    have p455 : 0 ≤ (x10_4 : Int) := of_decide_eq_true (by first | (with_reducible assumption) | assumption)
                                    have q455 : x10_4 < ((rd_L1 t444 x8_3).length : Int) := of_decide_eq_true (by first | (with_reducible assumption) | assumption)
                                    obtain ⟨ad455, e455, hx455_0⟩ := Kd.at_int (by repeat (first | (with_reducible exact HR454_0.out) | (with_reducible refine Kd.C_alloc ?_ _) | (with_reducible refine Kd.C_drewN ?_ _) | (with_reducible refine Kd.C_drew ?_) | exact HR454_0.out)) x10_4 p455 q455
                                    cases e455
                                    replace p455 := eq_true p455
                                    replace q455 := eq_true q455
                                    have p456 : 0 ≤ (x10_4 : Int) := of_decide_eq_true (by first | (with_reducible assumption) | assumption)
                                    have q456 : x10_4 < (l2.length : Int) := of_decide_eq_true (by first | (with_reducible assumption) | assumption)
                                    obtain ⟨ad456, e456, hx456_0⟩ := Kd.at_int HR2.out x10_4 p456 q456
                                    cases e456
                                    replace hx456_0 := (HB.out.cell (World.block_lt_of_cell? w _ hx456_0)).trans hx456_0
                                    replace p456 := eq_true p456
                                    replace q456 := eq_true q456
                                    go_wp2_with (first | (go_at_call 25; (with_reducible refine (field_Mul.calls k4 a0 (rd (rd_L1 t444 x8_3) x10_4) (rd l2 x10_4) t457 _ A43.out).mono ?_); rintro e w' ⟨rfl, ⟨nd, rfl⟩⟩; (try first | exact ⟨rfl, _, World.drewN_drewN _ _ _⟩ | exact ⟨rfl, _, Eq.trans (World.drewN_drewN _ _ _) (congrArg (World.drewN _) (Nat.add_assoc _ _ _))⟩)) | (go_at_call 16; (with_reducible refine (field_Add.calls k4 a0 x9_4 t457 t458 _ A44.out).mono ?_); rintro e w' ⟨rfl, ⟨nd, rfl⟩⟩; (try first | exact ⟨rfl, _, World.drewN_drewN _ _ _⟩ | exact ⟨rfl, _, Eq.trans (World.drewN_drewN _ _ _) (congrArg (World.drewN _) (Nat.add_assoc _ _ _))⟩)))
                                    repeat (go_quiet (first | (go_at_call 25; (with_reducible refine (field_Mul.calls k4 a0 (rd (rd_L1 t444 x8_3) x10_4) (rd l2 x10_4) t457 _ A43.out).mono ?_); rintro e w' ⟨rfl, ⟨nd, rfl⟩⟩; (try first | exact ⟨rfl, _, World.drewN_drewN _ _ _⟩ | exact ⟨rfl, _, Eq.trans (World.drewN_drewN _ _ _) (congrArg (World.drewN _) (Nat.add_assoc _ _ _))⟩)) | (go_at_call 16; (with_reducible refine (field_Add.calls k4 a0 x9_4 t457 t458 _ A44.out).mono ?_); rintro e w' ⟨rfl, ⟨nd, rfl⟩⟩; (try first | exact ⟨rfl, _, World.drewN_drewN _ _ _⟩ | exact ⟨rfl, _, Eq.trans (World.drewN_drewN _ _ _) (congrArg (World.drewN _) (Nat.add_assoc _ _ _))⟩))); try go_wp2_with (first | (go_at_call 25; (with_reducible refine (field_Mul.calls k4 a0 (rd (rd_L1 t444 x8_3) x10_4) (rd l2 x10_4) t457 _ A43.out).mono ?_); rintro e w' ⟨rfl, ⟨nd, rfl⟩⟩; (try first | exact ⟨rfl, _, World.drewN_drewN _ _ _⟩ | exact ⟨rfl, _, Eq.trans (World.drewN_drewN _ _ _) (congrArg (World.drewN _) (Nat.add_assoc _ _ _))⟩)) | (go_at_call 16; (with_reducible refine (field_Add.calls k4 a0 x9_4 t457 t458 _ A44.out).mono ?_); rintro e w' ⟨rfl, ⟨nd, rfl⟩⟩; (try first | exact ⟨rfl, _, World.drewN_drewN _ _ _⟩ | exact ⟨rfl, _, Eq.trans (World.drewN_drewN _ _ _) (congrArg (World.drewN _) (Nat.add_assoc _ _ _))⟩))))
                                    go_roundg k4
                                    case measure => have := HJ5.out; have := HJ21.out; have := HK3.out; have := HK4.out; omega
                                    case rel => exact ⟨(t458), (wrap64 (x10_4 + 1)), (by first | rfl | (simp; done) | (simp [*]; done)), (by first | rfl | (simp; done) | (simp [*]; done)), H', ⟨by have := HJ5.out; have := HJ21.out; have := HK3.out; have := HK4.out; omega⟩, ⟨by (with_reducible repeat (first | apply Kd.S_alloc | apply Kd.S_drewN | apply Kd.S_drew)); exact HO_7.out⟩, ⟨by repeat (first | (with_reducible first | exact HB.out | apply below_alloc | apply pw_below_drewN | apply below_drew1) | exact HB.out)⟩⟩
                                  · rw [if_neg c42] at H
                                    exact absurd H (by simp)
                                · rw [if_neg c41] at H
                                  exact absurd H (by simp)
                              · rw [if_neg c40] at H
                                exact absurd H (by simp)
                            · rw [if_neg c39] at H
                              exact absurd H (by simp)
                          · rw [if_neg c38] at H
                            have c38b0 : decide (x10_4 < (l2.length : Int)) = false := decide_eq_false c38
                            clear c38
                            by_cases c46 : 0 ≤ x8_3
                            · rw [if_pos c46] at H
                              have c46b0 : decide (0 ≤ x8_3) = true := decide_eq_true c46
                              clear c46
                              by_cases c47 : x8_3 < (l1.length : Int)
                              · rw [if_pos c47] at H
                                have c47b0 : decide (x8_3 < (l1.length : Int)) = true := decide_eq_true c47
                                clear c47
                                replace H := Option.bind_eq_some_iff.mp H
                                obtain ⟨t460, A480, H⟩ := H
                                replace H : (if x9_4 = t460 then (privitylaw05_InterpolateVandermondeEvaluates.l0 k4 a0 l1 l2 t444 (wrap64 (x8_3 + 1))) else (some false)) = some r := H
                                have A48 := Aside0.mk A480
                                clear A480
                                by_cases c49 : x9_4 = t460
                                · rw [if_pos c49] at H
                                  have c49b0 : (x9_4 == t460) = true := beq_iff_eq.mpr c49
                                  have c49b1 : (x9_4 != t460) = false := bne_eq_false_iff_eq.mpr c49
                                  clear c49
                                  have H' := Aside0.mk H
                                  clear H
                                  have p459 : 0 ≤ (x8_3 : Int) := of_decide_eq_true (by first | (with_reducible assumption) | assumption)
                                  have q459 : x8_3 < (l1.length : Int) := of_decide_eq_true (by first | (with_reducible assumption) | assumption)
                                  obtain ⟨ad459, e459, hx459_0⟩ := Kd.at_int HR1.out x8_3 p459 q459
                                  cases e459
                                  replace hx459_0 := (HB.out.cell (World.block_lt_of_cell? w _ hx459_0)).trans hx459_0
                                  replace p459 := eq_true p459
                                  replace q459 := eq_true q459
                                  go_wp2_with (first | (go_at_call 23; (with_reducible refine (poly_Eval.calls k4 a0 _ _ l2 (rd l1 x8_3) t460 _ ?side1 ?side2 A48.out).mono ?_); (case side1 => repeat (first | exact (Kd.C_below HR2.out HB.out) | (with_reducible refine Kd.C_alloc ?_ _) | (with_reducible refine Kd.C_drewN ?_ _) | (with_reducible refine Kd.C_drew ?_))); (case side2 => exact HC2.out); rintro e w' ⟨rfl, ⟨nd, rfl⟩⟩; (try first | exact ⟨rfl, _, World.drewN_drewN _ _ _⟩ | exact ⟨rfl, _, Eq.trans (World.drewN_drewN _ _ _) (congrArg (World.drewN _) (Nat.add_assoc _ _ _))⟩)))
                                  repeat (go_quiet (first | (go_at_call 23; (with_reducible refine (poly_Eval.calls k4 a0 _ _ l2 (rd l1 x8_3) t460 _ ?side1 ?side2 A48.out).mono ?_); (case side1 => repeat (first | exact (Kd.C_below HR2.out HB.out) | (with_reducible refine Kd.C_alloc ?_ _) | (with_reducible refine Kd.C_drewN ?_ _) | (with_reducible refine Kd.C_drew ?_))); (case side2 => exact HC2.out); rintro e w' ⟨rfl, ⟨nd, rfl⟩⟩; (try first | exact ⟨rfl, _, World.drewN_drewN _ _ _⟩ | exact ⟨rfl, _, Eq.trans (World.drewN_drewN _ _ _) (congrArg (World.drewN _) (Nat.add_assoc _ _ _))⟩))); try go_wp2_with (first | (go_at_call 23; (with_reducible refine (poly_Eval.calls k4 a0 _ _ l2 (rd l1 x8_3) t460 _ ?side1 ?side2 A48.out).mono ?_); (case side1 => repeat (first | exact (Kd.C_below HR2.out HB.out) | (with_reducible refine Kd.C_alloc ?_ _) | (with_reducible refine Kd.C_drewN ?_ _) | (with_reducible refine Kd.C_drew ?_))); (case side2 => exact HC2.out); rintro e w' ⟨rfl, ⟨nd, rfl⟩⟩; (try first | exact ⟨rfl, _, World.drewN_drewN _ _ _⟩ | exact ⟨rfl, _, Eq.trans (World.drewN_drewN _ _ _) (congrArg (World.drewN _) (Nat.add_assoc _ _ _))⟩))))
                                  go_roundg k4
                                  case measure => have := HJ5.out; have := HJ21.out; have := HK3.out; have := HK4.out; omega
                                  case rel => exact ⟨(wrap64 (x8_3 + 1)), (by first | rfl | (simp; done) | (simp [*]; done)), H', ⟨by have := HJ5.out; have := HJ21.out; have := HK3.out; have := HK4.out; omega⟩, ⟨by (with_reducible repeat (first | apply Kd.S_alloc | apply Kd.S_drewN | apply Kd.S_drew)); exact HO_7.out⟩, ⟨by repeat (first | (with_reducible first | exact HB.out | apply below_alloc | apply pw_below_drewN | apply below_drew1) | exact HB.out)⟩⟩
                                · rw [if_neg c49] at H
                                  have c49b0 : (x9_4 == t460) = false := beq_eq_false_iff_ne.mpr c49
                                  have c49b1 : (x9_4 != t460) = true := bne_iff_ne.mpr c49
                                  obtain rfl := Option.some.inj H
                                  have p459 : 0 ≤ (x8_3 : Int) := of_decide_eq_true (by first | (with_reducible assumption) | assumption)
                                  have q459 : x8_3 < (l1.length : Int) := of_decide_eq_true (by first | (with_reducible assumption) | assumption)
                                  obtain ⟨ad459, e459, hx459_0⟩ := Kd.at_int HR1.out x8_3 p459 q459
                                  cases e459
                                  replace hx459_0 := (HB.out.cell (World.block_lt_of_cell? w _ hx459_0)).trans hx459_0
                                  replace p459 := eq_true p459
                                  replace q459 := eq_true q459
                                  go_wp2_with (first | (go_at_call 23; (with_reducible refine (poly_Eval.calls k4 a0 _ _ l2 (rd l1 x8_3) t460 _ ?side1 ?side2 A48.out).mono ?_); (case side1 => repeat (first | exact (Kd.C_below HR2.out HB.out) | (with_reducible refine Kd.C_alloc ?_ _) | (with_reducible refine Kd.C_drewN ?_ _) | (with_reducible refine Kd.C_drew ?_))); (case side2 => exact HC2.out); rintro e w' ⟨rfl, ⟨nd, rfl⟩⟩; (try first | exact ⟨rfl, _, World.drewN_drewN _ _ _⟩ | exact ⟨rfl, _, Eq.trans (World.drewN_drewN _ _ _) (congrArg (World.drewN _) (Nat.add_assoc _ _ _))⟩)))
                                  repeat (go_quiet (first | (go_at_call 23; (with_reducible refine (poly_Eval.calls k4 a0 _ _ l2 (rd l1 x8_3) t460 _ ?side1 ?side2 A48.out).mono ?_); (case side1 => repeat (first | exact (Kd.C_below HR2.out HB.out) | (with_reducible refine Kd.C_alloc ?_ _) | (with_reducible refine Kd.C_drewN ?_ _) | (with_reducible refine Kd.C_drew ?_))); (case side2 => exact HC2.out); rintro e w' ⟨rfl, ⟨nd, rfl⟩⟩; (try first | exact ⟨rfl, _, World.drewN_drewN _ _ _⟩ | exact ⟨rfl, _, Eq.trans (World.drewN_drewN _ _ _) (congrArg (World.drewN _) (Nat.add_assoc _ _ _))⟩))); try go_wp2_with (first | (go_at_call 23; (with_reducible refine (poly_Eval.calls k4 a0 _ _ l2 (rd l1 x8_3) t460 _ ?side1 ?side2 A48.out).mono ?_); (case side1 => repeat (first | exact (Kd.C_below HR2.out HB.out) | (with_reducible refine Kd.C_alloc ?_ _) | (with_reducible refine Kd.C_drewN ?_ _) | (with_reducible refine Kd.C_drew ?_))); (case side2 => exact HC2.out); rintro e w' ⟨rfl, ⟨nd, rfl⟩⟩; (try first | exact ⟨rfl, _, World.drewN_drewN _ _ _⟩ | exact ⟨rfl, _, Eq.trans (World.drewN_drewN _ _ _) (congrArg (World.drewN _) (Nat.add_assoc _ _ _))⟩))))
                                  go_ret
                                  exact ⟨by first | rfl | (simp [errW_none, errW_some] <;> rfl) | (simp [*, errW_none, errW_some] <;> rfl), by repeat (first | (with_reducible first | exact HB.out | apply below_alloc | apply pw_below_drewN | apply below_drew1) | exact HB.out)⟩
                              · rw [if_neg c47] at H
                                exact absurd H (by simp)
                            · rw [if_neg c46] at H
                              exact absurd H (by simp)
                    · rw [if_neg c37] at H
                      have c37b0 : decide (x8_3 < (l1.length : Int)) = false := decide_eq_false c37
                      clear c37
                      obtain rfl := Option.some.inj H
                      go_wp2
                      repeat (go_quiet (fail); try go_wp2)
                      go_ret
                      exact ⟨by first | rfl | (simp [errW_none, errW_some] <;> rfl) | (simp [*, errW_none, errW_some] <;> rfl), by repeat (first | (with_reducible first | exact HB.out | apply below_alloc | apply pw_below_drewN | apply below_drew1) | exact HB.out)⟩
  · replace c5 := Bool.eq_false_iff.mpr c5
    subst c5
    have H1 : (some false) = some r := by rw [if_neg (show ¬ (false = true) by decide)] at H; exact H
    clear H
    have H := H1
    clear H1
    obtain rfl := Option.some.inj H
    go_enter Try.func8, Try.ntmps8
    go_wp2_with (first | (go_at_call 10; (with_reducible refine (privitylaw05_awake.calls k  false _ A4.out).mono ?_); rintro e w50 ⟨rfl, hb⟩; have n0_ := Aside0.mk (below_step (by repeat (first | (with_reducible first | exact HB.out | apply below_alloc | apply pw_below_drewN | apply below_drew1) | exact HB.out)) hb); clear HB; have HB := n0_; clear n0_; (try clear hb); (try clear hb2); (try clear hk); (try clear hi)))
    repeat (go_quiet (first | (go_at_call 10; (with_reducible refine (privitylaw05_awake.calls k  false _ A4.out).mono ?_); rintro e w50 ⟨rfl, hb⟩; have n0_ := Aside0.mk (below_step (by repeat (first | (with_reducible first | exact HB.out | apply below_alloc | apply pw_below_drewN | apply below_drew1) | exact HB.out)) hb); clear HB; have HB := n0_; clear n0_; (try clear hb); (try clear hb2); (try clear hk); (try clear hi))); try go_wp2_with (first | (go_at_call 10; (with_reducible refine (privitylaw05_awake.calls k  false _ A4.out).mono ?_); rintro e w50 ⟨rfl, hb⟩; have n0_ := Aside0.mk (below_step (by repeat (first | (with_reducible first | exact HB.out | apply below_alloc | apply pw_below_drewN | apply below_drew1) | exact HB.out)) hb); clear HB; have HB := n0_; clear n0_; (try clear hb); (try clear hb2); (try clear hk); (try clear hi))))
    go_ret
    exact ⟨by first | rfl | (simp [errW_none, errW_some] <;> rfl) | (simp [*, errW_none, errW_some] <;> rfl), by repeat (first | (with_reducible first | exact HB.out | apply below_alloc | apply pw_below_drewN | apply below_drew1) | exact HB.out)⟩
/-- THE ONE PURE STATEMENT of privitylaw05_InterpolateVandermondeEvaluates: yours. -/
def privitylaw05_InterpolateVandermondeEvaluates.Pure : Prop := ∀ (a0 : Int) (l1 : List Int) (l2 : List Int), (Lit.int .u64 a0).wf = true → l1.length ≤ maxLen → l1.length * 8 ≤ 140737488351232 → (∀ x ∈ l1, (Lit.int .u64 x).wf = true) → l2.length ≤ maxLen → l2.length * 8 ≤ 140737488351232 → (∀ x ∈ l2, (Lit.int .u64 x).wf = true) → ∃ k, privitylaw05_InterpolateVandermondeEvaluates.f k a0 l1 l2 = some true
theorem privitylaw05_InterpolateVandermondeEvaluates.walk (P : privitylaw05_InterpolateVandermondeEvaluates.Pure) (a0 : Int) (a1 : Option Addr) (len1 cap1 : Nat) (z1 : List Int) (a2 : Option Addr) (len2 cap2 : Nat) (z2 : List Int) (w : World) (w0 : (Lit.int .u64 a0).wf = true) (w1 : (a1 = none ∧ len1 = 0 ∧ cap1 = 0 ∧ z1 = []) ∨ ∃ x, a1 = some x ∧ len1 ≤ cap1 ∧ cap1 ≤ maxLen ∧ z1.length = cap1 ∧ (∀ i, i < z1.length → w.cell? (x.add i) = some (.int .u64 (z1.getD i 0))) ∧ ∀ n ∈ z1, (Lit.int .u64 n).wf = true) (y1 : len1 * 8 ≤ 140737488351232) (w2 : (a2 = none ∧ len2 = 0 ∧ cap2 = 0 ∧ z2 = []) ∨ ∃ x, a2 = some x ∧ len2 ≤ cap2 ∧ cap2 ≤ maxLen ∧ z2.length = cap2 ∧ (∀ i, i < z2.length → w.cell? (x.add i) = some (.int .u64 (z2.getD i 0))) ∧ ∀ n ∈ z2, (Lit.int .u64 n).wf = true) (y2 : len2 * 8 ≤ 140737488351232) :
    Calls Try.prog 8 #[.int .u64 a0, .slice a1 len1 cap1, .slice a2 len2 cap2] w fun e w' => e = .returned (.bool true) ∧ Below w.heap.size w w' := by
  obtain ⟨l1, rfl, hr1, hm1, hw1, hc1⟩ := ReadsInt.ofRowC w1
  obtain ⟨l2, rfl, hr2, hm2, hw2, hc2⟩ := ReadsInt.ofRowC w2
  obtain ⟨k, h⟩ := P a0 l1 l2 w0 hm1 y1 hw1 hm2 y2 hw2
  refine (privitylaw05_InterpolateVandermondeEvaluates.calls k a0 _ _ l1 _ _ l2 true w (Kd.C_of_reads (d := (0 : Int)) (h1 := fun _ => rfl) hr1) hc1 (Kd.C_of_reads (d := (0 : Int)) (h1 := fun _ => rfl) hr2) hc2 h).mono ?_
  rintro e w' ⟨rfl, hd⟩
  exact ⟨rfl, hd⟩
end Go.Proofs.Ytdbmhpfbbikjjaa.Pr
end
section
/- Printed by a program of this seat (the kit's printer, with the functions that were proved by hand given to it). What stands here: the functions that the statements reach, as plain functions, and that the Go code computes them. -/
namespace Go.Proofs.Ytdbmhpfbbikjjaa.Pr
open Go.RowKit Go.Proofs.YtdbmhpfbbikjjaaW.PrintWords Go.Proofs.YtdbmhpfbbikjjaaW.PrintLast Go.Proofs.YtdbmhpfbbikjjaaW.PrintMore
attribute [local go_sem] max2_int min2_int max_two min_two max_three min_three max_four min_four   -- for this text's walks alone
set_option linter.unusedVariables false
set_option linter.unusedSimpArgs false

open Go.Proofs.Ytdbmhpfbbikjjaa.Hw
/-! ### privityref04_Eval: function 36 -/
/-! ### privityref01_Pow: function 65 -/
/-! ### privityref01_Inverse: function 55 -/
/-! ### privityref01_Sub: function 56 -/
end Go.Proofs.Ytdbmhpfbbikjjaa.Pr
end
section
/- Printed by a program of this seat (the kit's printer, with the functions that were proved by hand given to it). What stands here: the functions that the statements reach, as plain functions, and that the Go code computes them. -/
namespace Go.Proofs.Ytdbmhpfbbikjjaa.Pr
open Go.RowKit Go.Proofs.YtdbmhpfbbikjjaaW.PrintWords Go.Proofs.YtdbmhpfbbikjjaaW.PrintLast Go.Proofs.YtdbmhpfbbikjjaaW.PrintMore
attribute [local go_sem] max2_int min2_int max_two min_two max_three min_three max_four min_four   -- for this text's walks alone
set_option linter.unusedVariables false
set_option linter.unusedSimpArgs false

open Go.Proofs.Ytdbmhpfbbikjjaa.Hw
/-! ### privityref04_Trim: function 24 -/
end Go.Proofs.Ytdbmhpfbbikjjaa.Pr
end
section
/- Printed by a program of this seat (the kit's printer, with the functions that were proved by hand given to it). What stands here: the functions that the statements reach, as plain functions, and that the Go code computes them. -/
namespace Go.Proofs.Ytdbmhpfbbikjjaa.Pr
open Go.RowKit Go.Proofs.YtdbmhpfbbikjjaaW.PrintWords Go.Proofs.YtdbmhpfbbikjjaaW.PrintLast Go.Proofs.YtdbmhpfbbikjjaaW.PrintMore
attribute [local go_sem] max2_int min2_int max_two min_two max_three min_three max_four min_four   -- for this text's walks alone
set_option linter.unusedVariables false
set_option linter.unusedSimpArgs false

open Go.Proofs.Ytdbmhpfbbikjjaa.Hw
/-! ### privityref04_Mul: function 57 -/
end Go.Proofs.Ytdbmhpfbbikjjaa.Pr
end
section
/- Printed by a program of this seat (the kit's printer, with the functions that were proved by hand given to it). What stands here: the functions that the statements reach, as plain functions, and that the Go code computes them. -/
namespace Go.Proofs.Ytdbmhpfbbikjjaa.Pr
open Go.RowKit Go.Proofs.YtdbmhpfbbikjjaaW.PrintWords Go.Proofs.YtdbmhpfbbikjjaaW.PrintLast Go.Proofs.YtdbmhpfbbikjjaaW.PrintMore
attribute [local go_sem] max2_int min2_int max_two min_two max_three min_three max_four min_four   -- for this text's walks alone
set_option linter.unusedVariables false
set_option linter.unusedSimpArgs false

open Go.Proofs.Ytdbmhpfbbikjjaa.Hw
/-! ### privityref01_Neg: function 58 -/
/-! ### privityref05_base: function 37 -/
/-! ### privityref05_LagrangeWeights: function 14 -/
end Go.Proofs.Ytdbmhpfbbikjjaa.Pr
end
section
/-
  The reference of layer 1: what its printed functions answer.
-/
namespace Go.Proofs.Ytdbmhpfbbikjjaa.E
open Go.RowKit Go.Proofs.Ytdbmhpfbbikjjaa.Pr Go.Proofs.Ytdbmhpfbbikjjaa.Hw Go.Proofs.YtdbmhpfbbikjjaaW.PrintWords Go.Proofs.YtdbmhpfbbikjjaaW.PrintLast Go.Proofs.YtdbmhpfbbikjjaaW.PrintMore
set_option linter.unusedVariables false
set_option linter.unusedSimpArgs false

theorem wcap {n : Int} (h : 0 ≤ n) (h2 : n < 9223372036854775808) : wrap64 n = n := by unfold wrap64; omega
theorem wnat {n : Nat} (h : n < 1099511627776) : wrap64 ((n : Int) + 1) = ((n + 1 : Nat) : Int) := by rw [wcap (by omega) (by omega)]; omega
/-- From the end back to the start. -/
theorem up {Q : Nat → Prop} {n : Nat} (hn : Q n) (hs : ∀ i, i < n → Q (i + 1) → Q i) : Q 0 := by
  have : ∀ d, d ≤ n → Q (n - d) := by
    intro d
    induction d with
    | zero => intro _; exact hn
    | succ d ih =>
      intro h
      have h1 := ih (by omega)
      refine hs (n - (d + 1)) (by omega) ?_
      rwa [show n - (d + 1) + 1 = n - d from by omega]
  have := this n (Nat.le_refl _)
  rwa [Nat.sub_self] at this
theorem exponent_eq (p : Int) : privityref01_Exponent.f 10 p = if p = 31 then some 5 else if p = 127 then some 7 else if p = 8191 then some 13 else if p = 131071 then some 17 else if p = 524287 then some 19 else if p = 2147483647 then some 31 else if p = 2305843009213693951 then some 61 else some 0 := by kernel_rfl
theorem supported_ev (p : Int) : Ev (fun k => privityref01_Supported.f k p) (supB p) := by
  refine Ev.of (fun k => privityref01_Supported.mono _ _) (k := 10) ?_
  show (privityref01_Exponent.f 10 p).bind _ = _
  rw [exponent_eq]
  unfold supB
  by_cases h1 : p = 31
  · subst h1; rfl
  by_cases h2 : p = 127
  · subst h2; rfl
  by_cases h3 : p = 8191
  · subst h3; rfl
  by_cases h4 : p = 131071
  · subst h4; rfl
  by_cases h5 : p = 524287
  · subst h5; rfl
  by_cases h6 : p = 2147483647
  · subst h6; rfl
  by_cases h7 : p = 2305843009213693951
  · subst h7; rfl
  rw [if_neg h1, if_neg h2, if_neg h3, if_neg h4, if_neg h5, if_neg h6, if_neg h7]
  simp [h1, h2, h3, h4, h5, h6, h7]
theorem tmod_pos {a p : Int} (h : 0 ≤ a) : Int.tmod a p = a % p := Int.tmod_eq_emod_of_nonneg h
theorem rmul_l0 {p : Int} (hp : Supp p) : ∀ (n : Nat) (a out : Int), n < 18446744073709551616 → Res p a → Res p out → Ev (fun k => privityref01_Mul.l0 k p a n out) ((out + a * n) % p) := by
  intro n
  induction n using Nat.strongRecOn with
  | _ n ih =>
    intro a out hn ha ho
    have hb := hp.bd
    obtain ⟨a0, a1⟩ := ha
    obtain ⟨o0, o1⟩ := ho
    by_cases h0 : n = 0
    · subst h0
      refine Ev.of (fun k => (privityref01_Mul.mono_l k) _ _ _ _) (k := 1) ?_
      simp only [privityref01_Mul.l0]
      rw [if_neg (by omega), Int.natCast_zero, Int.mul_zero, Int.add_zero, Int.emod_eq_of_lt o0 o1]
    · have e1 : Int.tmod (n : Int) 2 = n % 2 := tmod_pos (by omega)
      have e2 : IntKind.u64.wrap (Int.tdiv (n : Int) 2) = ((n / 2 : Nat) : Int) := by
        rw [Int.tdiv_eq_ediv_of_nonneg (by omega), wrapU_id (by omega) (by omega)]; omega
      have e3 : IntKind.u64.wrap (a + a) = a + a := wrapU_id (by omega) (by omega)
      have e4 : IntKind.u64.wrap (out + a) = out + a := wrapU_id (by omega) (by omega)
      have hN : (n : Int) = 2 * ((n / 2 : Nat) : Int) + n % 2 := by omega
      by_cases hodd : n % 2 = 1
      · have h := ih (n / 2) (by omega) ((a + a) % p) ((out + a) % p) (by omega) (Res.mod hp _) (Res.mod hp _)
        refine Ev.step (fun k => ?_) (f := fun k => privityref01_Mul.l0 k p ((a + a) % p) ((n / 2 : Nat) : Int) ((out + a) % p)) ?_
        · simp only [privityref01_Mul.l0]
          rw [if_pos (by omega), if_pos (by omega), if_neg (by omega), e2, e3, e4, tmod_pos (by omega), tmod_pos (by omega)]
        · rw [show (out + a * n) % p = ((out + a) % p + (a + a) % p * ((n / 2 : Nat) : Int)) % p from ?_]
          · exact h
          · rw [addm (modm p (out + a)) (mulm (modm p (a + a)) rfl)]
            congr 1
            have : (n : Int) = 2 * ((n / 2 : Nat) : Int) + 1 := by omega
            generalize ((n / 2 : Nat) : Int) = m at *
            rw [this]; grind
      · have h := ih (n / 2) (by omega) ((a + a) % p) out (by omega) (Res.mod hp _) ⟨o0, o1⟩
        refine Ev.step (fun k => ?_) (f := fun k => privityref01_Mul.l0 k p ((a + a) % p) ((n / 2 : Nat) : Int) out) ?_
        · simp only [privityref01_Mul.l0]
          rw [if_pos (by omega), if_neg (by omega), if_neg (by omega), e2, e3, tmod_pos (by omega)]
        · rw [show (out + a * n) % p = (out + (a + a) % p * ((n / 2 : Nat) : Int)) % p from ?_]
          · exact h
          · rw [addm (a := out) rfl (mulm (modm p (a + a)) rfl)]
            congr 1
            have : (n : Int) = 2 * ((n / 2 : Nat) : Int) := by omega
            generalize ((n / 2 : Nat) : Int) = m at *
            rw [this]; grind
theorem rmul_ev {p : Int} (hp : Supp p) {a b : Int} (ha : Res p a) (hb : Res p b) : Ev (fun k => privityref01_Mul.f k p a b) (a * b % p) := by
  have h := hp.bd
  have := rmul_l0 hp b.toNat a 0 (by have := hb.1; have := hb.2; omega) ha ⟨by omega, by omega⟩
  rw [Int.toNat_of_nonneg hb.1, Int.zero_add] at this
  exact this
end Go.Proofs.Ytdbmhpfbbikjjaa.E
end
section
/-
  Plain mathematics: polynomials over a prime field, as lists of coefficients: values, roots, uniqueness. No program in sight.
-/
namespace Go.Proofs.Ytdbmhpfbbikjjaa.Pl
open Go.Proofs.Ytdbmhpfbbikjjaa.Fd

section
variable {p : Nat} [NeZero p]

/-- The value at x: the lowest coefficient first. -/
def ev (x : Fin p) : List (Fin p) → Fin p
  | [] => 0
  | c :: f => c + x * ev x f
end
end Go.Proofs.Ytdbmhpfbbikjjaa.Pl
end
section
/-
  Plain mathematics: values of lists of residues, whole numbers as residues, products of linear factors. No program in sight.
-/
namespace Go.Proofs.Ytdbmhpfbbikjjaa.Pl
open Go.Proofs.Ytdbmhpfbbikjjaa.Fd

section
variable {p : Nat} [NeZero p]

/-- The n-th power. -/
def mono (x : Fin p) : Nat → Fin p
  | 0 => 1
  | n + 1 => x * mono x n
theorem ev_take_succ (x : Fin p) : ∀ (f : List (Fin p)) (n : Nat), ev x (f.take (n + 1)) = ev x (f.take n) + f.getD n 0 * mono x n
  | [], n => by simp only [List.take_nil, List.getD_nil, ev]; grind
  | c :: f, 0 => by simp only [List.take_succ_cons, List.take_zero, ev, List.getD_cons_zero, mono]; grind
  | c :: f, n + 1 => by
    have := ev_take_succ x f n
    simp only [List.take_succ_cons, ev, List.getD_cons_succ, mono] at *
    rw [this]; grind
/-- A whole number's residue. -/
def tf (p : Nat) [NeZero p] (a : Int) : Fin p := ⟨(a % (p : Int)).toNat, by
  have h : (0 : Int) < p := by have := Nat.pos_of_neZero p; omega
  have := Int.emod_lt_of_pos a h
  have := Int.emod_nonneg a (by omega : (p : Int) ≠ 0)
  omega⟩
theorem tf_val (a : Int) : (((tf p a).val : Nat) : Int) = a % (p : Int) := by
  have h : (0 : Int) < p := by have := Nat.pos_of_neZero p; omega
  show (((a % (p : Int)).toNat : Nat) : Int) = _
  rw [Int.toNat_of_nonneg (Int.emod_nonneg a (by omega))]
theorem tf_eq {a : Int} {x : Fin p} (h : ((x.val : Nat) : Int) = a % (p : Int)) : tf p a = x := by
  apply Fin.ext
  have := tf_val (p := p) a
  omega
theorem tf_of_emod {a b : Int} (h : a % (p : Int) = b % (p : Int)) : tf p a = tf p b := tf_eq (by rw [tf_val, h])
theorem tf_emod (a : Int) : tf p (a % (p : Int)) = tf p a := tf_of_emod (Int.emod_emod_of_dvd _ (Int.dvd_refl _))
theorem tf_add (a b : Int) : tf p (a + b) = tf p a + tf p b := by
  refine tf_eq ?_
  rw [Fin.val_add, Int.natCast_emod, Int.natCast_add, tf_val, tf_val, ← Int.add_emod]
theorem tf_mul (a b : Int) : tf p (a * b) = tf p a * tf p b := by
  refine tf_eq ?_
  rw [Fin.val_mul, Int.natCast_emod, Int.natCast_mul, tf_val, tf_val, ← Int.mul_emod]
theorem tf_zero : tf p 0 = 0 := tf_eq (by simp)
theorem tf_one : tf p 1 = 1 := by
  refine tf_eq ?_
  rw [show ((1 : Fin p).val) = 1 % p from rfl]; simp
theorem tf_inj {a b : Int} (ha : 0 ≤ a ∧ a < (p : Int)) (hb : 0 ≤ b ∧ b < (p : Int)) (h : tf p a = tf p b) : a = b := by
  have h1 := tf_val (p := p) a
  rw [h, tf_val, Int.emod_eq_of_lt ha.1 ha.2, Int.emod_eq_of_lt hb.1 hb.2] at h1
  exact h1.symm
theorem getD_tf (l : List Int) (i : Nat) : (l.map (tf p)).getD i 0 = tf p (l.getD i 0) := by
  rw [List.getD_eq_getElem?_getD, List.getD_eq_getElem?_getD, List.getElem?_map]
  cases l[i]? with
  | none => simp [tf_zero]
  | some v => rfl
end
end Go.Proofs.Ytdbmhpfbbikjjaa.Pl
end
section
/-
  What the hand-proved functions compute, as polynomials over the field: values, lengths, uniqueness.
-/
namespace Go.Proofs.Ytdbmhpfbbikjjaa.E
open Go.RowKit Go.Proofs.Ytdbmhpfbbikjjaa.Pr Go.Proofs.Ytdbmhpfbbikjjaa.Hw Go.Proofs.Ytdbmhpfbbikjjaa.Pl Go.Proofs.YtdbmhpfbbikjjaaW.PrintWords Go.Proofs.YtdbmhpfbbikjjaaW.PrintLast Go.Proofs.YtdbmhpfbbikjjaaW.PrintMore
set_option linter.unusedVariables false
set_option linter.unusedSimpArgs false

theorem nz {p : Int} (hp : Supp p) : NeZero p.toNat := ⟨by have := hp.bd; omega⟩
theorem cast_p {p : Int} (hp : Supp p) : ((p.toNat : Nat) : Int) = p := by have := hp.bd; omega
section
variable {p : Int} (hp : Supp p) [NeZero p.toNat]

/-- The residue, in the field. -/
def T (p : Int) [NeZero p.toNat] (a : Int) : Fin p.toNat := tf p.toNat a
def M (p : Int) [NeZero p.toNat] (l : List Int) : List (Fin p.toNat) := l.map (T p)
include hp in
theorem T_mod (a : Int) : T p (a % p) = T p a := by
  have h := tf_emod (p := p.toNat) a
  rw [cast_p hp] at h; exact h
theorem T_add (a b : Int) : T p (a + b) = T p a + T p b := tf_add a b
theorem T_mul (a b : Int) : T p (a * b) = T p a * T p b := tf_mul a b
theorem T_zero : T p 0 = 0 := tf_zero
theorem T_one : T p 1 = 1 := tf_one
include hp in
theorem T_inj {a b : Int} (ha : Res p a) (hb : Res p b) (h : T p a = T p b) : a = b :=
  tf_inj (p := p.toNat) (by rw [cast_p hp]; exact ha) (by rw [cast_p hp]; exact hb) h
include hp in
theorem ev_evI (x : Int) : ∀ l, T p (evI p x l) = ev (T p x) (M p l)
  | [] => T_zero
  | c :: l => by
    have := ev_evI x l
    simp only [evI, M, List.map_cons, ev]
    rw [T_mod hp, T_add, T_mod hp, T_mul, this, M]
    grind
theorem M_getD (l : List Int) (i : Nat) : (M p l).getD i 0 = T p (l.getD i 0) := getD_tf l i
end

section
variable {p : Int} (hp : Supp p) [NeZero p.toNat]
end

section
variable {p : Int} (hp : Supp p) [NeZero p.toNat]
end

end Go.Proofs.Ytdbmhpfbbikjjaa.E
end
section
/- Printed by a program of this seat (the kit's printer, with the functions that were proved by hand given to it). What stands here: the functions that the statements reach, as plain functions, and that the Go code computes them. -/
namespace Go.Proofs.Ytdbmhpfbbikjjaa.Pr
open Go.RowKit Go.Proofs.YtdbmhpfbbikjjaaW.PrintWords Go.Proofs.YtdbmhpfbbikjjaaW.PrintLast Go.Proofs.YtdbmhpfbbikjjaaW.PrintMore
attribute [local go_sem] max2_int min2_int max_two min_two max_three min_three max_four min_four   -- for this text's walks alone
set_option linter.unusedVariables false
set_option linter.unusedSimpArgs false

open Go.Proofs.Ytdbmhpfbbikjjaa.Hw
/-! ### privityref04_Coefficient: function 61 -/
/-! ### privityref04_Add: function 45 -/
/-! ### privityref04_Scale: function 46 -/
end Go.Proofs.Ytdbmhpfbbikjjaa.Pr
end
section
/-
  The reference of layer 4: what its printed functions answer.
-/
namespace Go.Proofs.Ytdbmhpfbbikjjaa.E
open Go.RowKit Go.Proofs.Ytdbmhpfbbikjjaa.Pr Go.Proofs.Ytdbmhpfbbikjjaa.Hw Go.Proofs.Ytdbmhpfbbikjjaa.Pl Go.Proofs.YtdbmhpfbbikjjaaW.PrintWords Go.Proofs.YtdbmhpfbbikjjaaW.PrintLast Go.Proofs.YtdbmhpfbbikjjaaW.PrintMore
set_option linter.unusedVariables false
set_option linter.unusedSimpArgs false

theorem getD_out (l : List Int) (j : Nat) (h : l.length ≤ j) : l.getD j 0 = 0 := by rw [List.getD_eq_getElem?_getD, List.getElem?_eq_none h]; rfl
theorem res_getD {p : Int} (hp : Supp p) {l : List Int} (hl : ∀ x ∈ l, Res p x) (i : Nat) : Res p (l.getD i 0) := by
  have hb := hp.bd
  by_cases hi : i < l.length
  · rw [Hw.getD_in _ _ hi]; exact hl _ (List.getElem_mem hi)
  · rw [getD_out l i (by omega)]; exact ⟨Int.le_refl 0, by show (0 : Int) < p; omega⟩
/-! ### Coefficients of what the program adds up -/
/-! ### Sum -/
/-! ### Scale -/
/-! ### Eval -/
theorem evI_take_next {p : Int} (hp : Supp p) (l : List Int) (x pw : Int) (i : Nat) (hpw : pw = x ^ i % p) : (evI p x (l.take i) + l.getD i 0 * pw % p) % p = evI p x (l.take (i + 1)) := by
  haveI := nz hp
  refine T_inj hp (Res.mod hp _) (evI_res hp _ _) ?_
  have hm : ∀ n : Nat, T p (x ^ n) = mono (T p x) n := by
    intro n
    induction n with
    | zero => rw [Int.pow_zero, T_one]; rfl
    | succ n ih => rw [Int.pow_succ, T_mul, ih]; simp only [mono]; grind
  rw [T_mod hp, T_add, T_mod hp, T_mul, hpw, T_mod hp, hm, ev_evI hp, ev_evI hp]
  have e : ∀ n, M p (l.take n) = (M p l).take n := fun n => by unfold M; rw [List.map_take]
  rw [e, e, ev_take_succ, M_getD]
/-! ### Product -/
theorem list_ext_getD {a b : List Int} (hl : a.length = b.length) (h : ∀ i, a.getD i 0 = b.getD i 0) : a = b := by
  apply List.ext_getElem hl
  intro i h1 h2
  have := h i
  rwa [Hw.getD_in _ _ h1, Hw.getD_in _ _ h2] at this
end Go.Proofs.Ytdbmhpfbbikjjaa.E
end
section
/- Printed by a program of this seat (the kit's printer, with the functions that were proved by hand given to it). What stands here: the functions that the statements reach, as plain functions, and that the Go code computes them. -/
namespace Go.Proofs.Ytdbmhpfbbikjjaa.Pr
open Go.RowKit Go.Proofs.YtdbmhpfbbikjjaaW.PrintWords Go.Proofs.YtdbmhpfbbikjjaaW.PrintLast Go.Proofs.YtdbmhpfbbikjjaaW.PrintMore
attribute [local go_sem] max2_int min2_int max_two min_two max_three min_three max_four min_four   -- for this text's walks alone
set_option linter.unusedVariables false
set_option linter.unusedSimpArgs false

open Go.Proofs.Ytdbmhpfbbikjjaa.Hw
/-! ### privityref05_Points: function 17 -/
/-! ### privityref05_Places: function 19 -/
end Go.Proofs.Ytdbmhpfbbikjjaa.Pr
end
section
/- Printed by a program of this seat (the kit's printer, with the functions that were proved by hand given to it). What stands here: the functions that the statements reach, as plain functions, and that the Go code computes them. -/
namespace Go.Proofs.Ytdbmhpfbbikjjaa.Pr
open Go.RowKit Go.Proofs.YtdbmhpfbbikjjaaW.PrintWords Go.Proofs.YtdbmhpfbbikjjaaW.PrintLast Go.Proofs.YtdbmhpfbbikjjaaW.PrintMore
attribute [local go_sem] max2_int min2_int max_two min_two max_three min_three max_four min_four   -- for this text's walks alone
set_option linter.unusedVariables false
set_option linter.unusedSimpArgs false

open Go.Proofs.Ytdbmhpfbbikjjaa.Hw
/-! ### privityref05_Polynomial: function 22 -/
end Go.Proofs.Ytdbmhpfbbikjjaa.Pr
end
section
/-
  The reference of layer 5: what its printed functions answer.
-/
namespace Go.Proofs.Ytdbmhpfbbikjjaa.E
open Go.RowKit Go.Proofs.Ytdbmhpfbbikjjaa.Pr Go.Proofs.Ytdbmhpfbbikjjaa.Hw Go.Proofs.Ytdbmhpfbbikjjaa.Pl Go.Proofs.YtdbmhpfbbikjjaaW.PrintWords Go.Proofs.YtdbmhpfbbikjjaaW.PrintLast Go.Proofs.YtdbmhpfbbikjjaaW.PrintMore
set_option linter.unusedVariables false
set_option linter.unusedSimpArgs false

/-- A loop that answers false at the first i that Q does not hold of. -/
theorem allLoop {F : Nat → Int → Option Bool} {n : Nat} {Q : Nat → Prop} [DecidablePred Q] (hend : ∀ k, F (k + 1) (n : Int) = some true) (hyes : ∀ i, i < n → Q i → ∀ r, Ev (fun k => F k ((i + 1 : Nat) : Int)) r → Ev (fun k => F k (i : Int)) r)
    (hno : ∀ i, i < n → ¬ Q i → Ev (fun k => F k (i : Int)) false) (r : Bool) (hr : r = true ↔ ∀ i, i < n → Q i) : Ev (fun k => F k ((0 : Nat) : Int)) r := by
  have main : ∀ d i, i + d = n → ∀ r : Bool, (r = true ↔ ∀ j, i ≤ j → j < n → Q j) → Ev (fun k => F k (i : Int)) r := by
    intro d
    induction d with
    | zero =>
      intro i hi r hr
      have : i = n := by omega
      subst this
      have : r = true := hr.2 (fun j h1 h2 => by omega)
      subst this
      exact Ev.step (fun k => hend k) (Ev.now _)
    | succ d ih =>
      intro i hi r hr
      by_cases h : Q i
      · refine hyes i (by omega) h r (ih (i + 1) (by omega) r ⟨fun e j h1 h2 => hr.1 e j (by omega) h2, fun e => hr.2 fun j h1 h2 => ?_⟩)
        by_cases e2 : j = i
        · rw [e2]; exact h
        · exact e j (by omega) h2
      · have : r = false := by
          cases r with
          | false => rfl
          | true => exact absurd (hr.1 rfl i (Nat.le_refl _) (by omega)) h
        subst this
        exact hno i (by omega) h
  exact main n 0 (by omega) r ⟨fun e j _ h2 => hr.1 e j h2, fun e => hr.2 fun j h => e j (Nat.zero_le _) h⟩
theorem same_ev (a b : List Int) (ha : a.length ≤ 1000000000) : Ev (fun k => privityref05_Same.f k a b) (decide (a = b)) := by
  by_cases hl : a.length = b.length
  · have h := allLoop (F := fun k i => privityref05_Same.l0 k a b i) (n := a.length) (Q := fun i => a.getD i 0 = b.getD i 0) (fun k => ?_) (fun i hi hq r h => ?_) (fun i hi hq => ?_) (decide (a = b)) ?_
    · refine h.congr fun k => ?_
      unfold privityref05_Same.f
      rw [if_pos (by omega)]; rfl
    · simp only [privityref05_Same.l0]
      rw [if_neg (by omega)]
    · refine Ev.step (fun k => ?_) h
      simp only [privityref05_Same.l0]
      rw [if_pos (by omega), if_pos (by omega), if_pos (by omega), rd_nat, rd_nat, if_pos hq, wnat (by omega)]
    · refine Ev.step (fun k => ?_) (Ev.now _)
      simp only [privityref05_Same.l0]
      rw [if_pos (by omega), if_pos (by omega), if_pos (by omega), rd_nat, rd_nat, if_neg hq]
    · rw [decide_eq_true_iff]
      refine ⟨fun e i _ => by rw [e], fun h => list_ext_getD hl fun i => ?_⟩
      by_cases hi : i < a.length
      · exact h i hi
      · rw [getD_out a i (by omega), getD_out b i (by omega)]
  · have : decide (a = b) = false := decide_eq_false fun e => hl (by rw [e])
    rw [this]
    refine Ev.congr (fun k => ?_) (Ev.now _)
    unfold privityref05_Same.f
    rw [if_neg (by omega)]
theorem rdL_nat (l : List (List Int)) (i : Nat) : rd_L1 l (i : Int) = l.getD i [] := by unfold rd_L1; rw [Int.toNat_natCast]
theorem sameRows_ev (a b : List (List Int)) (ha : a.length ≤ 1000000000) (hr : ∀ x ∈ a, x.length ≤ 1000000000) : Ev (fun k => privityref05_SameRows.f k a b) (decide (a = b)) := by
  by_cases hl : a.length = b.length
  · have hs : ∀ i, i < a.length → Ev (fun k => privityref05_Same.f k (rd_L1 a (i : Int)) (rd_L1 b (i : Int))) (decide (a.getD i [] = b.getD i [])) := by
      intro i hi
      rw [rdL_nat, rdL_nat]
      refine same_ev _ _ (hr _ ?_)
      rw [List.getD_eq_getElem?_getD, List.getElem?_eq_getElem hi]; exact List.getElem_mem hi
    have h := allLoop (F := fun k i => privityref05_SameRows.l0 k a b i) (n := a.length) (Q := fun i => a.getD i [] = b.getD i []) (fun k => ?_) (fun i hi hq r h => ?_) (fun i hi hq => ?_) (decide (a = b)) ?_
    · refine h.congr fun k => ?_
      unfold privityref05_SameRows.f
      rw [if_pos (by omega)]; rfl
    · simp only [privityref05_SameRows.l0]
      rw [if_neg (by omega)]
    · have h1 := hs i hi
      rw [decide_eq_true hq] at h1
      refine Ev.step (f := fun k => (privityref05_Same.f k (rd_L1 a (i : Int)) (rd_L1 b (i : Int))).bind fun t176 => (if t176 = true then (privityref05_SameRows.l0 k a b ((i + 1 : Nat) : Int)) else (some false))) (fun k => ?_) (Ev.bind h1 ?_)
      · simp only [privityref05_SameRows.l0]
        rw [if_pos (by omega), if_pos (by omega), if_pos (by omega), wnat (by omega)]
      · exact h.congr fun k => if_pos rfl
    · have h1 := hs i hi
      rw [decide_eq_false hq] at h1
      refine Ev.step (f := fun k => (privityref05_Same.f k (rd_L1 a (i : Int)) (rd_L1 b (i : Int))).bind fun t176 => (if t176 = true then (privityref05_SameRows.l0 k a b ((i + 1 : Nat) : Int)) else (some false))) (fun k => ?_) (Ev.bind h1 ?_)
      · simp only [privityref05_SameRows.l0]
        rw [if_pos (by omega), if_pos (by omega), if_pos (by omega), wnat (by omega)]
      · exact (Ev.now false).congr fun k => if_neg (by simp)
    · rw [decide_eq_true_iff]
      refine ⟨fun e i _ => by rw [e], fun h => List.ext_getElem hl fun i h1 h2 => ?_⟩
      have := h i h1
      rw [List.getD_eq_getElem?_getD, List.getD_eq_getElem?_getD, List.getElem?_eq_getElem h1, List.getElem?_eq_getElem h2] at this
      exact this
  · have : decide (a = b) = false := decide_eq_false fun e => hl (by rw [e])
    rw [this]
    refine Ev.congr (fun k => ?_) (Ev.now _)
    unfold privityref05_SameRows.f
    rw [if_neg (by omega)]
def belowB (p : Int) (l : List Int) : Bool := l.all fun x => decide (x < p)
theorem below_ev (p : Int) (l : List Int) (hl : l.length ≤ 1000000000) : Ev (fun k => privityref05_Below.f k p l) (belowB p l) := by
  have h := allLoop (F := fun k i => privityref05_Below.l0 k p l i) (n := l.length) (Q := fun i => l.getD i 0 < p) (fun k => ?_) (fun i hi hq r h => ?_) (fun i hi hq => ?_) (belowB p l) ?_
  · exact h
  · simp only [privityref05_Below.l0]
    rw [if_neg (by omega)]
  · refine Ev.step (fun k => ?_) h
    simp only [privityref05_Below.l0]
    rw [if_pos (by omega), if_pos (by omega), rd_nat, if_neg (by omega), wnat (by omega)]
  · refine Ev.step (fun k => ?_) (Ev.now _)
    simp only [privityref05_Below.l0]
    rw [if_pos (by omega), if_pos (by omega), rd_nat, if_pos (by omega)]
  · unfold belowB
    rw [List.all_eq_true]
    refine ⟨fun h i hi => ?_, fun h x hx => ?_⟩
    · rw [Hw.getD_in _ _ hi]; exact of_decide_eq_true (h _ (List.getElem_mem hi))
    · obtain ⟨i, hi, rfl⟩ := List.getElem_of_mem hx
      have := h i hi
      rw [Hw.getD_in _ _ hi] at this
      exact decide_eq_true this
theorem below_res {p : Int} {l : List Int} (h : belowB p l = true) (hw : ∀ x ∈ l, 0 ≤ x) : ∀ x ∈ l, Res p x := fun x hx => ⟨hw x hx, of_decide_eq_true (List.all_eq_true.1 h x hx)⟩
end Go.Proofs.Ytdbmhpfbbikjjaa.E
end
section
/-
  The reference's Lagrange formula: the same polynomial, the same weights.
-/
namespace Go.Proofs.Ytdbmhpfbbikjjaa.E
open Go.RowKit Go.Proofs.Ytdbmhpfbbikjjaa.Pr Go.Proofs.Ytdbmhpfbbikjjaa.Hw Go.Proofs.Ytdbmhpfbbikjjaa.Pl Go.Proofs.YtdbmhpfbbikjjaaW.PrintWords Go.Proofs.YtdbmhpfbbikjjaaW.PrintLast Go.Proofs.YtdbmhpfbbikjjaaW.PrintMore
set_option linter.unusedVariables false
set_option linter.unusedSimpArgs false

section
variable {p : Int} (hp : Supp p) [NeZero p.toNat]
end

/-! ### Weights -/
/-! ### Polynomial -/
end Go.Proofs.Ytdbmhpfbbikjjaa.E
end
section
/-
  What the statements of chapter 5 share: the first check, the guards, sums.
-/
namespace Go.Proofs.Ytdbmhpfbbikjjaa.E
open Go.RowKit Go.Proofs.Ytdbmhpfbbikjjaa.Pr Go.Proofs.Ytdbmhpfbbikjjaa.Hw Go.Proofs.Ytdbmhpfbbikjjaa.Pl Go.Proofs.YtdbmhpfbbikjjaaW.PrintWords Go.Proofs.YtdbmhpfbbikjjaaW.PrintLast Go.Proofs.YtdbmhpfbbikjjaaW.PrintMore
set_option linter.unusedVariables false
set_option linter.unusedSimpArgs false

theorem awake05 : Ev (fun k => privitylaw05_awake.f k) true := Ev.of (fun k => privitylaw05_awake.mono _) (k := 40) (by kernel_rfl)
end Go.Proofs.Ytdbmhpfbbikjjaa.E
end
section
/-
  Guards, sums, and the hand-proved functions' answers, for the statements.
-/
namespace Go.Proofs.Ytdbmhpfbbikjjaa.E
open Go.RowKit Go.Proofs.Ytdbmhpfbbikjjaa.Pr Go.Proofs.Ytdbmhpfbbikjjaa.Hw Go.Proofs.Ytdbmhpfbbikjjaa.Pl Go.Proofs.YtdbmhpfbbikjjaaW.PrintWords Go.Proofs.YtdbmhpfbbikjjaaW.PrintLast Go.Proofs.YtdbmhpfbbikjjaaW.PrintMore
set_option linter.unusedVariables false
set_option linter.unusedSimpArgs false

theorem wf64 {x : Int} (h : (Lit.int .u64 x).wf = true) : 0 ≤ x ∧ x < 18446744073709551616 := by
  have h1 : IntKind.u64.min ≤ x ∧ x ≤ IntKind.u64.max := by simpa [Lit.wf] using h
  have e1 : IntKind.u64.min = 0 := by decide
  have e2 : IntKind.u64.max = 18446744073709551615 := by decide
  omega
/-- A check, and both ways on. -/
theorem ev_if {α : Type} {A : Nat → Option Bool} {b : Bool} (hA : Ev A b) {X Y : Nat → Option α} {r : α} (hx : b = true → Ev X r) (hy : b = false → Ev Y r) : Ev (fun k => (A k).bind fun t => if t = true then X k else Y k) r := by
  refine Ev.bind (f := fun k t => if t = true then X k else Y k) hA ?_
  cases b with
  | true => exact (hx rfl).congr fun k => if_pos rfl
  | false => exact (hy rfl).congr fun k => if_neg (by simp)
theorem ev_ite {α : Type} {c : Prop} [Decidable c] {X Y : Nat → Option α} {r : α} (hx : c → Ev X r) (hy : ¬ c → Ev Y r) : Ev (fun k => if c then X k else Y k) r := by
  by_cases h : c
  · exact (hx h).congr fun k => if_pos h
  · exact (hy h).congr fun k => if_neg h
/-- A running sum. -/
def accI (p : Int) (g : Nat → Int) : Nat → Int
  | 0 => 0
  | n + 1 => (accI p g n + g n) % p
theorem accI_res {p : Int} (hp : Supp p) (g : Nat → Int) : ∀ n, Res p (accI p g n)
  | 0 => by have := hp.bd; exact ⟨Int.le_refl 0, by show (0 : Int) < p; omega⟩
  | n + 1 => Res.mod hp _
end Go.Proofs.Ytdbmhpfbbikjjaa.E
end
section
/-
  The Vandermonde matrix is the specified one, and evaluates polynomials.
-/
namespace Go.Proofs.Ytdbmhpfbbikjjaa.Pure
open Go.RowKit Go.Proofs.Ytdbmhpfbbikjjaa.Pr Go.Proofs.Ytdbmhpfbbikjjaa.Hw Go.Proofs.Ytdbmhpfbbikjjaa.E Go.Proofs.YtdbmhpfbbikjjaaW.PrintWords Go.Proofs.YtdbmhpfbbikjjaaW.PrintLast Go.Proofs.YtdbmhpfbbikjjaaW.PrintMore
set_option linter.unusedVariables false
set_option linter.unusedSimpArgs false

def pwL (p x : Int) (n : Nat) : List Int := (List.range n).map fun i => x ^ i % p
theorem pwL_next (p x : Int) (n : Nat) : pwL p x n ++ [x ^ n % p] = pwL p x (n + 1) := by unfold pwL; rw [List.range_succ, List.map_append]; rfl
theorem pwL_length (p x : Int) (n : Nat) : (pwL p x n).length = n := by unfold pwL; simp
theorem pwL_getD (p x : Int) (n i : Nat) (h : i < n) : (pwL p x n).getD i 0 = x ^ i % p := by
  rw [Hw.getD_in _ _ (by rw [pwL_length]; exact h)]; simp [pwL]
def vanL (p : Int) (xs : List Int) (n : Nat) : List (List Int) := xs.map fun x => pwL p x n
theorem vanL_next (p : Int) (xs : List Int) (n i : Nat) (hi : i < xs.length) : vanL p (xs.take i) n ++ [pwL p (xs.getD i 0) n] = vanL p (xs.take (i + 1)) n := by
  unfold vanL; rw [List.take_succ_eq_append_getElem hi, List.map_append, Hw.getD_in _ _ hi]; rfl
theorem pow_next (p x : Int) (i : Nat) : x ^ i % p * x % p = x ^ (i + 1) % p := by rw [Int.pow_succ, mulm (modm p (x ^ i)) rfl]
theorem one_mod {p : Int} (hp : Supp p) (x : Int) : x ^ 0 % p = 1 := by have := hp.bd; rw [Int.pow_zero, Int.emod_eq_of_lt (by omega) (by omega)]
theorem van_ev {p : Int} (hp : Supp p) {xs : List Int} (hx : ∀ x ∈ xs, Res p x) (lx : xs.length ≤ 1000) (cols : Int) (hc : cols ≤ 1000) : Ev (fun k => interpolate_Vandermonde.f k p xs cols) (vanL p xs cols.toNat) := by
  refine up (Q := fun i => Ev (fun k => interpolate_Vandermonde.l0 k p cols (vanL p (xs.take i) cols.toNat) xs (xs.length : Int) (i : Int)) (vanL p xs cols.toNat)) (n := xs.length) ?_ ?_
  · rw [List.take_length]
    refine Ev.step (fun k => ?_) (Ev.now _)
    simp only [interpolate_Vandermonde.l0]
    rw [if_neg (by omega)]
  · intro i hi h
    rw [← vanL_next p xs _ i hi] at h
    have hr := res_getD hp hx i
    have row : Ev (fun k => interpolate_Vandermonde.l1 k p cols (vanL p (xs.take i) cols.toNat) (xs.getD i 0) (pwL p (xs.getD i 0) 0) ((xs.getD i 0) ^ 0 % p) xs (xs.length : Int) (i : Int)) (vanL p xs cols.toNat) := by
      refine up (Q := fun j => Ev (fun k => interpolate_Vandermonde.l1 k p cols (vanL p (xs.take i) cols.toNat) (xs.getD i 0) (pwL p (xs.getD i 0) j) ((xs.getD i 0) ^ j % p) xs (xs.length : Int) (i : Int)) (vanL p xs cols.toNat)) (n := cols.toNat) ?_ ?_
      · refine Ev.step (fun k => ?_) h
        simp only [interpolate_Vandermonde.l1]
        rw [if_neg (by rw [pwL_length]; omega), if_pos (by simp [vanL]; omega), wnat (by omega)]
      · intro j hj h2
        rw [← pwL_next, ← pow_next] at h2
        refine Ev.step (f := fun k => (field_Mul.f k p ((xs.getD i 0) ^ j % p) (xs.getD i 0)).bind fun t170 => (interpolate_Vandermonde.l1 k p cols (vanL p (xs.take i) cols.toNat) (xs.getD i 0) (pwL p (xs.getD i 0) j ++ [(xs.getD i 0) ^ j % p]) t170 xs (xs.length : Int) (i : Int))) (fun k => ?_) (Ev.bind (mul_ev hp (Res.mod hp _) hr) h2)
        simp only [interpolate_Vandermonde.l1]
        rw [if_pos (by rw [pwL_length]; omega), if_pos (by rw [pwL_length]; omega)]
    rw [one_mod hp] at row
    refine Ev.step (fun k => ?_) row
    simp only [interpolate_Vandermonde.l0]
    rw [if_pos (by omega), if_pos (by omega), if_pos (by omega), rd_nat]; rfl
theorem rvan_ev {p : Int} (hp : Supp p) {xs : List Int} (hx : ∀ x ∈ xs, Res p x) (lx : xs.length ≤ 1000) (n : Nat) (hc : n ≤ 1000) : Ev (fun k => privityref05_Vandermonde.f k p xs (n : Int)) (vanL p xs n) := by
  refine up (Q := fun i => Ev (fun k => privityref05_Vandermonde.l0 k p xs (n : Int) (vanL p (xs.take i) n) (i : Int)) (vanL p xs n)) (n := xs.length) ?_ ?_
  · rw [List.take_length]
    refine Ev.step (fun k => ?_) (Ev.now _)
    simp only [privityref05_Vandermonde.l0]
    rw [if_neg (by omega)]
  · intro i hi h
    rw [← vanL_next p xs _ i hi] at h
    have hr := res_getD hp hx i
    have row : Ev (fun k => privityref05_Vandermonde.l1 k p xs (n : Int) (vanL p (xs.take i) n) (i : Int) (pwL p (xs.getD i 0) 0) ((xs.getD i 0) ^ 0 % p) ((0 : Nat) : Int)) (vanL p xs n) := by
      refine up (Q := fun j => Ev (fun k => privityref05_Vandermonde.l1 k p xs (n : Int) (vanL p (xs.take i) n) (i : Int) (pwL p (xs.getD i 0) j) ((xs.getD i 0) ^ j % p) (j : Int)) (vanL p xs n)) (n := n) ?_ ?_
      · refine Ev.step (fun k => ?_) h
        simp only [privityref05_Vandermonde.l1]
        rw [if_neg (by omega), if_pos (by simp [vanL]; omega), wnat (by omega)]
      · intro j hj h2
        rw [← pwL_next, ← pow_next] at h2
        refine Ev.step (f := fun k => (privityref01_Mul.f k p ((xs.getD i 0) ^ j % p) (xs.getD i 0)).bind fun t436 => (privityref05_Vandermonde.l1 k p xs (n : Int) (vanL p (xs.take i) n) (i : Int) (pwL p (xs.getD i 0) j ++ [(xs.getD i 0) ^ j % p]) t436 ((j + 1 : Nat) : Int))) (fun k => ?_) (Ev.bind (rmul_ev hp (Res.mod hp _) hr) h2)
        simp only [privityref05_Vandermonde.l1]
        rw [if_pos (by omega), if_pos (by rw [pwL_length]; omega), if_pos (by omega), if_pos (by omega), rd_nat, wnat (by omega)]
    rw [one_mod hp] at row
    refine Ev.step (fun k => ?_) row
    simp only [privityref05_Vandermonde.l0]
    rw [if_pos (by omega)]; rfl
theorem accI_van {p : Int} (hp : Supp p) (f : List Int) (x : Int) : ∀ n, n ≤ f.length → accI p (fun i => x ^ i % p * f.getD i 0 % p) n = evI p x (f.take n)
  | 0, _ => by rw [List.take_zero]; rfl
  | n + 1, h => by rw [accI, accI_van hp f x n (by omega), ← evI_take_next hp f x (x ^ n % p) n rfl, Int.mul_comm (x ^ n % p)]
theorem van_skip (p : Int) (xs f : List Int) : Ev (fun k => privitylaw05_InterpolateVandermondeEvaluates.j0 k p xs f true) true :=
  Ev.step (f := fun _ => some true) (fun k => by simp only [privitylaw05_InterpolateVandermondeEvaluates.j0]; rw [if_pos trivial]) (Ev.now _)
theorem vanL_length (p : Int) (xs : List Int) (n : Nat) : (vanL p xs n).length = xs.length := by simp [vanL]
theorem vanL_rd (p : Int) (xs : List Int) (n i : Nat) (hi : i < xs.length) : rd_L1 (vanL p xs n) (i : Int) = pwL p (xs.getD i 0) n := by
  rw [rdL_nat, List.getD_eq_getElem?_getD, List.getElem?_eq_getElem (by rw [vanL_length]; exact hi), Hw.getD_in _ _ hi]; simp [vanL]
theorem van_main {p : Int} (hp : Supp p) {xs f : List Int} (hx : ∀ x ∈ xs, Res p x) (hf : ∀ x ∈ f, Res p x) (lx : xs.length ≤ 12) (lf : f.length ≤ 12) : Ev (fun k => privitylaw05_InterpolateVandermondeEvaluates.j0 k p xs f false) true := by
  have main : Ev (fun k => privitylaw05_InterpolateVandermondeEvaluates.l0 k p xs f (vanL p xs f.length) ((0 : Nat) : Int)) true := by
    refine up (Q := fun i => Ev (fun k => privitylaw05_InterpolateVandermondeEvaluates.l0 k p xs f (vanL p xs f.length) (i : Int)) true) (n := xs.length) ?_ ?_
    · refine Ev.step (fun k => ?_) (Ev.now _)
      simp only [privitylaw05_InterpolateVandermondeEvaluates.l0]
      rw [if_neg (by omega)]
    · intro i hi h
      have hr := res_getD hp hx i
      have hrow := vanL_rd p xs f.length i hi
      have row : Ev (fun k => privitylaw05_InterpolateVandermondeEvaluates.l1 k p xs f (vanL p xs f.length) (i : Int) (accI p (fun j => (xs.getD i 0) ^ j % p * f.getD j 0 % p) 0) ((0 : Nat) : Int)) true := by
        refine up (Q := fun j => Ev (fun k => privitylaw05_InterpolateVandermondeEvaluates.l1 k p xs f (vanL p xs f.length) (i : Int) (accI p (fun j => (xs.getD i 0) ^ j % p * f.getD j 0 % p) j) (j : Int)) true) (n := f.length) ?_ ?_
        · rw [accI_van hp f _ _ (Nat.le_refl _), List.take_length]
          refine Ev.step (f := fun k => (poly_Eval.f k p f (xs.getD i 0)).bind fun t460 => (if evI p (xs.getD i 0) f = t460 then (privitylaw05_InterpolateVandermondeEvaluates.l0 k p xs f (vanL p xs f.length) ((i + 1 : Nat) : Int)) else (some false))) (fun k => ?_) (Ev.bind (eval_ev hp hr f hf (by omega)) (h.congr fun k => if_pos rfl))
          simp only [privitylaw05_InterpolateVandermondeEvaluates.l1]
          rw [if_neg (by omega), if_pos (by omega), if_pos (by omega), rd_nat, wnat (by omega)]
        · intro j hj h2
          have hm : Ev (fun k => field_Mul.f k p ((pwL p (xs.getD i 0) f.length).getD j 0) (f.getD j 0)) ((xs.getD i 0) ^ j % p * f.getD j 0 % p) := by
            rw [pwL_getD _ _ _ _ hj]; exact mul_ev hp (Res.mod hp _) (res_getD hp hf j)
          refine Ev.step (f := fun k => (field_Mul.f k p ((pwL p (xs.getD i 0) f.length).getD j 0) (f.getD j 0)).bind fun t457 => ((field_Add.f k p (accI p (fun j => (xs.getD i 0) ^ j % p * f.getD j 0 % p) j) t457).bind fun t458 => (privitylaw05_InterpolateVandermondeEvaluates.l1 k p xs f (vanL p xs f.length) (i : Int) t458 ((j + 1 : Nat) : Int)))) (fun k => ?_) (Ev.bind hm (Ev.bind (add_ev hp (accI_res hp _ _) (Res.mod hp _)) h2))
          simp only [privitylaw05_InterpolateVandermondeEvaluates.l1]
          rw [if_pos (by omega), if_pos (by omega), if_pos (by rw [vanL_length]; omega), if_pos (by omega), hrow, if_pos (by rw [pwL_length]; omega), rd_nat, rd_nat, wnat (by omega)]
      refine Ev.step (fun k => ?_) row
      simp only [privitylaw05_InterpolateVandermondeEvaluates.l0]
      rw [if_pos (by omega)]; rfl
  have h1 : Ev (fun k => privitylaw05_InterpolateVandermondeEvaluates.j1 k p xs f (vanL p xs f.length) false) true := by
    refine Ev.step (fun k => ?_) main
    simp only [privitylaw05_InterpolateVandermondeEvaluates.j1]
    rw [if_neg (by simp)]; rfl
  have hv := van_ev hp hx (by omega) (f.length : Int) (by omega)
  rw [Int.toNat_natCast] at hv
  have hv2 := van_ev hp hx (by omega) (-1) (by omega)
  refine Ev.step (f := fun k => (interpolate_Vandermonde.f k p xs (f.length : Int)).bind fun t444 => ((privityref05_Vandermonde.f k p xs (f.length : Int)).bind fun t447 => ((privityref05_SameRows.f k t444 t447).bind fun t450 => (if t450 = true then ((interpolate_Vandermonde.f k p xs (-1)).bind fun t451 => (privitylaw05_InterpolateVandermondeEvaluates.j1 k p xs f t444 ((t451.length : Int) != (xs.length : Int)))) else (privitylaw05_InterpolateVandermondeEvaluates.j1 k p xs f t444 true))))) (fun k => ?_)
    (Ev.bind hv (Ev.bind (rvan_ev hp hx (by omega) f.length (by omega)) (ev_if (sameRows_ev _ _ (by rw [vanL_length]; omega) (fun r hr => ?_)) (fun _ => Ev.bind hv2 ?_) fun h => ?_)))
  · simp only [privitylaw05_InterpolateVandermondeEvaluates.j0]
    rw [if_neg (by simp)]
  · obtain ⟨x, _, rfl⟩ := List.mem_map.1 hr
    rw [pwL_length]; omega
  · rw [vanL_length, show ((xs.length : Int) != (xs.length : Int)) = false from by simp]; exact h1
  · exact absurd rfl (of_decide_eq_false h)
theorem InterpolateVandermondeEvaluates : privitylaw05_InterpolateVandermondeEvaluates.Pure := by
  intro p xs f wp _ _ wx _ _ wf
  refine Ev.rounds (r := true) ?_
  refine ev_if awake05 (fun _ => ev_if (supported_ev p) (fun hs => ev_ite (fun _ => van_skip p xs f) fun h1 => ev_ite (fun _ => van_skip p xs f) fun h2 =>
    ev_if (below_ev p xs (by omega)) (fun hb1 => Ev.bind (below_ev p f (by omega)) ?_) fun _ => van_skip p xs f) fun _ => van_skip p xs f) (fun h => by cases h)
  cases hb2 : belowB p f with
  | false => exact van_skip p xs f
  | true => exact van_main (supB_of hs) (below_res hb1 fun x hx => (wf64 (wx x hx)).1) (below_res hb2 fun x hx => (wf64 (wf x hx)).1) (by omega) (by omega)
end Go.Proofs.Ytdbmhpfbbikjjaa.Pure
end
section
/- Printed by a program of this seat (the kit's printer, with the functions that were proved by hand given to it). What stands here: the functions that the statements reach, as plain functions, and that the Go code computes them. -/
namespace Go.Proofs.Ytdbmhpfbbikjjaa.interpolateVandermondeEvaluates
open Go.ChangeShapes Go.WideShapes Go.ChangeAt Go.RowKit
open Go.ChangeMaps (open_string shut_string)
set_option linter.unusedVariables false
theorem own : ownKnob Try.prog.godebug = none := by kernel_rfl
theorem laidOut : laidOutB Try.prog = true := by kernel_rfl
def IsRow (k : IntKind) (w : World) (a : Option Addr) (len cap : Nat) (zs : List Int) : Prop :=
  (a = none ∧ len = 0 ∧ cap = 0 ∧ zs = []) ∨
  ∃ x, a = some x ∧ len ≤ cap ∧ cap ≤ maxLen ∧ zs.length = cap ∧ (∀ i, i < zs.length → w.cell? (x.add i) = some (.int k (zs.getD i 0))) ∧ ∀ n ∈ zs, (Lit.int k n).wf = true
set_option maxRecDepth 100000 in
theorem lifted (os : Os) (started : os.Started) (H : Type) (enc : TypeId × Value → H) :
    ReturnsInHanded {} Try.checked os 8 .any (Rows.interpolateVandermondeEvaluatesSpec.pre6 enc Try.prog Try.f8 Rows.interpolateVandermondeEvaluatesRow.domain false) (Rows.interpolateVandermondeEvaluatesSpec.post enc Try.prog Try.f8 false true false false) := by
  refine returnsInHanded_of_change_sized (C := Try.checked) own started (by kernel_rfl) Try.func8
    (ChangeSpec.witness6 (enc := enc) (C := Try.checked) false ⟨#[], #[.int .u64 0, .slice none 0 0, .slice none 0 0], []⟩ 8 (by kernel_rfl) (by kernel_rfl) (by kernel_rfl) (by kernel_rfl)) ?_
  intro W base args ds gs before hval0 hW hcnd hsz0 _
  have hsz : (DataW.weightsEach Try.prog (Try.f8.params.toList ++ Rows.interpolateVandermondeEvaluatesSpec.plain.varTypes Try.prog) (ds ++ gs)).all (· ≤ reachBytes) = true := hsz0
  have hval : ∀ (j : Nat) t v, Try.f8.params[j]? = some t → args[j]? = some v → Value.okWide Try.prog W .any base t v := hval0
  have hW' := hW
  obtain ⟨p, q, hA0, hV, rfl, hfz, hnd⟩ := hW
  have hA : DataW.TrodAll enc Try.prog W 0 (fun _ => true) true Try.f8.params.toList args.toList ds p := hA0
  rw [Try.params8] at hA hval hsz
  obtain ⟨v0, vs0, d0, ds0, p0, q0, hargs, rfl, rfl, h0, r0⟩ := trodAll_cons hA
  obtain ⟨v1, vs1, d1, ds1, p1, q1, rfl, rfl, rfl, h1, r1⟩ := trodAll_cons r0
  obtain ⟨v2, vs2, d2, ds2, p2, q2, rfl, rfl, rfl, h2, r2⟩ := trodAll_cons r1
  obtain ⟨rfl, rfl, rfl⟩ := trodAll_nil r2
  obtain rfl : args = #[v0, v1, v2] := by cases args; simp_all
  obtain ⟨rfl, rfl⟩ := trodVars_none hV
  obtain ⟨a0, rfl, rfl, rfl, w0⟩ := open_int Try.underlying22 (hval 0 22 v0 rfl rfl) h0
  obtain ⟨a1, len1, cap1, rfl⟩ := okWide_slice Try.underlying23 (hval 1 23 v1 rfl rfl)
  have k1 := h1
  have lt1 : ∀ x ∈ p1, x.block < W.heap.size := by obtain ⟨m, hm⟩ := k1; exact DataW.trod_lt m _ _ _ hm
  obtain ⟨z1, w1⟩ : ∃ zs, IsRow .u64 W a1 len1 cap1 zs := by
    obtain ⟨fuel, hf⟩ := h1
    rcases open_ints Try.underlying23 Try.underlying22 (by kernel_rfl) hf with ⟨hcs, _⟩ | ⟨x, l, c, zs, hcs, _, hl, hm, hz, _, hcell, hwz⟩
    · simp [Value.cells] at hcs
      obtain ⟨rfl, rfl, rfl⟩ := hcs
      exact ⟨[], .inl ⟨rfl, rfl, rfl, rfl⟩⟩
    · simp [Value.cells] at hcs
      obtain ⟨rfl, rfl, rfl⟩ := hcs
      exact ⟨zs, .inr ⟨_, rfl, hl, hm, by simpa using hz, hcell, hwz⟩⟩
  have y1 : len1 * 8 ≤ 140737488351232 := Go.Proofs.YtdbmhpfbbikjjaaW.PrintWords.sized_ints hsz (j := 1) (t := 23) rfl rfl Try.underlying23 Try.underlying22 (by kernel_rfl) (by kernel_rfl) h1
  obtain ⟨a2, len2, cap2, rfl⟩ := okWide_slice Try.underlying23 (hval 2 23 v2 rfl rfl)
  have k2 := h2
  have lt2 : ∀ x ∈ p2, x.block < W.heap.size := by obtain ⟨m, hm⟩ := k2; exact DataW.trod_lt m _ _ _ hm
  obtain ⟨z2, w2⟩ : ∃ zs, IsRow .u64 W a2 len2 cap2 zs := by
    obtain ⟨fuel, hf⟩ := h2
    rcases open_ints Try.underlying23 Try.underlying22 (by kernel_rfl) hf with ⟨hcs, _⟩ | ⟨x, l, c, zs, hcs, _, hl, hm, hz, _, hcell, hwz⟩
    · simp [Value.cells] at hcs
      obtain ⟨rfl, rfl, rfl⟩ := hcs
      exact ⟨[], .inl ⟨rfl, rfl, rfl, rfl⟩⟩
    · simp [Value.cells] at hcs
      obtain ⟨rfl, rfl, rfl⟩ := hcs
      exact ⟨zs, .inr ⟨_, rfl, hl, hm, by simpa using hz, hcell, hwz⟩⟩
  have y2 : len2 * 8 ≤ 140737488351232 := Go.Proofs.YtdbmhpfbbikjjaaW.PrintWords.sized_ints hsz (j := 2) (t := 23) rfl rfl Try.underlying23 Try.underlying22 (by kernel_rfl) (by kernel_rfl) h2
  clear hA0 hval0 hsz0 hsz
  refine (Pr.privitylaw05_InterpolateVandermondeEvaluates.walk Pure.InterpolateVandermondeEvaluates a0 a1 len1 cap1 z1 a2 len2 cap2 z2 W w0 w1 y1 w2 y2).mono fun e W' ⟨he, bel⟩ => ?_
  subst he
  exact ⟨_, rfl, _, _, _, [], _, [], hW', trodAll_mk1 (shut_bool Try.underlying4 _), (trodAll_cons_mk (shut_int Try.underlying22 w0) (trodAll_cons_mk (Below.trod laidOut (by kernel_rfl) (of_decide_eq_true (by kernel_rfl)) k1 bel lt1) (trodAll_cons_mk (Below.trod laidOut (by kernel_rfl) (of_decide_eq_true (by kernel_rfl)) k2 bel lt2) trodAll_mk0))), rfl, bel.frame _, fun h => by cases h⟩
theorem over : Rows.interpolateVandermondeEvaluatesRow.holds Try.pinned (OpenSpec.ofChange Rows.interpolateVandermondeEvaluatesSpec) :=
  OpenClaim.holds_of_wide 8 Try.f8 rfl rfl rfl rfl rfl rfl rfl ⟨rfl, rfl, rfl, rfl, rfl⟩ rfl rfl rfl rfl rfl (by kernel_rfl) Try.func8 (by kernel_rfl)
    (of_decide_eq_true (by kernel_rfl)) (by unfold Func.isWrapper; first | (rw [if_pos (by decide +kernel)]; kernel_rfl) | (rw [if_neg (by decide +kernel)]; exact ⟨rfl, rfl⟩))
    (fun os started H enc _ => lifted os started H enc)
theorem proved : Rows.InterpolateVandermondeEvaluatesSaid := over
#print axioms proved
end Go.Proofs.Ytdbmhpfbbikjjaa.interpolateVandermondeEvaluates
namespace Go.Proofs.Ytdbmhpfbbikjjaa
/-- The row, under a short name, for the claim. -/
theorem interpolateVandermondeEvaluates_holds : Rows.InterpolateVandermondeEvaluatesSaid := interpolateVandermondeEvaluates.proved
end Go.Proofs.Ytdbmhpfbbikjjaa
end
