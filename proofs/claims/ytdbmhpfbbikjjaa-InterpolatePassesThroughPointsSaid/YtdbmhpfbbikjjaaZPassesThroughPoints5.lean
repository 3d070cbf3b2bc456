/- The row of the law InterpolatePassesThroughPoints, out of its plain law and the walk. -/
import Derived.Test.YtdbmhpfbbikjjaaZPassesThroughPoints1
import Derived.Test.YtdbmhpfbbikjjaaZPassesThroughPoints3
import Derived.Test.YtdbmhpfbbikjjaaZPassesThroughPoints4
import Derived.Test.YtdbmhpfbbikjjaaZPassesThroughPoints2
import Derived.Test.YtdbmhpfbbikjjaaProg
import Derived.ChangeArms
import Derived.DataReads
import Derived.DataElems
import Derived.ShutString
import Derived.ChangeSame
import Derived.Test.YtdbmhpfbbikjjaaZPassesThroughPoints0
import Derived.Test.YtdbmhpfbbikjjaaRows
import Derived.WalkKit
import Derived.ProofKit
import Derived.OpenShut
import Derived.ChangeOld
import Derived.Below
import Derived.SizedLaws
section
/- Printed by a program of this seat (the kit's printer, with the functions that were proved by hand given to it). What stands here: the functions that the statements reach, as plain functions, and that the Go code computes them. -/
namespace Go.Proofs.Ytdbmhpfbbikjjaa.Pr
open Go.RowKit Go.Proofs.YtdbmhpfbbikjjaaW.PrintWords Go.Proofs.YtdbmhpfbbikjjaaW.PrintLast Go.Proofs.YtdbmhpfbbikjjaaW.PrintMore
attribute [local go_sem] max2_int min2_int max_two min_two max_three min_three max_four min_four   -- for this text's walks alone
set_option linter.unusedVariables false
set_option linter.unusedSimpArgs false

open Go.Proofs.Ytdbmhpfbbikjjaa.Hw
/-! ### privitylaw05_InterpolatePassesThroughPoints: function 5 -/
mutual
def privitylaw05_InterpolatePassesThroughPoints.j0 : Nat → Int → List (S38) → Bool → Option (Bool)
  | 0, _, _, _ => none
  | k + 1, x0, x1, x25 => if x25 = true then (some true) else ((interpolate_Polynomial.f x0 x1).bind fun bt385 => ((privityref05_Polynomial.f k x0 x1).bind fun bt389 => (if bt385.2 = bt389.2 then ((privityref05_Same.f k bt385.1 bt389.1).bind fun t393 => (privitylaw05_InterpolatePassesThroughPoints.j1 k x0 x1 bt385.1 bt385.2 (!t393))) else (privitylaw05_InterpolatePassesThroughPoints.j1 k x0 x1 bt385.1 bt385.2 true))))
def privitylaw05_InterpolatePassesThroughPoints.j1 : Nat → Int → List (S38) → List Int → Int → Bool → Option (Bool)
  | 0, _, _, _, _, _ => none
  | k + 1, x0, x1, x5, x6, x46 => if x46 = true then (some false) else (privitylaw05_InterpolatePassesThroughPoints.l0 k x0 x1 x5 x6 0)
def privitylaw05_InterpolatePassesThroughPoints.l0 : Nat → Int → List (S38) → List Int → Int → Int → Option (Bool)
  | 0, _, _, _, _, _ => none
  | k + 1, x0, x1, x5, x6, x9 => if x9 < (x1.length : Int) then (privitylaw05_InterpolatePassesThroughPoints.j3 k x0 x1 x5 x6 x9 (x6 == 0)) else (privitylaw05_InterpolatePassesThroughPoints.j3 k x0 x1 x5 x6 x9 false)
def privitylaw05_InterpolatePassesThroughPoints.j3 : Nat → Int → List (S38) → List Int → Int → Int → Bool → Option (Bool)
  | 0, _, _, _, _, _, _ => none
  | k + 1, x0, x1, x5, x6, x9, x54 => if x54 = true then (if 0 ≤ x9 then (if x9 < (x1.length : Int) then ((poly_Eval.f k x0 x5 ((rd_T38 x1 x9).f0)).bind fun t395 => (if t395 = ((rd_T38 x1 x9).f1) then (privitylaw05_InterpolatePassesThroughPoints.l0 k x0 x1 x5 x6 (wrap64 (x9 + 1))) else (some false))) else (none)) else (none)) else (some true)
end
def privitylaw05_InterpolatePassesThroughPoints.f (k : Nat) (a0 : Int) (l1 : List (S38)) : Option (Bool) := (privitylaw05_awake.f k).bind fun t382 => (if t382 = true then ((privityref01_Supported.f k a0).bind fun t383 => (if t383 = true then (if (l1.length : Int) > 12 then (privitylaw05_InterpolatePassesThroughPoints.j0 k a0 l1 true) else ((privityref05_Points.f k a0 l1).bind fun t384 => (privitylaw05_InterpolatePassesThroughPoints.j0 k a0 l1 (!t384)))) else (privitylaw05_InterpolatePassesThroughPoints.j0 k a0 l1 true))) else (some false))
set_option maxHeartbeats 8000000 in
set_option maxRecDepth 100000 in
theorem privitylaw05_InterpolatePassesThroughPoints.calls (k : Nat) (a0 : Int) (A1 : Option Addr) (c1 : Nat) (l1 : List (S38)) (r : Bool) (w : World) (hr1 : Kd.C k38 w A1 l1.length l1) (hc1 : l1.length ≤ c1) (h : privitylaw05_InterpolatePassesThroughPoints.f k a0 l1 = some r) :
    Calls Try.prog 5 #[.int .u64 a0, .slice A1 l1.length c1] w fun e w' => e = .returned (.bool r) ∧ Below w.heap.size w w' := by
  have HR1 := Aside0.mk hr1
  have HC1 := Aside0.mk hc1
  clear hr1 hc1
  have HB := Aside0.mk (Below.refl w.heap.size w)
  have H : ((privitylaw05_awake.f k).bind fun t382 => (if t382 = true then ((privityref01_Supported.f k a0).bind fun t383 => (if t383 = true then (if (l1.length : Int) > 12 then (privitylaw05_InterpolatePassesThroughPoints.j0 k a0 l1 true) else ((privityref05_Points.f k a0 l1).bind fun t384 => (privitylaw05_InterpolatePassesThroughPoints.j0 k a0 l1 (!t384)))) else (privitylaw05_InterpolatePassesThroughPoints.j0 k a0 l1 true))) else (some false))) = some r := h
  clear h
  replace H := Option.bind_eq_some_iff.mp H
  obtain ⟨t382, A30, H⟩ := H
  replace H : (if t382 = true then ((privityref01_Supported.f k a0).bind fun t383 => (if t383 = true then (if (l1.length : Int) > 12 then (privitylaw05_InterpolatePassesThroughPoints.j0 k a0 l1 true) else ((privityref05_Points.f k a0 l1).bind fun t384 => (privitylaw05_InterpolatePassesThroughPoints.j0 k a0 l1 (!t384)))) else (privitylaw05_InterpolatePassesThroughPoints.j0 k a0 l1 true))) else (some false)) = some r := H
  have A3 := Aside0.mk A30
  clear A30
  by_cases c4 : t382 = true
  · subst c4
    have H1 : ((privityref01_Supported.f k a0).bind fun t383 => (if t383 = true then (if (l1.length : Int) > 12 then (privitylaw05_InterpolatePassesThroughPoints.j0 k a0 l1 true) else ((privityref05_Points.f k a0 l1).bind fun t384 => (privitylaw05_InterpolatePassesThroughPoints.j0 k a0 l1 (!t384)))) else (privitylaw05_InterpolatePassesThroughPoints.j0 k a0 l1 true))) = some r := by rw [if_pos rfl] at H; exact H
    clear H
    have H := H1
    clear H1
    have HC5 := Aside0.mk H
    clear H
    go_enter Try.func5, Try.ntmps5
    go_upto_region 3 with (first | (go_at_call 10; (with_reducible refine (privitylaw05_awake.calls k  true _ A3.out).mono ?_); rintro e w6 ⟨rfl, hb⟩; have n0_ := Aside0.mk (below_step (by repeat (first | (with_reducible first | exact HB.out | apply below_alloc | apply pw_below_drewN | apply below_drew1) | exact HB.out)) hb); clear HB; have HB := n0_; clear n0_; (try clear hb); (try clear hb2); (try clear hk); (try clear hi)))
    repeat (go_quiet (first | (go_at_call 10; (with_reducible refine (privitylaw05_awake.calls k  true _ A3.out).mono ?_); rintro e w6 ⟨rfl, hb⟩; have n0_ := Aside0.mk (below_step (by repeat (first | (with_reducible first | exact HB.out | apply below_alloc | apply pw_below_drewN | apply below_drew1) | exact HB.out)) hb); clear HB; have HB := n0_; clear n0_; (try clear hb); (try clear hb2); (try clear hk); (try clear hi))); go_upto_region 3 with (first | (go_at_call 10; (with_reducible refine (privitylaw05_awake.calls k  true _ A3.out).mono ?_); rintro e w6 ⟨rfl, hb⟩; have n0_ := Aside0.mk (below_step (by repeat (first | (with_reducible first | exact HB.out | apply below_alloc | apply pw_below_drewN | apply below_drew1) | exact HB.out)) hb); clear HB; have HB := n0_; clear n0_; (try clear hb); (try clear hb2); (try clear hk); (try clear hi))))
    (try simp only [Act.put, List.setIfInBounds_toArray, List.set_cons_zero, List.set_cons_succ])
    go_cut [25] (fun v25 wc => ∃ (kq : Nat) (x25_4 : Bool), v25 = .bool x25_4 ∧ Aside0 (privitylaw05_InterpolatePassesThroughPoints.j0 kq a0 l1 x25_4 = some r) ∧ Aside0 (kq ≤ k) ∧ Aside0 (Below w.heap.size w wc))
    case first =>
      have H := HC5.out
      clear HC5
      replace H := Option.bind_eq_some_iff.mp H
      obtain ⟨t383, A70, H⟩ := H
      replace H : (if t383 = true then (if (l1.length : Int) > 12 then (privitylaw05_InterpolatePassesThroughPoints.j0 k a0 l1 true) else ((privityref05_Points.f k a0 l1).bind fun t384 => (privitylaw05_InterpolatePassesThroughPoints.j0 k a0 l1 (!t384)))) else (privitylaw05_InterpolatePassesThroughPoints.j0 k a0 l1 true)) = some r := H
      have A7 := Aside0.mk A70
      clear A70
      by_cases c8 : t383 = true
      · subst c8
        have H1 : (if (l1.length : Int) > 12 then (privitylaw05_InterpolatePassesThroughPoints.j0 k a0 l1 true) else ((privityref05_Points.f k a0 l1).bind fun t384 => (privitylaw05_InterpolatePassesThroughPoints.j0 k a0 l1 (!t384)))) = some r := by rw [if_pos rfl] at H; exact H
        clear H
        have H := H1
        clear H1
        by_cases c9 : (l1.length : Int) > 12
        · rw [if_pos c9] at H
          have c9b0 : decide (12 < (l1.length : Int)) = true := decide_eq_true c9
          have c9b1 : decide (12 < l1.length) = true := decide_eq_true (by omega)
          clear c9
          (first | rw [c9b0] | (simp only [i64_w, i32_w]; rw [c9b0]) | skip)
          have H' := Aside0.mk H
          clear H
          go_wp2_with (first | (go_at_call 11; (with_reducible refine (privityref01_Supported.calls k a0 true _ A7.out).mono ?_); rintro e w10 ⟨rfl, hb⟩; have n0_ := Aside0.mk (below_step (by repeat (first | (with_reducible first | exact HB.out | apply below_alloc | apply pw_below_drewN | apply below_drew1) | exact HB.out)) hb); clear HB; have HB := n0_; clear n0_; (try clear hb); (try clear hb2); (try clear hk); (try clear hi)))
          repeat (go_quiet (first | (go_at_call 11; (with_reducible refine (privityref01_Supported.calls k a0 true _ A7.out).mono ?_); rintro e w10 ⟨rfl, hb⟩; have n0_ := Aside0.mk (below_step (by repeat (first | (with_reducible first | exact HB.out | apply below_alloc | apply pw_below_drewN | apply below_drew1) | exact HB.out)) hb); clear HB; have HB := n0_; clear n0_; (try clear hb); (try clear hb2); (try clear hk); (try clear hi))); try go_wp2_with (first | (go_at_call 11; (with_reducible refine (privityref01_Supported.calls k a0 true _ A7.out).mono ?_); rintro e w10 ⟨rfl, hb⟩; have n0_ := Aside0.mk (below_step (by repeat (first | (with_reducible first | exact HB.out | apply below_alloc | apply pw_below_drewN | apply below_drew1) | exact HB.out)) hb); clear HB; have HB := n0_; clear n0_; (try clear hb); (try clear hb2); (try clear hk); (try clear hi))))
          go_meet
          case rel => exact ⟨_, (true), (by first | rfl | (simp; done) | (simp [*]; done)), H', ⟨by first | omega | exact Nat.le_refl _⟩, ⟨by repeat (first | (with_reducible first | exact HB.out | apply below_alloc | apply pw_below_drewN | apply below_drew1) | exact HB.out)⟩⟩
        · rw [if_neg c9] at H
          have c9b0 : decide (12 < (l1.length : Int)) = false := decide_eq_false c9
          have c9b1 : decide (12 < l1.length) = false := decide_eq_false (by omega)
          clear c9
          (first | rw [c9b0] | (simp only [i64_w, i32_w]; rw [c9b0]) | skip)
          replace H := Option.bind_eq_some_iff.mp H
          obtain ⟨t384, A110, H⟩ := H
          replace H : (privitylaw05_InterpolatePassesThroughPoints.j0 k a0 l1 (!t384)) = some r := H
          have A11 := Aside0.mk A110
          clear A110
          have H' := Aside0.mk H
          clear H
          go_wp2_with (first | (go_at_call 11; (with_reducible refine (privityref01_Supported.calls k a0 true _ A7.out).mono ?_); rintro e w12 ⟨rfl, hb⟩; have n0_ := Aside0.mk (below_step (by repeat (first | (with_reducible first | exact HB.out | apply below_alloc | apply pw_below_drewN | apply below_drew1) | exact HB.out)) hb); clear HB; have HB := n0_; clear n0_; (try clear hb); (try clear hb2); (try clear hk); (try clear hi)) | (go_at_call 17; (with_reducible refine (privityref05_Points.calls k a0 _ _ l1 t384 _ ?side1 ?side2 A11.out).mono ?_); (case side1 => repeat (first | exact (Kd.C_below HR1.out HB.out) | (with_reducible refine Kd.C_alloc ?_ _) | (with_reducible refine Kd.C_drewN ?_ _) | (with_reducible refine Kd.C_drew ?_))); (case side2 => exact HC1.out); rintro e w' ⟨rfl, ⟨nd, rfl⟩⟩; (try first | exact ⟨rfl, _, World.drewN_drewN _ _ _⟩ | exact ⟨rfl, _, Eq.trans (World.drewN_drewN _ _ _) (congrArg (World.drewN _) (Nat.add_assoc _ _ _))⟩)))
          repeat (go_quiet (first | (go_at_call 11; (with_reducible refine (privityref01_Supported.calls k a0 true _ A7.out).mono ?_); rintro e w12 ⟨rfl, hb⟩; have n0_ := Aside0.mk (below_step (by repeat (first | (with_reducible first | exact HB.out | apply below_alloc | apply pw_below_drewN | apply below_drew1) | exact HB.out)) hb); clear HB; have HB := n0_; clear n0_; (try clear hb); (try clear hb2); (try clear hk); (try clear hi)) | (go_at_call 17; (with_reducible refine (privityref05_Points.calls k a0 _ _ l1 t384 _ ?side1 ?side2 A11.out).mono ?_); (case side1 => repeat (first | exact (Kd.C_below HR1.out HB.out) | (with_reducible refine Kd.C_alloc ?_ _) | (with_reducible refine Kd.C_drewN ?_ _) | (with_reducible refine Kd.C_drew ?_))); (case side2 => exact HC1.out); rintro e w' ⟨rfl, ⟨nd, rfl⟩⟩; (try first | exact ⟨rfl, _, World.drewN_drewN _ _ _⟩ | exact ⟨rfl, _, Eq.trans (World.drewN_drewN _ _ _) (congrArg (World.drewN _) (Nat.add_assoc _ _ _))⟩))); try go_wp2_with (first | (go_at_call 11; (with_reducible refine (privityref01_Supported.calls k a0 true _ A7.out).mono ?_); rintro e w12 ⟨rfl, hb⟩; have n0_ := Aside0.mk (below_step (by repeat (first | (with_reducible first | exact HB.out | apply below_alloc | apply pw_below_drewN | apply below_drew1) | exact HB.out)) hb); clear HB; have HB := n0_; clear n0_; (try clear hb); (try clear hb2); (try clear hk); (try clear hi)) | (go_at_call 17; (with_reducible refine (privityref05_Points.calls k a0 _ _ l1 t384 _ ?side1 ?side2 A11.out).mono ?_); (case side1 => repeat (first | exact (Kd.C_below HR1.out HB.out) | (with_reducible refine Kd.C_alloc ?_ _) | (with_reducible refine Kd.C_drewN ?_ _) | (with_reducible refine Kd.C_drew ?_))); (case side2 => exact HC1.out); rintro e w' ⟨rfl, ⟨nd, rfl⟩⟩; (try first | exact ⟨rfl, _, World.drewN_drewN _ _ _⟩ | exact ⟨rfl, _, Eq.trans (World.drewN_drewN _ _ _) (congrArg (World.drewN _) (Nat.add_assoc _ _ _))⟩))))
          go_meet
          case rel => exact ⟨_, (!t384), (by first | rfl | (simp; done) | (simp [*]; done)), H', ⟨by first | omega | exact Nat.le_refl _⟩, ⟨by repeat (first | (with_reducible first | exact HB.out | apply below_alloc | apply pw_below_drewN | apply below_drew1) | exact HB.out)⟩⟩
      · replace c8 := Bool.eq_false_iff.mpr c8
        subst c8
        have H1 : (privitylaw05_InterpolatePassesThroughPoints.j0 k a0 l1 true) = some r := by rw [if_neg (show ¬ (false = true) by decide)] at H; exact H
        clear H
        have H := H1
        clear H1
        have H' := Aside0.mk H
        clear H
        go_wp2_with (first | (go_at_call 11; (with_reducible refine (privityref01_Supported.calls k a0 false _ A7.out).mono ?_); rintro e w13 ⟨rfl, hb⟩; have n0_ := Aside0.mk (below_step (by repeat (first | (with_reducible first | exact HB.out | apply below_alloc | apply pw_below_drewN | apply below_drew1) | exact HB.out)) hb); clear HB; have HB := n0_; clear n0_; (try clear hb); (try clear hb2); (try clear hk); (try clear hi)))
        repeat (go_quiet (first | (go_at_call 11; (with_reducible refine (privityref01_Supported.calls k a0 false _ A7.out).mono ?_); rintro e w13 ⟨rfl, hb⟩; have n0_ := Aside0.mk (below_step (by repeat (first | (with_reducible first | exact HB.out | apply below_alloc | apply pw_below_drewN | apply below_drew1) | exact HB.out)) hb); clear HB; have HB := n0_; clear n0_; (try clear hb); (try clear hb2); (try clear hk); (try clear hi))); try go_wp2_with (first | (go_at_call 11; (with_reducible refine (privityref01_Supported.calls k a0 false _ A7.out).mono ?_); rintro e w13 ⟨rfl, hb⟩; have n0_ := Aside0.mk (below_step (by repeat (first | (with_reducible first | exact HB.out | apply below_alloc | apply pw_below_drewN | apply below_drew1) | exact HB.out)) hb); clear HB; have HB := n0_; clear n0_; (try clear hb); (try clear hb2); (try clear hk); (try clear hi))))
        go_meet
        case rel => exact ⟨_, (true), (by first | rfl | (simp; done) | (simp [*]; done)), H', ⟨by first | omega | exact Nat.le_refl _⟩, ⟨by repeat (first | (with_reducible first | exact HB.out | apply below_alloc | apply pw_below_drewN | apply below_drew1) | exact HB.out)⟩⟩
    case rest =>
      clear HC5
      try clear c1
      try clear p2
      try clear c4
      try clear c5
      try clear c8
      try clear c9
      try clear c9b0
      try clear c9b1
      obtain ⟨kq, x25_4, rfl, HA, HJ4, HB⟩ := hcut
      cases kq with
      | zero => exact absurd HA.out (by simp [privitylaw05_InterpolatePassesThroughPoints.j0])
      | succ kj4 =>
        have H := HA.out
        clear HA
        simp only [privitylaw05_InterpolatePassesThroughPoints.j0] at H
        by_cases c14 : x25_4 = true
        · subst c14
          have H1 : (some true) = some r := by rw [if_pos rfl] at H; exact H
          clear H
          have H := H1
          clear H1
          obtain rfl := Option.some.inj H
          go_wp2
          repeat (go_quiet (fail); try go_wp2)
          go_ret
          exact ⟨by first | rfl | (simp [errW_none, errW_some] <;> rfl) | (simp [*, errW_none, errW_some] <;> rfl), by repeat (first | (with_reducible first | exact HB.out | apply below_alloc | apply pw_below_drewN | apply below_drew1) | exact HB.out)⟩
        · replace c14 := Bool.eq_false_iff.mpr c14
          subst c14
          have H1 : ((interpolate_Polynomial.f a0 l1).bind fun bt385 => ((privityref05_Polynomial.f kj4 a0 l1).bind fun bt389 => (if bt385.2 = bt389.2 then ((privityref05_Same.f kj4 bt385.1 bt389.1).bind fun t393 => (privitylaw05_InterpolatePassesThroughPoints.j1 kj4 a0 l1 bt385.1 bt385.2 (!t393))) else (privitylaw05_InterpolatePassesThroughPoints.j1 kj4 a0 l1 bt385.1 bt385.2 true)))) = some r := by rw [if_neg (show ¬ (false = true) by decide)] at H; exact H
          clear H
          have H := H1
          clear H1
          replace H := Option.bind_eq_some_iff.mp H
          obtain ⟨⟨t385, t386⟩, A150, H⟩ := H
          replace H : ((privityref05_Polynomial.f kj4 a0 l1).bind fun bt389 => (if t386 = bt389.2 then ((privityref05_Same.f kj4 t385 bt389.1).bind fun t393 => (privitylaw05_InterpolatePassesThroughPoints.j1 kj4 a0 l1 t385 t386 (!t393))) else (privitylaw05_InterpolatePassesThroughPoints.j1 kj4 a0 l1 t385 t386 true))) = some r := H
          have A15 := Aside0.mk A150
          clear A150
          replace H := Option.bind_eq_some_iff.mp H
          obtain ⟨⟨t389, t390⟩, A160, H⟩ := H
          replace H : (if t386 = t390 then ((privityref05_Same.f kj4 t385 t389).bind fun t393 => (privitylaw05_InterpolatePassesThroughPoints.j1 kj4 a0 l1 t385 t386 (!t393))) else (privitylaw05_InterpolatePassesThroughPoints.j1 kj4 a0 l1 t385 t386 true)) = some r := H
          have A16 := Aside0.mk A160
          clear A160
          have HC17 := Aside0.mk H
          clear H
          go_upto_region 7 with (first | (go_at_call 20; (with_reducible refine (interpolate_Polynomial.calls a0 _ _ l1 t385 t386 _ ?side1 ?side2 A15.out).mono ?_); (case side1 => repeat (first | exact (Kd.C_below HR1.out HB.out) | (with_reducible refine Kd.C_alloc ?_ _) | (with_reducible refine Kd.C_drewN ?_ _) | (with_reducible refine Kd.C_drew ?_))); (case side2 => exact HC1.out); rintro e w18 ⟨v387, rfl, ho0, hb⟩; have n0_ := Aside0.mk (Kd.R_lower ho0 (below_size (by repeat (first | (with_reducible first | exact HB.out | apply below_alloc | apply pw_below_drewN | apply below_drew1) | exact HB.out)))); have n1_ := Aside0.mk (below_step (by repeat (first | (with_reducible first | exact HB.out | apply below_alloc | apply pw_below_drewN | apply below_drew1) | exact HB.out)) hb); clear HB; have HO388 := n0_; have HB := n1_; clear n0_ n1_; (try clear hb); (try clear hb2); (try clear hk); (try clear hi); (try clear ho0)) | (go_at_call 22; (with_reducible refine (privityref05_Polynomial.calls kj4 a0 _ _ l1 t389 t390 _ ?side1 ?side2 A16.out).mono ?_); (case side1 => repeat (first | exact (Kd.C_below HR1.out HB.out) | (with_reducible refine Kd.C_alloc ?_ _) | (with_reducible refine Kd.C_drewN ?_ _) | (with_reducible refine Kd.C_drew ?_))); (case side2 => exact HC1.out); rintro e w19 ⟨v391, rfl, ho0, hb⟩; have n0_ := Aside0.mk (Kd.R_elder' (by (with_reducible repeat (first | apply Kd.R_alloc | apply Kd.R_drewN | apply Kd.R_drew)); exact HO388.out) (Kd.R_base ho0) hb); have n1_ := Aside0.mk (Kd.R_lower (Kd.R_new' ho0 (Kd.R_lt (by (with_reducible repeat (first | apply Kd.R_alloc | apply Kd.R_drewN | apply Kd.R_drew)); exact HO388.out))) (below_size (by repeat (first | (with_reducible first | exact HB.out | apply below_alloc | apply pw_below_drewN | apply below_drew1) | exact HB.out)))); have n2_ := Aside0.mk (below_step (by repeat (first | (with_reducible first | exact HB.out | apply below_alloc | apply pw_below_drewN | apply below_drew1) | exact HB.out)) hb); clear HO388; clear HB; have HO388 := n0_; have HO392 := n1_; have HB := n2_; clear n0_ n1_ n2_; (try clear hb); (try clear hb2); (try clear hk); (try clear hi); (try clear ho0)))
          repeat (go_quiet (first | (go_at_call 20; (with_reducible refine (interpolate_Polynomial.calls a0 _ _ l1 t385 t386 _ ?side1 ?side2 A15.out).mono ?_); (case side1 => repeat (first | exact (Kd.C_below HR1.out HB.out) | (with_reducible refine Kd.C_alloc ?_ _) | (with_reducible refine Kd.C_drewN ?_ _) | (with_reducible refine Kd.C_drew ?_))); (case side2 => exact HC1.out); rintro e w18 ⟨v387, rfl, ho0, hb⟩; have n0_ := Aside0.mk (Kd.R_lower ho0 (below_size (by repeat (first | (with_reducible first | exact HB.out | apply below_alloc | apply pw_below_drewN | apply below_drew1) | exact HB.out)))); have n1_ := Aside0.mk (below_step (by repeat (first | (with_reducible first | exact HB.out | apply below_alloc | apply pw_below_drewN | apply below_drew1) | exact HB.out)) hb); clear HB; have HO388 := n0_; have HB := n1_; clear n0_ n1_; (try clear hb); (try clear hb2); (try clear hk); (try clear hi); (try clear ho0)) | (go_at_call 22; (with_reducible refine (privityref05_Polynomial.calls kj4 a0 _ _ l1 t389 t390 _ ?side1 ?side2 A16.out).mono ?_); (case side1 => repeat (first | exact (Kd.C_below HR1.out HB.out) | (with_reducible refine Kd.C_alloc ?_ _) | (with_reducible refine Kd.C_drewN ?_ _) | (with_reducible refine Kd.C_drew ?_))); (case side2 => exact HC1.out); rintro e w19 ⟨v391, rfl, ho0, hb⟩; have n0_ := Aside0.mk (Kd.R_elder' (by (with_reducible repeat (first | apply Kd.R_alloc | apply Kd.R_drewN | apply Kd.R_drew)); exact HO388.out) (Kd.R_base ho0) hb); have n1_ := Aside0.mk (Kd.R_lower (Kd.R_new' ho0 (Kd.R_lt (by (with_reducible repeat (first | apply Kd.R_alloc | apply Kd.R_drewN | apply Kd.R_drew)); exact HO388.out))) (below_size (by repeat (first | (with_reducible first | exact HB.out | apply below_alloc | apply pw_below_drewN | apply below_drew1) | exact HB.out)))); have n2_ := Aside0.mk (below_step (by repeat (first | (with_reducible first | exact HB.out | apply below_alloc | apply pw_below_drewN | apply below_drew1) | exact HB.out)) hb); clear HO388; clear HB; have HO388 := n0_; have HO392 := n1_; have HB := n2_; clear n0_ n1_ n2_; (try clear hb); (try clear hb2); (try clear hk); (try clear hi); (try clear ho0))); go_upto_region 7 with (first | (go_at_call 20; (with_reducible refine (interpolate_Polynomial.calls a0 _ _ l1 t385 t386 _ ?side1 ?side2 A15.out).mono ?_); (case side1 => repeat (first | exact (Kd.C_below HR1.out HB.out) | (with_reducible refine Kd.C_alloc ?_ _) | (with_reducible refine Kd.C_drewN ?_ _) | (with_reducible refine Kd.C_drew ?_))); (case side2 => exact HC1.out); rintro e w18 ⟨v387, rfl, ho0, hb⟩; have n0_ := Aside0.mk (Kd.R_lower ho0 (below_size (by repeat (first | (with_reducible first | exact HB.out | apply below_alloc | apply pw_below_drewN | apply below_drew1) | exact HB.out)))); have n1_ := Aside0.mk (below_step (by repeat (first | (with_reducible first | exact HB.out | apply below_alloc | apply pw_below_drewN | apply below_drew1) | exact HB.out)) hb); clear HB; have HO388 := n0_; have HB := n1_; clear n0_ n1_; (try clear hb); (try clear hb2); (try clear hk); (try clear hi); (try clear ho0)) | (go_at_call 22; (with_reducible refine (privityref05_Polynomial.calls kj4 a0 _ _ l1 t389 t390 _ ?side1 ?side2 A16.out).mono ?_); (case side1 => repeat (first | exact (Kd.C_below HR1.out HB.out) | (with_reducible refine Kd.C_alloc ?_ _) | (with_reducible refine Kd.C_drewN ?_ _) | (with_reducible refine Kd.C_drew ?_))); (case side2 => exact HC1.out); rintro e w19 ⟨v391, rfl, ho0, hb⟩; have n0_ := Aside0.mk (Kd.R_elder' (by (with_reducible repeat (first | apply Kd.R_alloc | apply Kd.R_drewN | apply Kd.R_drew)); exact HO388.out) (Kd.R_base ho0) hb); have n1_ := Aside0.mk (Kd.R_lower (Kd.R_new' ho0 (Kd.R_lt (by (with_reducible repeat (first | apply Kd.R_alloc | apply Kd.R_drewN | apply Kd.R_drew)); exact HO388.out))) (below_size (by repeat (first | (with_reducible first | exact HB.out | apply below_alloc | apply pw_below_drewN | apply below_drew1) | exact HB.out)))); have n2_ := Aside0.mk (below_step (by repeat (first | (with_reducible first | exact HB.out | apply below_alloc | apply pw_below_drewN | apply below_drew1) | exact HB.out)) hb); clear HO388; clear HB; have HO388 := n0_; have HO392 := n1_; have HB := n2_; clear n0_ n1_ n2_; (try clear hb); (try clear hb2); (try clear hk); (try clear hi); (try clear ho0))))
          (try simp only [Act.put, List.setIfInBounds_toArray, List.set_cons_zero, List.set_cons_succ])
          go_cut [46] (fun v46 wc => ∃ (kq : Nat) (x46_16 : Bool), v46 = .bool x46_16 ∧ Aside0 (privitylaw05_InterpolatePassesThroughPoints.j1 kq a0 l1 t385 t386 x46_16 = some r) ∧ Aside0 (kq ≤ kj4) ∧ Aside0 (Kd.R (Kd.int .u64) 22 wc w.heap.size (fun _ => True) v387 t385) ∧ Aside0 (Below w.heap.size w wc))
          case first =>
            have H := HC17.out
            clear HC17
            by_cases c20 : t386 = t390
            · rw [if_pos c20] at H
              have c20b0 : (t386 == t390) = true := beq_iff_eq.mpr c20
              have c20b1 : (t386 != t390) = false := bne_eq_false_iff_eq.mpr c20
              clear c20
              (first | rw [c20b0] | (simp only [i64_w, i32_w]; rw [c20b0]) | skip)
              replace H := Option.bind_eq_some_iff.mp H
              obtain ⟨t393, A210, H⟩ := H
              replace H : (privitylaw05_InterpolatePassesThroughPoints.j1 kj4 a0 l1 t385 t386 (!t393)) = some r := H
              have A21 := Aside0.mk A210
              clear A210
              have H' := Aside0.mk H
              clear H
              obtain ⟨Ao22, co22, eo22⟩ := Kd.R_slice HO388.out
              subst eo22
              obtain ⟨Ao23, co23, eo23⟩ := Kd.R_slice HO392.out
              subst eo23
              go_wp2_with (first | (go_at_call 15; (with_reducible refine (privityref05_Same.calls kj4 _ _ t385 _ _ t389 t393 _ ?side1 ?side2 ?side3 ?side4 A21.out).mono ?_); (case side1 => repeat (first | exact (Kd.R_reads' HO388.out).2.2 | (with_reducible refine Kd.C_alloc ?_ _) | (with_reducible refine Kd.C_drewN ?_ _) | (with_reducible refine Kd.C_drew ?_))); (case side2 => exact (Kd.R_reads' HO388.out).2.1); (case side3 => repeat (first | exact (Kd.R_reads' HO392.out).2.2 | (with_reducible refine Kd.C_alloc ?_ _) | (with_reducible refine Kd.C_drewN ?_ _) | (with_reducible refine Kd.C_drew ?_))); (case side4 => exact (Kd.R_reads' HO392.out).2.1); rintro e w' ⟨rfl, ⟨nd, rfl⟩⟩; (try first | exact ⟨rfl, _, World.drewN_drewN _ _ _⟩ | exact ⟨rfl, _, Eq.trans (World.drewN_drewN _ _ _) (congrArg (World.drewN _) (Nat.add_assoc _ _ _))⟩)))
              repeat (go_quiet (first | (go_at_call 15; (with_reducible refine (privityref05_Same.calls kj4 _ _ t385 _ _ t389 t393 _ ?side1 ?side2 ?side3 ?side4 A21.out).mono ?_); (case side1 => repeat (first | exact (Kd.R_reads' HO388.out).2.2 | (with_reducible refine Kd.C_alloc ?_ _) | (with_reducible refine Kd.C_drewN ?_ _) | (with_reducible refine Kd.C_drew ?_))); (case side2 => exact (Kd.R_reads' HO388.out).2.1); (case side3 => repeat (first | exact (Kd.R_reads' HO392.out).2.2 | (with_reducible refine Kd.C_alloc ?_ _) | (with_reducible refine Kd.C_drewN ?_ _) | (with_reducible refine Kd.C_drew ?_))); (case side4 => exact (Kd.R_reads' HO392.out).2.1); rintro e w' ⟨rfl, ⟨nd, rfl⟩⟩; (try first | exact ⟨rfl, _, World.drewN_drewN _ _ _⟩ | exact ⟨rfl, _, Eq.trans (World.drewN_drewN _ _ _) (congrArg (World.drewN _) (Nat.add_assoc _ _ _))⟩))); try go_wp2_with (first | (go_at_call 15; (with_reducible refine (privityref05_Same.calls kj4 _ _ t385 _ _ t389 t393 _ ?side1 ?side2 ?side3 ?side4 A21.out).mono ?_); (case side1 => repeat (first | exact (Kd.R_reads' HO388.out).2.2 | (with_reducible refine Kd.C_alloc ?_ _) | (with_reducible refine Kd.C_drewN ?_ _) | (with_reducible refine Kd.C_drew ?_))); (case side2 => exact (Kd.R_reads' HO388.out).2.1); (case side3 => repeat (first | exact (Kd.R_reads' HO392.out).2.2 | (with_reducible refine Kd.C_alloc ?_ _) | (with_reducible refine Kd.C_drewN ?_ _) | (with_reducible refine Kd.C_drew ?_))); (case side4 => exact (Kd.R_reads' HO392.out).2.1); rintro e w' ⟨rfl, ⟨nd, rfl⟩⟩; (try first | exact ⟨rfl, _, World.drewN_drewN _ _ _⟩ | exact ⟨rfl, _, Eq.trans (World.drewN_drewN _ _ _) (congrArg (World.drewN _) (Nat.add_assoc _ _ _))⟩))))
              go_meet
              case rel => exact ⟨_, (!t393), (by first | rfl | (simp; done) | (simp [*]; done)), H', ⟨by have := HJ4.out; first | omega | exact Nat.le_refl _⟩, ⟨by (with_reducible repeat (first | apply Kd.R_alloc | apply Kd.R_drewN | apply Kd.R_drew)); exact Kd.R_mono HO388.out (fun _ hk => trivial)⟩, ⟨by repeat (first | (with_reducible first | exact HB.out | apply below_alloc | apply pw_below_drewN | apply below_drew1) | exact HB.out)⟩⟩
            · rw [if_neg c20] at H
              have c20b0 : (t386 == t390) = false := beq_eq_false_iff_ne.mpr c20
              have c20b1 : (t386 != t390) = true := bne_iff_ne.mpr c20
              (first | rw [c20b0] | (simp only [i64_w, i32_w]; rw [c20b0]) | skip)
              have H' := Aside0.mk H
              clear H
              go_wp2
              repeat (go_quiet (fail); try go_wp2)
              go_meet
              case rel => exact ⟨_, (true), (by first | rfl | (simp; done) | (simp [*]; done)), H', ⟨by have := HJ4.out; first | omega | exact Nat.le_refl _⟩, ⟨by (with_reducible repeat (first | apply Kd.R_alloc | apply Kd.R_drewN | apply Kd.R_drew)); exact Kd.R_mono HO388.out (fun _ hk => trivial)⟩, ⟨by repeat (first | (with_reducible first | exact HB.out | apply below_alloc | apply pw_below_drewN | apply below_drew1) | exact HB.out)⟩⟩
          case rest =>
            clear HC17
            try clear c1
            try clear c2
            try clear p2
            try clear c4
            try clear c5
            try clear c8
            try clear c9
            try clear c9b0
            try clear c9b1
            try clear c14
            try clear c20
            try clear c20b0
            try clear c20b1
            try clear p2
            obtain ⟨kq, x46_16, rfl, HA, HJ16, HO_5, HB⟩ := hcut
            cases kq with
            | zero => exact absurd HA.out (by simp [privitylaw05_InterpolatePassesThroughPoints.j1])
            | succ kj16 =>
              have H := HA.out
              clear HA
              simp only [privitylaw05_InterpolatePassesThroughPoints.j1] at H
              by_cases c24 : x46_16 = true
              · subst c24
                have H1 : (some false) = some r := by rw [if_pos rfl] at H; exact H
                clear H
                have H := H1
                clear H1
                obtain rfl := Option.some.inj H
                go_wp2
                repeat (go_quiet (fail); try go_wp2)
                go_ret
                exact ⟨by first | rfl | (simp [errW_none, errW_some] <;> rfl) | (simp [*, errW_none, errW_some] <;> rfl), by repeat (first | (with_reducible first | exact HB.out | apply below_alloc | apply pw_below_drewN | apply below_drew1) | exact HB.out)⟩
              · replace c24 := Bool.eq_false_iff.mpr c24
                subst c24
                have H1 : (privitylaw05_InterpolatePassesThroughPoints.l0 kj16 a0 l1 t385 t386 0) = some r := by rw [if_neg (show ¬ (false = true) by decide)] at H; exact H
                clear H
                have H := H1
                clear H1
                have H' := Aside0.mk H
                clear H
                go_wp2
                repeat (go_quiet (fail); try go_wp2)
                go_loopg [9] kj16 (fun kq v9 w' => ∃ (x9_3 : Int), v9 = .int .i64 x9_3 ∧ Aside0 (privitylaw05_InterpolatePassesThroughPoints.l0 kq a0 l1 t385 t386 x9_3 = some r) ∧ Aside0 (kq ≤ kj16) ∧ Aside0 (Kd.R (Kd.int .u64) 22 w' w.heap.size (fun _ => True) v387 t385) ∧ Aside0 (Below w.heap.size w w'))
                case atStart => exact ⟨(0), (by first | rfl | (simp; done) | (simp [*]; done)), H', ⟨Nat.le_refl _⟩, ⟨by (with_reducible repeat (first | apply Kd.R_alloc | apply Kd.R_drewN | apply Kd.R_drew)); exact HO_5.out⟩, ⟨by repeat (first | (with_reducible first | exact HB.out | apply below_alloc | apply pw_below_drewN | apply below_drew1) | exact HB.out)⟩⟩
                case round =>
                  clear H'
                  try clear c1
                  try clear c2
                  try clear p2
                  try clear c4
                  try clear c5
                  try clear c8
                  try clear c9
                  try clear c9b0
                  try clear c9b1
                  try clear c14
                  try clear c20
                  try clear c20b0
                  try clear c20b1
                  try clear c24
                  try clear p2
                  obtain ⟨x9_3, rfl, HA, HK3, HO_5, HB⟩ := hrel
                  cases gk with
                  | zero => exact absurd HA.out (by simp [privitylaw05_InterpolatePassesThroughPoints.l0])
                  | succ k3 =>
                    have H := HA.out
                    clear HA
                    simp only [privitylaw05_InterpolatePassesThroughPoints.l0] at H
                    have HC25 := Aside0.mk H
                    clear H
                    go_upto_region 10 with (fail)
                    repeat (go_quiet (fail); go_upto_region 10 with (fail))
                    go_cut [54] (fun v54 wc => ∃ (kq : Nat) (x54_24 : Bool), v54 = .bool x54_24 ∧ Aside0 (privitylaw05_InterpolatePassesThroughPoints.j3 kq a0 l1 t385 t386 x9_3 x54_24 = some r) ∧ Aside0 (kq ≤ k3) ∧ Aside0 (Kd.R (Kd.int .u64) 22 wc w.heap.size (fun _ => True) v387 t385) ∧ Aside0 (Below w.heap.size w wc))
                    case first =>
                      have H := HC25.out
                      clear HC25
                      by_cases c26 : x9_3 < (l1.length : Int)
                      · rw [if_pos c26] at H
                        have c26b0 : decide (x9_3 < (l1.length : Int)) = true := decide_eq_true c26
                        clear c26
                        (first | rw [c26b0] | (simp only [i64_w, i32_w]; rw [c26b0]) | skip)
                        have H' := Aside0.mk H
                        clear H
                        go_wp2
                        repeat (go_quiet (fail); try go_wp2)
                        go_meet
                        case rel => exact ⟨_, ((t386 == 0)), (by first | rfl | (simp; done) | (simp [*]; done)), H', ⟨by have := HJ4.out; have := HJ16.out; have := HK3.out; first | omega | exact Nat.le_refl _⟩, ⟨by (with_reducible repeat (first | apply Kd.R_alloc | apply Kd.R_drewN | apply Kd.R_drew)); exact HO_5.out⟩, ⟨by repeat (first | (with_reducible first | exact HB.out | apply below_alloc | apply pw_below_drewN | apply below_drew1) | exact HB.out)⟩⟩
                      · rw [if_neg c26] at H
                        have c26b0 : decide (x9_3 < (l1.length : Int)) = false := decide_eq_false c26
                        clear c26
                        (first | rw [c26b0] | (simp only [i64_w, i32_w]; rw [c26b0]) | skip)
                        have H' := Aside0.mk H
                        clear H
                        go_wp2
                        repeat (go_quiet (fail); try go_wp2)
                        go_meet
                        case rel => exact ⟨_, (false), (by first | rfl | (simp; done) | (simp [*]; done)), H', ⟨by have := HJ4.out; have := HJ16.out; have := HK3.out; first | omega | exact Nat.le_refl _⟩, ⟨by (with_reducible repeat (first | apply Kd.R_alloc | apply Kd.R_drewN | apply Kd.R_drew)); exact HO_5.out⟩, ⟨by repeat (first | (with_reducible first | exact HB.out | apply below_alloc | apply pw_below_drewN | apply below_drew1) | exact HB.out)⟩⟩
                    case rest =>
                      clear HC25
                      try clear c1
                      try clear c2
                      try clear p2
                      try clear c4
                      try clear c5
                      try clear c8
                      try clear c9
                      try clear c9b0
                      try clear c9b1
                      try clear c14
                      try clear c20
                      try clear c20b0
                      try clear c20b1
                      try clear c24
                      try clear c26
                      try clear c26b0
                      try clear p2
                      obtain ⟨kq, x54_24, rfl, HA, HJ24, HO_5, HB⟩ := hcut
                      cases kq with
                      | zero => exact absurd HA.out (by simp [privitylaw05_InterpolatePassesThroughPoints.j3])
                      | succ kj24 =>
                        have H := HA.out
                        clear HA
                        simp only [privitylaw05_InterpolatePassesThroughPoints.j3] at H
                        by_cases c27 : x54_24 = true
                        · subst c27
                          have H1 : (if 0 ≤ x9_3 then (if x9_3 < (l1.length : Int) then ((poly_Eval.f kj24 a0 t385 ((rd_T38 l1 x9_3).f0)).bind fun t395 => (if t395 = ((rd_T38 l1 x9_3).f1) then (privitylaw05_InterpolatePassesThroughPoints.l0 kj24 a0 l1 t385 t386 (wrap64 (x9_3 + 1))) else (some false))) else (none)) else (none)) = some r := by rw [if_pos rfl] at H; exact H
                          clear H
                          have H := H1
                          clear H1
                          by_cases c28 : 0 ≤ x9_3
                          · rw [if_pos c28] at H
                            have c28b0 : decide (0 ≤ x9_3) = true := decide_eq_true c28
                            clear c28
                            by_cases c29 : x9_3 < (l1.length : Int)
                            · rw [if_pos c29] at H
                              have c29b0 : decide (x9_3 < (l1.length : Int)) = true := decide_eq_true c29
                              clear c29
                              replace H := Option.bind_eq_some_iff.mp H
                              obtain ⟨t395, A300, H⟩ := H
                              replace H : (if t395 = ((rd_T38 l1 x9_3).f1) then (privitylaw05_InterpolatePassesThroughPoints.l0 kj24 a0 l1 t385 t386 (wrap64 (x9_3 + 1))) else (some false)) = some r := H
                              have A30 := Aside0.mk A300
                              clear A300
                              by_cases c31 : t395 = ((rd_T38 l1 x9_3).f1)
                              · rw [if_pos c31] at H
                                have c31b0 : (t395 == ((rd_T38 l1 x9_3).f1)) = true := beq_iff_eq.mpr c31
                                have c31b1 : (t395 != ((rd_T38 l1 x9_3).f1)) = false := bne_eq_false_iff_eq.mpr c31
                                clear c31
                                have H' := Aside0.mk H
                                clear H
                                have p394 : 0 ≤ (x9_3 : Int) := of_decide_eq_true (by first | (with_reducible assumption) | assumption)
                                have q394 : x9_3 < (l1.length : Int) := of_decide_eq_true (by first | (with_reducible assumption) | assumption)
                                obtain ⟨ad394, e394, hx394_0, hx394_1⟩ := at_T38 HR1.out x9_3 p394 q394
                                cases e394
                                replace hx394_0 := (HB.out.cell (World.block_lt_of_cell? w _ hx394_0)).trans hx394_0
                                replace hx394_1 := (HB.out.cell (World.block_lt_of_cell? w _ hx394_1)).trans hx394_1
                                replace p394 := eq_true p394
                                replace q394 := eq_true q394
                                obtain ⟨Ao32, co32, eo32⟩ := Kd.R_slice HO_5.out
                                subst eo32
                                go_wp2_with (first | (go_at_call 23; (with_reducible refine (poly_Eval.calls kj24 a0 _ _ t385 ((rd_T38 l1 x9_3).f0) t395 _ ?side1 ?side2 A30.out).mono ?_); (case side1 => repeat (first | exact (Kd.R_reads' HO_5.out).2.2 | (with_reducible refine Kd.C_alloc ?_ _) | (with_reducible refine Kd.C_drewN ?_ _) | (with_reducible refine Kd.C_drew ?_))); (case side2 => exact (Kd.R_reads' HO_5.out).2.1); rintro e w' ⟨rfl, ⟨nd, rfl⟩⟩; (try first | exact ⟨rfl, _, World.drewN_drewN _ _ _⟩ | exact ⟨rfl, _, Eq.trans (World.drewN_drewN _ _ _) (congrArg (World.drewN _) (Nat.add_assoc _ _ _))⟩); have p396 : 0 ≤ (x9_3 : Int) := of_decide_eq_true (by first | (with_reducible assumption) | assumption); have q396 : x9_3 < (l1.length : Int) := of_decide_eq_true (by first | (with_reducible assumption) | assumption); obtain ⟨ad396, e396, hx396_0, hx396_1⟩ := at_T38 HR1.out x9_3 p396 q396; obtain rfl : ad394 = ad396 := (by injection e396); replace hx396_0 := (HB.out.cell (World.block_lt_of_cell? w _ hx396_0)).trans hx396_0; replace hx396_1 := (HB.out.cell (World.block_lt_of_cell? w _ hx396_1)).trans hx396_1; replace p396 := eq_true p396; replace q396 := eq_true q396))
                                repeat (go_quiet (first | (go_at_call 23; (with_reducible refine (poly_Eval.calls kj24 a0 _ _ t385 ((rd_T38 l1 x9_3).f0) t395 _ ?side1 ?side2 A30.out).mono ?_); (case side1 => repeat (first | exact (Kd.R_reads' HO_5.out).2.2 | (with_reducible refine Kd.C_alloc ?_ _) | (with_reducible refine Kd.C_drewN ?_ _) | (with_reducible refine Kd.C_drew ?_))); (case side2 => exact (Kd.R_reads' HO_5.out).2.1); rintro e w' ⟨rfl, ⟨nd, rfl⟩⟩; (try first | exact ⟨rfl, _, World.drewN_drewN _ _ _⟩ | exact ⟨rfl, _, Eq.trans (World.drewN_drewN _ _ _) (congrArg (World.drewN _) (Nat.add_assoc _ _ _))⟩); have p396 : 0 ≤ (x9_3 : Int) := of_decide_eq_true (by first | (with_reducible assumption) | assumption); have q396 : x9_3 < (l1.length : Int) := of_decide_eq_true (by first | (with_reducible assumption) | assumption); obtain ⟨ad396, e396, hx396_0, hx396_1⟩ := at_T38 HR1.out x9_3 p396 q396; obtain rfl : ad394 = ad396 := (by injection e396); replace hx396_0 := (HB.out.cell (World.block_lt_of_cell? w _ hx396_0)).trans hx396_0; replace hx396_1 := (HB.out.cell (World.block_lt_of_cell? w _ hx396_1)).trans hx396_1; replace p396 := eq_true p396; replace q396 := eq_true q396)); try go_wp2_with (first | (go_at_call 23; (with_reducible refine (poly_Eval.calls kj24 a0 _ _ t385 ((rd_T38 l1 x9_3).f0) t395 _ ?side1 ?side2 A30.out).mono ?_); (case side1 => repeat (first | exact (Kd.R_reads' HO_5.out).2.2 | (with_reducible refine Kd.C_alloc ?_ _) | (with_reducible refine Kd.C_drewN ?_ _) | (with_reducible refine Kd.C_drew ?_))); (case side2 => exact (Kd.R_reads' HO_5.out).2.1); rintro e w' ⟨rfl, ⟨nd, rfl⟩⟩; (try first | exact ⟨rfl, _, World.drewN_drewN _ _ _⟩ | exact ⟨rfl, _, Eq.trans (World.drewN_drewN _ _ _) (congrArg (World.drewN _) (Nat.add_assoc _ _ _))⟩); have p396 : 0 ≤ (x9_3 : Int) := of_decide_eq_true (by first | (with_reducible assumption) | assumption); have q396 : x9_3 < (l1.length : Int) := of_decide_eq_true (by first | (with_reducible assumption) | assumption); obtain ⟨ad396, e396, hx396_0, hx396_1⟩ := at_T38 HR1.out x9_3 p396 q396; obtain rfl : ad394 = ad396 := (by injection e396); replace hx396_0 := (HB.out.cell (World.block_lt_of_cell? w _ hx396_0)).trans hx396_0; replace hx396_1 := (HB.out.cell (World.block_lt_of_cell? w _ hx396_1)).trans hx396_1; replace p396 := eq_true p396; replace q396 := eq_true q396)))
                                go_roundg kj24
                                case measure => have := HJ4.out; have := HJ16.out; have := HK3.out; have := HJ24.out; omega
                                case rel => exact ⟨(wrap64 (x9_3 + 1)), (by first | rfl | (simp; done) | (simp [*]; done)), H', ⟨by have := HJ4.out; have := HJ16.out; have := HK3.out; have := HJ24.out; omega⟩, ⟨by (with_reducible repeat (first | apply Kd.R_alloc | apply Kd.R_drewN | apply Kd.R_drew)); exact HO_5.out⟩, ⟨by repeat (first | (with_reducible first | exact HB.out | apply below_alloc | apply pw_below_drewN | apply below_drew1) | exact HB.out)⟩⟩
                              · rw [if_neg c31] at H
                                have c31b0 : (t395 == ((rd_T38 l1 x9_3).f1)) = false := beq_eq_false_iff_ne.mpr c31
                                have c31b1 : (t395 != ((rd_T38 l1 x9_3).f1)) = true := bne_iff_ne.mpr c31
                                obtain rfl := Option.some.inj H
                                have p394 : 0 ≤ (x9_3 : Int) := of_decide_eq_true (by first | (with_reducible assumption) | assumption)
                                have q394 : x9_3 < (l1.length : Int) := of_decide_eq_true (by first | (with_reducible assumption) | assumption)
                                obtain ⟨ad394, e394, hx394_0, hx394_1⟩ := at_T38 HR1.out x9_3 p394 q394
                                cases e394
                                replace hx394_0 := (HB.out.cell (World.block_lt_of_cell? w _ hx394_0)).trans hx394_0
                                replace hx394_1 := (HB.out.cell (World.block_lt_of_cell? w _ hx394_1)).trans hx394_1
                                replace p394 := eq_true p394
                                replace q394 := eq_true q394
                                obtain ⟨Ao33, co33, eo33⟩ := Kd.R_slice HO_5.out
                                subst eo33
                                go_wp2_with (first | (go_at_call 23; (with_reducible refine (poly_Eval.calls kj24 a0 _ _ t385 ((rd_T38 l1 x9_3).f0) t395 _ ?side1 ?side2 A30.out).mono ?_); (case side1 => repeat (first | exact (Kd.R_reads' HO_5.out).2.2 | (with_reducible refine Kd.C_alloc ?_ _) | (with_reducible refine Kd.C_drewN ?_ _) | (with_reducible refine Kd.C_drew ?_))); (case side2 => exact (Kd.R_reads' HO_5.out).2.1); rintro e w' ⟨rfl, ⟨nd, rfl⟩⟩; (try first | exact ⟨rfl, _, World.drewN_drewN _ _ _⟩ | exact ⟨rfl, _, Eq.trans (World.drewN_drewN _ _ _) (congrArg (World.drewN _) (Nat.add_assoc _ _ _))⟩); have p396 : 0 ≤ (x9_3 : Int) := of_decide_eq_true (by first | (with_reducible assumption) | assumption); have q396 : x9_3 < (l1.length : Int) := of_decide_eq_true (by first | (with_reducible assumption) | assumption); obtain ⟨ad396, e396, hx396_0, hx396_1⟩ := at_T38 HR1.out x9_3 p396 q396; obtain rfl : ad394 = ad396 := (by injection e396); replace hx396_0 := (HB.out.cell (World.block_lt_of_cell? w _ hx396_0)).trans hx396_0; replace hx396_1 := (HB.out.cell (World.block_lt_of_cell? w _ hx396_1)).trans hx396_1; replace p396 := eq_true p396; replace q396 := eq_true q396))
                                repeat (go_quiet (first | (go_at_call 23; (with_reducible refine (poly_Eval.calls kj24 a0 _ _ t385 ((rd_T38 l1 x9_3).f0) t395 _ ?side1 ?side2 A30.out).mono ?_); (case side1 => repeat (first | exact (Kd.R_reads' HO_5.out).2.2 | (with_reducible refine Kd.C_alloc ?_ _) | (with_reducible refine Kd.C_drewN ?_ _) | (with_reducible refine Kd.C_drew ?_))); (case side2 => exact (Kd.R_reads' HO_5.out).2.1); rintro e w' ⟨rfl, ⟨nd, rfl⟩⟩; (try first | exact ⟨rfl, _, World.drewN_drewN _ _ _⟩ | exact ⟨rfl, _, Eq.trans (World.drewN_drewN _ _ _) (congrArg (World.drewN _) (Nat.add_assoc _ _ _))⟩); have p396 : 0 ≤ (x9_3 : Int) := of_decide_eq_true (by first | (with_reducible assumption) | assumption); have q396 : x9_3 < (l1.length : Int) := of_decide_eq_true (by first | (with_reducible assumption) | assumption); obtain ⟨ad396, e396, hx396_0, hx396_1⟩ := at_T38 HR1.out x9_3 p396 q396; obtain rfl : ad394 = ad396 := (by injection e396); replace hx396_0 := (HB.out.cell (World.block_lt_of_cell? w _ hx396_0)).trans hx396_0; replace hx396_1 := (HB.out.cell (World.block_lt_of_cell? w _ hx396_1)).trans hx396_1; replace p396 := eq_true p396; replace q396 := eq_true q396)); try go_wp2_with (first | (go_at_call 23; (with_reducible refine (poly_Eval.calls kj24 a0 _ _ t385 ((rd_T38 l1 x9_3).f0) t395 _ ?side1 ?side2 A30.out).mono ?_); (case side1 => repeat (first | exact (Kd.R_reads' HO_5.out).2.2 | (with_reducible refine Kd.C_alloc ?_ _) | (with_reducible refine Kd.C_drewN ?_ _) | (with_reducible refine Kd.C_drew ?_))); (case side2 => exact (Kd.R_reads' HO_5.out).2.1); rintro e w' ⟨rfl, ⟨nd, rfl⟩⟩; (try first | exact ⟨rfl, _, World.drewN_drewN _ _ _⟩ | exact ⟨rfl, _, Eq.trans (World.drewN_drewN _ _ _) (congrArg (World.drewN _) (Nat.add_assoc _ _ _))⟩); have p396 : 0 ≤ (x9_3 : Int) := of_decide_eq_true (by first | (with_reducible assumption) | assumption); have q396 : x9_3 < (l1.length : Int) := of_decide_eq_true (by first | (with_reducible assumption) | assumption); obtain ⟨ad396, e396, hx396_0, hx396_1⟩ := at_T38 HR1.out x9_3 p396 q396; obtain rfl : ad394 = ad396 := (by injection e396); replace hx396_0 := (HB.out.cell (World.block_lt_of_cell? w _ hx396_0)).trans hx396_0; replace hx396_1 := (HB.out.cell (World.block_lt_of_cell? w _ hx396_1)).trans hx396_1; replace p396 := eq_true p396; replace q396 := eq_true q396)))
                                go_ret
                                exact ⟨by first | rfl | (simp [errW_none, errW_some] <;> rfl) | (simp [*, errW_none, errW_some] <;> rfl), by repeat (first | (with_reducible first | exact HB.out | apply below_alloc | apply pw_below_drewN | apply below_drew1) | exact HB.out)⟩
                            · rw [if_neg c29] at H
                              exact absurd H (by simp)
                          · rw [if_neg c28] at H
                            exact absurd H (by simp)
                        · replace c27 := Bool.eq_false_iff.mpr c27
                          subst c27
                          have H1 : (some true) = some r := by rw [if_neg (show ¬ (false = true) by decide)] at H; exact H
                          clear H
                          have H := H1
                          clear H1
                          obtain rfl := Option.some.inj H
                          go_wp2
                          repeat (go_quiet (fail); try go_wp2)
                          go_ret
                          exact ⟨by first | rfl | (simp [errW_none, errW_some] <;> rfl) | (simp [*, errW_none, errW_some] <;> rfl), by repeat (first | (with_reducible first | exact HB.out | apply below_alloc | apply pw_below_drewN | apply below_drew1) | exact HB.out)⟩
  · replace c4 := Bool.eq_false_iff.mpr c4
    subst c4
    have H1 : (some false) = some r := by rw [if_neg (show ¬ (false = true) by decide)] at H; exact H
    clear H
    have H := H1
    clear H1
    obtain rfl := Option.some.inj H
    go_enter Try.func5, Try.ntmps5
    go_wp2_with (first | (go_at_call 10; (with_reducible refine (privitylaw05_awake.calls k  false _ A3.out).mono ?_); rintro e w34 ⟨rfl, hb⟩; have n0_ := Aside0.mk (below_step (by repeat (first | (with_reducible first | exact HB.out | apply below_alloc | apply pw_below_drewN | apply below_drew1) | exact HB.out)) hb); clear HB; have HB := n0_; clear n0_; (try clear hb); (try clear hb2); (try clear hk); (try clear hi)))
    repeat (go_quiet (first | (go_at_call 10; (with_reducible refine (privitylaw05_awake.calls k  false _ A3.out).mono ?_); rintro e w34 ⟨rfl, hb⟩; have n0_ := Aside0.mk (below_step (by repeat (first | (with_reducible first | exact HB.out | apply below_alloc | apply pw_below_drewN | apply below_drew1) | exact HB.out)) hb); clear HB; have HB := n0_; clear n0_; (try clear hb); (try clear hb2); (try clear hk); (try clear hi))); try go_wp2_with (first | (go_at_call 10; (with_reducible refine (privitylaw05_awake.calls k  false _ A3.out).mono ?_); rintro e w34 ⟨rfl, hb⟩; have n0_ := Aside0.mk (below_step (by repeat (first | (with_reducible first | exact HB.out | apply below_alloc | apply pw_below_drewN | apply below_drew1) | exact HB.out)) hb); clear HB; have HB := n0_; clear n0_; (try clear hb); (try clear hb2); (try clear hk); (try clear hi))))
    go_ret
    exact ⟨by first | rfl | (simp [errW_none, errW_some] <;> rfl) | (simp [*, errW_none, errW_some] <;> rfl), by repeat (first | (with_reducible first | exact HB.out | apply below_alloc | apply pw_below_drewN | apply below_drew1) | exact HB.out)⟩
end Go.Proofs.Ytdbmhpfbbikjjaa.Pr
end
section
/-
  The reference of layer 1: what its printed functions answer.
-/
namespace Go.Proofs.Ytdbmhpfbbikjjaa.E
open Go.RowKit Go.Proofs.Ytdbmhpfbbikjjaa.Pr Go.Proofs.Ytdbmhpfbbikjjaa.Hw Go.Proofs.YtdbmhpfbbikjjaaW.PrintWords Go.Proofs.YtdbmhpfbbikjjaaW.PrintLast Go.Proofs.YtdbmhpfbbikjjaaW.PrintMore
set_option linter.unusedVariables false
set_option linter.unusedSimpArgs false

theorem wcap {n : Int} (h : 0 ≤ n) (h2 : n < 9223372036854775808) : wrap64 n = n := by unfold wrap64; omega
theorem wnat {n : Nat} (h : n < 1099511627776) : wrap64 ((n : Int) + 1) = ((n + 1 : Nat) : Int) := by rw [wcap (by omega) (by omega)]; omega
/-- From the end back to the start. -/
theorem up {Q : Nat → Prop} {n : Nat} (hn : Q n) (hs : ∀ i, i < n → Q (i + 1) → Q i) : Q 0 := by
  have : ∀ d, d ≤ n → Q (n - d) := by
    intro d
    induction d with
    | zero => intro _; exact hn
    | succ d ih =>
      intro h
      have h1 := ih (by omega)
      refine hs (n - (d + 1)) (by omega) ?_
      rwa [show n - (d + 1) + 1 = n - d from by omega]
  have := this n (Nat.le_refl _)
  rwa [Nat.sub_self] at this
theorem exponent_eq (p : Int) : privityref01_Exponent.f 10 p = if p = 31 then some 5 else if p = 127 then some 7 else if p = 8191 then some 13 else if p = 131071 then some 17 else if p = 524287 then some 19 else if p = 2147483647 then some 31 else if p = 2305843009213693951 then some 61 else some 0 := by kernel_rfl
theorem supported_ev (p : Int) : Ev (fun k => privityref01_Supported.f k p) (supB p) := by
  refine Ev.of (fun k => privityref01_Supported.mono _ _) (k := 10) ?_
  show (privityref01_Exponent.f 10 p).bind _ = _
  rw [exponent_eq]
  unfold supB
  by_cases h1 : p = 31
  · subst h1; rfl
  by_cases h2 : p = 127
  · subst h2; rfl
  by_cases h3 : p = 8191
  · subst h3; rfl
  by_cases h4 : p = 131071
  · subst h4; rfl
  by_cases h5 : p = 524287
  · subst h5; rfl
  by_cases h6 : p = 2147483647
  · subst h6; rfl
  by_cases h7 : p = 2305843009213693951
  · subst h7; rfl
  rw [if_neg h1, if_neg h2, if_neg h3, if_neg h4, if_neg h5, if_neg h6, if_neg h7]
  simp [h1, h2, h3, h4, h5, h6, h7]
theorem tmod_pos {a p : Int} (h : 0 ≤ a) : Int.tmod a p = a % p := Int.tmod_eq_emod_of_nonneg h
theorem radd_eq {p : Int} (hp : Supp p) {a b : Int} (ha : Res p a) (hb : Res p b) : privityref01_Add.f p a b = some ((a + b) % p) := by
  have := hp.bd
  obtain ⟨a0, a1⟩ := ha
  obtain ⟨b0, b1⟩ := hb
  unfold privityref01_Add.f
  rw [if_neg (by omega), wrapU_id (by omega) (by omega), tmod_pos (by omega)]
theorem rneg_eq {p : Int} (hp : Supp p) {a : Int} (ha : Res p a) : privityref01_Neg.f p a = some (-a % p) := by
  have := hp.bd
  obtain ⟨a0, a1⟩ := ha
  unfold privityref01_Neg.f
  rw [if_neg (by omega), wrapU_id (by omega) (by omega), tmod_pos (by omega), show p - a = -a + p * 1 from by omega, Int.add_mul_emod_self_left]
theorem rsub_eq {p : Int} (hp : Supp p) {a b : Int} (ha : Res p a) (hb : Res p b) : privityref01_Sub.f p a b = some ((a - b) % p) := by
  have := hp.bd
  obtain ⟨a0, a1⟩ := ha
  obtain ⟨b0, b1⟩ := hb
  unfold privityref01_Sub.f
  rw [if_neg (by omega), wrapU_id (n := a + p) (by omega) (by omega), wrapU_id (by omega) (by omega), tmod_pos (by omega), show a + p - b = a - b + p * 1 from by omega, Int.add_mul_emod_self_left]
theorem rmul_l0 {p : Int} (hp : Supp p) : ∀ (n : Nat) (a out : Int), n < 18446744073709551616 → Res p a → Res p out → Ev (fun k => privityref01_Mul.l0 k p a n out) ((out + a * n) % p) := by
  intro n
  induction n using Nat.strongRecOn with
  | _ n ih =>
    intro a out hn ha ho
    have hb := hp.bd
    obtain ⟨a0, a1⟩ := ha
    obtain ⟨o0, o1⟩ := ho
    by_cases h0 : n = 0
    · subst h0
      refine Ev.of (fun k => (privityref01_Mul.mono_l k) _ _ _ _) (k := 1) ?_
      simp only [privityref01_Mul.l0]
      rw [if_neg (by omega), Int.natCast_zero, Int.mul_zero, Int.add_zero, Int.emod_eq_of_lt o0 o1]
    · have e1 : Int.tmod (n : Int) 2 = n % 2 := tmod_pos (by omega)
      have e2 : IntKind.u64.wrap (Int.tdiv (n : Int) 2) = ((n / 2 : Nat) : Int) := by
        rw [Int.tdiv_eq_ediv_of_nonneg (by omega), wrapU_id (by omega) (by omega)]; omega
      have e3 : IntKind.u64.wrap (a + a) = a + a := wrapU_id (by omega) (by omega)
      have e4 : IntKind.u64.wrap (out + a) = out + a := wrapU_id (by omega) (by omega)
      have hN : (n : Int) = 2 * ((n / 2 : Nat) : Int) + n % 2 := by omega
      by_cases hodd : n % 2 = 1
      · have h := ih (n / 2) (by omega) ((a + a) % p) ((out + a) % p) (by omega) (Res.mod hp _) (Res.mod hp _)
        refine Ev.step (fun k => ?_) (f := fun k => privityref01_Mul.l0 k p ((a + a) % p) ((n / 2 : Nat) : Int) ((out + a) % p)) ?_
        · simp only [privityref01_Mul.l0]
          rw [if_pos (by omega), if_pos (by omega), if_neg (by omega), e2, e3, e4, tmod_pos (by omega), tmod_pos (by omega)]
        · rw [show (out + a * n) % p = ((out + a) % p + (a + a) % p * ((n / 2 : Nat) : Int)) % p from ?_]
          · exact h
          · rw [addm (modm p (out + a)) (mulm (modm p (a + a)) rfl)]
            congr 1
            have : (n : Int) = 2 * ((n / 2 : Nat) : Int) + 1 := by omega
            generalize ((n / 2 : Nat) : Int) = m at *
            rw [this]; grind
      · have h := ih (n / 2) (by omega) ((a + a) % p) out (by omega) (Res.mod hp _) ⟨o0, o1⟩
        refine Ev.step (fun k => ?_) (f := fun k => privityref01_Mul.l0 k p ((a + a) % p) ((n / 2 : Nat) : Int) out) ?_
        · simp only [privityref01_Mul.l0]
          rw [if_pos (by omega), if_neg (by omega), if_neg (by omega), e2, e3, tmod_pos (by omega)]
        · rw [show (out + a * n) % p = (out + (a + a) % p * ((n / 2 : Nat) : Int)) % p from ?_]
          · exact h
          · rw [addm (a := out) rfl (mulm (modm p (a + a)) rfl)]
            congr 1
            have : (n : Int) = 2 * ((n / 2 : Nat) : Int) := by omega
            generalize ((n / 2 : Nat) : Int) = m at *
            rw [this]; grind
theorem rmul_ev {p : Int} (hp : Supp p) {a b : Int} (ha : Res p a) (hb : Res p b) : Ev (fun k => privityref01_Mul.f k p a b) (a * b % p) := by
  have h := hp.bd
  have := rmul_l0 hp b.toNat a 0 (by have := hb.1; have := hb.2; omega) ha ⟨by omega, by omega⟩
  rw [Int.toNat_of_nonneg hb.1, Int.zero_add] at this
  exact this
theorem rpow_l0 {p : Int} (h : Supp p) : ∀ (n : Nat) (a out : Int), n < 18446744073709551616 → Res p a → Res p out → Ev (fun k => privityref01_Pow.l0 k p a n out) (out * a ^ n % p) := by
  intro n
  induction n using Nat.strongRecOn with
  | _ n ih =>
    intro a out hn ha ho
    by_cases h0 : n = 0
    · subst h0
      refine Ev.of (fun k => (privityref01_Pow.mono_l k) _ _ _ _) (k := 1) ?_
      simp only [privityref01_Pow.l0]
      rw [if_neg (by omega), Int.pow_zero, Int.mul_one, ho.eq]
    · have hsq := rmul_ev h ha ha
      have hrec := fun out' ho' => ih (n / 2) (by omega) (a * a % p) out' (by omega) (Res.mod h _) ho'
      have eh := pow_two_half a n
      have e1 := pow_mod_base (a * a) p (n / 2)
      have t1 : Int.tmod (n : Int) 2 = n % 2 := tmod_pos (by omega)
      have t2 : IntKind.u64.wrap (Int.tdiv (n : Int) 2) = ((n / 2 : Nat) : Int) := by
        rw [Int.tdiv_eq_ediv_of_nonneg (by omega), wrapU_id (by omega) (by omega)]; omega
      by_cases hodd : n % 2 = 1
      · refine Ev.step (f := fun k => (privityref01_Mul.f k p out a).bind fun t244 => ((privityref01_Mul.f k p a a).bind fun t245 => (privityref01_Pow.l0 k p t245 ((n / 2 : Nat) : Int) t244))) (fun k => ?_) ?_
        · simp only [privityref01_Pow.l0]
          rw [if_pos (by omega), if_pos (by omega), t2]
        · refine Ev.bind (rmul_ev h ho ha) (Ev.bind hsq ?_)
          have := hrec (out * a % p) (Res.mod h _)
          rw [show out * a ^ n % p = out * a % p * (a * a % p) ^ (n / 2) % p from ?_]
          · exact this
          · rw [mulm (Int.emod_emod_of_dvd (out * a) (Int.dvd_refl p)) e1, eh, hodd, Int.pow_one, Int.mul_assoc, Int.mul_comm a ((a * a) ^ (n / 2))]
      · refine Ev.step (f := fun k => (privityref01_Mul.f k p a a).bind fun t246 => (privityref01_Pow.l0 k p t246 ((n / 2 : Nat) : Int) out)) (fun k => ?_) ?_
        · simp only [privityref01_Pow.l0]
          rw [if_pos (by omega), if_neg (by omega), t2]
        · refine Ev.bind hsq ?_
          have := hrec out ho
          rw [show out * a ^ n % p = out * (a * a % p) ^ (n / 2) % p from ?_]
          · exact this
          · rw [mulm (a := out) rfl e1, eh, show n % 2 = 0 from by omega, Int.pow_zero, Int.mul_one]
theorem rinv_ev {p : Int} (h : Supp p) {a : Int} (ha : Res p a) (h0 : a ≠ 0) : Ev (fun k => privityref01_Inverse.f k p a) (invp p a, 0) := by
  have := h.bd
  have e := rpow_l0 h (p - 2).toNat a 1 (by omega) ha ⟨by omega, by omega⟩
  rw [Int.one_mul, show ((p - 2).toNat : Int) = p - 2 from Int.toNat_of_nonneg (by omega)] at e
  refine (Ev.bind (f := fun k t => some (t, 0)) e (Ev.now _)).congr fun k => ?_
  show (if a = 0 then _ else (privityref01_Pow.f k p a (IntKind.u64.wrap (p - 2))).bind _) = _
  rw [if_neg h0, wrapU_id (by omega) (by omega)]
  rfl
end Go.Proofs.Ytdbmhpfbbikjjaa.E
end
section
/-
  Plain mathematics: polynomials over a prime field, as lists of coefficients: values, roots, uniqueness. No program in sight.
-/
namespace Go.Proofs.Ytdbmhpfbbikjjaa.Pl
open Go.Proofs.Ytdbmhpfbbikjjaa.Fd

section
variable {p : Nat} [NeZero p]

/-- The value at x: the lowest coefficient first. -/
def ev (x : Fin p) : List (Fin p) → Fin p
  | [] => 0
  | c :: f => c + x * ev x f
/-- The quotient by X - a. -/
def quot (a : Fin p) : List (Fin p) → List (Fin p)
  | [] => []
  | _ :: f => match f with
    | [] => []
    | _ => ev a f :: quot a f
theorem quot_length (a : Fin p) : ∀ f : List (Fin p), (quot a f).length = f.length - 1
  | [] => rfl
  | [_] => rfl
  | _ :: d :: f => by
    have := quot_length a (d :: f)
    simp only [quot, List.length_cons] at *
    omega
theorem quot_spec (a x : Fin p) : ∀ f : List (Fin p), ev x f = (x - a) * ev x (quot a f) + ev a f
  | [] => by simp only [quot, ev]; grind
  | [c] => by simp only [quot, ev]; grind
  | c :: d :: f => by
    have h := quot_spec a x (d :: f)
    have e : quot a (c :: d :: f) = ev a (d :: f) :: quot a (d :: f) := rfl
    rw [e]
    generalize hq : quot a (d :: f) = q at *
    rw [ev, h]
    show _ = (x - a) * (ev a (d :: f) + x * ev x q) + (c + a * ev a (d :: f))
    grind
theorem zero_of_quot (a : Fin p) : ∀ f : List (Fin p), (∀ c ∈ quot a f, c = 0) → ev a f = 0 → ∀ c ∈ f, c = 0
  | [], _, _ => by simp
  | [c], _, h => by
    intro x hx
    have h : c + a * 0 = 0 := h
    simp only [List.mem_cons, List.not_mem_nil, or_false] at hx
    subst hx; grind
  | c :: d :: f, hq, h => by
    have e : quot a (c :: d :: f) = ev a (d :: f) :: quot a (d :: f) := rfl
    rw [e] at hq
    have h1 : ev a (d :: f) = 0 := hq _ (by simp)
    have ih := zero_of_quot a (d :: f) (fun x hx => hq x (List.mem_cons_of_mem _ hx)) h1
    have h2 : c + a * ev a (d :: f) = 0 := h
    rw [h1] at h2
    have hc : c = 0 := by grind
    intro x hx
    rcases List.mem_cons.1 hx with rfl | hx
    · exact hc
    · exact ih x hx
/-- No zero divisors. -/
def Dom (p : Nat) [NeZero p] : Prop := ∀ a b : Fin p, a * b = 0 → a = 0 ∨ b = 0
theorem zero_of_roots (hd : Dom p) : ∀ (xs f : List (Fin p)), xs.Nodup → f.length ≤ xs.length → (∀ x ∈ xs, ev x f = 0) → ∀ c ∈ f, c = 0
  | [], f, _, hl, _ => by
    have : f = [] := by cases f with | nil => rfl | cons _ _ => simp at hl
    subst this; simp
  | a :: xs, f, hn, hl, h => by
    have hn' := List.nodup_cons.1 hn
    refine zero_of_quot a f (zero_of_roots hd xs (quot a f) hn'.2 (by rw [quot_length]; simp at hl; omega) fun x hx => ?_) (h a (by simp))
    have h1 := quot_spec a x f
    rw [h x (List.mem_cons_of_mem _ hx), h a (by simp)] at h1
    have h2 : (x - a) * ev x (quot a f) = 0 := by grind
    rcases hd _ _ h2 with h3 | h3
    · have : x = a := by grind
      subst this; exact absurd hx hn'.1
    · exact h3
/-- The difference, coefficient by coefficient. -/
def sub : List (Fin p) → List (Fin p) → List (Fin p)
  | [], g => g.map fun c => -c
  | f, [] => f
  | c :: f, d :: g => (c - d) :: sub f g
omit [NeZero p] in
theorem sub_length : ∀ f g : List (Fin p), (sub f g).length = max f.length g.length
  | [], g => by simp [sub]
  | _ :: _, [] => by simp [sub]
  | _ :: f, _ :: g => by simp [sub, sub_length f g]
theorem ev_neg (x : Fin p) : ∀ f : List (Fin p), ev x (f.map fun c => -c) = - ev x f
  | [] => by simp only [List.map_nil, ev]; grind
  | c :: f => by simp only [List.map_cons, ev, ev_neg x f]; grind
theorem ev_sub (x : Fin p) : ∀ f g : List (Fin p), ev x (sub f g) = ev x f - ev x g
  | [], g => by simp only [sub, ev_neg, ev]; grind
  | _ :: _, [] => by simp only [sub, ev]; grind
  | c :: f, d :: g => by simp only [sub, ev, ev_sub x f g]; grind
theorem getD_sub (i : Nat) : ∀ f g : List (Fin p), (sub f g).getD i 0 = f.getD i 0 - g.getD i 0 := by
  induction i with
  | zero =>
    intro f g
    cases f with
    | nil => cases g with
      | nil => simp only [sub, List.map_nil, List.getD_nil]; grind
      | cons d g => simp only [sub, List.map_cons, List.getD_cons_zero, List.getD_nil]; grind
    | cons c f => cases g with
      | nil => simp only [sub, List.getD_cons_zero, List.getD_nil]; grind
      | cons d g => simp only [sub, List.getD_cons_zero]
  | succ i ih =>
    intro f g
    cases f with
    | nil => cases g with
      | nil => simp only [sub, List.map_nil, List.getD_nil]; grind
      | cons d g =>
        have := ih [] g
        simp only [sub, List.map_cons, List.getD_cons_succ, List.getD_nil] at *
        exact this
    | cons c f => cases g with
      | nil => simp only [sub, List.getD_cons_succ, List.getD_nil]; grind
      | cons d g => simp only [sub, List.getD_cons_succ]; exact ih f g
theorem getD_zero {f : List (Fin p)} (h : ∀ c ∈ f, c = 0) (i : Nat) : f.getD i 0 = 0 := by
  rw [List.getD_eq_getElem?_getD]
  by_cases hi : i < f.length
  · rw [List.getElem?_eq_getElem hi]; exact h _ (List.getElem_mem hi)
  · rw [List.getElem?_eq_none (by omega)]; rfl
/-- Two polynomials of at most n coefficients that agree at n points are one. -/
theorem unique (hd : Dom p) (xs f g : List (Fin p)) (hn : xs.Nodup) (hf : f.length ≤ xs.length) (hg : g.length ≤ xs.length) (h : ∀ x ∈ xs, ev x f = ev x g) (i : Nat) : f.getD i 0 = g.getD i 0 := by
  have h1 := getD_zero (zero_of_roots hd xs (sub f g) hn (by rw [sub_length]; omega) fun x hx => by rw [ev_sub, h x hx]; grind) i
  rw [getD_sub] at h1
  grind
/-- Values do not see zeros at the end. -/
theorem ev_congr (x : Fin p) : ∀ f g : List (Fin p), (∀ i, f.getD i 0 = g.getD i 0) → ev x f = ev x g := by
  intro f g h
  have : ∀ c ∈ sub f g, c = 0 := by
    intro c hc
    obtain ⟨i, hi, rfl⟩ := List.getElem_of_mem hc
    have := getD_sub i f g
    rw [h i, List.getD_eq_getElem?_getD, List.getElem?_eq_getElem hi] at this
    simp only [Option.getD_some] at this
    rw [this]; grind
  have h0 : ∀ l : List (Fin p), (∀ c ∈ l, c = 0) → ev x l = 0 := by
    intro l
    induction l with
    | nil => intro _; rfl
    | cons c l ih => intro hl; rw [ev, ih (fun d hd => hl d (List.mem_cons_of_mem _ hd)), hl c (by simp)]; grind
  have h1 := h0 _ this
  rw [ev_sub] at h1
  grind
end
end Go.Proofs.Ytdbmhpfbbikjjaa.Pl
end
section
/-
  Plain mathematics: values of lists of residues, whole numbers as residues, products of linear factors. No program in sight.
-/
namespace Go.Proofs.Ytdbmhpfbbikjjaa.Pl
open Go.Proofs.Ytdbmhpfbbikjjaa.Fd

section
variable {p : Nat} [NeZero p]

/-- The n-th power. -/
def mono (x : Fin p) : Nat → Fin p
  | 0 => 1
  | n + 1 => x * mono x n
theorem mono_add (x : Fin p) (a : Nat) : ∀ b, mono x (a + b) = mono x a * mono x b
  | 0 => by simp only [mono, Nat.add_zero]; grind
  | b + 1 => by rw [← Nat.add_assoc]; simp only [mono]; rw [mono_add x a b]; grind
theorem ev_append (x : Fin p) : ∀ f g : List (Fin p), ev x (f ++ g) = ev x f + mono x f.length * ev x g
  | [], g => by simp only [List.nil_append, ev, List.length_nil, mono]; grind
  | c :: f, g => by simp only [List.cons_append, ev, List.length_cons, mono, ev_append x f g]; grind
theorem ev_zeros (x : Fin p) : ∀ n, ev x (List.replicate n 0) = 0
  | 0 => rfl
  | n + 1 => by simp only [List.replicate_succ, ev, ev_zeros x n]; grind
theorem ev_set (x v : Fin p) : ∀ (f : List (Fin p)) (i : Nat), i < f.length → ev x (f.set i v) = ev x f + (v - f.getD i 0) * mono x i
  | [], _, h => by simp at h
  | c :: f, 0, _ => by simp only [List.set_cons_zero, ev, mono, List.getD_cons_zero]; grind
  | c :: f, i + 1, h => by
    have := ev_set x v f i (by simpa using h)
    simp only [List.set_cons_succ, ev, mono, List.getD_cons_succ, this]; grind
theorem ev_take_succ (x : Fin p) : ∀ (f : List (Fin p)) (n : Nat), ev x (f.take (n + 1)) = ev x (f.take n) + f.getD n 0 * mono x n
  | [], n => by simp only [List.take_nil, List.getD_nil, ev]; grind
  | c :: f, 0 => by simp only [List.take_succ_cons, List.take_zero, ev, List.getD_cons_zero, mono]; grind
  | c :: f, n + 1 => by
    have := ev_take_succ x f n
    simp only [List.take_succ_cons, ev, List.getD_cons_succ, mono] at *
    rw [this]; grind
/-- A whole number's residue. -/
def tf (p : Nat) [NeZero p] (a : Int) : Fin p := ⟨(a % (p : Int)).toNat, by
  have h : (0 : Int) < p := by have := Nat.pos_of_neZero p; omega
  have := Int.emod_lt_of_pos a h
  have := Int.emod_nonneg a (by omega : (p : Int) ≠ 0)
  omega⟩
theorem tf_val (a : Int) : (((tf p a).val : Nat) : Int) = a % (p : Int) := by
  have h : (0 : Int) < p := by have := Nat.pos_of_neZero p; omega
  show (((a % (p : Int)).toNat : Nat) : Int) = _
  rw [Int.toNat_of_nonneg (Int.emod_nonneg a (by omega))]
theorem tf_eq {a : Int} {x : Fin p} (h : ((x.val : Nat) : Int) = a % (p : Int)) : tf p a = x := by
  apply Fin.ext
  have := tf_val (p := p) a
  omega
theorem tf_of_emod {a b : Int} (h : a % (p : Int) = b % (p : Int)) : tf p a = tf p b := tf_eq (by rw [tf_val, h])
theorem tf_emod (a : Int) : tf p (a % (p : Int)) = tf p a := tf_of_emod (Int.emod_emod_of_dvd _ (Int.dvd_refl _))
theorem tf_add (a b : Int) : tf p (a + b) = tf p a + tf p b := by
  refine tf_eq ?_
  rw [Fin.val_add, Int.natCast_emod, Int.natCast_add, tf_val, tf_val, ← Int.add_emod]
theorem tf_mul (a b : Int) : tf p (a * b) = tf p a * tf p b := by
  refine tf_eq ?_
  rw [Fin.val_mul, Int.natCast_emod, Int.natCast_mul, tf_val, tf_val, ← Int.mul_emod]
theorem tf_zero : tf p 0 = 0 := tf_eq (by simp)
theorem tf_one : tf p 1 = 1 := by
  refine tf_eq ?_
  rw [show ((1 : Fin p).val) = 1 % p from rfl]; simp
theorem tf_neg (a : Int) : tf p (-a) = - tf p a := by
  have h : tf p (-a) + tf p a = 0 := by rw [← tf_add, show -a + a = 0 from by omega, tf_zero]
  grind
theorem tf_sub (a b : Int) : tf p (a - b) = tf p a - tf p b := by rw [Int.sub_eq_add_neg, tf_add, tf_neg]; grind
theorem tf_of_val (x : Fin p) : tf p ((x.val : Nat) : Int) = x := tf_eq (by
  have := x.isLt
  rw [← Int.natCast_emod, Nat.mod_eq_of_lt this])
theorem tf_inj {a b : Int} (ha : 0 ≤ a ∧ a < (p : Int)) (hb : 0 ≤ b ∧ b < (p : Int)) (h : tf p a = tf p b) : a = b := by
  have h1 := tf_val (p := p) a
  rw [h, tf_val, Int.emod_eq_of_lt ha.1 ha.2, Int.emod_eq_of_lt hb.1 hb.2] at h1
  exact h1.symm
theorem getD_tf (l : List Int) (i : Nat) : (l.map (tf p)).getD i 0 = tf p (l.getD i 0) := by
  rw [List.getD_eq_getElem?_getD, List.getD_eq_getElem?_getD, List.getElem?_map]
  cases l[i]? with
  | none => simp [tf_zero]
  | some v => rfl
/-- The product of the factors y - o. -/
def lin (y : Fin p) : List (Fin p) → Fin p
  | [] => 1
  | o :: l => (y - o) * lin y l
theorem lin_zero {y : Fin p} : ∀ {l : List (Fin p)}, y ∈ l → lin y l = 0
  | o :: l, h => by
    rcases List.mem_cons.1 h with h | h
    · subst h; simp only [lin]; grind
    · simp only [lin]; rw [lin_zero h]; grind
end
end Go.Proofs.Ytdbmhpfbbikjjaa.Pl
end
section
/-
  What the hand-proved functions compute, as polynomials over the field: values, lengths, uniqueness.
-/
namespace Go.Proofs.Ytdbmhpfbbikjjaa.E
open Go.RowKit Go.Proofs.Ytdbmhpfbbikjjaa.Pr Go.Proofs.Ytdbmhpfbbikjjaa.Hw Go.Proofs.Ytdbmhpfbbikjjaa.Pl Go.Proofs.YtdbmhpfbbikjjaaW.PrintWords Go.Proofs.YtdbmhpfbbikjjaaW.PrintLast Go.Proofs.YtdbmhpfbbikjjaaW.PrintMore
set_option linter.unusedVariables false
set_option linter.unusedSimpArgs false

theorem nz {p : Int} (hp : Supp p) : NeZero p.toNat := ⟨by have := hp.bd; omega⟩
theorem cast_p {p : Int} (hp : Supp p) : ((p.toNat : Nat) : Int) = p := by have := hp.bd; omega
section
variable {p : Int} (hp : Supp p) [NeZero p.toNat]

/-- The residue, in the field. -/
def T (p : Int) [NeZero p.toNat] (a : Int) : Fin p.toNat := tf p.toNat a
def M (p : Int) [NeZero p.toNat] (l : List Int) : List (Fin p.toNat) := l.map (T p)
include hp in
theorem T_mod (a : Int) : T p (a % p) = T p a := by
  have h := tf_emod (p := p.toNat) a
  rw [cast_p hp] at h; exact h
theorem T_add (a b : Int) : T p (a + b) = T p a + T p b := tf_add a b
theorem T_mul (a b : Int) : T p (a * b) = T p a * T p b := tf_mul a b
theorem T_sub (a b : Int) : T p (a - b) = T p a - T p b := tf_sub a b
theorem T_neg (a : Int) : T p (-a) = - T p a := tf_neg a
theorem T_zero : T p 0 = 0 := tf_zero
theorem T_one : T p 1 = 1 := tf_one
include hp in
theorem T_inj {a b : Int} (ha : Res p a) (hb : Res p b) (h : T p a = T p b) : a = b :=
  tf_inj (p := p.toNat) (by rw [cast_p hp]; exact ha) (by rw [cast_p hp]; exact hb) h
include hp in
theorem T_inv {a : Int} (ha : Res p a) (h0 : a ≠ 0) : T p a * T p (invp p a) = 1 := by
  rw [← T_mul, ← T_one, ← T_mod hp (a * invp p a), inv_spec hp ha h0]
include hp in
theorem T_back (x : Fin p.toNat) : Res p ((x.val : Nat) : Int) ∧ T p ((x.val : Nat) : Int) = x := by
  have := x.isLt
  have := cast_p hp
  exact ⟨⟨by omega, by omega⟩, tf_of_val x⟩
include hp in
theorem dom : Dom p.toNat := by
  intro a b h
  obtain ⟨r, e⟩ := T_back hp a
  by_cases h0 : ((a.val : Nat) : Int) = 0
  · left; rw [← e, h0, T_zero]
  · right
    have h1 := T_inv hp r h0
    rw [e] at h1
    grind
include hp in
theorem ev_evI (x : Int) : ∀ l, T p (evI p x l) = ev (T p x) (M p l)
  | [] => T_zero
  | c :: l => by
    have := ev_evI x l
    simp only [evI, M, List.map_cons, ev]
    rw [T_mod hp, T_add, T_mod hp, T_mul, this, M]
    grind
theorem M_getD (l : List Int) (i : Nat) : (M p l).getD i 0 = T p (l.getD i 0) := getD_tf l i
theorem M_length (l : List Int) : (M p l).length = l.length := List.length_map _
theorem ev_trimL (x : Fin p.toNat) (l : List Int) : ev x (M p (trimL l)) = ev x (M p l) :=
  ev_congr x _ _ (fun i => by rw [M_getD, M_getD, trimL_getD])
theorem ev_grow (x : Fin p.toNat) (l : List Int) (n : Nat) : ev x (M p (grow l n)) = ev x (M p l) := by
  have : M p (grow l n) = M p l ++ List.replicate (n - l.length) 0 := by
    unfold grow M; rw [List.map_append, List.map_replicate, T_zero]
  rw [this, ev_append, ev_zeros]; grind
include hp in
theorem ev_put (x : Fin p.toNat) (l : List Int) (i : Nat) (k : Int) : ev x (M p (putL p l i k)) = ev x (M p l) + T p k * mono x i := by
  have hg : i < (grow l (i + 1)).length := by unfold grow; simp; omega
  have : M p (putL p l i k) = (M p (grow l (i + 1))).set i (T p ((grow l (i + 1)).getD i 0) + T p k) := by
    unfold putL M; rw [List.map_set, T_mod hp, T_add]
  rw [this, ev_set _ _ _ _ (by rw [M_length]; exact hg), ev_grow, M_getD]
  grind
include hp in
theorem ev_puts (x : Fin p.toNat) (m l : List Int) : ∀ n, ev x (M p (putsL p m l n)) = ev x (M p m) + ev x ((M p l).take n)
  | 0 => by simp only [putsL, List.take_zero, ev]; grind
  | n + 1 => by rw [putsL, ev_put hp, ev_puts x m l n, ev_take_succ, M_getD]; grind
theorem M_take_all (l : List Int) : (M p l).take l.length = M p l := by rw [← M_length (p := p) l, List.take_length]
include hp in
theorem ev_addP (x : Fin p.toNat) (a b : List Int) : ev x (M p (addP p a b)) = ev x (M p a) + ev x (M p b) := by
  unfold addP
  rw [ev_puts hp, ev_puts hp, M_take_all, M_take_all]
  show ev x [] + _ + _ = _
  simp only [ev]; grind
include hp in
theorem ev_row (x : Fin p.toNat) (m : List Int) (u : Int) (b : List Int) (i : Nat) : ∀ n, ev x (M p (rowL p m u b i n)) = ev x (M p m) + T p u * mono x i * ev x ((M p b).take n)
  | 0 => by simp only [rowL, List.take_zero, ev]; grind
  | n + 1 => by
    rw [rowL, ev_put hp, ev_row x m u b i n, ev_take_succ, M_getD, T_mod hp, T_mul, mono_add, rd_nat]; grind
include hp in
theorem ev_muls (x : Fin p.toNat) (a b : List Int) : ∀ n, ev x (M p (mulsL p a b n)) = ev x ((M p a).take n) * ev x (M p b)
  | 0 => by simp only [mulsL, List.take_zero, M, List.map_nil, ev]; grind
  | n + 1 => by rw [mulsL, ev_row hp, ev_muls x a b n, M_take_all, ev_take_succ, M_getD, rd_nat]; grind
include hp in
theorem ev_scaleL (x : Fin p.toNat) (k : Int) : ∀ l, ev x (M p (l.map fun v => k * v % p)) = T p k * ev x (M p l)
  | [] => by simp only [M, List.map_nil, ev]; grind
  | c :: l => by
    have := ev_scaleL x k l
    simp only [M, List.map_cons, ev] at *
    rw [this, T_mod hp, T_mul]; grind
include hp in
theorem M_nodup : ∀ {xs : List Int}, (∀ x ∈ xs, Res p x) → xs.Nodup → (M p xs).Nodup
  | [], _, _ => List.nodup_nil
  | a :: xs, h, hn => by
    have hn' := List.nodup_cons.1 hn
    refine List.nodup_cons.2 ⟨fun hm => ?_, M_nodup (fun x hx => h x (List.mem_cons_of_mem _ hx)) hn'.2⟩
    obtain ⟨b, hb, e⟩ := List.mem_map.1 hm
    have := T_inj hp (h b (List.mem_cons_of_mem _ hb)) (h a (by simp)) e
    exact hn'.1 (this ▸ hb)
end

/-- Two lists of residues with at most n coefficients that agree at n points are one, but for zeros at the end. -/
theorem uniq {p : Int} (hp : Supp p) {xs f g : List Int} (hx : ∀ x ∈ xs, Res p x) (hn : xs.Nodup) (hf : ∀ x ∈ f, Res p x) (hg : ∀ x ∈ g, Res p x) (lf : f.length ≤ xs.length) (lg : g.length ≤ xs.length)
    (h : ∀ x ∈ xs, evI p x f = evI p x g) : trimL f = trimL g := by
  haveI := nz hp
  have hb := hp.bd
  refine trimL_ext fun i => ?_
  have hz : ∀ {l : List Int}, (∀ x ∈ l, Res p x) → Res p (l.getD i 0) := by
    intro l hl
    rw [List.getD_eq_getElem?_getD]
    by_cases hi : i < l.length
    · rw [List.getElem?_eq_getElem hi]; exact hl _ (List.getElem_mem hi)
    · rw [List.getElem?_eq_none (by omega)]; exact ⟨Int.le_refl 0, by show (0 : Int) < p; omega⟩
  refine T_inj hp (hz hf) (hz hg) ?_
  rw [← M_getD, ← M_getD]
  refine unique (dom hp) (M p xs) (M p f) (M p g) (M_nodup hp hx hn) (by simp only [M_length]; exact lf) (by simp only [M_length]; exact lg) (fun y hy => ?_) i
  obtain ⟨x, hxx, rfl⟩ := List.mem_map.1 hy
  rw [← ev_evI hp, ← ev_evI hp, h x hxx]
theorem mulsL_lin_length {p : Int} (f : List Int) (o : Int) : ∀ n, (mulsL p f [o, 1] n).length ≤ n + 1 := by
  intro n
  induction n with
  | zero => simp [mulsL]
  | succ n ih =>
    show (rowL p (mulsL p f [o, 1] n) (rd f n) [o, 1] n 2).length ≤ _
    simp only [rowL, putL_length, Nat.add_zero]; omega
section
variable {p : Int} (hp : Supp p) [NeZero p.toNat]
include hp in
/-- The factors of one round, as values. -/
theorem polS_ev (y : Fin p.toNat) (X : Int) : ∀ (l : List Int) (s : List Int × Int),
    ev y (M p (l.foldl (polStep p X) s).1) = ev y (M p s.1) * lin y (M p l) ∧ T p (l.foldl (polStep p X) s).2 = T p s.2 * lin (T p X) (M p l) ∧ (l.foldl (polStep p X) s).1.length ≤ s.1.length + l.length
  | [], s => ⟨by show _ = _ * 1; grind, by show _ = _ * 1; grind, by simp⟩
  | o :: l, s => by
    obtain ⟨h1, h2, h3⟩ := polS_ev y X l (polStep p X s o)
    have e1 : ev y (M p (polStep p X s o).1) = ev y (M p s.1) * (y - T p o) := by
      show ev y (M p (trimL (mulsL p s.1 [-o % p, 1] s.1.length))) = _
      rw [ev_trimL, ev_muls hp, M_take_all]
      simp only [M, List.map_cons, List.map_nil, ev, T_mod hp, T_neg, T_one]
      grind
    have e2 : T p (polStep p X s o).2 = T p s.2 * (T p X - T p o) := by
      show T p (s.2 * ((X - o) % p) % p) = _
      rw [T_mod hp, T_mul, T_mod hp, T_sub]
    have e3 : (polStep p X s o).1.length ≤ s.1.length + 1 := Nat.le_trans (trimL_length _) (mulsL_lin_length s.1 _ _)
    simp only [List.foldl_cons, List.length_cons]
    rw [h1, h2, e1, e2]
    refine ⟨?_, ?_, by omega⟩
    · simp only [M, List.map_cons, lin]; grind
    · simp only [M, List.map_cons, lin]; grind
end

theorem othersN_len (xs : List Int) (i : Nat) : ∀ n, (othersN xs i n).length = if i < n then n - 1 else n
  | 0 => rfl
  | n + 1 => by
    have ih := othersN_len xs i n
    unfold othersN
    by_cases h : n = i
    · subst h; rw [if_pos rfl, ih, if_neg (by omega), if_pos (by omega)]; omega
    · rw [if_neg h, List.length_append, ih]
      by_cases h2 : i < n
      · rw [if_pos h2, if_pos (by omega)]; simp; omega
      · rw [if_neg h2, if_neg (by omega)]; simp
theorem othersN_has (xs : List Int) (i j : Nat) (hne : j ≠ i) : ∀ n, j < n → rd xs j ∈ othersN xs i n
  | n + 1, h => by
    unfold othersN
    by_cases hj : j = n
    · subst hj; rw [if_neg hne]; simp
    · have := othersN_has xs i j hne n (by omega)
      split
      · exact this
      · exact List.mem_append_left _ this
theorem othersN_ne {xs : List Int} (hnd : xs.Nodup) (i : Nat) (hi : i < xs.length) (n : Nat) (hn : n ≤ xs.length) : ∀ o ∈ othersN xs i n, rd xs i ≠ o := by
  intro o ho
  obtain ⟨j, h1, h2, rfl⟩ := othersN_mem ho
  rw [rd_nat, rd_nat, Hw.getD_in _ _ hi, Hw.getD_in _ _ (by omega)]
  intro e
  rw [List.nodup_iff_pairwise_ne, List.pairwise_iff_getElem] at hnd
  rcases Nat.lt_trichotomy i j with h3 | h3 | h3
  · exact hnd i j hi (by omega) h3 e
  · exact h2 h3.symm
  · exact hnd j i (by omega) hi h3 e.symm
theorem othersN_res {p : Int} {xs : List Int} (hx : ∀ x ∈ xs, Res p x) (i n : Nat) (hn : n ≤ xs.length) : ∀ o ∈ othersN xs i n, Res p o := by
  intro o ho
  obtain ⟨j, h1, _, rfl⟩ := othersN_mem ho
  exact rd_res' hx j (by omega)
section
variable {p : Int} (hp : Supp p) [NeZero p.toNat]
/-- The sum of n values. -/
def sumF (f : Nat → Fin p.toNat) : Nat → Fin p.toNat
  | 0 => 0
  | n + 1 => sumF f n + f n
theorem sumF_one {f : Nat → Fin p.toNat} {j : Nat} : ∀ n, (∀ i, i < n → i ≠ j → f i = 0) → sumF f n = if j < n then f j else 0
  | 0, _ => rfl
  | n + 1, h => by
    simp only [sumF]
    rw [sumF_one n (fun i hi => h i (by omega))]
    by_cases hj : j = n
    · subst hj; rw [if_neg (by omega), if_pos (by omega)]; grind
    · rw [h n (by omega) (fun e => hj e.symm)]
      by_cases h2 : j < n
      · rw [if_pos h2, if_pos (by omega)]; grind
      · rw [if_neg h2, if_neg (by omega)]; grind
/-- The other places, in the field. -/
def oth (p : Int) [NeZero p.toNat] (xs : List Int) (i : Nat) : List (Fin p.toNat) := M p (othersN xs i xs.length)
/-- One over the product of the differences. -/
def dinv (p : Int) [NeZero p.toNat] (xs : List Int) (i : Nat) : Fin p.toNat := T p (invp p (lagS p 0 xs i).2)
include hp in
theorem lagS_ev (a : Int) (X : Int) : ∀ (l : List Int) (s : Int × Int),
    T p (l.foldl (lagStep p a X) s).1 = T p s.1 * lin (T p a) (M p l) ∧ T p (l.foldl (lagStep p a X) s).2 = T p s.2 * lin (T p X) (M p l)
  | [], s => ⟨by show _ = _ * 1; grind, by show _ = _ * 1; grind⟩
  | o :: l, s => by
    obtain ⟨h1, h2⟩ := lagS_ev a X l (lagStep p a X s o)
    simp only [List.foldl_cons, M, List.map_cons, lin]
    rw [h1, h2]
    simp only [lagStep, M]
    rw [T_mod hp, T_mod hp, T_mul, T_mul, T_mod hp, T_mod hp, T_sub, T_sub]
    constructor <;> grind
include hp in
theorem dinv_spec {xs : List Int} (hx : ∀ x ∈ xs, Res p x) (hn : xs.Nodup) (i : Nat) (hi : i < xs.length) : lin (T p (rd xs i)) (oth p xs i) * dinv p xs i = 1 := by
  have hb := hp.bd
  obtain ⟨h1, h2, h3⟩ := lagS_ok hp (a := 0) hx hn i hi
  have h := (lagS_ev hp 0 (rd xs i) (othersN xs i xs.length) (1, 1)).2
  have e := T_inv hp h2 h3
  have h' : T p (lagS p 0 xs i).2 = lin (T p (rd xs i)) (oth p xs i) := by
    unfold lagS oth; rw [h, T_one]; grind
  rw [h'] at e
  exact e
include hp in
theorem polTerm_ev {pts : List S38} (hx : PtsOk p pts) (hn : (xsOf pts).Nodup) (i : Nat) (hi : i < pts.length) (y : Fin p.toNat) :
    ev y (M p (polTerm p pts i)) = T p (rd_T38 pts (i : Int)).f1 * (lin y (oth p (xsOf pts) i) * dinv p (xsOf pts) i) := by
  have hl : (xsOf pts).length = pts.length := by simp [xsOf]
  obtain ⟨h1, h2, h3⟩ := polS_ev hp y (rd_T38 pts (i : Int)).f0 (othersN (xsOf pts) i pts.length) ([1], 1)
  obtain ⟨hr1, hr2, hlen, hD0⟩ := polS_ok hp hx hi hn
  have d := dinv_spec hp hx.xs hn i (by omega)
  have e := T_inv hp hr2 hD0
  unfold polTerm
  rw [ev_trimL, ev_scaleL hp, T_mod hp, T_mul]
  have e1 : ev y (M p (polS p pts i).1) = lin y (oth p (xsOf pts) i) := by
    unfold polS oth; rw [h1, hl]; simp only [M, List.map_cons, List.map_nil, ev, T_one]; grind
  have e2 : T p (polS p pts i).2 = lin (T p (rd (xsOf pts) i)) (oth p (xsOf pts) i) := by
    unfold polS oth; rw [h2, T_one, xsOf_rd pts i hi, hl]; grind
  rw [e1]
  rw [e2] at e
  generalize lin (T p (rd (xsOf pts) i)) (oth p (xsOf pts) i) = D at *
  have : T p (invp p (polS p pts i).2) = dinv p (xsOf pts) i := by grind
  rw [this]; grind
include hp in
theorem polSum_ev {pts : List S38} (hx : PtsOk p pts) (hn : (xsOf pts).Nodup) (y : Fin p.toNat) : ∀ n, n ≤ pts.length →
    ev y (M p (polSum p pts n)) = sumF (fun i => T p (rd_T38 pts (i : Int)).f1 * (lin y (oth p (xsOf pts) i) * dinv p (xsOf pts) i)) n
  | 0, _ => rfl
  | n + 1, h => by
    rw [polSum, ev_trimL, ev_addP hp, polSum_ev hx hn y n (by omega), polTerm_ev hp hx hn n (by omega) y]; rfl
include hp in
theorem polTerm_len {pts : List S38} (i : Nat) (hi : i < pts.length) : (polTerm p pts i).length ≤ pts.length := by
  obtain ⟨h1, h2, h3⟩ := polS_ev hp 0 (rd_T38 pts (i : Int)).f0 (othersN (xsOf pts) i pts.length) ([1], 1)
  rw [othersN_len, if_pos hi] at h3
  simp only [List.length_cons, List.length_nil] at h3
  refine Nat.le_trans (trimL_length _) ?_
  rw [List.length_map]
  unfold polS
  omega
include hp in
theorem polSum_len {pts : List S38} : ∀ n, n ≤ pts.length → (polSum p pts n).length ≤ pts.length
  | 0, _ => by simp [polSum]
  | n + 1, h => by
    have h1 := polSum_len (pts := pts) n (by omega)
    have h2 := polTerm_len hp (pts := pts) n (by omega)
    refine Nat.le_trans (trimL_length _) ?_
    rw [addP_length]; omega
include hp in
theorem polL_ev {pts : List S38} (hx : PtsOk p pts) (hn : (xsOf pts).Nodup) (y : Fin p.toNat) :
    ev y (M p (polL p pts)) = sumF (fun i => T p (rd_T38 pts (i : Int)).f1 * (lin y (oth p (xsOf pts) i) * dinv p (xsOf pts) i)) pts.length := by
  unfold polL; rw [ev_trimL, polSum_ev hp hx hn y pts.length (Nat.le_refl _)]
end

theorem polL_res {p : Int} (hp : Supp p) {pts : List S38} (hx : PtsOk p pts) : ∀ x ∈ polL p pts, Res p x := fun x h => (polSum_ok hp hx pts.length (Nat.le_refl _)).1 x (trimL_mem h)
theorem polL_len {p : Int} (hp : Supp p) {pts : List S38} : (polL p pts).length ≤ pts.length := by
  haveI := nz hp
  exact Nat.le_trans (trimL_length _) (polSum_len hp pts.length (Nat.le_refl _))
theorem polL_trim (p : Int) (pts : List S38) : trimL (polL p pts) = polL p pts := trimL_trimL _
/-- The polynomial passes through the points. -/
theorem polL_at {p : Int} (hp : Supp p) {pts : List S38} (hx : PtsOk p pts) (hn : (xsOf pts).Nodup) (j : Nat) (hj : j < pts.length) :
    evI p (rd_T38 pts (j : Int)).f0 (polL p pts) = (rd_T38 pts (j : Int)).f1 := by
  haveI := nz hp
  have hl : (xsOf pts).length = pts.length := by simp [xsOf]
  refine T_inj hp (evI_res hp _ _) (hx.at_ j hj).2 ?_
  rw [ev_evI hp, polL_ev hp hx hn, sumF_one (j := j) _ (fun i hi hij => ?_), if_pos hj]
  · have d := dinv_spec hp hx.xs hn j (by omega)
    rw [xsOf_rd pts j hj] at d
    grind
  · have : lin (T p (rd_T38 pts (j : Int)).f0) (oth p (xsOf pts) i) = 0 := by
      refine lin_zero ?_
      rw [← xsOf_rd pts j hj]
      exact List.mem_map_of_mem (othersN_has _ _ _ (fun e => hij e.symm) _ (by omega))
    rw [this]; grind
end Go.Proofs.Ytdbmhpfbbikjjaa.E
end
section
/-
  The reference of layer 4: what its printed functions answer.
-/
namespace Go.Proofs.Ytdbmhpfbbikjjaa.E
open Go.RowKit Go.Proofs.Ytdbmhpfbbikjjaa.Pr Go.Proofs.Ytdbmhpfbbikjjaa.Hw Go.Proofs.Ytdbmhpfbbikjjaa.Pl Go.Proofs.YtdbmhpfbbikjjaaW.PrintWords Go.Proofs.YtdbmhpfbbikjjaaW.PrintLast Go.Proofs.YtdbmhpfbbikjjaaW.PrintMore
set_option linter.unusedVariables false
set_option linter.unusedSimpArgs false

theorem rtrim_l0 (l : List Int) (hl : l.length ≤ 1099511627776) : ∀ (m : Nat), m ≤ l.length → (∀ j, m ≤ j → l.getD j 0 = 0) → Ev (fun k => privityref04_Trim.l0 k l (m : Int)) (trimL l) := by
  have hend : ∀ m : Nat, (trimL l).length = m → m ≤ l.length → ((some (([] : List Int) : List Int)).bind fun y250 => (if 0 ≤ (m : Int) then (if (m : Int) ≤ (l.length : Int) then (if y250.length + (l.take ((m : Int) : Int).toNat).length < 17592186044416 then (some (y250 ++ (l.take ((m : Int) : Int).toNat))) else (none)) else (none)) else (none))) = some (trimL l) := by
    intro m hm hle
    rw [Option.bind_some, if_pos (by omega), if_pos (by omega), Int.toNat_natCast, ← hm, trimL_take, if_pos (by have := trimL_length l; simp; omega)]
    rfl
  intro m
  induction m with
  | zero =>
    intro _ hz
    have : trimL l = [] := (trimL_nil_iff l).2 fun i => hz i (Nat.zero_le _)
    refine Ev.step (fun k => ?_) (Ev.now _)
    simp only [privityref04_Trim.l0]
    rw [if_neg (by omega)]
    exact hend 0 (by rw [this]; rfl) (Nat.zero_le _)
  | succ m ih =>
    intro hm hz
    have e : wrap64 (((m + 1 : Nat) : Int) - 1) = (m : Int) := by rw [wrap64]; omega
    by_cases h0 : l.getD m 0 = 0
    · refine Ev.step (fun k => ?_) (ih (by omega) (fun j hj => by
        by_cases e : j = m
        · rw [e]; exact h0
        · exact hz j (by omega)))
      simp only [privityref04_Trim.l0]
      rw [if_pos (by omega), e, if_pos (by omega), if_pos (by omega), rd_nat, if_pos h0]
    · refine Ev.step (fun k => ?_) (Ev.now _)
      simp only [privityref04_Trim.l0]
      rw [if_pos (by omega), e, if_pos (by omega), if_pos (by omega), rd_nat, if_neg h0]
      refine hend (m + 1) ?_ hm
      have hne : trimL l ≠ [] := fun e => h0 ((trimL_nil_iff l).1 e m)
      have hp : 0 < (trimL l).length := List.length_pos_iff.2 hne
      have h2 := trimL_last l hne
      rw [trimL_getD] at h2
      have h3 : (trimL l).length - 1 < m + 1 := Nat.lt_of_not_le fun h => h2 (hz _ h)
      have h4 : m < (trimL l).length := Nat.lt_of_not_le fun h => h0 (by rw [← trimL_getD, List.getD_eq_getElem?_getD, List.getElem?_eq_none h]; rfl)
      omega
theorem getD_out (l : List Int) (j : Nat) (h : l.length ≤ j) : l.getD j 0 = 0 := by rw [List.getD_eq_getElem?_getD, List.getElem?_eq_none h]; rfl
theorem rtrim_ev (l : List Int) (hl : l.length ≤ 1099511627776) : Ev (fun k => privityref04_Trim.f k l) (trimL l) :=
  rtrim_l0 l hl l.length (Nat.le_refl _) (fun j hj => getD_out l j hj)
theorem rcoef_eq (l : List Int) (i : Nat) : privityref04_Coefficient.f l (i : Int) = some (l.getD i 0) := by
  unfold privityref04_Coefficient.f
  rw [if_neg (by omega)]
  by_cases h : i < l.length
  · rw [if_neg (by omega), if_pos (by omega), if_pos (by omega), rd_nat]
  · rw [if_pos (by omega), getD_out l i (by omega)]
theorem res_getD {p : Int} (hp : Supp p) {l : List Int} (hl : ∀ x ∈ l, Res p x) (i : Nat) : Res p (l.getD i 0) := by
  have hb := hp.bd
  by_cases hi : i < l.length
  · rw [Hw.getD_in _ _ hi]; exact hl _ (List.getElem_mem hi)
  · rw [getD_out l i (by omega)]; exact ⟨Int.le_refl 0, by show (0 : Int) < p; omega⟩
/-! ### Coefficients of what the program adds up -/
theorem grow_getD (l : List Int) (n j : Nat) : (grow l n).getD j 0 = l.getD j 0 := by
  unfold grow
  by_cases h : j < l.length
  · rw [List.getD_eq_getElem?_getD, List.getD_eq_getElem?_getD, List.getElem?_append_left h]
  · rw [getD_out l j (by omega), List.getD_eq_getElem?_getD, List.getElem?_append_right (by omega)]
    by_cases h2 : j - l.length < n - l.length
    · rw [List.getElem?_replicate, if_pos h2]; rfl
    · rw [List.getElem?_replicate, if_neg h2]; rfl
theorem putL_getD (p : Int) (l : List Int) (i : Nat) (k : Int) (j : Nat) : (putL p l i k).getD j 0 = if j = i then (l.getD i 0 + k) % p else l.getD j 0 := by
  have hg : i < (grow l (i + 1)).length := by unfold grow; simp; omega
  unfold putL
  rw [List.getD_eq_getElem?_getD, List.getElem?_set]
  by_cases h : i = j
  · subst h; rw [if_pos rfl, if_pos hg, if_pos rfl, grow_getD]; rfl
  · rw [if_neg h, if_neg (fun e => h e.symm), ← List.getD_eq_getElem?_getD, grow_getD]
theorem putsL_getD (p : Int) (m l : List Int) (j : Nat) : ∀ n, (putsL p m l n).getD j 0 = if j < n then (m.getD j 0 + l.getD j 0) % p else m.getD j 0
  | 0 => by rw [if_neg (by omega)]; rfl
  | n + 1 => by
    rw [putsL, putL_getD, putsL_getD p m l n n, putsL_getD p m l j n]
    by_cases h : j = n
    · subst h; rw [if_pos rfl, if_neg (by omega), if_pos (by omega)]
    · rw [if_neg h]
      by_cases h2 : j < n
      · rw [if_pos h2, if_pos (by omega)]
      · rw [if_neg h2, if_neg (by omega)]
theorem addP_getD {p : Int} (hp : Supp p) {a b : List Int} (ha : ∀ x ∈ a, Res p x) (hb : ∀ x ∈ b, Res p x) (j : Nat) : (addP p a b).getD j 0 = (a.getD j 0 + b.getD j 0) % p := by
  have h0 : ([] : List Int).getD j 0 = 0 := rfl
  have ra := (res_getD hp ha j).eq
  have rb := (res_getD hp hb j).eq
  unfold addP
  rw [putsL_getD, putsL_getD, h0, Int.zero_add, ra]
  by_cases h1 : j < b.length
  · rw [if_pos h1]
    by_cases h2 : j < a.length
    · rw [if_pos h2]
    · rw [if_neg h2, getD_out a j (by omega)]
  · rw [if_neg h1, getD_out b j (by omega), Int.add_zero, ra]
    by_cases h2 : j < a.length
    · rw [if_pos h2]
    · rw [if_neg h2, getD_out a j (by omega)]
/-! ### Sum -/
def raddL (p : Int) (a b : List Int) (n : Nat) : List Int := (List.range n).map fun i => (a.getD i 0 + b.getD i 0) % p
theorem raddL_next (p : Int) (a b : List Int) (n : Nat) : raddL p a b n ++ [(a.getD n 0 + b.getD n 0) % p] = raddL p a b (n + 1) := by
  unfold raddL; rw [List.range_succ, List.map_append]; rfl
theorem raddL_length (p : Int) (a b : List Int) (n : Nat) : (raddL p a b n).length = n := by unfold raddL; simp
theorem raddL_getD (p : Int) (a b : List Int) (n j : Nat) : (raddL p a b n).getD j 0 = if j < n then (a.getD j 0 + b.getD j 0) % p else 0 := by
  unfold raddL
  by_cases h : j < n
  · rw [if_pos h, List.getD_eq_getElem?_getD, List.getElem?_map, List.getElem?_range h]; rfl
  · rw [if_neg h, getD_out _ _ (by simp; omega)]
theorem rradd_trim {p : Int} (hp : Supp p) {a b : List Int} (ha : ∀ x ∈ a, Res p x) (hb : ∀ x ∈ b, Res p x) : trimL (raddL p a b (max a.length b.length)) = trimL (addP p a b) := by
  refine trimL_ext fun i => ?_
  rw [raddL_getD, addP_getD hp ha hb]
  by_cases h : i < max a.length b.length
  · rw [if_pos h]
  · rw [if_neg h, getD_out a i (by omega), getD_out b i (by omega)]; simp
theorem rradd_ev {p : Int} (hp : Supp p) {a b : List Int} (ha : ∀ x ∈ a, Res p x) (hb : ∀ x ∈ b, Res p x) (la : a.length ≤ 1000000000) (lb : b.length ≤ 1000000000) : Ev (fun k => privityref04_Add.f k p a b) (trimL (addP p a b)) := by
  rw [← rradd_trim hp ha hb]
  refine up (Q := fun i => Ev (fun k => privityref04_Add.l0 k p a b (raddL p a b i) (i : Int)) (trimL (raddL p a b (max a.length b.length)))) (n := max a.length b.length) ?_ ?_
  · refine Ev.step (f := fun k => privityref04_Add.j1 k p a b (raddL p a b (max a.length b.length)) ((max a.length b.length : Nat) : Int) false) (fun k => ?_) ?_
    · simp only [privityref04_Add.l0]
      rw [if_neg (by omega), decide_eq_false (by omega)]
    · refine Ev.step (f := fun k => (privityref04_Trim.f k (raddL p a b (max a.length b.length))).bind fun t => some t) (fun k => ?_) (Ev.bind (rtrim_ev _ (by rw [raddL_length]; omega)) (Ev.now _))
      simp only [privityref04_Add.j1]
      rw [if_neg (by simp)]
  · intro i hi h
    rw [← raddL_next] at h
    have hj : Ev (fun k => privityref04_Add.j1 k p a b (raddL p a b i) (i : Int) true) (trimL (raddL p a b (max a.length b.length))) := by
      refine Ev.step (fun k => ?_) h
      simp only [privityref04_Add.j1]
      rw [if_pos trivial, rcoef_eq, rcoef_eq]
      show (privityref01_Add.f p _ _).bind _ = _
      rw [radd_eq hp (res_getD hp ha i) (res_getD hp hb i)]
      show (if _ then _ else _) = _
      rw [if_pos (by rw [raddL_length]; omega), wnat (by omega)]
    by_cases h1 : i < a.length
    · refine Ev.step (fun k => ?_) hj
      simp only [privityref04_Add.l0]
      rw [if_pos (by omega)]
    · refine Ev.step (fun k => ?_) hj
      simp only [privityref04_Add.l0]
      rw [if_neg (by omega), decide_eq_true (by omega)]
/-! ### Scale -/
theorem map_take_next (l : List Int) (f : Int → Int) (i : Nat) (hi : i < l.length) : (l.take i).map f ++ [f (l.getD i 0)] = (l.take (i + 1)).map f := by
  rw [List.take_succ_eq_append_getElem hi, List.map_append, Hw.getD_in _ _ hi]; rfl
theorem rscale_ev {p : Int} (hp : Supp p) {kk : Int} (hk : Res p kk) (l : List Int) (hl : ∀ x ∈ l, Res p x) (hll : l.length ≤ 1000000000) : Ev (fun k => privityref04_Scale.f k p kk l) (trimL (l.map fun v => kk * v % p)) := by
  refine up (Q := fun i => Ev (fun k => privityref04_Scale.l0 k p kk l ((l.take i).map fun v => kk * v % p) (i : Int)) (trimL (l.map fun v => kk * v % p))) (n := l.length) ?_ ?_
  · rw [List.take_length]
    refine Ev.step (f := fun k => (privityref04_Trim.f k (l.map fun v => kk * v % p)).bind fun t => some t) (fun k => ?_) (Ev.bind (rtrim_ev _ (by rw [List.length_map]; omega)) (Ev.now _))
    simp only [privityref04_Scale.l0]
    rw [if_neg (by omega)]
  · intro i hi h
    rw [← map_take_next l (fun v => kk * v % p) i hi] at h
    refine Ev.step (f := fun k => (privityref01_Mul.f k p kk (l.getD i 0)).bind fun t361 => (if ((l.take i).map fun v => kk * v % p).length < 17592186044416 then (privityref04_Scale.l0 k p kk l (((l.take i).map fun v => kk * v % p) ++ [t361]) ((i + 1 : Nat) : Int)) else (none))) (fun k => ?_) (Ev.bind (rmul_ev hp hk (res_getD hp hl i)) ?_)
    · simp only [privityref04_Scale.l0]
      rw [if_pos (by omega), if_pos (by omega), rd_nat, wnat (by omega)]
    · refine h.congr fun k => ?_
      rw [if_pos (by simp; omega)]
/-! ### Eval -/
/-! ### Product -/
theorem list_ext_getD {a b : List Int} (hl : a.length = b.length) (h : ∀ i, a.getD i 0 = b.getD i 0) : a = b := by
  apply List.ext_getElem hl
  intro i h1 h2
  have := h i
  rwa [Hw.getD_in _ _ h1, Hw.getD_in _ _ h2] at this
theorem grow_length (l : List Int) (n : Nat) : (grow l n).length = max l.length n := by unfold grow; simp; omega
/-- The state of the reference: the program's, filled up with zeros. -/
theorem put_grow (p : Int) (l : List Int) (N i : Nat) (k : Int) (hl : l.length ≤ N) (hi : i < N) : (grow l N).set i (((grow l N).getD i 0 + k) % p) = grow (putL p l i k) N := by
  refine list_ext_getD ?_ fun j => ?_
  · rw [List.length_set, grow_length, grow_length, putL_length]; omega
  · rw [grow_getD (putL p l i k), putL_getD, List.getD_eq_getElem?_getD, List.getElem?_set]
    by_cases h : i = j
    · subst h; rw [if_pos rfl, if_pos (by rw [grow_length]; omega), if_pos rfl, grow_getD]; rfl
    · rw [if_neg h, if_neg (fun e => h e.symm), ← List.getD_eq_getElem?_getD, grow_getD]
theorem rowL_len (p : Int) (m : List Int) (u : Int) (b : List Int) (i : Nat) : ∀ n, (rowL p m u b i n).length = if n = 0 then m.length else max m.length (i + n)
  | 0 => rfl
  | n + 1 => by
    rw [rowL, putL_length, rowL_len p m u b i n, if_neg (Nat.succ_ne_zero n)]
    by_cases h : n = 0
    · rw [if_pos h]; omega
    · rw [if_neg h]; omega
theorem mulsL_len (p : Int) (a b : List Int) (hb : 0 < b.length) : ∀ n, (mulsL p a b n).length = if n = 0 then 0 else n + b.length - 1
  | 0 => rfl
  | n + 1 => by
    rw [mulsL, rowL_len, mulsL_len p a b hb n, if_neg (by omega : ¬ b.length = 0), if_neg (Nat.succ_ne_zero n)]
    by_cases h : n = 0
    · rw [if_pos h]; omega
    · rw [if_neg h]; omega
theorem mulsL_nil (p : Int) (a : List Int) : ∀ n, mulsL p a [] n = []
  | 0 => rfl
  | n + 1 => by rw [mulsL, mulsL_nil p a n]; rfl
theorem trimL_grow (l : List Int) (n : Nat) : trimL (grow l n) = trimL l := trimL_ext fun i => grow_getD l n i
theorem grow_nil (n : Nat) : grow [] n = List.replicate n 0 := by unfold grow; simp
theorem rmulL_ev {p : Int} (hp : Supp p) {a b : List Int} (ha : ∀ x ∈ a, Res p x) (hb : ∀ x ∈ b, Res p x) (la : a.length ≤ 1000000) (lb : b.length ≤ 1000000) : Ev (fun k => privityref04_Mul.f k p a b) (trimL (mulsL p a b a.length)) := by
  by_cases h0 : a.length = 0
  · have : a = [] := List.eq_nil_of_length_eq_zero h0
    subst this
    refine Ev.step (f := fun k => some []) (fun k => ?_) (Ev.now _)
    simp only [privityref04_Mul.f]
    rw [if_pos (by rfl)]
    simp only [privityref04_Mul.j0]
    rw [if_pos trivial]
  by_cases h1 : b.length = 0
  · have : b = [] := List.eq_nil_of_length_eq_zero h1
    subst this
    rw [mulsL_nil]
    refine Ev.step (f := fun k => some []) (fun k => ?_) (Ev.now _)
    simp only [privityref04_Mul.f]
    rw [if_neg (by omega)]
    simp only [privityref04_Mul.j0]
    rw [if_pos (by rfl)]
  have hw : wrap64 (wrap64 ((a.length : Int) + (b.length : Int)) - 1) = ((a.length + b.length - 1 : Nat) : Int) := by rw [wcap (n := (a.length : Int) + (b.length : Int)) (by omega) (by omega), wcap (by omega) (by omega)]; omega
  have main : Ev (fun k => privityref04_Mul.l0 k p a b (grow (mulsL p a b 0) (a.length + b.length - 1)) ((0 : Nat) : Int)) (trimL (mulsL p a b a.length)) := by
    refine up (Q := fun i => Ev (fun k => privityref04_Mul.l0 k p a b (grow (mulsL p a b i) (a.length + b.length - 1)) (i : Int)) (trimL (mulsL p a b a.length))) (n := a.length) ?_ ?_
    · refine Ev.step (f := fun k => (privityref04_Trim.f k (grow (mulsL p a b a.length) (a.length + b.length - 1))).bind fun t => some t) (fun k => ?_) ?_
      · simp only [privityref04_Mul.l0]
        rw [if_neg (by omega)]
      · have := rtrim_ev (grow (mulsL p a b a.length) (a.length + b.length - 1)) (by rw [grow_length, mulsL_len _ _ _ (by omega), if_neg h0]; omega)
        rw [trimL_grow] at this
        exact Ev.bind this (Ev.now _)
    · intro i hi h
      have row : Ev (fun k => privityref04_Mul.l1 k p a b (grow (rowL p (mulsL p a b i) (rd a i) b i 0) (a.length + b.length - 1)) (i : Int) ((0 : Nat) : Int)) (trimL (mulsL p a b a.length)) := by
        refine up (Q := fun j => Ev (fun k => privityref04_Mul.l1 k p a b (grow (rowL p (mulsL p a b i) (rd a i) b i j) (a.length + b.length - 1)) (i : Int) (j : Int)) (trimL (mulsL p a b a.length))) (n := b.length) ?_ ?_
        · refine Ev.step (fun k => ?_) h
          simp only [privityref04_Mul.l1]
          rw [if_neg (by omega), wnat (by omega)]
          rfl
        · intro j hj h2
          have hlen : (rowL p (mulsL p a b i) (rd a i) b i j).length ≤ a.length + b.length - 1 := by
            rw [rowL_len, mulsL_len _ _ _ (by omega)]; split <;> split <;> omega
          have e : wrap64 ((i : Int) + (j : Int)) = ((i + j : Nat) : Int) := by rw [wcap (by omega) (by omega)]; omega
          have hres : ∀ x ∈ grow (rowL p (mulsL p a b i) (rd a i) b i j) (a.length + b.length - 1), Res p x := grow_res hp (rowL_res hp (mulsL_res hp _ _ _) _ _ _ _) _
          rw [rowL, ← put_grow p _ _ _ _ hlen (by omega)] at h2
          refine Ev.step (f := fun k => (privityref01_Mul.f k p (a.getD i 0) (b.getD j 0)).bind fun t266 => ((privityref01_Add.f p ((grow (rowL p (mulsL p a b i) (rd a i) b i j) (a.length + b.length - 1)).getD (i + j) 0) t266).bind fun t267 => (privityref04_Mul.l1 k p a b ((grow (rowL p (mulsL p a b i) (rd a i) b i j) (a.length + b.length - 1)).set (i + j) t267) (i : Int) ((j + 1 : Nat) : Int)))) (fun k => ?_) (Ev.bind (rmul_ev hp (res_getD hp ha i) (res_getD hp hb j)) ?_)
          · simp only [privityref04_Mul.l1]
            rw [if_pos (by omega), e, if_pos (by omega), if_pos (by rw [grow_length]; omega), if_pos (by omega), if_pos (by omega), if_pos (by omega), rd_nat, rd_nat, rd_nat, Int.toNat_natCast, wnat (by omega)]
          · rw [radd_eq hp (res_getD hp hres _) (Res.mod hp _)]
            refine Ev.bind (g := fun _ => some _) (Ev.now _) ?_
            rw [rd_nat a i, rd_nat b j] at h2
            exact h2
      refine Ev.step (fun k => ?_) row
      simp only [privityref04_Mul.l0]
      rw [if_pos (by omega)]; rfl
  rw [show mulsL p a b 0 = [] from rfl, grow_nil] at main
  have h2 : Ev (fun k => privityref04_Mul.j0 k p a b false) (trimL (mulsL p a b a.length)) := by
    refine Ev.step (fun k => ?_) main
    simp only [privityref04_Mul.j0]
    rw [if_neg (by simp), hw, if_pos (by omega), Int.toNat_natCast, if_pos (by omega)]; rfl
  refine h2.congr fun k => ?_
  unfold privityref04_Mul.f
  rw [if_neg (by omega), show ((b.length : Int) == 0) = false from by rw [beq_eq_false_iff_ne]; omega]
end Go.Proofs.Ytdbmhpfbbikjjaa.E
end
section
/- Printed by a program of this seat (the kit's printer, with the functions that were proved by hand given to it). What stands here: the functions that the statements reach, as plain functions, and that the Go code computes them. -/
namespace Go.Proofs.Ytdbmhpfbbikjjaa.Pr
open Go.RowKit Go.Proofs.YtdbmhpfbbikjjaaW.PrintWords Go.Proofs.YtdbmhpfbbikjjaaW.PrintLast Go.Proofs.YtdbmhpfbbikjjaaW.PrintMore
attribute [local go_sem] max2_int min2_int max_two min_two max_three min_three max_four min_four   -- for this text's walks alone
set_option linter.unusedVariables false
set_option linter.unusedSimpArgs false

open Go.Proofs.Ytdbmhpfbbikjjaa.Hw
/-! ### privityref05_Vandermonde: function 28 -/
end Go.Proofs.Ytdbmhpfbbikjjaa.Pr
end
section
/-
  The reference of layer 5: what its printed functions answer.
-/
namespace Go.Proofs.Ytdbmhpfbbikjjaa.E
open Go.RowKit Go.Proofs.Ytdbmhpfbbikjjaa.Pr Go.Proofs.Ytdbmhpfbbikjjaa.Hw Go.Proofs.Ytdbmhpfbbikjjaa.Pl Go.Proofs.YtdbmhpfbbikjjaaW.PrintWords Go.Proofs.YtdbmhpfbbikjjaaW.PrintLast Go.Proofs.YtdbmhpfbbikjjaaW.PrintMore
set_option linter.unusedVariables false
set_option linter.unusedSimpArgs false

/-- A loop that answers false at the first i that Q does not hold of. -/
theorem allLoop {F : Nat → Int → Option Bool} {n : Nat} {Q : Nat → Prop} [DecidablePred Q] (hend : ∀ k, F (k + 1) (n : Int) = some true) (hyes : ∀ i, i < n → Q i → ∀ r, Ev (fun k => F k ((i + 1 : Nat) : Int)) r → Ev (fun k => F k (i : Int)) r)
    (hno : ∀ i, i < n → ¬ Q i → Ev (fun k => F k (i : Int)) false) (r : Bool) (hr : r = true ↔ ∀ i, i < n → Q i) : Ev (fun k => F k ((0 : Nat) : Int)) r := by
  have main : ∀ d i, i + d = n → ∀ r : Bool, (r = true ↔ ∀ j, i ≤ j → j < n → Q j) → Ev (fun k => F k (i : Int)) r := by
    intro d
    induction d with
    | zero =>
      intro i hi r hr
      have : i = n := by omega
      subst this
      have : r = true := hr.2 (fun j h1 h2 => by omega)
      subst this
      exact Ev.step (fun k => hend k) (Ev.now _)
    | succ d ih =>
      intro i hi r hr
      by_cases h : Q i
      · refine hyes i (by omega) h r (ih (i + 1) (by omega) r ⟨fun e j h1 h2 => hr.1 e j (by omega) h2, fun e => hr.2 fun j h1 h2 => ?_⟩)
        by_cases e2 : j = i
        · rw [e2]; exact h
        · exact e j (by omega) h2
      · have : r = false := by
          cases r with
          | false => rfl
          | true => exact absurd (hr.1 rfl i (Nat.le_refl _) (by omega)) h
        subst this
        exact hno i (by omega) h
  exact main n 0 (by omega) r ⟨fun e j _ h2 => hr.1 e j h2, fun e => hr.2 fun j h => e j (Nat.zero_le _) h⟩
theorem same_ev (a b : List Int) (ha : a.length ≤ 1000000000) : Ev (fun k => privityref05_Same.f k a b) (decide (a = b)) := by
  by_cases hl : a.length = b.length
  · have h := allLoop (F := fun k i => privityref05_Same.l0 k a b i) (n := a.length) (Q := fun i => a.getD i 0 = b.getD i 0) (fun k => ?_) (fun i hi hq r h => ?_) (fun i hi hq => ?_) (decide (a = b)) ?_
    · refine h.congr fun k => ?_
      unfold privityref05_Same.f
      rw [if_pos (by omega)]; rfl
    · simp only [privityref05_Same.l0]
      rw [if_neg (by omega)]
    · refine Ev.step (fun k => ?_) h
      simp only [privityref05_Same.l0]
      rw [if_pos (by omega), if_pos (by omega), if_pos (by omega), rd_nat, rd_nat, if_pos hq, wnat (by omega)]
    · refine Ev.step (fun k => ?_) (Ev.now _)
      simp only [privityref05_Same.l0]
      rw [if_pos (by omega), if_pos (by omega), if_pos (by omega), rd_nat, rd_nat, if_neg hq]
    · rw [decide_eq_true_iff]
      refine ⟨fun e i _ => by rw [e], fun h => list_ext_getD hl fun i => ?_⟩
      by_cases hi : i < a.length
      · exact h i hi
      · rw [getD_out a i (by omega), getD_out b i (by omega)]
  · have : decide (a = b) = false := decide_eq_false fun e => hl (by rw [e])
    rw [this]
    refine Ev.congr (fun k => ?_) (Ev.now _)
    unfold privityref05_Same.f
    rw [if_neg (by omega)]
def belowP (p : Int) (l : List S38) : Bool := l.all fun x => decide (x.f0 < p) && decide (x.f1 < p)
theorem points_ev (p : Int) (l : List S38) (hl : l.length ≤ 1000000000) : Ev (fun k => privityref05_Points.f k p l) (belowP p l) := by
  have h := allLoop (F := fun k i => privityref05_Points.l0 k p l i) (n := l.length) (Q := fun i => (rd_T38 l (i : Int)).f0 < p ∧ (rd_T38 l (i : Int)).f1 < p) (fun k => ?_) (fun i hi hq r h => ?_) (fun i hi hq => ?_) (belowP p l) ?_
  · exact h
  · simp only [privityref05_Points.l0]
    rw [if_neg (by omega)]
  · refine Ev.step (fun k => ?_) h
    simp only [privityref05_Points.l0]
    rw [if_pos (by omega), if_pos (by omega), if_neg (by omega), if_neg (by omega), wnat (by omega)]
  · refine Ev.step (fun k => ?_) (Ev.now _)
    simp only [privityref05_Points.l0]
    rw [if_pos (by omega), if_pos (by omega)]
    by_cases h1 : (rd_T38 l (i : Int)).f0 < p
    · rw [if_neg (by omega), if_pos (by omega)]
    · rw [if_pos (by omega)]
  · unfold belowP
    rw [List.all_eq_true]
    refine ⟨fun h i hi => ?_, fun h x hx => ?_⟩
    · rw [rdT_nat _ _ hi]; simpa using h _ (List.getElem_mem hi)
    · obtain ⟨i, hi, rfl⟩ := List.getElem_of_mem hx
      have := h i hi
      rw [rdT_nat _ _ hi] at this
      simpa using this
theorem points_res {p : Int} {l : List S38} (h : belowP p l = true) (hw : ∀ x ∈ l, 0 ≤ x.f0 ∧ 0 ≤ x.f1) : PtsOk p l := by
  intro x hx
  have := List.all_eq_true.1 h x hx
  simp only [Bool.and_eq_true, decide_eq_true_eq] at this
  exact ⟨⟨(hw x hx).1, this.1⟩, ⟨(hw x hx).2, this.2⟩⟩
theorem places_ev (l : List S38) (hl : l.length ≤ 1000000000) : Ev (fun k => privityref05_Places.f k l) (xsOf l) := by
  have := up (Q := fun i => Ev (fun k => privityref05_Places.l0 k l (xsOf (l.take i)) (i : Int)) (xsOf l)) (n := l.length) ?_ ?_
  · exact this
  · rw [List.take_length]
    refine Ev.step (fun k => ?_) (Ev.now _)
    simp only [privityref05_Places.l0]
    rw [if_neg (by omega)]
  · intro i hi h
    rw [← xsOf_next l i hi] at h
    refine Ev.step (fun k => ?_) h
    simp only [privityref05_Places.l0]
    rw [if_pos (by omega), if_pos (by omega), if_pos (by rw [xsOf_take_length l i (by omega)]; omega), wnat (by omega)]
theorem unlike_ev (l : List Int) (hl : l.length ≤ 1000000000) : Ev (fun k => privityref05_Unlike.f k l) (decide l.Nodup) := by
  have h := allLoop (F := fun k i => privityref05_Unlike.l0 k l i) (n := l.length) (Q := fun i => ∀ j, j < i → l.getD i 0 ≠ l.getD j 0) (fun k => ?_) (fun i hi hq r h => ?_) (fun i hi hq => ?_) (decide l.Nodup) ?_
  · exact h
  · simp only [privityref05_Unlike.l0]
    rw [if_neg (by omega)]
  · have row : Ev (fun k => privityref05_Unlike.l1 k l (i : Int) ((0 : Nat) : Int)) r := by
      refine up (Q := fun j => Ev (fun k => privityref05_Unlike.l1 k l (i : Int) (j : Int)) r) (n := i) ?_ ?_
      · refine Ev.step (fun k => ?_) h
        simp only [privityref05_Unlike.l1]
        rw [if_neg (by omega), wnat (by omega)]
      · intro j hj h2
        refine Ev.step (fun k => ?_) h2
        simp only [privityref05_Unlike.l1]
        rw [if_pos (by omega), if_pos (by omega), if_pos (by omega), if_pos (by omega), if_pos (by omega), rd_nat, rd_nat, if_neg (hq j hj), wnat (by omega)]
    refine Ev.step (fun k => ?_) row
    simp only [privityref05_Unlike.l0]
    rw [if_pos (by omega)]; rfl
  · have row : Ev (fun k => privityref05_Unlike.l1 k l (i : Int) ((0 : Nat) : Int)) false := by
      obtain ⟨j, hj, he⟩ : ∃ j, j < i ∧ l.getD i 0 = l.getD j 0 := by
        apply Classical.byContradiction
        intro hc
        exact hq fun j hj e => hc ⟨j, hj, e⟩
      refine up (Q := fun j => Ev (fun k => privityref05_Unlike.l1 k l (i : Int) (j : Int)) false) (n := j) ?_ ?_
      · refine Ev.step (fun k => ?_) (Ev.now _)
        simp only [privityref05_Unlike.l1]
        rw [if_pos (by omega), if_pos (by omega), if_pos (by omega), if_pos (by omega), if_pos (by omega), rd_nat, rd_nat, if_pos he]
      · intro j' hj' h2
        by_cases e : l.getD i 0 = l.getD j' 0
        · refine Ev.step (fun k => ?_) (Ev.now _)
          simp only [privityref05_Unlike.l1]
          rw [if_pos (by omega), if_pos (by omega), if_pos (by omega), if_pos (by omega), if_pos (by omega), rd_nat, rd_nat, if_pos e]
        · refine Ev.step (fun k => ?_) h2
          simp only [privityref05_Unlike.l1]
          rw [if_pos (by omega), if_pos (by omega), if_pos (by omega), if_pos (by omega), if_pos (by omega), rd_nat, rd_nat, if_neg e, wnat (by omega)]
    refine Ev.step (fun k => ?_) row
    simp only [privityref05_Unlike.l0]
    rw [if_pos (by omega)]; rfl
  · rw [decide_eq_true_iff, List.nodup_iff_pairwise_ne, List.pairwise_iff_getElem]
    refine ⟨fun h i hi j hj e => ?_, fun h i j hi hj hij e => ?_⟩
    · rw [Hw.getD_in _ _ hi, Hw.getD_in _ _ (by omega)] at e
      exact h j i (by omega) hi hj e.symm
    · have := h j hj i hij
      rw [Hw.getD_in _ _ hi, Hw.getD_in _ _ hj] at this
      exact this e.symm
end Go.Proofs.Ytdbmhpfbbikjjaa.E
end
section
/-
  The reference's Lagrange formula: the same polynomial, the same weights.
-/
namespace Go.Proofs.Ytdbmhpfbbikjjaa.E
open Go.RowKit Go.Proofs.Ytdbmhpfbbikjjaa.Pr Go.Proofs.Ytdbmhpfbbikjjaa.Hw Go.Proofs.Ytdbmhpfbbikjjaa.Pl Go.Proofs.YtdbmhpfbbikjjaaW.PrintWords Go.Proofs.YtdbmhpfbbikjjaaW.PrintLast Go.Proofs.YtdbmhpfbbikjjaaW.PrintMore
set_option linter.unusedVariables false
set_option linter.unusedSimpArgs false

def rstep (p X : Int) (f : List Int) (o : Int) : List Int := trimL (mulsL p f [-o % p * invp p ((X - o) % p) % p, invp p ((X - o) % p)] f.length)
def baseL (p : Int) (xs : List Int) (i n : Nat) : List Int := (othersN xs i n).foldl (rstep p (rd xs i)) [1]
theorem mulsL_two_length {p : Int} (f : List Int) (o u : Int) : ∀ n, (mulsL p f [o, u] n).length ≤ n + 1 := by
  intro n
  induction n with
  | zero => simp [mulsL]
  | succ n ih =>
    show (rowL p (mulsL p f [o, u] n) (rd f n) [o, u] n 2).length ≤ _
    simp only [rowL, putL_length, Nat.add_zero]; omega
theorem rstep_fold {p : Int} (hp : Supp p) (X : Int) : ∀ (l : List Int) (f : List Int), (∀ x ∈ f, Res p x) → (∀ x ∈ l.foldl (rstep p X) f, Res p x) ∧ (l.foldl (rstep p X) f).length ≤ f.length + l.length
  | [], f, h => ⟨h, by simp⟩
  | o :: l, f, h => by
    have ih := rstep_fold hp X l (rstep p X f o) (fun x hx => mulsL_res hp _ _ _ x (trimL_mem hx))
    refine ⟨ih.1, ?_⟩
    have h3 : (rstep p X f o).length ≤ f.length + 1 := Nat.le_trans (trimL_length _) (mulsL_two_length f _ _ _)
    have := ih.2
    simp only [List.foldl_cons, List.length_cons] at *
    omega
theorem baseL_ok {p : Int} (hp : Supp p) (xs : List Int) (i n : Nat) : (∀ x ∈ baseL p xs i n, Res p x) ∧ (baseL p xs i n).length ≤ 1 + (othersN xs i n).length := rstep_fold hp _ _ _ (one_res hp)
theorem baseL_len {p : Int} (hp : Supp p) (xs : List Int) (i : Nat) (hi : i < xs.length) : (baseL p xs i xs.length).length ≤ xs.length := by
  have := (baseL_ok hp xs i xs.length).2
  rw [othersN_len, if_pos hi] at this
  omega
theorem base_ev {p : Int} (hp : Supp p) {xs : List Int} (hx : ∀ x ∈ xs, Res p x) (hn : xs.Nodup) (hl : xs.length ≤ 100000) (i : Nat) (hi : i < xs.length) : Ev (fun k => privityref05_base.f k p xs (i : Int)) (baseL p xs i xs.length) := by
  refine up (Q := fun j => Ev (fun k => privityref05_base.l0 k p xs (i : Int) (baseL p xs i j) (j : Int)) (baseL p xs i xs.length)) (n := xs.length) ?_ ?_
  · refine Ev.step (fun k => ?_) (Ev.now _)
    simp only [privityref05_base.l0]
    rw [if_neg (by omega)]
  · intro j hj h
    by_cases hij : j = i
    · have e : baseL p xs i (j + 1) = baseL p xs i j := by unfold baseL; rw [othersN, if_pos hij]
      rw [e] at h
      refine Ev.step (fun k => ?_) h
      simp only [privityref05_base.l0]
      rw [if_pos (by omega), if_pos (by omega), wnat (by omega)]
    · have e : baseL p xs i (j + 1) = rstep p (rd xs i) (baseL p xs i j) (rd xs j) := by unfold baseL; rw [othersN, if_neg hij, List.foldl_append]; rfl
      rw [e] at h
      have hX := rd_res' hx i hi
      have hO := rd_res' hx j hj
      have hne : rd xs i ≠ rd xs j := by
        intro e
        have h1 := othersN_ne hn i hi xs.length (Nat.le_refl _) (rd xs j) (othersN_has xs i j hij _ hj)
        exact h1 e
      have hs := sub_ne' hp hX hO hne
      have hb := baseL_ok hp xs i j
      have hln := othersN_length xs i j
      have hinv := inv_res hp ((rd xs i - rd xs j) % p)
      refine Ev.step (f := fun k => (privityref01_Sub.f p (rd xs i) (rd xs j)).bind fun t274 => ((privityref01_Inverse.f k p t274).bind fun bt275 => ((privityref01_Neg.f p (rd xs j)).bind fun t278 => ((privityref01_Mul.f k p t278 bt275.1).bind fun t279 => ((privityref04_Mul.f k p (baseL p xs i j) (([t279, bt275.1] : List Int))).bind fun t283 => (privityref05_base.l0 k p xs (i : Int) t283 ((j + 1 : Nat) : Int))))))) (fun k => ?_) ?_
      · simp only [privityref05_base.l0]
        rw [if_pos (by omega), if_neg (by omega), if_pos (by omega), if_pos (by omega), if_pos (by omega), wnat (by omega)]
      · rw [rsub_eq hp hX hO]
        refine Ev.bind (g := fun _ => some _) (Ev.now _) (Ev.bind (rinv_ev hp (Res.mod hp _) hs) ?_)
        rw [rneg_eq hp hO]
        refine Ev.bind (g := fun _ => some _) (Ev.now _) (Ev.bind (rmul_ev hp (Res.mod hp _) hinv) (Ev.bind (rmulL_ev hp hb.1 ?_ (by omega) (by simp)) h))
        intro x hx
        simp only [List.mem_cons, List.not_mem_nil, or_false] at hx
        rcases hx with rfl | rfl
        · exact Res.mod hp _
        · exact hinv
section
variable {p : Int} (hp : Supp p) [NeZero p.toNat]
include hp in
theorem rstep_ev (y : Fin p.toNat) {X : Int} (hX : Res p X) : ∀ (l : List Int) (f : List Int), (∀ o ∈ l, Res p o ∧ X ≠ o) → ev y (M p (l.foldl (rstep p X) f)) * lin (T p X) (M p l) = ev y (M p f) * lin y (M p l)
  | [], f, _ => rfl
  | o :: l, f, h => by
    have ih := rstep_ev y hX l (rstep p X f o) (fun x hx => h x (List.mem_cons_of_mem _ hx))
    have hs := sub_ne' hp hX (h o (by simp)).1 (h o (by simp)).2
    have hi := T_inv hp (Res.mod hp (X - o)) hs
    rw [T_mod hp, T_sub] at hi
    have e1 : ev y (M p (rstep p X f o)) = ev y (M p f) * ((y - T p o) * T p (invp p ((X - o) % p))) := by
      unfold rstep
      rw [ev_trimL, ev_muls hp, M_take_all]
      simp only [M, List.map_cons, List.map_nil, ev, T_mod hp, T_mul, T_neg]
      grind
    simp only [List.foldl_cons, M, List.map_cons, lin] at *
    rw [e1] at ih
    generalize lin (T p X) (l.map (T p)) = L at *
    generalize lin y (l.map (T p)) = K at *
    generalize ev y ((l.foldl (rstep p X) (rstep p X f o)).map (T p)) = E at *
    grind
include hp in
theorem baseL_ev {xs : List Int} (hx : ∀ x ∈ xs, Res p x) (hn : xs.Nodup) (i : Nat) (hi : i < xs.length) (y : Fin p.toNat) : ev y (M p (baseL p xs i xs.length)) = lin y (oth p xs i) * dinv p xs i := by
  have h := rstep_ev hp y (rd_res' hx i hi) (othersN xs i xs.length) [1] (fun o ho => ⟨othersN_res hx i _ (Nat.le_refl _) o ho, othersN_ne hn i hi _ (Nat.le_refl _) o ho⟩)
  have d := dinv_spec hp hx hn i hi
  have e1 : ev y (M p [1]) = 1 := by simp only [M, List.map_cons, List.map_nil, ev, T_one]; grind
  rw [e1] at h
  unfold baseL oth at *
  generalize lin (T p (rd xs i)) (M p (othersN xs i xs.length)) = D at *
  grind
end

/-! ### Weights -/
/-! ### Polynomial -/
def rpolS (p : Int) (pts : List S38) : Nat → List Int
  | 0 => []
  | n + 1 => trimL (addP p (rpolS p pts n) (trimL ((baseL p (xsOf pts) n pts.length).map fun v => (rd_T38 pts (n : Int)).f1 * v % p)))
theorem scale_res {p : Int} (hp : Supp p) (k : Int) (l : List Int) : ∀ x ∈ trimL (l.map fun v => k * v % p), Res p x := by
  intro x hx
  obtain ⟨y, _, rfl⟩ := List.mem_map.1 (trimL_mem hx)
  exact Res.mod hp _
theorem rpolS_ok {p : Int} (hp : Supp p) {pts : List S38} : ∀ n, n ≤ pts.length → (∀ x ∈ rpolS p pts n, Res p x) ∧ (rpolS p pts n).length ≤ pts.length
  | 0, _ => ⟨fun x hx => (by cases hx), by simp [rpolS]⟩
  | n + 1, h => by
    have hxl : (xsOf pts).length = pts.length := by simp [xsOf]
    have ih := rpolS_ok hp (pts := pts) n (by omega)
    refine ⟨fun x hx => addP_res hp _ _ x (trimL_mem hx), Nat.le_trans (trimL_length _) ?_⟩
    rw [addP_length]
    have h1 := trimL_length ((baseL p (xsOf pts) n pts.length).map fun v => (rd_T38 pts (n : Int)).f1 * v % p)
    rw [List.length_map] at h1
    have h2 := baseL_len hp (xsOf pts) n (by omega)
    rw [hxl] at h2
    omega
theorem rpolS_eq {p : Int} (hp : Supp p) {pts : List S38} (hx : PtsOk p pts) (hn : (xsOf pts).Nodup) : rpolS p pts pts.length = polL p pts := by
  haveI := nz hp
  have hxl : (xsOf pts).length = pts.length := by simp [xsOf]
  have he : ∀ (y : Fin p.toNat) (n : Nat), n ≤ pts.length → ev y (M p (rpolS p pts n)) = sumF (fun i => T p (rd_T38 pts (i : Int)).f1 * (lin y (oth p (xsOf pts) i) * dinv p (xsOf pts) i)) n := by
    intro y n
    induction n with
    | zero => intro _; rfl
    | succ n ih =>
      intro h
      rw [rpolS, ev_trimL, ev_addP hp, ih (by omega), ev_trimL, ev_scaleL hp]
      have := baseL_ev hp hx.xs hn n (by omega) y
      rw [hxl] at this
      rw [this]; rfl
  have ht : trimL (rpolS p pts pts.length) = rpolS p pts pts.length := by
    cases pts.length with
    | zero => rfl
    | succ n => exact trimL_trimL _
  have ok := rpolS_ok hp (pts := pts) pts.length (Nat.le_refl _)
  rw [← ht, ← polL_trim]
  refine uniq hp hx.xs hn ok.1 (polL_res hp hx) (by omega) (by rw [hxl]; exact polL_len hp) (fun x hxx => ?_)
  refine T_inj hp (evI_res hp _ _) (evI_res hp _ _) ?_
  rw [ev_evI hp, ev_evI hp, he _ _ (Nat.le_refl _), polL_ev hp hx hn]
theorem rpol_ev {p : Int} (hp : Supp p) {pts : List S38} (hx : PtsOk p pts) (hl : pts.length ≤ 100000) : Ev (fun k => privityref05_Polynomial.f k p pts) (if (xsOf pts).Nodup then polL p pts else [], if (xsOf pts).Nodup then 0 else 1) := by
  have hxl : (xsOf pts).length = pts.length := by simp [xsOf]
  have hpl := places_ev pts (by omega)
  have hu := unlike_ev (xsOf pts) (by omega)
  by_cases hn : (xsOf pts).Nodup
  · rw [if_pos hn, if_pos hn]
    rw [decide_eq_true hn] at hu
    have main := up (Q := fun i => Ev (fun k => privityref05_Polynomial.l0 k p pts (xsOf pts) (rpolS p pts i) (i : Int)) (polL p pts, 0)) (n := pts.length) ?_ ?_
    · refine (Ev.bind (f := fun k t368 => (privityref05_Unlike.f k t368).bind fun t371 => (if t371 = true then (privityref05_Polynomial.l0 k p pts t368 ([] : List Int) 0) else (some (([] : List Int), 1)))) hpl (Ev.bind hu ?_)).congr fun k => rfl
      exact main.congr fun k => if_pos rfl
    · refine Ev.step (fun k => ?_) (Ev.now _)
      simp only [privityref05_Polynomial.l0]
      rw [if_neg (by omega), rpolS_eq hp hx hn]
    · intro i hi h
      have hb := baseL_ok hp (xsOf pts) i pts.length
      have hln := baseL_len hp (xsOf pts) i (by omega)
      rw [hxl] at hln
      have hbe := base_ev hp hx.xs hn (by omega) i (by omega)
      rw [hxl] at hbe
      have ok := rpolS_ok hp (pts := pts) i (by omega)
      have ls := trimL_length ((baseL p (xsOf pts) i pts.length).map fun v => (rd_T38 pts (i : Int)).f1 * v % p)
      rw [List.length_map] at ls
      refine Ev.step (f := fun k => (privityref05_base.f k p (xsOf pts) (i : Int)).bind fun t373 => ((privityref04_Scale.f k p ((rd_T38 pts (i : Int)).f1) t373).bind fun t376 => ((privityref04_Add.f k p (rpolS p pts i) t376).bind fun t379 => (privityref05_Polynomial.l0 k p pts (xsOf pts) t379 ((i + 1 : Nat) : Int))))) (fun k => ?_) (Ev.bind hbe (Ev.bind (rscale_ev hp (hx.at_ i hi).2 _ hb.1 (by omega)) (Ev.bind (rradd_ev hp ok.1 (scale_res hp _ _) (by omega) (by omega)) h)))
      simp only [privityref05_Polynomial.l0]
      rw [if_pos (by omega), if_pos (by omega), wnat (by omega)]
  · rw [if_neg hn, if_neg hn]
    rw [decide_eq_false hn] at hu
    refine (Ev.bind (f := fun k t368 => (privityref05_Unlike.f k t368).bind fun t371 => (if t371 = true then (privityref05_Polynomial.l0 k p pts t368 ([] : List Int) 0) else (some (([] : List Int), 1)))) hpl (Ev.bind hu ?_)).congr fun k => rfl
    exact (Ev.now _).congr fun k => if_neg (by simp)
end Go.Proofs.Ytdbmhpfbbikjjaa.E
end
section
/-
  What the statements of chapter 5 share: the first check, the guards, sums.
-/
namespace Go.Proofs.Ytdbmhpfbbikjjaa.E
open Go.RowKit Go.Proofs.Ytdbmhpfbbikjjaa.Pr Go.Proofs.Ytdbmhpfbbikjjaa.Hw Go.Proofs.Ytdbmhpfbbikjjaa.Pl Go.Proofs.YtdbmhpfbbikjjaaW.PrintWords Go.Proofs.YtdbmhpfbbikjjaaW.PrintLast Go.Proofs.YtdbmhpfbbikjjaaW.PrintMore
set_option linter.unusedVariables false
set_option linter.unusedSimpArgs false

theorem awake05 : Ev (fun k => privitylaw05_awake.f k) true := Ev.of (fun k => privitylaw05_awake.mono _) (k := 40) (by kernel_rfl)
end Go.Proofs.Ytdbmhpfbbikjjaa.E
end
section
/-
  Guards, sums, and the hand-proved functions' answers, for the statements.
-/
namespace Go.Proofs.Ytdbmhpfbbikjjaa.E
open Go.RowKit Go.Proofs.Ytdbmhpfbbikjjaa.Pr Go.Proofs.Ytdbmhpfbbikjjaa.Hw Go.Proofs.Ytdbmhpfbbikjjaa.Pl Go.Proofs.YtdbmhpfbbikjjaaW.PrintWords Go.Proofs.YtdbmhpfbbikjjaaW.PrintLast Go.Proofs.YtdbmhpfbbikjjaaW.PrintMore
set_option linter.unusedVariables false
set_option linter.unusedSimpArgs false

theorem wf64 {x : Int} (h : (Lit.int .u64 x).wf = true) : 0 ≤ x ∧ x < 18446744073709551616 := by
  have h1 : IntKind.u64.min ≤ x ∧ x ≤ IntKind.u64.max := by simpa [Lit.wf] using h
  have e1 : IntKind.u64.min = 0 := by decide
  have e2 : IntKind.u64.max = 18446744073709551615 := by decide
  omega
/-- A check, and both ways on. -/
theorem ev_if {α : Type} {A : Nat → Option Bool} {b : Bool} (hA : Ev A b) {X Y : Nat → Option α} {r : α} (hx : b = true → Ev X r) (hy : b = false → Ev Y r) : Ev (fun k => (A k).bind fun t => if t = true then X k else Y k) r := by
  refine Ev.bind (f := fun k t => if t = true then X k else Y k) hA ?_
  cases b with
  | true => exact (hx rfl).congr fun k => if_pos rfl
  | false => exact (hy rfl).congr fun k => if_neg (by simp)
theorem ev_ite {α : Type} {c : Prop} [Decidable c] {X Y : Nat → Option α} {r : α} (hx : c → Ev X r) (hy : ¬ c → Ev Y r) : Ev (fun k => if c then X k else Y k) r := by
  by_cases h : c
  · exact (hx h).congr fun k => if_pos h
  · exact (hy h).congr fun k => if_neg h
/-- A check whose negation is handed on. -/
theorem ev_now_bind {α β : Type} {x : Option α} {a : α} (hx : x = some a) {f : Nat → α → Option β} {r : β} (h : Ev (fun k => f k a) r) : Ev (fun k => x.bind (f k)) r := by subst hx; exact h
theorem ipol_eq {p : Int} (hp : Supp p) {pts : List S38} (hx : PtsOk p pts) (hl : pts.length ≤ 12) : interpolate_Polynomial.f p pts = some (if (xsOf pts).Nodup then polL p pts else [], if (xsOf pts).Nodup then 0 else 1) := by
  unfold interpolate_Polynomial.f
  rw [if_pos (supB_iff.2 hp), if_pos (ptsB_iff.2 hx), if_pos hl]
end Go.Proofs.Ytdbmhpfbbikjjaa.E
end
section
/-
  The polynomial passes through every point.
-/
namespace Go.Proofs.Ytdbmhpfbbikjjaa.Pure
open Go.RowKit Go.Proofs.Ytdbmhpfbbikjjaa.Pr Go.Proofs.Ytdbmhpfbbikjjaa.Hw Go.Proofs.Ytdbmhpfbbikjjaa.E Go.Proofs.YtdbmhpfbbikjjaaW.PrintWords Go.Proofs.YtdbmhpfbbikjjaaW.PrintLast Go.Proofs.YtdbmhpfbbikjjaaW.PrintMore
set_option linter.unusedVariables false
set_option linter.unusedSimpArgs false

theorem passes_skip (p : Int) (pts : List S38) : Ev (fun k => privitylaw05_InterpolatePassesThroughPoints.j0 k p pts true) true :=
  Ev.step (f := fun _ => some true) (fun k => by simp only [privitylaw05_InterpolatePassesThroughPoints.j0]; rw [if_pos trivial]) (Ev.now _)
theorem passes_end {p : Int} (hp : Supp p) {pts : List S38} {f : List Int} {e : Int} (hx : PtsOk p pts) (lx : pts.length ≤ 12) (hf : ∀ x ∈ f, Res p x) (lf : f.length ≤ 1000) (h : e = 0 → ∀ j, j < pts.length → evI p (rd_T38 pts (j : Int)).f0 f = (rd_T38 pts (j : Int)).f1) : Ev (fun k => privitylaw05_InterpolatePassesThroughPoints.j1 k p pts f e false) true := by
  have hstop : ∀ i : Nat, Ev (fun k => privitylaw05_InterpolatePassesThroughPoints.j3 k p pts f e (i : Int) false) true := fun i => by
    refine Ev.step (fun k => ?_) (Ev.now _)
    simp only [privitylaw05_InterpolatePassesThroughPoints.j3]
    rw [if_neg (by simp)]
  have main : Ev (fun k => privitylaw05_InterpolatePassesThroughPoints.l0 k p pts f e ((0 : Nat) : Int)) true := by
    refine up (Q := fun i => Ev (fun k => privitylaw05_InterpolatePassesThroughPoints.l0 k p pts f e (i : Int)) true) (n := pts.length) ?_ ?_
    · refine Ev.step (fun k => ?_) (hstop pts.length)
      simp only [privitylaw05_InterpolatePassesThroughPoints.l0]
      rw [if_neg (by omega)]
    · intro i hi h2
      by_cases he : e = 0
      · refine Ev.step (f := fun k => privitylaw05_InterpolatePassesThroughPoints.j3 k p pts f e (i : Int) true) (fun k => ?_) ?_
        · simp only [privitylaw05_InterpolatePassesThroughPoints.l0]
          rw [if_pos (by omega), show (e == 0) = true from by rw [beq_iff_eq]; exact he]
        · refine Ev.step (f := fun k => (poly_Eval.f k p f ((rd_T38 pts (i : Int)).f0)).bind fun t395 => (if t395 = ((rd_T38 pts (i : Int)).f1) then (privitylaw05_InterpolatePassesThroughPoints.l0 k p pts f e ((i + 1 : Nat) : Int)) else (some false))) (fun k => ?_) (Ev.bind (eval_ev hp (hx.at_ i hi).1 f hf (by omega)) (h2.congr fun k => if_pos (h he i hi)))
          simp only [privitylaw05_InterpolatePassesThroughPoints.j3]
          rw [if_pos trivial, if_pos (by omega), if_pos (by omega), wnat (by omega)]
      · refine Ev.step (fun k => ?_) (hstop i)
        simp only [privitylaw05_InterpolatePassesThroughPoints.l0]
        rw [if_pos (by omega), show (e == 0) = false from by rw [beq_eq_false_iff_ne]; exact he]
  refine Ev.step (fun k => ?_) main
  simp only [privitylaw05_InterpolatePassesThroughPoints.j1]
  rw [if_neg (by simp)]; rfl
theorem passes_main {p : Int} (hp : Supp p) {pts : List S38} (hx : PtsOk p pts) (lx : pts.length ≤ 12) : Ev (fun k => privitylaw05_InterpolatePassesThroughPoints.j0 k p pts false) true := by
  have hl := polL_len hp (pts := pts)
  refine Ev.step (f := fun k => (interpolate_Polynomial.f p pts).bind fun bt385 => ((privityref05_Polynomial.f k p pts).bind fun bt389 => (if bt385.2 = bt389.2 then ((privityref05_Same.f k bt385.1 bt389.1).bind fun t393 => (privitylaw05_InterpolatePassesThroughPoints.j1 k p pts bt385.1 bt385.2 (!t393))) else (privitylaw05_InterpolatePassesThroughPoints.j1 k p pts bt385.1 bt385.2 true)))) (fun k => ?_) ?_
  · simp only [privitylaw05_InterpolatePassesThroughPoints.j0]
    rw [if_neg (by simp)]
  · refine ev_now_bind (ipol_eq hp hx lx) (Ev.bind (rpol_ev hp hx (by omega)) (Ev.congr (fun k => if_pos rfl) (Ev.bind (same_ev _ _ ?_) ?_)))
    · by_cases hn : (xsOf pts).Nodup
      · simp only [if_pos hn]; omega
      · simp only [if_neg hn]; simp
    · rw [decide_eq_true rfl]
      by_cases hn : (xsOf pts).Nodup
      · simp only [if_pos hn]
        exact passes_end hp hx lx (polL_res hp hx) (by omega) (fun _ j hj => polL_at hp hx hn j hj)
      · simp only [if_neg hn]
        exact passes_end hp hx lx (fun x hx => by cases hx) (by simp) (fun h => by omega)
theorem InterpolatePassesThroughPoints (p : Int) (pts : List S38) (wp : (Lit.int .u64 p).wf = true) (hw : ∀ x ∈ pts, (Lit.int .u64 x.f0).wf = true ∧ (Lit.int .u64 x.f1).wf = true) : ∃ k, privitylaw05_InterpolatePassesThroughPoints.f k p pts = some true := by
  refine Ev.rounds (r := true) ?_
  refine ev_if awake05 (fun _ => ev_if (supported_ev p) (fun hs => ev_ite (fun _ => passes_skip p pts) fun h1 => Ev.bind (points_ev p pts (by omega)) ?_) fun _ => passes_skip p pts) (fun h => by cases h)
  cases hb : belowP p pts with
  | false => exact passes_skip p pts
  | true => exact passes_main (supB_of hs) (points_res hb fun x hx => ⟨(wf64 (hw x hx).1).1, (wf64 (hw x hx).2).1⟩) (by omega)
end Go.Proofs.Ytdbmhpfbbikjjaa.Pure
end
section
/-
  What came in, opened: numbers, bools, rows and structs of them, to any depth.
-/
namespace Go.Proofs.Ytdbmhpfbbikjjaa.Op
open Go.RowKit Go.Proofs.YtdbmhpfbbikjjaaW.PrintWords
set_option linter.unusedVariables false

/-- What is read of a type's value is a value of d, and Q holds of it. -/
def OpenK {α : Type} (P : Program) (t : TypeId) (d : Kd α) (Q : α → Prop) : Prop :=
  ∀ {H : Type} {enc : TypeId × Value → H} {w : World} {base : Nat} {sp : Nat → Bool} {hd : Bool} {fuel : Nat} {cs : List Value} {x : DataW H × List MemPlace}, DataW.trod enc P w base sp hd fuel t cs = some x → ∃ v : α, d.K w v cs ∧ Q v
theorem openInt {P : Program} {t : TypeId} {k : IntKind} (ht : P.underlying t = some (.int k)) : OpenK P t (Kd.int k) (fun n => (Lit.int k n).wf = true) := by
  intro H enc w base sp hd fuel cs x h
  obtain ⟨n, rfl, _, hw⟩ := DataW.trod_int ht h
  exact ⟨n, rfl, hw⟩
theorem exists_list {α : Type} {R : Nat → α → Prop} : ∀ (n : Nat), (∀ i, i < n → ∃ v, R i v) → ∃ l : List α, l.length = n ∧ ∀ i v, l[i]? = some v → R i v
  | 0, _ => ⟨[], rfl, fun i v h => by simp at h⟩
  | n + 1, h => by
    obtain ⟨l, hl, hr⟩ := exists_list n (fun i hi => h i (by omega))
    obtain ⟨v, hv⟩ := h n (by omega)
    refine ⟨l ++ [v], by simp [hl], fun i u hu => ?_⟩
    by_cases hi : i < n
    · rw [List.getElem?_append_left (by omega)] at hu
      exact hr i u hu
    · rw [List.getElem?_append_right (by omega)] at hu
      by_cases h0 : i - l.length = 0
      · rw [h0] at hu
        simp only [List.getElem?_cons_zero, Option.some.injEq] at hu
        rw [← hu, show i = n from by omega]; exact hv
      · rw [List.getElem?_eq_none (by simp; omega)] at hu; cases hu
theorem openSlice {α : Type} {P : Program} {t e : TypeId} {d : Kd α} {Q : α → Prop} (ht : P.underlying t = some (.slice e)) (hc : P.cellsOf e = d.sz) (he : OpenK P e d Q) : OpenK P t (Kd.slice e d) (fun l => ∀ x ∈ l, Q x) := by
  intro H enc w base sp hd fuel cs x h
  rcases DataW.trod_slice ht h with ⟨rfl, _⟩ | ⟨a, len, cap, elems, rest, n, _, rfl, _, _, hlc, hm, hlen, hel, _, _⟩
  · exact ⟨[], ⟨none, 0, rfl, Nat.le_refl _, rfl, Nat.zero_le _, fun h => absurd h (Nat.lt_irrefl 0)⟩, fun x hx => by cases hx⟩
  · have each : ∀ i, i < len → ∃ v, (∃ c, c.length = d.sz ∧ d.K w v c ∧ ∀ j u, c[j]? = some u → w.cell? (a.add (i * d.sz + j)) = some u) ∧ Q v := by
      intro i hi
      have h1 := hel i hi
      rw [List.getElem?_eq_getElem (by omega), hc] at h1
      obtain ⟨c, hcs, htr⟩ := Option.bind_eq_some_iff.1 h1
      obtain ⟨v, hk, hq⟩ := he htr
      refine ⟨v, ⟨c, d.K_len hk, hk, fun j u hu => ?_⟩, hq⟩
      have h2 := World.cells?_some hcs
      have hj := (List.getElem?_eq_some_iff.1 hu).1
      have h3 := h2.2.2 j (by rw [← d.K_len hk]; exact hj)
      rw [hu] at h3
      rw [← h3, ← Addr.add_add]
    obtain ⟨l, hl, hr⟩ := exists_list len each
    refine ⟨l, ⟨some a, cap, by rw [hl], by omega, rfl, by rw [hl]; simp only [maxLen] at hm; omega, fun _ => ⟨a, rfl, fun j p hj => (hr j p hj).1⟩⟩, fun x hx => ?_⟩
    obtain ⟨i, hi, rfl⟩ := List.getElem_of_mem hx
    exact (hr i _ (List.getElem?_eq_getElem hi)).2
/-- A struct's fields. -/
theorem openFields {P : Program} {H : Type} {enc : TypeId × Value → H} {w : World} {base : Nat} {sp : Nat → Bool} {hd : Bool} {fuel : Nat} {t : TypeId} {cs : List Value} {x : DataW H × List MemPlace} {fs : Array Field} (ht : P.underlying t = some (.struct fs))
    (h : DataW.trod enc P w base sp hd fuel t cs = some x) : cs.length = P.cellsOf t ∧ ∀ (i : Nat) (f : Field), fs[i]? = some f → ∃ n y, DataW.trod enc P w base sp hd n f.type ((cs.drop f.offset).take (P.cellsOf f.type)) = some y := by
  obtain ⟨xs, n, _, _, hl, hlen, hf⟩ := DataW.trod_struct ht h
  refine ⟨hl, fun i f hi => ?_⟩
  have h1 := hf i f hi
  have h2 : i < fs.size := (Array.getElem?_eq_some_iff.1 hi).1
  rw [List.getElem?_eq_getElem (by omega)] at h1
  exact ⟨n, _, h1⟩
end Go.Proofs.Ytdbmhpfbbikjjaa.Op
end
section
/- The row of the law InterpolatePassesThroughPoints, out of its plain law and the walk. -/
namespace Go.Proofs.Ytdbmhpfbbikjjaa.interpolatePassesThroughPoints
open Go.ChangeShapes Go.WideShapes Go.ChangeAt Go.RowKit Go.Proofs.Ytdbmhpfbbikjjaa.Pr Go.Proofs.YtdbmhpfbbikjjaaW.PrintWords
set_option linter.unusedVariables false
theorem own : ownKnob Try.prog.godebug = none := by kernel_rfl
theorem laidOut : laidOutB Try.prog = true := by kernel_rfl
theorem open38 : Op.OpenK Try.prog 38 k38 (fun x_ => ((Lit.int .u64 x_.f0).wf = true) ∧ ((Lit.int .u64 x_.f1).wf = true)) := by
  intro H enc w base sp hd fuel cs x h
  obtain ⟨hl, hf⟩ := Op.openFields Try.underlying38 h
  have hN : Try.prog.cellsOf 38 = 2 := by kernel_rfl
  rw [hN] at hl
  obtain ⟨c0_, c1_, rfl⟩ : ∃ c0_ c1_, cs = [c0_, c1_] := by
    match cs, hl with
    | [c0_, c1_], _ => exact ⟨_, _, rfl⟩
  obtain ⟨n0_, y0_, e0_⟩ := hf 0 _ rfl
  have g0_ := (Op.openInt (k := .u64) Try.underlying22) e0_
  obtain ⟨v0_, m0_, q0_⟩ := g0_
  obtain ⟨n1_, y1_, e1_⟩ := hf 1 _ rfl
  have g1_ := (Op.openInt (k := .u64) Try.underlying22) e1_
  obtain ⟨v1_, m1_, q1_⟩ := g1_
  exact ⟨⟨v0_, v1_⟩, ⟨_, _, rfl, m0_, m1_⟩, ⟨q0_, q1_⟩⟩
set_option maxRecDepth 100000 in
theorem lifted (os : Os) (started : os.Started) (H : Type) (enc : TypeId × Value → H) :
    ReturnsInHanded {} Try.checked os 5 .any (Rows.interpolatePassesThroughPointsSpec.pre6 enc Try.prog Try.f5 Rows.interpolatePassesThroughPointsRow.domain false) (Rows.interpolatePassesThroughPointsSpec.post enc Try.prog Try.f5 false true false false) := by
  refine returnsInHanded_of_change_sized (C := Try.checked) own started (by kernel_rfl) Try.func5
    (ChangeSpec.witness6 (enc := enc) (C := Try.checked) false ⟨#[], #[.int .u64 0, .slice none 0 0], []⟩ 8 (by kernel_rfl) (by kernel_rfl) (by kernel_rfl) (by kernel_rfl)) ?_
  intro W base args ds gs before hval0 hW hcnd hsz0 _
  have hval : ∀ (j : Nat) t v, Try.f5.params[j]? = some t → args[j]? = some v → Value.okWide Try.prog W .any base t v := hval0
  have hW' := hW
  obtain ⟨p, q, hA0, hV, rfl, hfz, hnd⟩ := hW
  have hA : DataW.TrodAll enc Try.prog W 0 (fun _ => true) true Try.f5.params.toList args.toList ds p := hA0
  rw [Try.params5] at hA hval
  obtain ⟨v0, vs0, d0, ds0, p0, q0, hargs, rfl, rfl, h0, r0⟩ := trodAll_cons hA
  obtain ⟨v1, vs1, d1, ds1, p1, q1, rfl, rfl, rfl, h1, r1⟩ := trodAll_cons r0
  obtain ⟨rfl, rfl, rfl⟩ := trodAll_nil r1
  obtain rfl : args = #[v0, v1] := by cases args; simp_all
  obtain ⟨rfl, rfl⟩ := trodVars_none hV
  have k0 := h0
  have lt0 : ∀ x ∈ p0, x.block < W.heap.size := by obtain ⟨m, hm⟩ := k0; exact DataW.trod_lt m _ _ _ hm
  obtain ⟨a0, rfl, rfl, rfl, w0⟩ := open_int Try.underlying22 (hval 0 22 v0 rfl rfl) h0
  have k1 := h1
  have lt1 : ∀ x ∈ p1, x.block < W.heap.size := by obtain ⟨m, hm⟩ := k1; exact DataW.trod_lt m _ _ _ hm
  obtain ⟨a1, len1, cap1, rfl⟩ := okWide_slice Try.underlying33 (hval 1 33 v1 rfl rfl)
  obtain ⟨fu1, hf1⟩ := h1
  obtain ⟨z1, ⟨A1, c1, e1, hc1, g1⟩, w1⟩ := (Op.openSlice (d := k38) Try.underlying33 (by kernel_rfl) open38) hf1
  cases e1
  clear hA0 hval0 hsz0
  obtain ⟨kk, hk⟩ := Pure.InterpolatePassesThroughPoints a0 z1 w0 w1
  refine (privitylaw05_InterpolatePassesThroughPoints.calls kk a0 _ _ z1 true W g1 hc1 hk).mono fun e W' ⟨he, bel⟩ => ?_
  subst he
  exact ⟨_, rfl, _, _, _, [], _, [], hW', trodAll_mk1 (shut_bool Try.underlying4 _), (trodAll_cons_mk (shut_int Try.underlying22 w0) (trodAll_cons_mk (Below.trod laidOut (by kernel_rfl) (of_decide_eq_true (by kernel_rfl)) k1 bel lt1) trodAll_mk0)), rfl, bel.frame _, fun h => by cases h⟩
theorem over : Rows.interpolatePassesThroughPointsRow.holds Try.pinned (OpenSpec.ofChange Rows.interpolatePassesThroughPointsSpec) :=
  OpenClaim.holds_of_wide 5 Try.f5 rfl rfl rfl rfl rfl rfl rfl ⟨rfl, rfl, rfl, rfl, rfl⟩ rfl rfl rfl rfl rfl (by kernel_rfl) Try.func5 (by kernel_rfl)
    (of_decide_eq_true (by kernel_rfl)) (by unfold Func.isWrapper; first | (rw [if_pos (by decide +kernel)]; kernel_rfl) | (rw [if_neg (by decide +kernel)]; exact ⟨rfl, rfl⟩))
    (fun os started H enc _ => lifted os started H enc)
theorem proved : Rows.InterpolatePassesThroughPointsSaid := over
#print axioms proved
end Go.Proofs.Ytdbmhpfbbikjjaa.interpolatePassesThroughPoints
namespace Go.Proofs.Ytdbmhpfbbikjjaa
/-- The row, under a short name, for the claim. -/
theorem interpolatePassesThroughPoints_holds : Rows.InterpolatePassesThroughPointsSaid := interpolatePassesThroughPoints.proved
end Go.Proofs.Ytdbmhpfbbikjjaa
end
