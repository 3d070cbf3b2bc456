/- The row of the law InterpolateIsLinear, out of its plain law and the walk. -/
import Derived.Test.YtdbmhpfbbikjjaaZIsLinear1
import Derived.Test.YtdbmhpfbbikjjaaZIsLinear3
import Derived.Test.YtdbmhpfbbikjjaaZIsLinear2
import Derived.Test.YtdbmhpfbbikjjaaProg
import Derived.ChangeArms
import Derived.DataReads
import Derived.DataElems
import Derived.ShutString
import Derived.ChangeSame
import Derived.Test.YtdbmhpfbbikjjaaZIsLinear0
import Derived.Test.YtdbmhpfbbikjjaaRows
import Derived.WalkKit
import Derived.ProofKit
import Derived.OpenShut
import Derived.ChangeOld
import Derived.Below
import Derived.SizedLaws
section
/- Printed by a program of this seat (the kit's printer, with the functions that were proved by hand given to it). What stands here: the functions that the statements reach, as plain functions, and that the Go code computes them. -/
namespace Go.Proofs.Ytdbmhpfbbikjjaa.Pr
open Go.RowKit Go.Proofs.YtdbmhpfbbikjjaaW.PrintWords Go.Proofs.YtdbmhpfbbikjjaaW.PrintLast Go.Proofs.YtdbmhpfbbikjjaaW.PrintMore
attribute [local go_sem] max2_int min2_int max_two min_two max_three min_three max_four min_four   -- for this text's walks alone
set_option linter.unusedVariables false
set_option linter.unusedSimpArgs false

open Go.Proofs.Ytdbmhpfbbikjjaa.Hw
/-! ### privitylaw05_InterpolateIsLinear: function 4 -/
mutual
def privitylaw05_InterpolateIsLinear.j0 : Nat → Int → List (S38) → List Int → Bool → Option (Bool)
  | 0, _, _, _, _ => none
  | k + 1, x0, x1, x2, x50 => if x50 = true then (some true) else (privitylaw05_InterpolateIsLinear.l0 k x0 x1 x2 ([] : List (S38)) ([] : List (S38)) 0)
def privitylaw05_InterpolateIsLinear.l0 : Nat → Int → List (S38) → List Int → List (S38) → List (S38) → Int → Option (Bool)
  | 0, _, _, _, _, _, _ => none
  | k + 1, x0, x1, x2, x7, x8, x9 => if x9 < (x1.length : Int) then (if 0 ≤ x9 then (if x9 < (x2.length : Int) then (if x7.length < 8796093022208 then ((field_Add.f k x0 ((rd_T38 x1 x9).f1) (rd x2 x9)).bind fun t330 => (if x8.length < 8796093022208 then (privitylaw05_InterpolateIsLinear.l0 k x0 x1 x2 (x7 ++ [(⟨(rd_T38 x1 x9).f0, rd x2 x9⟩ : S38)]) (x8 ++ [(⟨(rd_T38 x1 x9).f0, t330⟩ : S38)]) (wrap64 (x9 + 1))) else (none))) else (none)) else (none)) else (none)) else ((interpolate_Polynomial.f x0 x1).bind fun bt334 => ((interpolate_Polynomial.f x0 x7).bind fun bt338 => ((interpolate_Polynomial.f x0 x8).bind fun bt342 => (if bt334.2 = 0 then (if bt338.2 = 0 then (if bt342.2 = 0 then ((poly_Add.f x0 bt334.1 bt338.1).bind fun t346 => ((privityref05_Same.f k bt342.1 t346).bind fun t349 => (some t349))) else (some false)) else (some false)) else (some false)))))
end
def privitylaw05_InterpolateIsLinear.f (k : Nat) (a0 : Int) (l1 : List (S38)) (l2 : List Int) : Option (Bool) := (privitylaw05_awake.f k).bind fun t314 => (if t314 = true then ((privityref01_Supported.f k a0).bind fun t315 => (if t315 = true then (if (l1.length : Int) > 12 then (privitylaw05_InterpolateIsLinear.j0 k a0 l1 l2 true) else (if (l2.length : Int) = (l1.length : Int) then ((privityref05_Points.f k a0 l1).bind fun t316 => (if t316 = true then ((privityref05_Below.f k a0 l2).bind fun t317 => (if t317 = true then ((privityref05_Places.f k l1).bind fun t318 => ((privityref05_Unlike.f k t318).bind fun t321 => (privitylaw05_InterpolateIsLinear.j0 k a0 l1 l2 (!t321)))) else (privitylaw05_InterpolateIsLinear.j0 k a0 l1 l2 true))) else (privitylaw05_InterpolateIsLinear.j0 k a0 l1 l2 true))) else (privitylaw05_InterpolateIsLinear.j0 k a0 l1 l2 true))) else (privitylaw05_InterpolateIsLinear.j0 k a0 l1 l2 true))) else (some false))
def privitylaw05_InterpolateIsLinear.T10 : Bool × List (List Nat × List Nat) := (true, [([], []), ([], []), ([], []), ([1, 2], [1, 2]), ([3], [3]), ([4], [4]), ([], []), ([], []), ([6, 7], [6, 7]), ([8], [8]), ([5, 9], [5, 9]), ([10], [10]), ([0, 11], [0, 11]), ([12, 12, 0, 1, 2, 3, 4, 5, 6, 7, 8, 9, 10, 11, 12], [0, 12])])
def privitylaw05_InterpolateIsLinear.B10 : List Nat := [0, 0, 0, 6, 14, 30, 0, 0, 192, 448, 1022, 2046, 4095, 8191]
theorem privitylaw05_InterpolateIsLinear.tab10 : rtab .any (opsOf Try.f4 10) = privitylaw05_InterpolateIsLinear.T10 := by kernel_rfl
theorem privitylaw05_InterpolateIsLinear.bits10 : waitsOk privitylaw05_InterpolateIsLinear.T10.2 privitylaw05_InterpolateIsLinear.B10 = true := by kernel_rfl
def privitylaw05_InterpolateIsLinear.T11 : Bool × List (List Nat × List Nat) := (true, [([], []), ([], []), ([], []), ([1, 2], [1, 2]), ([3], [3]), ([4], [4]), ([], []), ([], []), ([], []), ([7, 8], [7, 8]), ([9], [9]), ([10], [10]), ([], []), ([], []), ([12, 13], [12, 13]), ([14], [14]), ([6, 11, 15], [6, 11, 15]), ([5, 16], [5, 16]), ([17], [17]), ([0, 18, 16], [0, 18]), ([19, 19, 0, 1, 2, 3, 4, 5, 6, 7, 8, 9, 10, 11, 12, 13, 14, 15, 16, 17, 18, 19], [0, 19])])
def privitylaw05_InterpolateIsLinear.B11 : List Nat := [0, 0, 0, 6, 14, 30, 0, 0, 0, 384, 896, 1920, 0, 0, 12288, 28672, 65472, 131070, 262142, 524287, 1048575]
theorem privitylaw05_InterpolateIsLinear.tab11 : rtab .any (opsOf Try.f4 11) = privitylaw05_InterpolateIsLinear.T11 := by kernel_rfl
theorem privitylaw05_InterpolateIsLinear.bits11 : waitsOk privitylaw05_InterpolateIsLinear.T11.2 privitylaw05_InterpolateIsLinear.B11 = true := by kernel_rfl
set_option maxHeartbeats 8000000 in
set_option maxRecDepth 100000 in
theorem privitylaw05_InterpolateIsLinear.calls (k : Nat) (a0 : Int) (A1 : Option Addr) (c1 : Nat) (l1 : List (S38)) (A2 : Option Addr) (c2 : Nat) (l2 : List Int) (r : Bool) (w : World) (hr1 : Kd.C k38 w A1 l1.length l1) (hc1 : l1.length ≤ c1) (hr2 : Kd.C (Kd.int .u64) w A2 l2.length l2) (hc2 : l2.length ≤ c2) (h : privitylaw05_InterpolateIsLinear.f k a0 l1 l2 = some r) :
    Calls Try.prog 4 #[.int .u64 a0, .slice A1 l1.length c1, .slice A2 l2.length c2] w fun e w' => e = .returned (.bool r) ∧ Below w.heap.size w w' := by
  have hu38 := Try.underlying38
  have HR1 := Aside0.mk hr1
  have HC1 := Aside0.mk hc1
  clear hr1 hc1
  have HR2 := Aside0.mk hr2
  have HC2 := Aside0.mk hc2
  clear hr2 hc2
  have HB := Aside0.mk (Below.refl w.heap.size w)
  have H : ((privitylaw05_awake.f k).bind fun t314 => (if t314 = true then ((privityref01_Supported.f k a0).bind fun t315 => (if t315 = true then (if (l1.length : Int) > 12 then (privitylaw05_InterpolateIsLinear.j0 k a0 l1 l2 true) else (if (l2.length : Int) = (l1.length : Int) then ((privityref05_Points.f k a0 l1).bind fun t316 => (if t316 = true then ((privityref05_Below.f k a0 l2).bind fun t317 => (if t317 = true then ((privityref05_Places.f k l1).bind fun t318 => ((privityref05_Unlike.f k t318).bind fun t321 => (privitylaw05_InterpolateIsLinear.j0 k a0 l1 l2 (!t321)))) else (privitylaw05_InterpolateIsLinear.j0 k a0 l1 l2 true))) else (privitylaw05_InterpolateIsLinear.j0 k a0 l1 l2 true))) else (privitylaw05_InterpolateIsLinear.j0 k a0 l1 l2 true))) else (privitylaw05_InterpolateIsLinear.j0 k a0 l1 l2 true))) else (some false))) = some r := h
  clear h
  replace H := Option.bind_eq_some_iff.mp H
  obtain ⟨t314, A40, H⟩ := H
  replace H : (if t314 = true then ((privityref01_Supported.f k a0).bind fun t315 => (if t315 = true then (if (l1.length : Int) > 12 then (privitylaw05_InterpolateIsLinear.j0 k a0 l1 l2 true) else (if (l2.length : Int) = (l1.length : Int) then ((privityref05_Points.f k a0 l1).bind fun t316 => (if t316 = true then ((privityref05_Below.f k a0 l2).bind fun t317 => (if t317 = true then ((privityref05_Places.f k l1).bind fun t318 => ((privityref05_Unlike.f k t318).bind fun t321 => (privitylaw05_InterpolateIsLinear.j0 k a0 l1 l2 (!t321)))) else (privitylaw05_InterpolateIsLinear.j0 k a0 l1 l2 true))) else (privitylaw05_InterpolateIsLinear.j0 k a0 l1 l2 true))) else (privitylaw05_InterpolateIsLinear.j0 k a0 l1 l2 true))) else (privitylaw05_InterpolateIsLinear.j0 k a0 l1 l2 true))) else (some false)) = some r := H
  have A4 := Aside0.mk A40
  clear A40
  by_cases c5 : t314 = true
  · subst c5
    have H1 : ((privityref01_Supported.f k a0).bind fun t315 => (if t315 = true then (if (l1.length : Int) > 12 then (privitylaw05_InterpolateIsLinear.j0 k a0 l1 l2 true) else (if (l2.length : Int) = (l1.length : Int) then ((privityref05_Points.f k a0 l1).bind fun t316 => (if t316 = true then ((privityref05_Below.f k a0 l2).bind fun t317 => (if t317 = true then ((privityref05_Places.f k l1).bind fun t318 => ((privityref05_Unlike.f k t318).bind fun t321 => (privitylaw05_InterpolateIsLinear.j0 k a0 l1 l2 (!t321)))) else (privitylaw05_InterpolateIsLinear.j0 k a0 l1 l2 true))) else (privitylaw05_InterpolateIsLinear.j0 k a0 l1 l2 true))) else (privitylaw05_InterpolateIsLinear.j0 k a0 l1 l2 true))) else (privitylaw05_InterpolateIsLinear.j0 k a0 l1 l2 true))) = some r := by rw [if_pos rfl] at H; exact H
    clear H
    have H := H1
    clear H1
    have HC6 := Aside0.mk H
    clear H
    go_enter Try.func4, Try.ntmps4
    go_upto_region 3 with (first | ((with_reducible refine gate_callee (f := 10) rfl ?_); refine goesL_ (some 16) rfl rfl Try.func10 (by kernel_rfl) rfl #[] rfl (by (try simp only [List.map_toArray, List.map_cons, List.map_nil]); first | done | rfl | (simp only [List.length_drop, List.length_take]; rfl)) ?_; (with_reducible refine (privitylaw05_awake.calls k  true _ A4.out).mono ?_); rintro e w7 ⟨rfl, hb⟩; refine ⟨_, rfl, ?_⟩; have n0_ := Aside0.mk (below_step (by repeat (first | (with_reducible first | exact HB.out | apply below_alloc | apply pw_below_drewN | apply below_drew1) | exact HB.out)) hb); clear HB; have HB := n0_; clear n0_; (try clear hb); (try clear hb2); (try clear hk); (try clear hi)))
    (try simp only [Act.put, List.setIfInBounds_toArray, List.set_cons_zero, List.set_cons_succ])
    go_cut [50] (fun v50 wc => ∃ (kq : Nat) (x50_5 : Bool), v50 = .bool x50_5 ∧ Aside0 (privitylaw05_InterpolateIsLinear.j0 kq a0 l1 l2 x50_5 = some r) ∧ Aside0 (kq ≤ k) ∧ Aside0 (Below w.heap.size w wc))
    case first =>
      have H := HC6.out
      clear HC6
      replace H := Option.bind_eq_some_iff.mp H
      obtain ⟨t315, A80, H⟩ := H
      replace H : (if t315 = true then (if (l1.length : Int) > 12 then (privitylaw05_InterpolateIsLinear.j0 k a0 l1 l2 true) else (if (l2.length : Int) = (l1.length : Int) then ((privityref05_Points.f k a0 l1).bind fun t316 => (if t316 = true then ((privityref05_Below.f k a0 l2).bind fun t317 => (if t317 = true then ((privityref05_Places.f k l1).bind fun t318 => ((privityref05_Unlike.f k t318).bind fun t321 => (privitylaw05_InterpolateIsLinear.j0 k a0 l1 l2 (!t321)))) else (privitylaw05_InterpolateIsLinear.j0 k a0 l1 l2 true))) else (privitylaw05_InterpolateIsLinear.j0 k a0 l1 l2 true))) else (privitylaw05_InterpolateIsLinear.j0 k a0 l1 l2 true))) else (privitylaw05_InterpolateIsLinear.j0 k a0 l1 l2 true)) = some r := H
      have A8 := Aside0.mk A80
      clear A80
      by_cases c9 : t315 = true
      · subst c9
        have H1 : (if (l1.length : Int) > 12 then (privitylaw05_InterpolateIsLinear.j0 k a0 l1 l2 true) else (if (l2.length : Int) = (l1.length : Int) then ((privityref05_Points.f k a0 l1).bind fun t316 => (if t316 = true then ((privityref05_Below.f k a0 l2).bind fun t317 => (if t317 = true then ((privityref05_Places.f k l1).bind fun t318 => ((privityref05_Unlike.f k t318).bind fun t321 => (privitylaw05_InterpolateIsLinear.j0 k a0 l1 l2 (!t321)))) else (privitylaw05_InterpolateIsLinear.j0 k a0 l1 l2 true))) else (privitylaw05_InterpolateIsLinear.j0 k a0 l1 l2 true))) else (privitylaw05_InterpolateIsLinear.j0 k a0 l1 l2 true))) = some r := by rw [if_pos rfl] at H; exact H
        clear H
        have H := H1
        clear H1
        by_cases c10 : (l1.length : Int) > 12
        · rw [if_pos c10] at H
          have c10b0 : decide (12 < (l1.length : Int)) = true := decide_eq_true c10
          have c10b1 : decide (12 < l1.length) = true := decide_eq_true (by omega)
          clear c10
          (first | rw [c10b0] | (simp only [i64_w, i32_w]; rw [c10b0]) | skip)
          have H' := Aside0.mk H
          clear H
          go_wp2_with (first | ((with_reducible refine gate_callee (f := 11) rfl ?_); refine goesL_ (some 19) rfl rfl Try.func11 (by kernel_rfl) rfl #[.int .u64 a0] rfl (by (try simp only [List.map_toArray, List.map_cons, List.map_nil]); first | done | rfl | (simp only [List.length_drop, List.length_take]; rfl)) ?_; (with_reducible refine (privityref01_Supported.calls k a0 true _ A8.out).mono ?_); rintro e w11 ⟨rfl, hb⟩; refine ⟨_, rfl, ?_⟩; have n0_ := Aside0.mk (below_step (by repeat (first | (with_reducible first | exact HB.out | apply below_alloc | apply pw_below_drewN | apply below_drew1) | exact HB.out)) hb); clear HB; have HB := n0_; clear n0_; (try clear hb); (try clear hb2); (try clear hk); (try clear hi)))
          go_meet
          case rel => exact ⟨_, (true), (by first | rfl | (simp; done) | (simp [*]; done)), H', ⟨by first | omega | exact Nat.le_refl _⟩, ⟨by repeat (first | (with_reducible first | exact HB.out | apply below_alloc | apply pw_below_drewN | apply below_drew1) | exact HB.out)⟩⟩
        · rw [if_neg c10] at H
          have c10b0 : decide (12 < (l1.length : Int)) = false := decide_eq_false c10
          have c10b1 : decide (12 < l1.length) = false := decide_eq_false (by omega)
          clear c10
          (first | rw [c10b0] | (simp only [i64_w, i32_w]; rw [c10b0]) | skip)
          by_cases c12 : (l2.length : Int) = (l1.length : Int)
          · rw [if_pos c12] at H
            have c12b0 : ((l2.length : Int) == (l1.length : Int)) = true := beq_iff_eq.mpr c12
            have c12b1 : ((l2.length : Int) != (l1.length : Int)) = false := bne_eq_false_iff_eq.mpr c12
            have c12b2 : (l2.length == l1.length) = true := by first | simpa using c12 | (simp at c12 ⊢; omega)
            clear c12
            replace H := Option.bind_eq_some_iff.mp H
            obtain ⟨t316, A130, H⟩ := H
            replace H : (if t316 = true then ((privityref05_Below.f k a0 l2).bind fun t317 => (if t317 = true then ((privityref05_Places.f k l1).bind fun t318 => ((privityref05_Unlike.f k t318).bind fun t321 => (privitylaw05_InterpolateIsLinear.j0 k a0 l1 l2 (!t321)))) else (privitylaw05_InterpolateIsLinear.j0 k a0 l1 l2 true))) else (privitylaw05_InterpolateIsLinear.j0 k a0 l1 l2 true)) = some r := H
            have A13 := Aside0.mk A130
            clear A130
            by_cases c14 : t316 = true
            · subst c14
              have H1 : ((privityref05_Below.f k a0 l2).bind fun t317 => (if t317 = true then ((privityref05_Places.f k l1).bind fun t318 => ((privityref05_Unlike.f k t318).bind fun t321 => (privitylaw05_InterpolateIsLinear.j0 k a0 l1 l2 (!t321)))) else (privitylaw05_InterpolateIsLinear.j0 k a0 l1 l2 true))) = some r := by rw [if_pos rfl] at H; exact H
              clear H
              have H := H1
              clear H1
              replace H := Option.bind_eq_some_iff.mp H
              obtain ⟨t317, A150, H⟩ := H
              replace H : (if t317 = true then ((privityref05_Places.f k l1).bind fun t318 => ((privityref05_Unlike.f k t318).bind fun t321 => (privitylaw05_InterpolateIsLinear.j0 k a0 l1 l2 (!t321)))) else (privitylaw05_InterpolateIsLinear.j0 k a0 l1 l2 true)) = some r := H
              have A15 := Aside0.mk A150
              clear A150
              by_cases c16 : t317 = true
              · subst c16
                have H1 : ((privityref05_Places.f k l1).bind fun t318 => ((privityref05_Unlike.f k t318).bind fun t321 => (privitylaw05_InterpolateIsLinear.j0 k a0 l1 l2 (!t321)))) = some r := by rw [if_pos rfl] at H; exact H
                clear H
                have H := H1
                clear H1
                replace H := Option.bind_eq_some_iff.mp H
                obtain ⟨t318, A170, H⟩ := H
                replace H : ((privityref05_Unlike.f k t318).bind fun t321 => (privitylaw05_InterpolateIsLinear.j0 k a0 l1 l2 (!t321))) = some r := H
                have A17 := Aside0.mk A170
                clear A170
                replace H := Option.bind_eq_some_iff.mp H
                obtain ⟨t321, A180, H⟩ := H
                replace H : (privitylaw05_InterpolateIsLinear.j0 k a0 l1 l2 (!t321)) = some r := H
                have A18 := Aside0.mk A180
                clear A180
                have H' := Aside0.mk H
                clear H
                go_wp2_with (first | ((with_reducible refine gate_callee (f := 11) rfl ?_); refine goesL_ (some 19) rfl rfl Try.func11 (by kernel_rfl) rfl #[.int .u64 a0] rfl (by (try simp only [List.map_toArray, List.map_cons, List.map_nil]); first | done | rfl | (simp only [List.length_drop, List.length_take]; rfl)) ?_; (with_reducible refine (privityref01_Supported.calls k a0 true _ A8.out).mono ?_); rintro e w19 ⟨rfl, hb⟩; refine ⟨_, rfl, ?_⟩; have n0_ := Aside0.mk (below_step (by repeat (first | (with_reducible first | exact HB.out | apply below_alloc | apply pw_below_drewN | apply below_drew1) | exact HB.out)) hb); clear HB; have HB := n0_; clear n0_; (try clear hb); (try clear hb2); (try clear hk); (try clear hi)) | (go_at_call 17; (with_reducible refine (privityref05_Points.calls k a0 _ _ l1 true _ ?side1 ?side2 A13.out).mono ?_); (case side1 => repeat (first | exact (Kd.C_below HR1.out HB.out) | (with_reducible refine Kd.C_alloc ?_ _) | (with_reducible refine Kd.C_drewN ?_ _) | (with_reducible refine Kd.C_drew ?_))); (case side2 => exact HC1.out); rintro e w' ⟨rfl, ⟨nd, rfl⟩⟩) | (go_at_call 12; (with_reducible refine (privityref05_Below.calls k a0 _ _ l2 true _ ?side1 ?side2 A15.out).mono ?_); (case side1 => repeat (first | exact (Kd.C_below HR2.out (by repeat (first | (with_reducible first | exact HB.out | apply below_alloc | apply pw_below_drewN | apply below_drew1) | exact HB.out))) | (with_reducible refine Kd.C_alloc ?_ _) | (with_reducible refine Kd.C_drewN ?_ _) | (with_reducible refine Kd.C_drew ?_))); (case side2 => exact HC2.out); rintro e w' ⟨rfl, ⟨nd, rfl⟩⟩) | (go_at_call 19; (with_reducible refine (privityref05_Places.calls k _ _ l1 t318 _ ?side1 ?side2 A17.out).mono ?_); (case side1 => repeat (first | exact (Kd.C_below HR1.out (by repeat (first | (with_reducible first | exact HB.out | apply below_alloc | apply pw_below_drewN | apply below_drew1) | exact HB.out))) | (with_reducible refine Kd.C_alloc ?_ _) | (with_reducible refine Kd.C_drewN ?_ _) | (with_reducible refine Kd.C_drew ?_))); (case side2 => exact HC1.out); rintro e w20 ⟨v319, rfl, ho0, hb⟩; have n0_ := Aside0.mk (Kd.R_lower ho0 (below_size (by repeat (first | (with_reducible first | exact HB.out | apply below_alloc | apply pw_below_drewN | apply below_drew1) | exact HB.out)))); have n1_ := Aside0.mk (below_step (by repeat (first | (with_reducible first | exact HB.out | apply below_alloc | apply pw_below_drewN | apply below_drew1) | exact HB.out)) hb); clear HB; have HO320 := n0_; have HB := n1_; clear n0_ n1_; (try clear hb); (try clear hb2); (try clear hk); (try clear hi); (try clear ho0); obtain ⟨Ao21, co21, eo21⟩ := Kd.R_slice HO320.out; subst eo21) | (go_at_call 18; (with_reducible refine (privityref05_Unlike.calls k _ _ t318 t321 _ ?side1 ?side2 A18.out).mono ?_); (case side1 => repeat (first | exact (Kd.R_reads' HO320.out).2.2 | (with_reducible refine Kd.C_alloc ?_ _) | (with_reducible refine Kd.C_drewN ?_ _) | (with_reducible refine Kd.C_drew ?_))); (case side2 => exact (Kd.R_reads' HO320.out).2.1); rintro e w' ⟨rfl, ⟨nd, rfl⟩⟩))
                go_meet
                case rel => exact ⟨_, (!t321), (by first | rfl | (simp; done) | (simp [*]; done)), H', ⟨by first | omega | exact Nat.le_refl _⟩, ⟨by repeat (first | (with_reducible first | exact HB.out | apply below_alloc | apply pw_below_drewN | apply below_drew1) | exact HB.out)⟩⟩
              · replace c16 := Bool.eq_false_iff.mpr c16
                subst c16
                have H1 : (privitylaw05_InterpolateIsLinear.j0 k a0 l1 l2 true) = some r := by rw [if_neg (show ¬ (false = true) by decide)] at H; exact H
                clear H
                have H := H1
                clear H1
                have H' := Aside0.mk H
                clear H
                go_wp2_with (first | ((with_reducible refine gate_callee (f := 11) rfl ?_); refine goesL_ (some 19) rfl rfl Try.func11 (by kernel_rfl) rfl #[.int .u64 a0] rfl (by (try simp only [List.map_toArray, List.map_cons, List.map_nil]); first | done | rfl | (simp only [List.length_drop, List.length_take]; rfl)) ?_; (with_reducible refine (privityref01_Supported.calls k a0 true _ A8.out).mono ?_); rintro e w22 ⟨rfl, hb⟩; refine ⟨_, rfl, ?_⟩; have n0_ := Aside0.mk (below_step (by repeat (first | (with_reducible first | exact HB.out | apply below_alloc | apply pw_below_drewN | apply below_drew1) | exact HB.out)) hb); clear HB; have HB := n0_; clear n0_; (try clear hb); (try clear hb2); (try clear hk); (try clear hi)) | (go_at_call 17; (with_reducible refine (privityref05_Points.calls k a0 _ _ l1 true _ ?side1 ?side2 A13.out).mono ?_); (case side1 => repeat (first | exact (Kd.C_below HR1.out HB.out) | (with_reducible refine Kd.C_alloc ?_ _) | (with_reducible refine Kd.C_drewN ?_ _) | (with_reducible refine Kd.C_drew ?_))); (case side2 => exact HC1.out); rintro e w' ⟨rfl, ⟨nd, rfl⟩⟩) | (go_at_call 12; (with_reducible refine (privityref05_Below.calls k a0 _ _ l2 false _ ?side1 ?side2 A15.out).mono ?_); (case side1 => repeat (first | exact (Kd.C_below HR2.out (by repeat (first | (with_reducible first | exact HB.out | apply below_alloc | apply pw_below_drewN | apply below_drew1) | exact HB.out))) | (with_reducible refine Kd.C_alloc ?_ _) | (with_reducible refine Kd.C_drewN ?_ _) | (with_reducible refine Kd.C_drew ?_))); (case side2 => exact HC2.out); rintro e w' ⟨rfl, ⟨nd, rfl⟩⟩))
                go_meet
                case rel => exact ⟨_, (true), (by first | rfl | (simp; done) | (simp [*]; done)), H', ⟨by first | omega | exact Nat.le_refl _⟩, ⟨by repeat (first | (with_reducible first | exact HB.out | apply below_alloc | apply pw_below_drewN | apply below_drew1) | exact HB.out)⟩⟩
            · replace c14 := Bool.eq_false_iff.mpr c14
              subst c14
              have H1 : (privitylaw05_InterpolateIsLinear.j0 k a0 l1 l2 true) = some r := by rw [if_neg (show ¬ (false = true) by decide)] at H; exact H
              clear H
              have H := H1
              clear H1
              have H' := Aside0.mk H
              clear H
              go_wp2_with (first | ((with_reducible refine gate_callee (f := 11) rfl ?_); refine goesL_ (some 19) rfl rfl Try.func11 (by kernel_rfl) rfl #[.int .u64 a0] rfl (by (try simp only [List.map_toArray, List.map_cons, List.map_nil]); first | done | rfl | (simp only [List.length_drop, List.length_take]; rfl)) ?_; (with_reducible refine (privityref01_Supported.calls k a0 true _ A8.out).mono ?_); rintro e w23 ⟨rfl, hb⟩; refine ⟨_, rfl, ?_⟩; have n0_ := Aside0.mk (below_step (by repeat (first | (with_reducible first | exact HB.out | apply below_alloc | apply pw_below_drewN | apply below_drew1) | exact HB.out)) hb); clear HB; have HB := n0_; clear n0_; (try clear hb); (try clear hb2); (try clear hk); (try clear hi)) | (go_at_call 17; (with_reducible refine (privityref05_Points.calls k a0 _ _ l1 false _ ?side1 ?side2 A13.out).mono ?_); (case side1 => repeat (first | exact (Kd.C_below HR1.out HB.out) | (with_reducible refine Kd.C_alloc ?_ _) | (with_reducible refine Kd.C_drewN ?_ _) | (with_reducible refine Kd.C_drew ?_))); (case side2 => exact HC1.out); rintro e w' ⟨rfl, ⟨nd, rfl⟩⟩))
              go_meet
              case rel => exact ⟨_, (true), (by first | rfl | (simp; done) | (simp [*]; done)), H', ⟨by first | omega | exact Nat.le_refl _⟩, ⟨by repeat (first | (with_reducible first | exact HB.out | apply below_alloc | apply pw_below_drewN | apply below_drew1) | exact HB.out)⟩⟩
          · rw [if_neg c12] at H
            have c12b0 : ((l2.length : Int) == (l1.length : Int)) = false := beq_eq_false_iff_ne.mpr c12
            have c12b1 : ((l2.length : Int) != (l1.length : Int)) = true := bne_iff_ne.mpr c12
            have c12b2 : (l2.length == l1.length) = false := by first | simpa using c12 | (simp at c12 ⊢; omega)
            have H' := Aside0.mk H
            clear H
            go_wp2_with (first | ((with_reducible refine gate_callee (f := 11) rfl ?_); refine goesL_ (some 19) rfl rfl Try.func11 (by kernel_rfl) rfl #[.int .u64 a0] rfl (by (try simp only [List.map_toArray, List.map_cons, List.map_nil]); first | done | rfl | (simp only [List.length_drop, List.length_take]; rfl)) ?_; (with_reducible refine (privityref01_Supported.calls k a0 true _ A8.out).mono ?_); rintro e w24 ⟨rfl, hb⟩; refine ⟨_, rfl, ?_⟩; have n0_ := Aside0.mk (below_step (by repeat (first | (with_reducible first | exact HB.out | apply below_alloc | apply pw_below_drewN | apply below_drew1) | exact HB.out)) hb); clear HB; have HB := n0_; clear n0_; (try clear hb); (try clear hb2); (try clear hk); (try clear hi)))
            go_meet
            case rel => exact ⟨_, (true), (by first | rfl | (simp; done) | (simp [*]; done)), H', ⟨by first | omega | exact Nat.le_refl _⟩, ⟨by repeat (first | (with_reducible first | exact HB.out | apply below_alloc | apply pw_below_drewN | apply below_drew1) | exact HB.out)⟩⟩
      · replace c9 := Bool.eq_false_iff.mpr c9
        subst c9
        have H1 : (privitylaw05_InterpolateIsLinear.j0 k a0 l1 l2 true) = some r := by rw [if_neg (show ¬ (false = true) by decide)] at H; exact H
        clear H
        have H := H1
        clear H1
        have H' := Aside0.mk H
        clear H
        go_wp2_with (first | ((with_reducible refine gate_callee (f := 11) rfl ?_); refine goesL_ (some 19) rfl rfl Try.func11 (by kernel_rfl) rfl #[.int .u64 a0] rfl (by (try simp only [List.map_toArray, List.map_cons, List.map_nil]); first | done | rfl | (simp only [List.length_drop, List.length_take]; rfl)) ?_; (with_reducible refine (privityref01_Supported.calls k a0 false _ A8.out).mono ?_); rintro e w25 ⟨rfl, hb⟩; refine ⟨_, rfl, ?_⟩; have n0_ := Aside0.mk (below_step (by repeat (first | (with_reducible first | exact HB.out | apply below_alloc | apply pw_below_drewN | apply below_drew1) | exact HB.out)) hb); clear HB; have HB := n0_; clear n0_; (try clear hb); (try clear hb2); (try clear hk); (try clear hi)))
        go_meet
        case rel => exact ⟨_, (true), (by first | rfl | (simp; done) | (simp [*]; done)), H', ⟨by first | omega | exact Nat.le_refl _⟩, ⟨by repeat (first | (with_reducible first | exact HB.out | apply below_alloc | apply pw_below_drewN | apply below_drew1) | exact HB.out)⟩⟩
    case rest =>
      clear HC6
      try clear c1
      try clear c2
      try clear p2
      try clear c4
      try clear c5
      try clear c9
      try clear c10
      try clear c10b0
      try clear c10b1
      try clear c11
      try clear c12
      try clear c12b0
      try clear c12b1
      try clear c12b2
      try clear c14
      try clear c16
      obtain ⟨kq, x50_5, rfl, HA, HJ5, HB⟩ := hcut
      cases kq with
      | zero => exact absurd HA.out (by simp [privitylaw05_InterpolateIsLinear.j0])
      | succ kj5 =>
        have H := HA.out
        clear HA
        simp only [privitylaw05_InterpolateIsLinear.j0] at H
        by_cases c26 : x50_5 = true
        · subst c26
          have H1 : (some true) = some r := by rw [if_pos rfl] at H; exact H
          clear H
          have H := H1
          clear H1
          obtain rfl := Option.some.inj H
          go_wp2
          go_ret
          exact ⟨by first | rfl | (simp [errW_none, errW_some] <;> rfl) | (simp [*, errW_none, errW_some] <;> rfl), by repeat (first | (with_reducible first | exact HB.out | apply below_alloc | apply pw_below_drewN | apply below_drew1) | exact HB.out)⟩
        · replace c26 := Bool.eq_false_iff.mpr c26
          subst c26
          have H1 : (privitylaw05_InterpolateIsLinear.l0 kj5 a0 l1 l2 ([] : List (S38)) ([] : List (S38)) 0) = some r := by rw [if_neg (show ¬ (false = true) by decide)] at H; exact H
          clear H
          have H := H1
          clear H1
          have H' := Aside0.mk H
          clear H
          go_wp2
          go_loopg [7, 8, 9] kj5 (fun kq v7 v8 v9 w' => ∃ (x7_2 : List (S38)) (x8_2 : List (S38)) (x9_2 : Int), v9 = .int .i64 x9_2 ∧ Aside0 (privitylaw05_InterpolateIsLinear.l0 kq a0 l1 l2 x7_2 x8_2 x9_2 = some r) ∧ Aside0 (kq ≤ kj5) ∧ Aside0 (Kd.R k38 38 w' w.heap.size (fun k_ => some k_ ≠ (v8 : Value).ownBlock) v7 x7_2) ∧ Aside0 (Kd.R k38 38 w' w.heap.size (fun k_ => some k_ ≠ (v7 : Value).ownBlock) v8 x8_2) ∧ Aside0 (Below w.heap.size w w'))
          case atStart => exact ⟨(([] : List (S38))), (([] : List (S38))), (0), (by first | rfl | (simp; done) | (simp [*]; done)), H', ⟨Nat.le_refl _⟩, ⟨by first | exact Kd.R_nil _ _ _ _ _ | exact Kd.N_nil _ _ _ _ _ | exact Kd.V_nil _ _ _ _ _ | exact Kd.Q_nil _ _ _ _ _ | exact Kd.S_nil _ _ _ _ _⟩, ⟨by first | exact Kd.R_nil _ _ _ _ _ | exact Kd.N_nil _ _ _ _ _ | exact Kd.V_nil _ _ _ _ _ | exact Kd.Q_nil _ _ _ _ _ | exact Kd.S_nil _ _ _ _ _⟩, ⟨by repeat (first | (with_reducible first | exact HB.out | apply below_alloc | apply pw_below_drewN | apply below_drew1) | exact HB.out)⟩⟩
          case round =>
            clear H'
            try clear c1
            try clear c2
            try clear p2
            try clear c4
            try clear c5
            try clear c9
            try clear c10
            try clear c10b0
            try clear c10b1
            try clear c11
            try clear c12
            try clear c12b0
            try clear c12b1
            try clear c12b2
            try clear c14
            try clear c16
            try clear c26
            try clear p2
            obtain ⟨x7_2, x8_2, x9_2, rfl, HA, HK2, HO_7, HO_8, HB⟩ := hrel
            cases gk with
            | zero => exact absurd HA.out (by simp [privitylaw05_InterpolateIsLinear.l0])
            | succ k2 =>
              have H := HA.out
              clear HA
              simp only [privitylaw05_InterpolateIsLinear.l0] at H
              by_cases c27 : x9_2 < (l1.length : Int)
              · rw [if_pos c27] at H
                have c27b0 : decide (x9_2 < (l1.length : Int)) = true := decide_eq_true c27
                clear c27
                by_cases c28 : 0 ≤ x9_2
                · rw [if_pos c28] at H
                  have c28b0 : decide (0 ≤ x9_2) = true := decide_eq_true c28
                  clear c28
                  by_cases c29 : x9_2 < (l2.length : Int)
                  · rw [if_pos c29] at H
                    have c29b0 : decide (x9_2 < (l2.length : Int)) = true := decide_eq_true c29
                    clear c29
                    by_cases c30 : x7_2.length < 8796093022208
                    · rw [if_pos c30] at H
                      have LMc30 := Aside0.mk c30
                      clear c30
                      obtain ⟨y324, hy324⟩ : ∃ y_ : List (S38), y_ = (x7_2 ++ [(⟨(rd_T38 l1 x9_2).f0, rd l2 x9_2⟩ : S38)]) := ⟨_, rfl⟩
                      replace H : ((field_Add.f k2 a0 ((rd_T38 l1 x9_2).f1) (rd l2 x9_2)).bind fun t330 => (if x8_2.length < 8796093022208 then (privitylaw05_InterpolateIsLinear.l0 k2 a0 l1 l2 y324 (x8_2 ++ [(⟨(rd_T38 l1 x9_2).f0, t330⟩ : S38)]) (wrap64 (x9_2 + 1))) else (none))) = some r := by first | (rw [hy324]; with_reducible exact H) | (have H2_ := (Option.bind_some _ _).symm.trans H; rw [hy324]; with_reducible exact H2_) | (have H2_ := (Option.bind_some _ _).symm.trans H; with_reducible exact H2_) | with_reducible exact H | (rw [hy324]; exact H) | exact H
                      have Ny324 := Aside0.mk hy324
                      clear hy324
                      replace H := Option.bind_eq_some_iff.mp H
                      obtain ⟨t330, A310, H⟩ := H
                      replace H : (if x8_2.length < 8796093022208 then (privitylaw05_InterpolateIsLinear.l0 k2 a0 l1 l2 y324 (x8_2 ++ [(⟨(rd_T38 l1 x9_2).f0, t330⟩ : S38)]) (wrap64 (x9_2 + 1))) else (none)) = some r := H
                      have A31 := Aside0.mk A310
                      clear A310
                      by_cases c32 : x8_2.length < 8796093022208
                      · rw [if_pos c32] at H
                        have LMc32 := Aside0.mk c32
                        clear c32
                        obtain ⟨y331, hy331⟩ : ∃ y_ : List (S38), y_ = (x8_2 ++ [(⟨(rd_T38 l1 x9_2).f0, t330⟩ : S38)]) := ⟨_, rfl⟩
                        replace H : (privitylaw05_InterpolateIsLinear.l0 k2 a0 l1 l2 y324 y331 (wrap64 (x9_2 + 1))) = some r := by first | (rw [hy331]; with_reducible exact H) | (have H2_ := (Option.bind_some _ _).symm.trans H; rw [hy331]; with_reducible exact H2_) | (have H2_ := (Option.bind_some _ _).symm.trans H; with_reducible exact H2_) | with_reducible exact H | (rw [hy331]; exact H) | exact H
                        have Ny331 := Aside0.mk hy331
                        clear hy331
                        have H' := Aside0.mk H
                        clear H
                        try go_wp2
                        have n0_ := Aside0.mk (Kd.R_drew HO_7.out)
                        have n1_ := Aside0.mk (Kd.R_drew HO_8.out)
                        have n2_ := Aside0.mk (below_drew1 HB.out)
                        clear HO_7
                        clear HO_8
                        clear HB
                        have HO_7 := n0_
                        have HO_8 := n1_
                        have HB := n2_
                        clear n0_ n1_ n2_
                        have p322 : 0 ≤ (x9_2 : Int) := of_decide_eq_true (by first | (with_reducible assumption) | assumption)
                        have q322 : x9_2 < (l1.length : Int) := of_decide_eq_true (by first | (with_reducible assumption) | assumption)
                        obtain ⟨ad322, e322, hx322_0, hx322_1⟩ := at_T38 HR1.out x9_2 p322 q322
                        have hw322_1 := hx322_1
                        have hw322_0 := hx322_0
                        cases e322
                        replace hx322_0 := (HB.out.cell (World.block_lt_of_cell? w _ hx322_0)).trans hx322_0
                        replace hx322_1 := (HB.out.cell (World.block_lt_of_cell? w _ hx322_1)).trans hx322_1
                        replace p322 := eq_true p322
                        replace q322 := eq_true q322
                        have p323 : 0 ≤ (x9_2 : Int) := of_decide_eq_true (by first | (with_reducible assumption) | assumption)
                        have q323 : x9_2 < (l2.length : Int) := of_decide_eq_true (by first | (with_reducible assumption) | assumption)
                        obtain ⟨ad323, e323, hx323_0⟩ := Kd.at_int HR2.out x9_2 p323 q323
                        have hw323_0 := hx323_0
                        cases e323
                        replace hx323_0 := (HB.out.cell (World.block_lt_of_cell? w _ hx323_0)).trans hx323_0
                        replace p323 := eq_true p323
                        replace q323 := eq_true q323
                        refine start_ (n := 14) (S := fun w' => w'.cell? (ad322.add ((x9_2).toNat * 2)) = some (.int .u64 ((rd_T38 l1 x9_2).f0)) ∧ w'.cell? ⟨(ad322.add ((x9_2).toNat * 2)).block, (ad322.add ((x9_2).toNat * 2)).off + 1, none⟩ = some (.int .u64 ((rd_T38 l1 x9_2).f1)) ∧ w'.cell? (ad323.add (x9_2).toNat) = some (.int .u64 (rd l2 x9_2))) (ds := []) #[false, false, false, false, false, false, false, false, false, false, false, false, false, false] (by kernel_rfl) rfl rfl ⟨((HB.out.cell (World.block_lt_of_cell? w _ hw322_0)).trans hw322_0), ((HB.out.cell (World.block_lt_of_cell? w _ hw322_1)).trans hw322_1), ((HB.out.cell (World.block_lt_of_cell? w _ hw323_0)).trans hw323_0)⟩ (fun hHeld => ?_); refine with_tabW privitylaw05_InterpolateIsLinear.tab10 privitylaw05_InterpolateIsLinear.bits10 (fun HT_ HW_ => ?_)
                        generalize wr.drew = w33 at HO_7 HO_8 HB hx322_0 hx322_1 hx323_0 hHeld ⊢
                        refine pure_ (i := 0) (N := some 57) (v := ?_) (a' := ?_) #[true, false, false, false, false, false, false, false, false, false, false, false, false, false] rfl rfl (any_of HT_.out (by kernel_rfl)) (fun _ _ _ h => h) (Or.inl ⟨by rfl, ?_⟩) ?_ ?_
                        rotate_left
                        · intro w'
                          go_simp
                          with_reducible rfl
                        rotate_left
                        · simp only [Act.put, List.setIfInBounds_toArray, List.set_cons_zero, List.set_cons_succ, i64_w, i32_w]
                          rfl
                        refine pure_ (i := 1) (N := some 58) (v := ?_) (a' := ?_) #[true, true, false, false, false, false, false, false, false, false, false, false, false, false] rfl rfl (any_of HT_.out (by kernel_rfl)) (fun _ _ _ h => h) (Or.inl ⟨by rfl, ?_⟩) ?_ ?_
                        rotate_left
                        · intro w'
                          go_simp
                          with_reducible rfl
                        rotate_left
                        · simp only [Act.put, List.setIfInBounds_toArray, List.set_cons_zero, List.set_cons_succ, i64_w, i32_w]
                          rfl
                        refine pure_ (i := 2) (N := some 59) (v := ?_) (a' := ?_) #[true, true, true, false, false, false, false, false, false, false, false, false, false, false] rfl rfl (any_of HT_.out (by kernel_rfl)) (fun _ _ _ h => h) (Or.inl ⟨by rfl, ?_⟩) ?_ ?_
                        rotate_left
                        · intro w'
                          go_simp
                          with_reducible rfl
                        rotate_left
                        · simp only [Act.put, List.setIfInBounds_toArray, List.set_cons_zero, List.set_cons_succ, i64_w, i32_w]
                          rfl
                        refine pure_ (i := 3) (N := some 60) (v := ?_) (a' := ?_) #[true, true, true, true, false, false, false, false, false, false, false, false, false, false] rfl rfl (any_of HT_.out (by kernel_rfl)) (fun _ _ _ h => h) (Or.inl ⟨by rfl, ?_⟩) ?_ ?_
                        rotate_left
                        · intro w'
                          go_simp
                          with_reducible rfl
                        rotate_left
                        · simp only [Act.put, List.setIfInBounds_toArray, List.set_cons_zero, List.set_cons_succ, i64_w, i32_w]
                          rfl
                        refine pure_ (i := 4) (N := some 61) (v := ?_) (a' := ?_) #[true, true, true, true, true, false, false, false, false, false, false, false, false, false] rfl rfl (any_of HT_.out (by kernel_rfl)) (fun _ _ _ h => h) (Or.inl ⟨by rfl, ?_⟩) ?_ ?_
                        rotate_left
                        · intro w'
                          go_simp
                          with_reducible rfl
                        rotate_left
                        · simp only [Act.put, List.setIfInBounds_toArray, List.set_cons_zero, List.set_cons_succ, i64_w, i32_w]
                          rfl
                        refine pure_ (i := 6) (N := some 63) (v := ?_) (a' := ?_) #[true, true, true, true, true, false, true, false, false, false, false, false, false, false] rfl rfl (any_of HT_.out (by kernel_rfl)) (fun _ _ _ h => h) (Or.inl ⟨by rfl, ?_⟩) ?_ ?_
                        rotate_left
                        · intro w'
                          go_simp
                          with_reducible rfl
                        rotate_left
                        · simp only [Act.put, List.setIfInBounds_toArray, List.set_cons_zero, List.set_cons_succ, i64_w, i32_w]
                          rfl
                        refine pure_ (i := 7) (N := some 64) (v := ?_) (a' := ?_) #[true, true, true, true, true, false, true, true, false, false, false, false, false, false] rfl rfl (any_of HT_.out (by kernel_rfl)) (fun _ _ _ h => h) (Or.inl ⟨by rfl, ?_⟩) ?_ ?_
                        rotate_left
                        · intro w'
                          go_simp
                          with_reducible rfl
                        rotate_left
                        · simp only [Act.put, List.setIfInBounds_toArray, List.set_cons_zero, List.set_cons_succ, i64_w, i32_w]
                          rfl
                        refine pure_ (i := 8) (N := some 65) (v := ?_) (a' := ?_) #[true, true, true, true, true, false, true, true, true, false, false, false, false, false] rfl rfl (any_of HT_.out (by kernel_rfl)) (fun _ _ _ h => h) (Or.inl ⟨by rfl, ?_⟩) ?_ ?_
                        rotate_left
                        · intro w'
                          go_simp
                          with_reducible rfl
                        rotate_left
                        · simp only [Act.put, List.setIfInBounds_toArray, List.set_cons_zero, List.set_cons_succ, i64_w, i32_w]
                          rfl
                        refine take_ (i := 5) (N := some 62) (v := ?_) (a' := ?_) #[true, true, true, true, true, true, true, true, true, false, false, false, false, false] rfl rfl (take_ofW HT_.out HW_.out (by kernel_rfl)) (fun _ _ _ h => h) (Or.inl ⟨by rfl, ?_⟩) hHeld ?_ ?_
                        rotate_left
                        · rintro w' ⟨s0, s1, s2⟩
                          go_simp
                          with_reducible rfl
                        rotate_left
                        · simp only [Act.put, List.setIfInBounds_toArray, List.set_cons_zero, List.set_cons_succ, i64_w, i32_w]
                          rfl
                        refine take_ (i := 9) (N := some 66) (v := ?_) (a' := ?_) #[true, true, true, true, true, true, true, true, true, true, false, false, false, false] rfl rfl (take_ofW HT_.out HW_.out (by kernel_rfl)) (fun _ _ _ h => h) (Or.inl ⟨by rfl, ?_⟩) hHeld ?_ ?_
                        rotate_left
                        · rintro w' ⟨s0, s1, s2⟩
                          go_simp
                          with_reducible rfl
                        rotate_left
                        · simp only [Act.put, List.setIfInBounds_toArray, List.set_cons_zero, List.set_cons_succ, i64_w, i32_w]
                          rfl
                        refine pure_ (i := 10) (N := some 67) (v := ?_) (a' := ?_) #[true, true, true, true, true, true, true, true, true, true, true, false, false, false] rfl rfl (any_of HT_.out (by kernel_rfl)) (fun _ _ _ h => h) (Or.inl ⟨by rfl, ?_⟩) ?_ ?_
                        rotate_left
                        · intro w'
                          go_simp
                          with_reducible rfl
                        rotate_left
                        · simp only [Act.put, List.setIfInBounds_toArray, List.set_cons_zero, List.set_cons_succ, i64_w, i32_w]
                          rfl
                        refine one_ (i := 11) (N := some 68) #[true, true, true, true, true, true, true, true, true, true, true, true, false, false] rfl rfl (one_of HT_.out (by kernel_rfl)) (by decide) (fun K hK => ?_)
                        refine value_ (w1 := ?_) (v := ?_) (by rfl) rfl ?_ ?_
                        rotate_left 2
                        · go_simp
                          constructor
                          · rfl
                          · rfl
                        refine hK.out _ _ ⟨(World.cell?_alloc_lt _ _ _ (World.block_lt_of_cell? _ _ (((HB.out.cell (World.block_lt_of_cell? w _ hw322_0)).trans hw322_0)))).trans (((HB.out.cell (World.block_lt_of_cell? w _ hw322_0)).trans hw322_0)), (World.cell?_alloc_lt _ _ _ (World.block_lt_of_cell? _ _ (((HB.out.cell (World.block_lt_of_cell? w _ hw322_1)).trans hw322_1)))).trans (((HB.out.cell (World.block_lt_of_cell? w _ hw322_1)).trans hw322_1)), (World.cell?_alloc_lt _ _ _ (World.block_lt_of_cell? _ _ (((HB.out.cell (World.block_lt_of_cell? w _ hw323_0)).trans hw323_0)))).trans (((HB.out.cell (World.block_lt_of_cell? w _ hw323_0)).trans hw323_0))⟩ (fun hHeld => ?_)
                        clear hK K
                        refine norm_ (a' := ?_) ?_ ?_
                        rotate_left
                        · show Act.put _ (some 68) _ = _
                          simp only [Act.put, List.setIfInBounds_toArray, List.set_cons_zero, List.set_cons_succ, i64_w, i32_w]
                          rfl
                        refine one_ (i := 12) (N := some 69) #[true, true, true, true, true, true, true, true, true, true, true, true, true, false] rfl rfl (one_of HT_.out (by kernel_rfl)) (by decide) (fun K hK => ?_)
                        refine Kd.R_append_step k38 (w0 := w) w.heap.size (by rfl) (.tmp 57) (.tmp 68) 33 38 (.agg #[(.int .u64 0), (.int .u64 0)]) 16 rfl Try.underlying33 info38 rfl (by decide) (by omega) u7 x7_2 (⟨(rd_T38 l1 x9_2).f0, rd l2 x9_2⟩ : S38) [.int .u64 ((rd_T38 l1 x9_2).f0), .int .u64 (rd l2 x9_2)] (fun k_ => some k_ ≠ (u8 : Value).ownBlock) (fun _ => False) rfl rfl ?aP (fun _ hk => hk.elim) ?aF ?aO ?aB ?aS ?aL ?_
                        (case aP => exact k38_mkM _ _ _ (⟨(rd_T38 l1 x9_2).f0, rd l2 x9_2⟩ : S38))
                        (case aB => exact (by repeat (first | (with_reducible first | exact HB.out | apply below_alloc | apply pw_below_drewN | apply below_drew1) | exact HB.out)))
                        (case aF => exact (fun k_ hk => Kd.fresh' (Kd.R_lt (by (with_reducible repeat (first | apply Kd.R_alloc | apply Kd.R_drewN | apply Kd.R_drew)); exact HO_8.out)) k_ hk))
                        (case aO => exact (by (with_reducible repeat (first | apply Kd.R_alloc | apply Kd.R_drewN | apply Kd.R_drew)); exact HO_7.out))
                        (case aS => exact (below_size (by repeat (first | (with_reducible first | exact HB.out | apply below_alloc | apply pw_below_drewN | apply below_drew1) | exact HB.out))))
                        (case aL => have := LMc30.out; omega)
                        intro v325 w34 ho hb hg hat
                        rw [← Ny324.out] at ho
                        have n0_ := Aside0.mk (Kd.R_after (ok := (fun _ => True)) (by (with_reducible repeat (first | apply Kd.R_alloc | apply Kd.R_drewN | apply Kd.R_drew)); exact Kd.R_mono HO_8.out (fun _ hk => ⟨trivial, hk⟩)) hg hat)
                        have n1_ := Aside0.mk (hb)
                        have n2_ := Aside0.mk (ho)
                        clear HO_8
                        clear HB
                        clear HO_7
                        have HO_8 := n0_
                        have HB := n1_
                        have HO326 := n2_
                        clear n0_ n1_ n2_
                        clear ho hb hg hat
                        refine hK.out _ _ ⟨((HB.out.cell (World.block_lt_of_cell? w _ hw322_0)).trans hw322_0), ((HB.out.cell (World.block_lt_of_cell? w _ hw322_1)).trans hw322_1), ((HB.out.cell (World.block_lt_of_cell? w _ hw323_0)).trans hw323_0)⟩ (fun hHeld => ?_)
                        clear hK K
                        refine norm_ (a' := ?_) ?_ ?_
                        rotate_left
                        · show Act.put _ (some 69) _ = _
                          simp only [Act.put, List.setIfInBounds_toArray, List.set_cons_zero, List.set_cons_succ, i64_w, i32_w]
                          rfl
                        refine pure_ (i := 13) (N := some 7) (v := ?_) (a' := ?_) #[true, true, true, true, true, true, true, true, true, true, true, true, true, true] rfl rfl (any_of HT_.out (by kernel_rfl)) (fun _ _ _ h => h) (Or.inl ⟨by rfl, ?_⟩) ?_ ?_
                        rotate_left
                        · intro w'
                          go_simp
                          with_reducible rfl
                        rotate_left
                        · simp only [Act.put, List.setIfInBounds_toArray, List.set_cons_zero, List.set_cons_succ, i64_w, i32_w]
                          rfl
                        refine done_ (done_of HT_.out (by kernel_rfl)) ?_
                        try go_wp2
                        have n0_ := Aside0.mk (Kd.R_drew HO_8.out)
                        have n1_ := Aside0.mk (Kd.R_drew HO326.out)
                        have n2_ := Aside0.mk (below_drew1 HB.out)
                        clear HO_8
                        clear HO326
                        clear HB
                        have HO_8 := n0_
                        have HO326 := n1_
                        have HB := n2_
                        clear n0_ n1_ n2_
                        have p327 : 0 ≤ (x9_2 : Int) := of_decide_eq_true (by first | (with_reducible assumption) | assumption)
                        have q327 : x9_2 < (l1.length : Int) := of_decide_eq_true (by first | (with_reducible assumption) | assumption)
                        obtain ⟨ad327, e327, hx327_0, hx327_1⟩ := at_T38 HR1.out x9_2 p327 q327
                        have hw327_1 := hx327_1
                        have hw327_0 := hx327_0
                        obtain rfl : ad322 = ad327 := (by injection e327)
                        replace hx327_0 := (HB.out.cell (World.block_lt_of_cell? w _ hx327_0)).trans hx327_0
                        replace hx327_1 := (HB.out.cell (World.block_lt_of_cell? w _ hx327_1)).trans hx327_1
                        replace p327 := eq_true p327
                        replace q327 := eq_true q327
                        have p328 : 0 ≤ (x9_2 : Int) := of_decide_eq_true (by first | (with_reducible assumption) | assumption)
                        have q328 : x9_2 < (l1.length : Int) := of_decide_eq_true (by first | (with_reducible assumption) | assumption)
                        obtain ⟨ad328, e328, hx328_0, hx328_1⟩ := at_T38 HR1.out x9_2 p328 q328
                        have hw328_1 := hx328_1
                        have hw328_0 := hx328_0
                        obtain rfl : ad322 = ad328 := (by injection e328)
                        replace hx328_0 := (HB.out.cell (World.block_lt_of_cell? w _ hx328_0)).trans hx328_0
                        replace hx328_1 := (HB.out.cell (World.block_lt_of_cell? w _ hx328_1)).trans hx328_1
                        replace p328 := eq_true p328
                        replace q328 := eq_true q328
                        have p329 : 0 ≤ (x9_2 : Int) := of_decide_eq_true (by first | (with_reducible assumption) | assumption)
                        have q329 : x9_2 < (l2.length : Int) := of_decide_eq_true (by first | (with_reducible assumption) | assumption)
                        obtain ⟨ad329, e329, hx329_0⟩ := Kd.at_int HR2.out x9_2 p329 q329
                        have hw329_0 := hx329_0
                        obtain rfl : ad323 = ad329 := (by injection e329)
                        replace hx329_0 := (HB.out.cell (World.block_lt_of_cell? w _ hx329_0)).trans hx329_0
                        replace p329 := eq_true p329
                        replace q329 := eq_true q329
                        refine start_ (n := 21) (S := fun w' => w'.cell? (ad322.add ((x9_2).toNat * 2)) = some (.int .u64 ((rd_T38 l1 x9_2).f0)) ∧ w'.cell? ⟨(ad322.add ((x9_2).toNat * 2)).block, (ad322.add ((x9_2).toNat * 2)).off + 1, none⟩ = some (.int .u64 ((rd_T38 l1 x9_2).f1)) ∧ w'.cell? (ad322.add ((x9_2).toNat * 2)) = some (.int .u64 ((rd_T38 l1 x9_2).f0)) ∧ w'.cell? ⟨(ad322.add ((x9_2).toNat * 2)).block, (ad322.add ((x9_2).toNat * 2)).off + 1, none⟩ = some (.int .u64 ((rd_T38 l1 x9_2).f1)) ∧ w'.cell? (ad323.add (x9_2).toNat) = some (.int .u64 (rd l2 x9_2))) (ds := []) #[false, false, false, false, false, false, false, false, false, false, false, false, false, false, false, false, false, false, false, false, false] (by kernel_rfl) rfl rfl ⟨((HB.out.cell (World.block_lt_of_cell? w _ hw327_0)).trans hw327_0), ((HB.out.cell (World.block_lt_of_cell? w _ hw327_1)).trans hw327_1), ((HB.out.cell (World.block_lt_of_cell? w _ hw328_0)).trans hw328_0), ((HB.out.cell (World.block_lt_of_cell? w _ hw328_1)).trans hw328_1), ((HB.out.cell (World.block_lt_of_cell? w _ hw329_0)).trans hw329_0)⟩ (fun hHeld => ?_); refine with_tabW privitylaw05_InterpolateIsLinear.tab11 privitylaw05_InterpolateIsLinear.bits11 (fun HT_ HW_ => ?_)
                        generalize w34.drew = w35 at HO_8 HO326 HB hx327_0 hx327_1 hx328_0 hx328_1 hx329_0 hHeld ⊢
                        refine pure_ (i := 0) (N := some 70) (v := ?_) (a' := ?_) #[true, false, false, false, false, false, false, false, false, false, false, false, false, false, false, false, false, false, false, false, false] rfl rfl (any_of HT_.out (by kernel_rfl)) (fun _ _ _ h => h) (Or.inl ⟨by rfl, ?_⟩) ?_ ?_
                        rotate_left
                        · intro w'
                          go_simp
                          with_reducible rfl
                        rotate_left
                        · simp only [Act.put, List.setIfInBounds_toArray, List.set_cons_zero, List.set_cons_succ, i64_w, i32_w]
                          rfl
                        refine pure_ (i := 1) (N := some 71) (v := ?_) (a' := ?_) #[true, true, false, false, false, false, false, false, false, false, false, false, false, false, false, false, false, false, false, false, false] rfl rfl (any_of HT_.out (by kernel_rfl)) (fun _ _ _ h => h) (Or.inl ⟨by rfl, ?_⟩) ?_ ?_
                        rotate_left
                        · intro w'
                          go_simp
                          with_reducible rfl
                        rotate_left
                        · simp only [Act.put, List.setIfInBounds_toArray, List.set_cons_zero, List.set_cons_succ, i64_w, i32_w]
                          rfl
                        refine pure_ (i := 2) (N := some 72) (v := ?_) (a' := ?_) #[true, true, true, false, false, false, false, false, false, false, false, false, false, false, false, false, false, false, false, false, false] rfl rfl (any_of HT_.out (by kernel_rfl)) (fun _ _ _ h => h) (Or.inl ⟨by rfl, ?_⟩) ?_ ?_
                        rotate_left
                        · intro w'
                          go_simp
                          with_reducible rfl
                        rotate_left
                        · simp only [Act.put, List.setIfInBounds_toArray, List.set_cons_zero, List.set_cons_succ, i64_w, i32_w]
                          rfl
                        refine pure_ (i := 3) (N := some 73) (v := ?_) (a' := ?_) #[true, true, true, true, false, false, false, false, false, false, false, false, false, false, false, false, false, false, false, false, false] rfl rfl (any_of HT_.out (by kernel_rfl)) (fun _ _ _ h => h) (Or.inl ⟨by rfl, ?_⟩) ?_ ?_
                        rotate_left
                        · intro w'
                          go_simp
                          with_reducible rfl
                        rotate_left
                        · simp only [Act.put, List.setIfInBounds_toArray, List.set_cons_zero, List.set_cons_succ, i64_w, i32_w]
                          rfl
                        refine pure_ (i := 4) (N := some 74) (v := ?_) (a' := ?_) #[true, true, true, true, true, false, false, false, false, false, false, false, false, false, false, false, false, false, false, false, false] rfl rfl (any_of HT_.out (by kernel_rfl)) (fun _ _ _ h => h) (Or.inl ⟨by rfl, ?_⟩) ?_ ?_
                        rotate_left
                        · intro w'
                          go_simp
                          with_reducible rfl
                        rotate_left
                        · simp only [Act.put, List.setIfInBounds_toArray, List.set_cons_zero, List.set_cons_succ, i64_w, i32_w]
                          rfl
                        refine pure_ (i := 6) (N := some 76) (v := ?_) (a' := ?_) #[true, true, true, true, true, false, true, false, false, false, false, false, false, false, false, false, false, false, false, false, false] rfl rfl (any_of HT_.out (by kernel_rfl)) (fun _ _ _ h => h) (Or.inl ⟨by rfl, ?_⟩) ?_ ?_
                        rotate_left
                        · intro w'
                          go_simp
                          with_reducible rfl
                        rotate_left
                        · simp only [Act.put, List.setIfInBounds_toArray, List.set_cons_zero, List.set_cons_succ, i64_w, i32_w]
                          rfl
                        refine pure_ (i := 7) (N := some 77) (v := ?_) (a' := ?_) #[true, true, true, true, true, false, true, true, false, false, false, false, false, false, false, false, false, false, false, false, false] rfl rfl (any_of HT_.out (by kernel_rfl)) (fun _ _ _ h => h) (Or.inl ⟨by rfl, ?_⟩) ?_ ?_
                        rotate_left
                        · intro w'
                          go_simp
                          with_reducible rfl
                        rotate_left
                        · simp only [Act.put, List.setIfInBounds_toArray, List.set_cons_zero, List.set_cons_succ, i64_w, i32_w]
                          rfl
                        refine pure_ (i := 8) (N := some 78) (v := ?_) (a' := ?_) #[true, true, true, true, true, false, true, true, true, false, false, false, false, false, false, false, false, false, false, false, false] rfl rfl (any_of HT_.out (by kernel_rfl)) (fun _ _ _ h => h) (Or.inl ⟨by rfl, ?_⟩) ?_ ?_
                        rotate_left
                        · intro w'
                          go_simp
                          with_reducible rfl
                        rotate_left
                        · simp only [Act.put, List.setIfInBounds_toArray, List.set_cons_zero, List.set_cons_succ, i64_w, i32_w]
                          rfl
                        refine pure_ (i := 9) (N := some 79) (v := ?_) (a' := ?_) #[true, true, true, true, true, false, true, true, true, true, false, false, false, false, false, false, false, false, false, false, false] rfl rfl (any_of HT_.out (by kernel_rfl)) (fun _ _ _ h => h) (Or.inl ⟨by rfl, ?_⟩) ?_ ?_
                        rotate_left
                        · intro w'
                          go_simp
                          with_reducible rfl
                        rotate_left
                        · simp only [Act.put, List.setIfInBounds_toArray, List.set_cons_zero, List.set_cons_succ, i64_w, i32_w]
                          rfl
                        refine pure_ (i := 10) (N := some 80) (v := ?_) (a' := ?_) #[true, true, true, true, true, false, true, true, true, true, true, false, false, false, false, false, false, false, false, false, false] rfl rfl (any_of HT_.out (by kernel_rfl)) (fun _ _ _ h => h) (Or.inl ⟨by rfl, ?_⟩) ?_ ?_
                        rotate_left
                        · intro w'
                          go_simp
                          with_reducible rfl
                        rotate_left
                        · simp only [Act.put, List.setIfInBounds_toArray, List.set_cons_zero, List.set_cons_succ, i64_w, i32_w]
                          rfl
                        refine pure_ (i := 12) (N := some 82) (v := ?_) (a' := ?_) #[true, true, true, true, true, false, true, true, true, true, true, false, true, false, false, false, false, false, false, false, false] rfl rfl (any_of HT_.out (by kernel_rfl)) (fun _ _ _ h => h) (Or.inl ⟨by rfl, ?_⟩) ?_ ?_
                        rotate_left
                        · intro w'
                          go_simp
                          with_reducible rfl
                        rotate_left
                        · simp only [Act.put, List.setIfInBounds_toArray, List.set_cons_zero, List.set_cons_succ, i64_w, i32_w]
                          rfl
                        refine pure_ (i := 13) (N := some 83) (v := ?_) (a' := ?_) #[true, true, true, true, true, false, true, true, true, true, true, false, true, true, false, false, false, false, false, false, false] rfl rfl (any_of HT_.out (by kernel_rfl)) (fun _ _ _ h => h) (Or.inl ⟨by rfl, ?_⟩) ?_ ?_
                        rotate_left
                        · intro w'
                          go_simp
                          with_reducible rfl
                        rotate_left
                        · simp only [Act.put, List.setIfInBounds_toArray, List.set_cons_zero, List.set_cons_succ, i64_w, i32_w]
                          rfl
                        refine pure_ (i := 14) (N := some 84) (v := ?_) (a' := ?_) #[true, true, true, true, true, false, true, true, true, true, true, false, true, true, true, false, false, false, false, false, false] rfl rfl (any_of HT_.out (by kernel_rfl)) (fun _ _ _ h => h) (Or.inl ⟨by rfl, ?_⟩) ?_ ?_
                        rotate_left
                        · intro w'
                          go_simp
                          with_reducible rfl
                        rotate_left
                        · simp only [Act.put, List.setIfInBounds_toArray, List.set_cons_zero, List.set_cons_succ, i64_w, i32_w]
                          rfl
                        refine take_ (i := 5) (N := some 75) (v := ?_) (a' := ?_) #[true, true, true, true, true, true, true, true, true, true, true, false, true, true, true, false, false, false, false, false, false] rfl rfl (take_ofW HT_.out HW_.out (by kernel_rfl)) (fun _ _ _ h => h) (Or.inl ⟨by rfl, ?_⟩) hHeld ?_ ?_
                        rotate_left
                        · rintro w' ⟨s0, s1, s2, s3, s4⟩
                          go_simp
                          with_reducible rfl
                        rotate_left
                        · simp only [Act.put, List.setIfInBounds_toArray, List.set_cons_zero, List.set_cons_succ, i64_w, i32_w]
                          rfl
                        refine take_ (i := 11) (N := some 81) (v := ?_) (a' := ?_) #[true, true, true, true, true, true, true, true, true, true, true, true, true, true, true, false, false, false, false, false, false] rfl rfl (take_ofW HT_.out HW_.out (by kernel_rfl)) (fun _ _ _ h => h) (Or.inl ⟨by rfl, ?_⟩) hHeld ?_ ?_
                        rotate_left
                        · rintro w' ⟨s0, s1, s2, s3, s4⟩
                          go_simp
                          with_reducible rfl
                        rotate_left
                        · simp only [Act.put, List.setIfInBounds_toArray, List.set_cons_zero, List.set_cons_succ, i64_w, i32_w]
                          rfl
                        refine take_ (i := 15) (N := some 85) (v := ?_) (a' := ?_) #[true, true, true, true, true, true, true, true, true, true, true, true, true, true, true, true, false, false, false, false, false] rfl rfl (take_ofW HT_.out HW_.out (by kernel_rfl)) (fun _ _ _ h => h) (Or.inl ⟨by rfl, ?_⟩) hHeld ?_ ?_
                        rotate_left
                        · rintro w' ⟨s0, s1, s2, s3, s4⟩
                          go_simp
                          with_reducible rfl
                        rotate_left
                        · simp only [Act.put, List.setIfInBounds_toArray, List.set_cons_zero, List.set_cons_succ, i64_w, i32_w]
                          rfl
                        refine one_ (i := 16) (N := some 86) #[true, true, true, true, true, true, true, true, true, true, true, true, true, true, true, true, true, false, false, false, false] rfl rfl (one_of HT_.out (by kernel_rfl)) (by decide) (fun K hK => ?_)
                        refine goes_ Try.func16 (by kernel_rfl) rfl #[.int .u64 a0, .int .u64 ((rd_T38 l1 x9_2).f1), .int .u64 (rd l2 x9_2)] (by rfl) rfl rfl (by (try simp only [List.map_toArray, List.map_cons, List.map_nil]); first | done | rfl | (simp only [List.length_drop, List.length_take]; rfl)) ?_
                        with_reducible refine (field_Add.calls k2 a0 ((rd_T38 l1 x9_2).f1) (rd l2 x9_2) t330 _ A31.out).mono ?_
                        rintro e w' ⟨rfl, ⟨nd, rfl⟩⟩
                        refine ⟨_, rfl, ?_⟩
                        refine hK.out _ _ ⟨((HB.out.cell (World.block_lt_of_cell? w _ hw327_0)).trans hw327_0), ((HB.out.cell (World.block_lt_of_cell? w _ hw327_1)).trans hw327_1), ((HB.out.cell (World.block_lt_of_cell? w _ hw328_0)).trans hw328_0), ((HB.out.cell (World.block_lt_of_cell? w _ hw328_1)).trans hw328_1), ((HB.out.cell (World.block_lt_of_cell? w _ hw329_0)).trans hw329_0)⟩ (fun hHeld => ?_)
                        clear hK K
                        refine norm_ (a' := ?_) ?_ ?_
                        rotate_left
                        · show Act.put _ (some 86) _ = _
                          simp only [Act.put, List.setIfInBounds_toArray, List.set_cons_zero, List.set_cons_succ, i64_w, i32_w]
                          rfl
                        refine pure_ (i := 17) (N := some 87) (v := ?_) (a' := ?_) #[true, true, true, true, true, true, true, true, true, true, true, true, true, true, true, true, true, true, false, false, false] rfl rfl (any_of HT_.out (by kernel_rfl)) (fun _ _ _ h => h) (Or.inl ⟨by rfl, ?_⟩) ?_ ?_
                        rotate_left
                        · intro w'
                          go_simp
                          with_reducible rfl
                        rotate_left
                        · simp only [Act.put, List.setIfInBounds_toArray, List.set_cons_zero, List.set_cons_succ, i64_w, i32_w]
                          rfl
                        refine one_ (i := 18) (N := some 88) #[true, true, true, true, true, true, true, true, true, true, true, true, true, true, true, true, true, true, true, false, false] rfl rfl (one_of HT_.out (by kernel_rfl)) (by decide) (fun K hK => ?_)
                        refine value_ (w1 := ?_) (v := ?_) (by rfl) rfl ?_ ?_
                        rotate_left 2
                        · go_simp
                          constructor
                          · rfl
                          · rfl
                        refine hK.out _ _ ⟨(World.cell?_alloc_lt _ _ _ (World.block_lt_of_cell? _ _ (((HB.out.cell (World.block_lt_of_cell? w _ hw327_0)).trans hw327_0)))).trans (((HB.out.cell (World.block_lt_of_cell? w _ hw327_0)).trans hw327_0)), (World.cell?_alloc_lt _ _ _ (World.block_lt_of_cell? _ _ (((HB.out.cell (World.block_lt_of_cell? w _ hw327_1)).trans hw327_1)))).trans (((HB.out.cell (World.block_lt_of_cell? w _ hw327_1)).trans hw327_1)), (World.cell?_alloc_lt _ _ _ (World.block_lt_of_cell? _ _ (((HB.out.cell (World.block_lt_of_cell? w _ hw328_0)).trans hw328_0)))).trans (((HB.out.cell (World.block_lt_of_cell? w _ hw328_0)).trans hw328_0)), (World.cell?_alloc_lt _ _ _ (World.block_lt_of_cell? _ _ (((HB.out.cell (World.block_lt_of_cell? w _ hw328_1)).trans hw328_1)))).trans (((HB.out.cell (World.block_lt_of_cell? w _ hw328_1)).trans hw328_1)), (World.cell?_alloc_lt _ _ _ (World.block_lt_of_cell? _ _ (((HB.out.cell (World.block_lt_of_cell? w _ hw329_0)).trans hw329_0)))).trans (((HB.out.cell (World.block_lt_of_cell? w _ hw329_0)).trans hw329_0))⟩ (fun hHeld => ?_)
                        clear hK K
                        refine norm_ (a' := ?_) ?_ ?_
                        rotate_left
                        · show Act.put _ (some 88) _ = _
                          simp only [Act.put, List.setIfInBounds_toArray, List.set_cons_zero, List.set_cons_succ, i64_w, i32_w]
                          rfl
                        refine one_ (i := 19) (N := some 89) #[true, true, true, true, true, true, true, true, true, true, true, true, true, true, true, true, true, true, true, true, false] rfl rfl (one_of HT_.out (by kernel_rfl)) (by decide) (fun K hK => ?_)
                        refine Kd.R_append_step k38 (w0 := w) w.heap.size (by rfl) (.tmp 70) (.tmp 88) 33 38 (.agg #[(.int .u64 0), (.int .u64 0)]) 16 rfl Try.underlying33 info38 rfl (by decide) (by omega) u8 x8_2 (⟨(rd_T38 l1 x9_2).f0, t330⟩ : S38) [.int .u64 ((rd_T38 l1 x9_2).f0), .int .u64 t330] (fun k_ => some k_ ≠ (v325 : Value).ownBlock) (fun _ => False) rfl rfl ?aP (fun _ hk => hk.elim) ?aF ?aO ?aB ?aS ?aL ?_
                        (case aP => exact k38_mkM _ _ _ (⟨(rd_T38 l1 x9_2).f0, t330⟩ : S38))
                        (case aB => exact (by repeat (first | (with_reducible first | exact HB.out | apply below_alloc | apply pw_below_drewN | apply below_drew1) | exact HB.out)))
                        (case aF => exact (fun k_ hk => Kd.fresh' (Kd.R_lt (by (with_reducible repeat (first | apply Kd.R_alloc | apply Kd.R_drewN | apply Kd.R_drew)); exact HO326.out)) k_ hk))
                        (case aO => exact (by (with_reducible repeat (first | apply Kd.R_alloc | apply Kd.R_drewN | apply Kd.R_drew)); exact Kd.R_mono HO_8.out (fun _ hk => hk.2)))
                        (case aS => exact (below_size (by repeat (first | (with_reducible first | exact HB.out | apply below_alloc | apply pw_below_drewN | apply below_drew1) | exact HB.out))))
                        (case aL => have := LMc32.out; omega)
                        intro v332 w36 ho hb hg hat
                        rw [← Ny331.out] at ho
                        have n0_ := Aside0.mk (Kd.R_after (ok := (fun _ => True)) (by (with_reducible repeat (first | apply Kd.R_alloc | apply Kd.R_drewN | apply Kd.R_drew)); exact Kd.R_mono HO326.out (fun _ hk => ⟨trivial, hk⟩)) hg hat)
                        have n1_ := Aside0.mk (hb)
                        have n2_ := Aside0.mk (ho)
                        clear HO326
                        clear HB
                        clear HO_8
                        have HO326 := n0_
                        have HB := n1_
                        have HO333 := n2_
                        clear n0_ n1_ n2_
                        clear ho hb hg hat
                        refine hK.out _ _ ⟨((HB.out.cell (World.block_lt_of_cell? w _ hw327_0)).trans hw327_0), ((HB.out.cell (World.block_lt_of_cell? w _ hw327_1)).trans hw327_1), ((HB.out.cell (World.block_lt_of_cell? w _ hw328_0)).trans hw328_0), ((HB.out.cell (World.block_lt_of_cell? w _ hw328_1)).trans hw328_1), ((HB.out.cell (World.block_lt_of_cell? w _ hw329_0)).trans hw329_0)⟩ (fun hHeld => ?_)
                        clear hK K
                        refine norm_ (a' := ?_) ?_ ?_
                        rotate_left
                        · show Act.put _ (some 89) _ = _
                          simp only [Act.put, List.setIfInBounds_toArray, List.set_cons_zero, List.set_cons_succ, i64_w, i32_w]
                          rfl
                        refine pure_ (i := 20) (N := some 8) (v := ?_) (a' := ?_) #[true, true, true, true, true, true, true, true, true, true, true, true, true, true, true, true, true, true, true, true, true] rfl rfl (any_of HT_.out (by kernel_rfl)) (fun _ _ _ h => h) (Or.inl ⟨by rfl, ?_⟩) ?_ ?_
                        rotate_left
                        · intro w'
                          go_simp
                          with_reducible rfl
                        rotate_left
                        · simp only [Act.put, List.setIfInBounds_toArray, List.set_cons_zero, List.set_cons_succ, i64_w, i32_w]
                          rfl
                        refine done_ (done_of HT_.out (by kernel_rfl)) ?_
                        try go_wp2
                        go_roundg k2
                        case measure => have := HJ5.out; have := HK2.out; omega
                        case rel => exact ⟨(y324), (y331), (wrap64 (x9_2 + 1)), (by first | rfl | (simp; done) | (simp [*]; done)), H', ⟨by have := HJ5.out; have := HK2.out; omega⟩, ⟨by (with_reducible repeat (first | apply Kd.R_alloc | apply Kd.R_drewN | apply Kd.R_drew)); exact Kd.R_mono HO326.out (fun _ hk => hk.2)⟩, ⟨by (with_reducible repeat (first | apply Kd.R_alloc | apply Kd.R_drewN | apply Kd.R_drew)); exact HO333.out⟩, ⟨by repeat (first | (with_reducible first | exact HB.out | apply below_alloc | apply pw_below_drewN | apply below_drew1) | exact HB.out)⟩⟩
                      · rw [if_neg c32] at H
                        exact absurd H (by simp)
                    · rw [if_neg c30] at H
                      exact absurd H (by simp)
                  · rw [if_neg c29] at H
                    exact absurd H (by simp)
                · rw [if_neg c28] at H
                  exact absurd H (by simp)
              · rw [if_neg c27] at H
                have c27b0 : decide (x9_2 < (l1.length : Int)) = false := decide_eq_false c27
                clear c27
                replace H := Option.bind_eq_some_iff.mp H
                obtain ⟨⟨t334, t335⟩, A370, H⟩ := H
                replace H : ((interpolate_Polynomial.f a0 x7_2).bind fun bt338 => ((interpolate_Polynomial.f a0 x8_2).bind fun bt342 => (if t335 = 0 then (if bt338.2 = 0 then (if bt342.2 = 0 then ((poly_Add.f a0 t334 bt338.1).bind fun t346 => ((privityref05_Same.f k2 bt342.1 t346).bind fun t349 => (some t349))) else (some false)) else (some false)) else (some false)))) = some r := H
                have A37 := Aside0.mk A370
                clear A370
                replace H := Option.bind_eq_some_iff.mp H
                obtain ⟨⟨t338, t339⟩, A380, H⟩ := H
                replace H : ((interpolate_Polynomial.f a0 x8_2).bind fun bt342 => (if t335 = 0 then (if t339 = 0 then (if bt342.2 = 0 then ((poly_Add.f a0 t334 t338).bind fun t346 => ((privityref05_Same.f k2 bt342.1 t346).bind fun t349 => (some t349))) else (some false)) else (some false)) else (some false))) = some r := H
                have A38 := Aside0.mk A380
                clear A380
                replace H := Option.bind_eq_some_iff.mp H
                obtain ⟨⟨t342, t343⟩, A390, H⟩ := H
                replace H : (if t335 = 0 then (if t339 = 0 then (if t343 = 0 then ((poly_Add.f a0 t334 t338).bind fun t346 => ((privityref05_Same.f k2 t342 t346).bind fun t349 => (some t349))) else (some false)) else (some false)) else (some false)) = some r := H
                have A39 := Aside0.mk A390
                clear A390
                by_cases c40 : t335 = 0
                · rw [if_pos c40] at H
                  have c40b0 : (t335 == 0) = true := beq_iff_eq.mpr c40
                  have c40b1 : (t335 != 0) = false := bne_eq_false_iff_eq.mpr c40
                  clear c40
                  by_cases c41 : t339 = 0
                  · rw [if_pos c41] at H
                    have c41b0 : (t339 == 0) = true := beq_iff_eq.mpr c41
                    have c41b1 : (t339 != 0) = false := bne_eq_false_iff_eq.mpr c41
                    clear c41
                    by_cases c42 : t343 = 0
                    · rw [if_pos c42] at H
                      have c42b0 : (t343 == 0) = true := beq_iff_eq.mpr c42
                      have c42b1 : (t343 != 0) = false := bne_eq_false_iff_eq.mpr c42
                      clear c42
                      replace H := Option.bind_eq_some_iff.mp H
                      obtain ⟨t346, A430, H⟩ := H
                      replace H : ((privityref05_Same.f k2 t342 t346).bind fun t349 => (some t349)) = some r := H
                      have A43 := Aside0.mk A430
                      clear A430
                      replace H := Option.bind_eq_some_iff.mp H
                      obtain ⟨t349, A440, H⟩ := H
                      replace H : (some t349) = some r := H
                      have A44 := Aside0.mk A440
                      clear A440
                      obtain rfl := Option.some.inj H
                      go_wp2_with (first | ((with_reducible refine gate_callee (f := 20) rfl ?_); refine goesL_ (some 93) rfl rfl Try.func20 (by kernel_rfl) rfl #[.int .u64 a0, .slice A1 l1.length c1] rfl (by (try simp only [List.map_toArray, List.map_cons, List.map_nil]); first | done | rfl | (simp only [List.length_drop, List.length_take]; rfl)) ?_; (with_reducible refine (interpolate_Polynomial.calls a0 _ _ l1 t334 t335 _ ?side1 ?side2 A37.out).mono ?_); (case side1 => repeat (first | exact (Kd.C_below HR1.out HB.out) | (with_reducible refine Kd.C_alloc ?_ _) | (with_reducible refine Kd.C_drewN ?_ _) | (with_reducible refine Kd.C_drew ?_))); (case side2 => exact HC1.out); rintro e w45 ⟨v336, rfl, ho0, hb⟩; refine ⟨_, rfl, ?_⟩; have n0_ := Aside0.mk (Kd.R_below (by (with_reducible repeat (first | apply Kd.R_alloc | apply Kd.R_drewN | apply Kd.R_drew)); exact HO_7.out) hb); have n1_ := Aside0.mk (Kd.R_below (by (with_reducible repeat (first | apply Kd.R_alloc | apply Kd.R_drewN | apply Kd.R_drew)); exact HO_8.out) hb); have n2_ := Aside0.mk (Kd.R_lower ho0 (below_size (by repeat (first | (with_reducible first | exact HB.out | apply below_alloc | apply pw_below_drewN | apply below_drew1) | exact HB.out)))); have n3_ := Aside0.mk (below_step (by repeat (first | (with_reducible first | exact HB.out | apply below_alloc | apply pw_below_drewN | apply below_drew1) | exact HB.out)) hb); clear HO_7; clear HO_8; clear HB; have HO_7 := n0_; have HO_8 := n1_; have HO337 := n2_; have HB := n3_; clear n0_ n1_ n2_ n3_; (try clear hb); (try clear hb2); (try clear hk); (try clear hi); (try clear ho0); obtain ⟨Ao46, co46, eo46⟩ := Kd.R_slice HO_7.out; subst eo46) | ((with_reducible refine gate_callee (f := 20) rfl ?_); refine goesL_ (some 99) rfl rfl Try.func20 (by kernel_rfl) rfl #[.int .u64 a0, .slice Ao46 x7_2.length co46] rfl (by (try simp only [List.map_toArray, List.map_cons, List.map_nil]); first | done | rfl | (simp only [List.length_drop, List.length_take]; rfl)) ?_; (with_reducible refine (interpolate_Polynomial.calls a0 _ _ x7_2 t338 t339 _ ?side1 ?side2 A38.out).mono ?_); (case side1 => repeat (first | exact (Kd.R_reads' HO_7.out).2.2 | (with_reducible refine Kd.C_alloc ?_ _) | (with_reducible refine Kd.C_drewN ?_ _) | (with_reducible refine Kd.C_drew ?_))); (case side2 => exact (Kd.R_reads' HO_7.out).2.1); rintro e w47 ⟨v340, rfl, ho0, hb⟩; refine ⟨_, rfl, ?_⟩; have n0_ := Aside0.mk (Kd.R_below (by (with_reducible repeat (first | apply Kd.R_alloc | apply Kd.R_drewN | apply Kd.R_drew)); exact HO_7.out) hb); have n1_ := Aside0.mk (Kd.R_below (by (with_reducible repeat (first | apply Kd.R_alloc | apply Kd.R_drewN | apply Kd.R_drew)); exact HO_8.out) hb); have n2_ := Aside0.mk (Kd.R_elder' (by (with_reducible repeat (first | apply Kd.R_alloc | apply Kd.R_drewN | apply Kd.R_drew)); exact HO337.out) (Kd.R_base ho0) hb); have n3_ := Aside0.mk (Kd.R_lower (Kd.R_new' ho0 (Kd.R_lt (by (with_reducible repeat (first | apply Kd.R_alloc | apply Kd.R_drewN | apply Kd.R_drew)); exact HO337.out))) (below_size (by repeat (first | (with_reducible first | exact HB.out | apply below_alloc | apply pw_below_drewN | apply below_drew1) | exact HB.out)))); have n4_ := Aside0.mk (below_step (by repeat (first | (with_reducible first | exact HB.out | apply below_alloc | apply pw_below_drewN | apply below_drew1) | exact HB.out)) hb); clear HO_7; clear HO_8; clear HO337; clear HB; have HO_7 := n0_; have HO_8 := n1_; have HO337 := n2_; have HO341 := n3_; have HB := n4_; clear n0_ n1_ n2_ n3_ n4_; (try clear hb); (try clear hb2); (try clear hk); (try clear hi); (try clear ho0); obtain ⟨Ao48, co48, eo48⟩ := Kd.R_slice HO_8.out; subst eo48) | ((with_reducible refine gate_callee (f := 20) rfl ?_); refine goesL_ (some 105) rfl rfl Try.func20 (by kernel_rfl) rfl #[.int .u64 a0, .slice Ao48 x8_2.length co48] rfl (by (try simp only [List.map_toArray, List.map_cons, List.map_nil]); first | done | rfl | (simp only [List.length_drop, List.length_take]; rfl)) ?_; (with_reducible refine (interpolate_Polynomial.calls a0 _ _ x8_2 t342 t343 _ ?side1 ?side2 A39.out).mono ?_); (case side1 => repeat (first | exact (Kd.R_reads' HO_8.out).2.2 | (with_reducible refine Kd.C_alloc ?_ _) | (with_reducible refine Kd.C_drewN ?_ _) | (with_reducible refine Kd.C_drew ?_))); (case side2 => exact (Kd.R_reads' HO_8.out).2.1); rintro e w49 ⟨v344, rfl, ho0, hb⟩; refine ⟨_, rfl, ?_⟩; have n0_ := Aside0.mk (Kd.R_below (by (with_reducible repeat (first | apply Kd.R_alloc | apply Kd.R_drewN | apply Kd.R_drew)); exact HO_7.out) hb); have n1_ := Aside0.mk (Kd.R_below (by (with_reducible repeat (first | apply Kd.R_alloc | apply Kd.R_drewN | apply Kd.R_drew)); exact HO_8.out) hb); have n2_ := Aside0.mk (Kd.R_elder' (by (with_reducible repeat (first | apply Kd.R_alloc | apply Kd.R_drewN | apply Kd.R_drew)); exact HO337.out) (Kd.R_base ho0) hb); have n3_ := Aside0.mk (Kd.R_elder' (by (with_reducible repeat (first | apply Kd.R_alloc | apply Kd.R_drewN | apply Kd.R_drew)); exact HO341.out) (Kd.R_base ho0) hb); have n4_ := Aside0.mk (Kd.R_lower (Kd.R_new' (Kd.R_new' ho0 (Kd.R_lt (by (with_reducible repeat (first | apply Kd.R_alloc | apply Kd.R_drewN | apply Kd.R_drew)); exact HO337.out))) (Kd.R_lt (by (with_reducible repeat (first | apply Kd.R_alloc | apply Kd.R_drewN | apply Kd.R_drew)); exact HO341.out))) (below_size (by repeat (first | (with_reducible first | exact HB.out | apply below_alloc | apply pw_below_drewN | apply below_drew1) | exact HB.out)))); have n5_ := Aside0.mk (below_step (by repeat (first | (with_reducible first | exact HB.out | apply below_alloc | apply pw_below_drewN | apply below_drew1) | exact HB.out)) hb); clear HO_7; clear HO_8; clear HO337; clear HO341; clear HB; have HO_7 := n0_; have HO_8 := n1_; have HO337 := n2_; have HO341 := n3_; have HO345 := n4_; have HB := n5_; clear n0_ n1_ n2_ n3_ n4_ n5_; (try clear hb); (try clear hb2); (try clear hk); (try clear hi); (try clear ho0); obtain ⟨Ao50, co50, eo50⟩ := Kd.R_slice HO337.out; subst eo50; obtain ⟨Ao51, co51, eo51⟩ := Kd.R_slice HO341.out; subst eo51) | (go_at_call 21; (with_reducible refine (poly_Add.calls a0 _ _ t334 _ _ t338 t346 _ ?side1 ?side2 ?side3 ?side4 A43.out).mono ?_); (case side1 => repeat (first | exact (Kd.R_reads' HO337.out).2.2 | (with_reducible refine Kd.C_alloc ?_ _) | (with_reducible refine Kd.C_drewN ?_ _) | (with_reducible refine Kd.C_drew ?_))); (case side2 => exact (Kd.R_reads' HO337.out).2.1); (case side3 => repeat (first | exact (Kd.R_reads' HO341.out).2.2 | (with_reducible refine Kd.C_alloc ?_ _) | (with_reducible refine Kd.C_drewN ?_ _) | (with_reducible refine Kd.C_drew ?_))); (case side4 => exact (Kd.R_reads' HO341.out).2.1); rintro e w52 ⟨v347, rfl, ho0, hb⟩; have n0_ := Aside0.mk (Kd.R_below (by (with_reducible repeat (first | apply Kd.R_alloc | apply Kd.R_drewN | apply Kd.R_drew)); exact HO_7.out) hb); have n1_ := Aside0.mk (Kd.R_below (by (with_reducible repeat (first | apply Kd.R_alloc | apply Kd.R_drewN | apply Kd.R_drew)); exact HO_8.out) hb); have n2_ := Aside0.mk (Kd.R_elder' (by (with_reducible repeat (first | apply Kd.R_alloc | apply Kd.R_drewN | apply Kd.R_drew)); exact HO337.out) (Kd.R_base ho0) hb); have n3_ := Aside0.mk (Kd.R_elder' (by (with_reducible repeat (first | apply Kd.R_alloc | apply Kd.R_drewN | apply Kd.R_drew)); exact HO341.out) (Kd.R_base ho0) hb); have n4_ := Aside0.mk (Kd.R_elder' (by (with_reducible repeat (first | apply Kd.R_alloc | apply Kd.R_drewN | apply Kd.R_drew)); exact HO345.out) (Kd.R_base ho0) hb); have n5_ := Aside0.mk (Kd.R_lower (Kd.R_new' (Kd.R_new' (Kd.R_new' ho0 (Kd.R_lt (by (with_reducible repeat (first | apply Kd.R_alloc | apply Kd.R_drewN | apply Kd.R_drew)); exact HO337.out))) (Kd.R_lt (by (with_reducible repeat (first | apply Kd.R_alloc | apply Kd.R_drewN | apply Kd.R_drew)); exact HO341.out))) (Kd.R_lt (by (with_reducible repeat (first | apply Kd.R_alloc | apply Kd.R_drewN | apply Kd.R_drew)); exact HO345.out))) (below_size (by repeat (first | (with_reducible first | exact HB.out | apply below_alloc | apply pw_below_drewN | apply below_drew1) | exact HB.out)))); have n6_ := Aside0.mk (below_step (by repeat (first | (with_reducible first | exact HB.out | apply below_alloc | apply pw_below_drewN | apply below_drew1) | exact HB.out)) hb); clear HO_7; clear HO_8; clear HO337; clear HO341; clear HO345; clear HB; have HO_7 := n0_; have HO_8 := n1_; have HO337 := n2_; have HO341 := n3_; have HO345 := n4_; have HO348 := n5_; have HB := n6_; clear n0_ n1_ n2_ n3_ n4_ n5_ n6_; (try clear hb); (try clear hb2); (try clear hk); (try clear hi); (try clear ho0); obtain ⟨Ao53, co53, eo53⟩ := Kd.R_slice HO345.out; subst eo53; obtain ⟨Ao54, co54, eo54⟩ := Kd.R_slice HO348.out; subst eo54) | (go_at_call 15; (with_reducible refine (privityref05_Same.calls k2 _ _ t342 _ _ t346 t349 _ ?side1 ?side2 ?side3 ?side4 A44.out).mono ?_); (case side1 => repeat (first | exact (Kd.R_reads' HO345.out).2.2 | (with_reducible refine Kd.C_alloc ?_ _) | (with_reducible refine Kd.C_drewN ?_ _) | (with_reducible refine Kd.C_drew ?_))); (case side2 => exact (Kd.R_reads' HO345.out).2.1); (case side3 => repeat (first | exact (Kd.R_reads' HO348.out).2.2 | (with_reducible refine Kd.C_alloc ?_ _) | (with_reducible refine Kd.C_drewN ?_ _) | (with_reducible refine Kd.C_drew ?_))); (case side4 => exact (Kd.R_reads' HO348.out).2.1); rintro e w' ⟨rfl, ⟨nd, rfl⟩⟩))
                      go_ret
                      exact ⟨by first | rfl | (simp [errW_none, errW_some] <;> rfl) | (simp [*, errW_none, errW_some] <;> rfl), by repeat (first | (with_reducible first | exact HB.out | apply below_alloc | apply pw_below_drewN | apply below_drew1) | exact HB.out)⟩
                    · rw [if_neg c42] at H
                      have c42b0 : (t343 == 0) = false := beq_eq_false_iff_ne.mpr c42
                      have c42b1 : (t343 != 0) = true := bne_iff_ne.mpr c42
                      obtain rfl := Option.some.inj H
                      go_wp2_with (first | ((with_reducible refine gate_callee (f := 20) rfl ?_); refine goesL_ (some 93) rfl rfl Try.func20 (by kernel_rfl) rfl #[.int .u64 a0, .slice A1 l1.length c1] rfl (by (try simp only [List.map_toArray, List.map_cons, List.map_nil]); first | done | rfl | (simp only [List.length_drop, List.length_take]; rfl)) ?_; (with_reducible refine (interpolate_Polynomial.calls a0 _ _ l1 t334 t335 _ ?side1 ?side2 A37.out).mono ?_); (case side1 => repeat (first | exact (Kd.C_below HR1.out HB.out) | (with_reducible refine Kd.C_alloc ?_ _) | (with_reducible refine Kd.C_drewN ?_ _) | (with_reducible refine Kd.C_drew ?_))); (case side2 => exact HC1.out); rintro e w55 ⟨v336, rfl, ho0, hb⟩; refine ⟨_, rfl, ?_⟩; have n0_ := Aside0.mk (Kd.R_below (by (with_reducible repeat (first | apply Kd.R_alloc | apply Kd.R_drewN | apply Kd.R_drew)); exact HO_7.out) hb); have n1_ := Aside0.mk (Kd.R_below (by (with_reducible repeat (first | apply Kd.R_alloc | apply Kd.R_drewN | apply Kd.R_drew)); exact HO_8.out) hb); have n2_ := Aside0.mk (Kd.R_lower ho0 (below_size (by repeat (first | (with_reducible first | exact HB.out | apply below_alloc | apply pw_below_drewN | apply below_drew1) | exact HB.out)))); have n3_ := Aside0.mk (below_step (by repeat (first | (with_reducible first | exact HB.out | apply below_alloc | apply pw_below_drewN | apply below_drew1) | exact HB.out)) hb); clear HO_7; clear HO_8; clear HB; have HO_7 := n0_; have HO_8 := n1_; have HO337 := n2_; have HB := n3_; clear n0_ n1_ n2_ n3_; (try clear hb); (try clear hb2); (try clear hk); (try clear hi); (try clear ho0); obtain ⟨Ao56, co56, eo56⟩ := Kd.R_slice HO_7.out; subst eo56) | ((with_reducible refine gate_callee (f := 20) rfl ?_); refine goesL_ (some 99) rfl rfl Try.func20 (by kernel_rfl) rfl #[.int .u64 a0, .slice Ao56 x7_2.length co56] rfl (by (try simp only [List.map_toArray, List.map_cons, List.map_nil]); first | done | rfl | (simp only [List.length_drop, List.length_take]; rfl)) ?_; (with_reducible refine (interpolate_Polynomial.calls a0 _ _ x7_2 t338 t339 _ ?side1 ?side2 A38.out).mono ?_); (case side1 => repeat (first | exact (Kd.R_reads' HO_7.out).2.2 | (with_reducible refine Kd.C_alloc ?_ _) | (with_reducible refine Kd.C_drewN ?_ _) | (with_reducible refine Kd.C_drew ?_))); (case side2 => exact (Kd.R_reads' HO_7.out).2.1); rintro e w57 ⟨v340, rfl, ho0, hb⟩; refine ⟨_, rfl, ?_⟩; have n0_ := Aside0.mk (Kd.R_below (by (with_reducible repeat (first | apply Kd.R_alloc | apply Kd.R_drewN | apply Kd.R_drew)); exact HO_7.out) hb); have n1_ := Aside0.mk (Kd.R_below (by (with_reducible repeat (first | apply Kd.R_alloc | apply Kd.R_drewN | apply Kd.R_drew)); exact HO_8.out) hb); have n2_ := Aside0.mk (Kd.R_elder' (by (with_reducible repeat (first | apply Kd.R_alloc | apply Kd.R_drewN | apply Kd.R_drew)); exact HO337.out) (Kd.R_base ho0) hb); have n3_ := Aside0.mk (Kd.R_lower (Kd.R_new' ho0 (Kd.R_lt (by (with_reducible repeat (first | apply Kd.R_alloc | apply Kd.R_drewN | apply Kd.R_drew)); exact HO337.out))) (below_size (by repeat (first | (with_reducible first | exact HB.out | apply below_alloc | apply pw_below_drewN | apply below_drew1) | exact HB.out)))); have n4_ := Aside0.mk (below_step (by repeat (first | (with_reducible first | exact HB.out | apply below_alloc | apply pw_below_drewN | apply below_drew1) | exact HB.out)) hb); clear HO_7; clear HO_8; clear HO337; clear HB; have HO_7 := n0_; have HO_8 := n1_; have HO337 := n2_; have HO341 := n3_; have HB := n4_; clear n0_ n1_ n2_ n3_ n4_; (try clear hb); (try clear hb2); (try clear hk); (try clear hi); (try clear ho0); obtain ⟨Ao58, co58, eo58⟩ := Kd.R_slice HO_8.out; subst eo58) | ((with_reducible refine gate_callee (f := 20) rfl ?_); refine goesL_ (some 105) rfl rfl Try.func20 (by kernel_rfl) rfl #[.int .u64 a0, .slice Ao58 x8_2.length co58] rfl (by (try simp only [List.map_toArray, List.map_cons, List.map_nil]); first | done | rfl | (simp only [List.length_drop, List.length_take]; rfl)) ?_; (with_reducible refine (interpolate_Polynomial.calls a0 _ _ x8_2 t342 t343 _ ?side1 ?side2 A39.out).mono ?_); (case side1 => repeat (first | exact (Kd.R_reads' HO_8.out).2.2 | (with_reducible refine Kd.C_alloc ?_ _) | (with_reducible refine Kd.C_drewN ?_ _) | (with_reducible refine Kd.C_drew ?_))); (case side2 => exact (Kd.R_reads' HO_8.out).2.1); rintro e w59 ⟨v344, rfl, ho0, hb⟩; refine ⟨_, rfl, ?_⟩; have n0_ := Aside0.mk (Kd.R_below (by (with_reducible repeat (first | apply Kd.R_alloc | apply Kd.R_drewN | apply Kd.R_drew)); exact HO_7.out) hb); have n1_ := Aside0.mk (Kd.R_below (by (with_reducible repeat (first | apply Kd.R_alloc | apply Kd.R_drewN | apply Kd.R_drew)); exact HO_8.out) hb); have n2_ := Aside0.mk (Kd.R_elder' (by (with_reducible repeat (first | apply Kd.R_alloc | apply Kd.R_drewN | apply Kd.R_drew)); exact HO337.out) (Kd.R_base ho0) hb); have n3_ := Aside0.mk (Kd.R_elder' (by (with_reducible repeat (first | apply Kd.R_alloc | apply Kd.R_drewN | apply Kd.R_drew)); exact HO341.out) (Kd.R_base ho0) hb); have n4_ := Aside0.mk (Kd.R_lower (Kd.R_new' (Kd.R_new' ho0 (Kd.R_lt (by (with_reducible repeat (first | apply Kd.R_alloc | apply Kd.R_drewN | apply Kd.R_drew)); exact HO337.out))) (Kd.R_lt (by (with_reducible repeat (first | apply Kd.R_alloc | apply Kd.R_drewN | apply Kd.R_drew)); exact HO341.out))) (below_size (by repeat (first | (with_reducible first | exact HB.out | apply below_alloc | apply pw_below_drewN | apply below_drew1) | exact HB.out)))); have n5_ := Aside0.mk (below_step (by repeat (first | (with_reducible first | exact HB.out | apply below_alloc | apply pw_below_drewN | apply below_drew1) | exact HB.out)) hb); clear HO_7; clear HO_8; clear HO337; clear HO341; clear HB; have HO_7 := n0_; have HO_8 := n1_; have HO337 := n2_; have HO341 := n3_; have HO345 := n4_; have HB := n5_; clear n0_ n1_ n2_ n3_ n4_ n5_; (try clear hb); (try clear hb2); (try clear hk); (try clear hi); (try clear ho0)))
                      go_ret
                      exact ⟨by first | rfl | (simp [errW_none, errW_some] <;> rfl) | (simp [*, errW_none, errW_some] <;> rfl), by repeat (first | (with_reducible first | exact HB.out | apply below_alloc | apply pw_below_drewN | apply below_drew1) | exact HB.out)⟩
                  · rw [if_neg c41] at H
                    have c41b0 : (t339 == 0) = false := beq_eq_false_iff_ne.mpr c41
                    have c41b1 : (t339 != 0) = true := bne_iff_ne.mpr c41
                    obtain rfl := Option.some.inj H
                    go_wp2_with (first | ((with_reducible refine gate_callee (f := 20) rfl ?_); refine goesL_ (some 93) rfl rfl Try.func20 (by kernel_rfl) rfl #[.int .u64 a0, .slice A1 l1.length c1] rfl (by (try simp only [List.map_toArray, List.map_cons, List.map_nil]); first | done | rfl | (simp only [List.length_drop, List.length_take]; rfl)) ?_; (with_reducible refine (interpolate_Polynomial.calls a0 _ _ l1 t334 t335 _ ?side1 ?side2 A37.out).mono ?_); (case side1 => repeat (first | exact (Kd.C_below HR1.out HB.out) | (with_reducible refine Kd.C_alloc ?_ _) | (with_reducible refine Kd.C_drewN ?_ _) | (with_reducible refine Kd.C_drew ?_))); (case side2 => exact HC1.out); rintro e w60 ⟨v336, rfl, ho0, hb⟩; refine ⟨_, rfl, ?_⟩; have n0_ := Aside0.mk (Kd.R_below (by (with_reducible repeat (first | apply Kd.R_alloc | apply Kd.R_drewN | apply Kd.R_drew)); exact HO_7.out) hb); have n1_ := Aside0.mk (Kd.R_below (by (with_reducible repeat (first | apply Kd.R_alloc | apply Kd.R_drewN | apply Kd.R_drew)); exact HO_8.out) hb); have n2_ := Aside0.mk (Kd.R_lower ho0 (below_size (by repeat (first | (with_reducible first | exact HB.out | apply below_alloc | apply pw_below_drewN | apply below_drew1) | exact HB.out)))); have n3_ := Aside0.mk (below_step (by repeat (first | (with_reducible first | exact HB.out | apply below_alloc | apply pw_below_drewN | apply below_drew1) | exact HB.out)) hb); clear HO_7; clear HO_8; clear HB; have HO_7 := n0_; have HO_8 := n1_; have HO337 := n2_; have HB := n3_; clear n0_ n1_ n2_ n3_; (try clear hb); (try clear hb2); (try clear hk); (try clear hi); (try clear ho0); obtain ⟨Ao61, co61, eo61⟩ := Kd.R_slice HO_7.out; subst eo61) | ((with_reducible refine gate_callee (f := 20) rfl ?_); refine goesL_ (some 99) rfl rfl Try.func20 (by kernel_rfl) rfl #[.int .u64 a0, .slice Ao61 x7_2.length co61] rfl (by (try simp only [List.map_toArray, List.map_cons, List.map_nil]); first | done | rfl | (simp only [List.length_drop, List.length_take]; rfl)) ?_; (with_reducible refine (interpolate_Polynomial.calls a0 _ _ x7_2 t338 t339 _ ?side1 ?side2 A38.out).mono ?_); (case side1 => repeat (first | exact (Kd.R_reads' HO_7.out).2.2 | (with_reducible refine Kd.C_alloc ?_ _) | (with_reducible refine Kd.C_drewN ?_ _) | (with_reducible refine Kd.C_drew ?_))); (case side2 => exact (Kd.R_reads' HO_7.out).2.1); rintro e w62 ⟨v340, rfl, ho0, hb⟩; refine ⟨_, rfl, ?_⟩; have n0_ := Aside0.mk (Kd.R_below (by (with_reducible repeat (first | apply Kd.R_alloc | apply Kd.R_drewN | apply Kd.R_drew)); exact HO_7.out) hb); have n1_ := Aside0.mk (Kd.R_below (by (with_reducible repeat (first | apply Kd.R_alloc | apply Kd.R_drewN | apply Kd.R_drew)); exact HO_8.out) hb); have n2_ := Aside0.mk (Kd.R_elder' (by (with_reducible repeat (first | apply Kd.R_alloc | apply Kd.R_drewN | apply Kd.R_drew)); exact HO337.out) (Kd.R_base ho0) hb); have n3_ := Aside0.mk (Kd.R_lower (Kd.R_new' ho0 (Kd.R_lt (by (with_reducible repeat (first | apply Kd.R_alloc | apply Kd.R_drewN | apply Kd.R_drew)); exact HO337.out))) (below_size (by repeat (first | (with_reducible first | exact HB.out | apply below_alloc | apply pw_below_drewN | apply below_drew1) | exact HB.out)))); have n4_ := Aside0.mk (below_step (by repeat (first | (with_reducible first | exact HB.out | apply below_alloc | apply pw_below_drewN | apply below_drew1) | exact HB.out)) hb); clear HO_7; clear HO_8; clear HO337; clear HB; have HO_7 := n0_; have HO_8 := n1_; have HO337 := n2_; have HO341 := n3_; have HB := n4_; clear n0_ n1_ n2_ n3_ n4_; (try clear hb); (try clear hb2); (try clear hk); (try clear hi); (try clear ho0); obtain ⟨Ao63, co63, eo63⟩ := Kd.R_slice HO_8.out; subst eo63) | ((with_reducible refine gate_callee (f := 20) rfl ?_); refine goesL_ (some 105) rfl rfl Try.func20 (by kernel_rfl) rfl #[.int .u64 a0, .slice Ao63 x8_2.length co63] rfl (by (try simp only [List.map_toArray, List.map_cons, List.map_nil]); first | done | rfl | (simp only [List.length_drop, List.length_take]; rfl)) ?_; (with_reducible refine (interpolate_Polynomial.calls a0 _ _ x8_2 t342 t343 _ ?side1 ?side2 A39.out).mono ?_); (case side1 => repeat (first | exact (Kd.R_reads' HO_8.out).2.2 | (with_reducible refine Kd.C_alloc ?_ _) | (with_reducible refine Kd.C_drewN ?_ _) | (with_reducible refine Kd.C_drew ?_))); (case side2 => exact (Kd.R_reads' HO_8.out).2.1); rintro e w64 ⟨v344, rfl, ho0, hb⟩; refine ⟨_, rfl, ?_⟩; have n0_ := Aside0.mk (Kd.R_below (by (with_reducible repeat (first | apply Kd.R_alloc | apply Kd.R_drewN | apply Kd.R_drew)); exact HO_7.out) hb); have n1_ := Aside0.mk (Kd.R_below (by (with_reducible repeat (first | apply Kd.R_alloc | apply Kd.R_drewN | apply Kd.R_drew)); exact HO_8.out) hb); have n2_ := Aside0.mk (Kd.R_elder' (by (with_reducible repeat (first | apply Kd.R_alloc | apply Kd.R_drewN | apply Kd.R_drew)); exact HO337.out) (Kd.R_base ho0) hb); have n3_ := Aside0.mk (Kd.R_elder' (by (with_reducible repeat (first | apply Kd.R_alloc | apply Kd.R_drewN | apply Kd.R_drew)); exact HO341.out) (Kd.R_base ho0) hb); have n4_ := Aside0.mk (Kd.R_lower (Kd.R_new' (Kd.R_new' ho0 (Kd.R_lt (by (with_reducible repeat (first | apply Kd.R_alloc | apply Kd.R_drewN | apply Kd.R_drew)); exact HO337.out))) (Kd.R_lt (by (with_reducible repeat (first | apply Kd.R_alloc | apply Kd.R_drewN | apply Kd.R_drew)); exact HO341.out))) (below_size (by repeat (first | (with_reducible first | exact HB.out | apply below_alloc | apply pw_below_drewN | apply below_drew1) | exact HB.out)))); have n5_ := Aside0.mk (below_step (by repeat (first | (with_reducible first | exact HB.out | apply below_alloc | apply pw_below_drewN | apply below_drew1) | exact HB.out)) hb); clear HO_7; clear HO_8; clear HO337; clear HO341; clear HB; have HO_7 := n0_; have HO_8 := n1_; have HO337 := n2_; have HO341 := n3_; have HO345 := n4_; have HB := n5_; clear n0_ n1_ n2_ n3_ n4_ n5_; (try clear hb); (try clear hb2); (try clear hk); (try clear hi); (try clear ho0)))
                    go_ret
                    exact ⟨by first | rfl | (simp [errW_none, errW_some] <;> rfl) | (simp [*, errW_none, errW_some] <;> rfl), by repeat (first | (with_reducible first | exact HB.out | apply below_alloc | apply pw_below_drewN | apply below_drew1) | exact HB.out)⟩
                · rw [if_neg c40] at H
                  have c40b0 : (t335 == 0) = false := beq_eq_false_iff_ne.mpr c40
                  have c40b1 : (t335 != 0) = true := bne_iff_ne.mpr c40
                  obtain rfl := Option.some.inj H
                  go_wp2_with (first | ((with_reducible refine gate_callee (f := 20) rfl ?_); refine goesL_ (some 93) rfl rfl Try.func20 (by kernel_rfl) rfl #[.int .u64 a0, .slice A1 l1.length c1] rfl (by (try simp only [List.map_toArray, List.map_cons, List.map_nil]); first | done | rfl | (simp only [List.length_drop, List.length_take]; rfl)) ?_; (with_reducible refine (interpolate_Polynomial.calls a0 _ _ l1 t334 t335 _ ?side1 ?side2 A37.out).mono ?_); (case side1 => repeat (first | exact (Kd.C_below HR1.out HB.out) | (with_reducible refine Kd.C_alloc ?_ _) | (with_reducible refine Kd.C_drewN ?_ _) | (with_reducible refine Kd.C_drew ?_))); (case side2 => exact HC1.out); rintro e w65 ⟨v336, rfl, ho0, hb⟩; refine ⟨_, rfl, ?_⟩; have n0_ := Aside0.mk (Kd.R_below (by (with_reducible repeat (first | apply Kd.R_alloc | apply Kd.R_drewN | apply Kd.R_drew)); exact HO_7.out) hb); have n1_ := Aside0.mk (Kd.R_below (by (with_reducible repeat (first | apply Kd.R_alloc | apply Kd.R_drewN | apply Kd.R_drew)); exact HO_8.out) hb); have n2_ := Aside0.mk (Kd.R_lower ho0 (below_size (by repeat (first | (with_reducible first | exact HB.out | apply below_alloc | apply pw_below_drewN | apply below_drew1) | exact HB.out)))); have n3_ := Aside0.mk (below_step (by repeat (first | (with_reducible first | exact HB.out | apply below_alloc | apply pw_below_drewN | apply below_drew1) | exact HB.out)) hb); clear HO_7; clear HO_8; clear HB; have HO_7 := n0_; have HO_8 := n1_; have HO337 := n2_; have HB := n3_; clear n0_ n1_ n2_ n3_; (try clear hb); (try clear hb2); (try clear hk); (try clear hi); (try clear ho0); obtain ⟨Ao66, co66, eo66⟩ := Kd.R_slice HO_7.out; subst eo66) | ((with_reducible refine gate_callee (f := 20) rfl ?_); refine goesL_ (some 99) rfl rfl Try.func20 (by kernel_rfl) rfl #[.int .u64 a0, .slice Ao66 x7_2.length co66] rfl (by (try simp only [List.map_toArray, List.map_cons, List.map_nil]); first | done | rfl | (simp only [List.length_drop, List.length_take]; rfl)) ?_; (with_reducible refine (interpolate_Polynomial.calls a0 _ _ x7_2 t338 t339 _ ?side1 ?side2 A38.out).mono ?_); (case side1 => repeat (first | exact (Kd.R_reads' HO_7.out).2.2 | (with_reducible refine Kd.C_alloc ?_ _) | (with_reducible refine Kd.C_drewN ?_ _) | (with_reducible refine Kd.C_drew ?_))); (case side2 => exact (Kd.R_reads' HO_7.out).2.1); rintro e w67 ⟨v340, rfl, ho0, hb⟩; refine ⟨_, rfl, ?_⟩; have n0_ := Aside0.mk (Kd.R_below (by (with_reducible repeat (first | apply Kd.R_alloc | apply Kd.R_drewN | apply Kd.R_drew)); exact HO_7.out) hb); have n1_ := Aside0.mk (Kd.R_below (by (with_reducible repeat (first | apply Kd.R_alloc | apply Kd.R_drewN | apply Kd.R_drew)); exact HO_8.out) hb); have n2_ := Aside0.mk (Kd.R_elder' (by (with_reducible repeat (first | apply Kd.R_alloc | apply Kd.R_drewN | apply Kd.R_drew)); exact HO337.out) (Kd.R_base ho0) hb); have n3_ := Aside0.mk (Kd.R_lower (Kd.R_new' ho0 (Kd.R_lt (by (with_reducible repeat (first | apply Kd.R_alloc | apply Kd.R_drewN | apply Kd.R_drew)); exact HO337.out))) (below_size (by repeat (first | (with_reducible first | exact HB.out | apply below_alloc | apply pw_below_drewN | apply below_drew1) | exact HB.out)))); have n4_ := Aside0.mk (below_step (by repeat (first | (with_reducible first | exact HB.out | apply below_alloc | apply pw_below_drewN | apply below_drew1) | exact HB.out)) hb); clear HO_7; clear HO_8; clear HO337; clear HB; have HO_7 := n0_; have HO_8 := n1_; have HO337 := n2_; have HO341 := n3_; have HB := n4_; clear n0_ n1_ n2_ n3_ n4_; (try clear hb); (try clear hb2); (try clear hk); (try clear hi); (try clear ho0); obtain ⟨Ao68, co68, eo68⟩ := Kd.R_slice HO_8.out; subst eo68) | ((with_reducible refine gate_callee (f := 20) rfl ?_); refine goesL_ (some 105) rfl rfl Try.func20 (by kernel_rfl) rfl #[.int .u64 a0, .slice Ao68 x8_2.length co68] rfl (by (try simp only [List.map_toArray, List.map_cons, List.map_nil]); first | done | rfl | (simp only [List.length_drop, List.length_take]; rfl)) ?_; (with_reducible refine (interpolate_Polynomial.calls a0 _ _ x8_2 t342 t343 _ ?side1 ?side2 A39.out).mono ?_); (case side1 => repeat (first | exact (Kd.R_reads' HO_8.out).2.2 | (with_reducible refine Kd.C_alloc ?_ _) | (with_reducible refine Kd.C_drewN ?_ _) | (with_reducible refine Kd.C_drew ?_))); (case side2 => exact (Kd.R_reads' HO_8.out).2.1); rintro e w69 ⟨v344, rfl, ho0, hb⟩; refine ⟨_, rfl, ?_⟩; have n0_ := Aside0.mk (Kd.R_below (by (with_reducible repeat (first | apply Kd.R_alloc | apply Kd.R_drewN | apply Kd.R_drew)); exact HO_7.out) hb); have n1_ := Aside0.mk (Kd.R_below (by (with_reducible repeat (first | apply Kd.R_alloc | apply Kd.R_drewN | apply Kd.R_drew)); exact HO_8.out) hb); have n2_ := Aside0.mk (Kd.R_elder' (by (with_reducible repeat (first | apply Kd.R_alloc | apply Kd.R_drewN | apply Kd.R_drew)); exact HO337.out) (Kd.R_base ho0) hb); have n3_ := Aside0.mk (Kd.R_elder' (by (with_reducible repeat (first | apply Kd.R_alloc | apply Kd.R_drewN | apply Kd.R_drew)); exact HO341.out) (Kd.R_base ho0) hb); have n4_ := Aside0.mk (Kd.R_lower (Kd.R_new' (Kd.R_new' ho0 (Kd.R_lt (by (with_reducible repeat (first | apply Kd.R_alloc | apply Kd.R_drewN | apply Kd.R_drew)); exact HO337.out))) (Kd.R_lt (by (with_reducible repeat (first | apply Kd.R_alloc | apply Kd.R_drewN | apply Kd.R_drew)); exact HO341.out))) (below_size (by repeat (first | (with_reducible first | exact HB.out | apply below_alloc | apply pw_below_drewN | apply below_drew1) | exact HB.out)))); have n5_ := Aside0.mk (below_step (by repeat (first | (with_reducible first | exact HB.out | apply below_alloc | apply pw_below_drewN | apply below_drew1) | exact HB.out)) hb); clear HO_7; clear HO_8; clear HO337; clear HO341; clear HB; have HO_7 := n0_; have HO_8 := n1_; have HO337 := n2_; have HO341 := n3_; have HO345 := n4_; have HB := n5_; clear n0_ n1_ n2_ n3_ n4_ n5_; (try clear hb); (try clear hb2); (try clear hk); (try clear hi); (try clear ho0)))
                  go_ret
                  exact ⟨by first | rfl | (simp [errW_none, errW_some] <;> rfl) | (simp [*, errW_none, errW_some] <;> rfl), by repeat (first | (with_reducible first | exact HB.out | apply below_alloc | apply pw_below_drewN | apply below_drew1) | exact HB.out)⟩
  · replace c5 := Bool.eq_false_iff.mpr c5
    subst c5
    have H1 : (some false) = some r := by rw [if_neg (show ¬ (false = true) by decide)] at H; exact H
    clear H
    have H := H1
    clear H1
    obtain rfl := Option.some.inj H
    go_enter Try.func4, Try.ntmps4
    go_wp2_with (first | ((with_reducible refine gate_callee (f := 10) rfl ?_); refine goesL_ (some 16) rfl rfl Try.func10 (by kernel_rfl) rfl #[] rfl (by (try simp only [List.map_toArray, List.map_cons, List.map_nil]); first | done | rfl | (simp only [List.length_drop, List.length_take]; rfl)) ?_; (with_reducible refine (privitylaw05_awake.calls k  false _ A4.out).mono ?_); rintro e w70 ⟨rfl, hb⟩; refine ⟨_, rfl, ?_⟩; have n0_ := Aside0.mk (below_step (by repeat (first | (with_reducible first | exact HB.out | apply below_alloc | apply pw_below_drewN | apply below_drew1) | exact HB.out)) hb); clear HB; have HB := n0_; clear n0_; (try clear hb); (try clear hb2); (try clear hk); (try clear hi)))
    go_ret
    exact ⟨by first | rfl | (simp [errW_none, errW_some] <;> rfl) | (simp [*, errW_none, errW_some] <;> rfl), by repeat (first | (with_reducible first | exact HB.out | apply below_alloc | apply pw_below_drewN | apply below_drew1) | exact HB.out)⟩
end Go.Proofs.Ytdbmhpfbbikjjaa.Pr
end
section
/- Printed by a program of this seat (the kit's printer, with the functions that were proved by hand given to it). What stands here: the functions that the statements reach, as plain functions, and that the Go code computes them. -/
namespace Go.Proofs.Ytdbmhpfbbikjjaa.Pr
open Go.RowKit Go.Proofs.YtdbmhpfbbikjjaaW.PrintWords Go.Proofs.YtdbmhpfbbikjjaaW.PrintLast Go.Proofs.YtdbmhpfbbikjjaaW.PrintMore
attribute [local go_sem] max2_int min2_int max_two min_two max_three min_three max_four min_four   -- for this text's walks alone
set_option linter.unusedVariables false
set_option linter.unusedSimpArgs false

open Go.Proofs.Ytdbmhpfbbikjjaa.Hw
/-! ### privityref04_Eval: function 36 -/
/-! ### privityref01_Pow: function 65 -/
/-! ### privityref01_Inverse: function 55 -/
/-! ### privityref01_Sub: function 56 -/
end Go.Proofs.Ytdbmhpfbbikjjaa.Pr
end
section
/- Printed by a program of this seat (the kit's printer, with the functions that were proved by hand given to it). What stands here: the functions that the statements reach, as plain functions, and that the Go code computes them. -/
namespace Go.Proofs.Ytdbmhpfbbikjjaa.Pr
open Go.RowKit Go.Proofs.YtdbmhpfbbikjjaaW.PrintWords Go.Proofs.YtdbmhpfbbikjjaaW.PrintLast Go.Proofs.YtdbmhpfbbikjjaaW.PrintMore
attribute [local go_sem] max2_int min2_int max_two min_two max_three min_three max_four min_four   -- for this text's walks alone
set_option linter.unusedVariables false
set_option linter.unusedSimpArgs false

open Go.Proofs.Ytdbmhpfbbikjjaa.Hw
/-! ### privityref04_Trim: function 24 -/
end Go.Proofs.Ytdbmhpfbbikjjaa.Pr
end
section
/- Printed by a program of this seat (the kit's printer, with the functions that were proved by hand given to it). What stands here: the functions that the statements reach, as plain functions, and that the Go code computes them. -/
namespace Go.Proofs.Ytdbmhpfbbikjjaa.Pr
open Go.RowKit Go.Proofs.YtdbmhpfbbikjjaaW.PrintWords Go.Proofs.YtdbmhpfbbikjjaaW.PrintLast Go.Proofs.YtdbmhpfbbikjjaaW.PrintMore
attribute [local go_sem] max2_int min2_int max_two min_two max_three min_three max_four min_four   -- for this text's walks alone
set_option linter.unusedVariables false
set_option linter.unusedSimpArgs false

open Go.Proofs.Ytdbmhpfbbikjjaa.Hw
/-! ### privityref04_Mul: function 57 -/
end Go.Proofs.Ytdbmhpfbbikjjaa.Pr
end
section
/- Printed by a program of this seat (the kit's printer, with the functions that were proved by hand given to it). What stands here: the functions that the statements reach, as plain functions, and that the Go code computes them. -/
namespace Go.Proofs.Ytdbmhpfbbikjjaa.Pr
open Go.RowKit Go.Proofs.YtdbmhpfbbikjjaaW.PrintWords Go.Proofs.YtdbmhpfbbikjjaaW.PrintLast Go.Proofs.YtdbmhpfbbikjjaaW.PrintMore
attribute [local go_sem] max2_int min2_int max_two min_two max_three min_three max_four min_four   -- for this text's walks alone
set_option linter.unusedVariables false
set_option linter.unusedSimpArgs false

open Go.Proofs.Ytdbmhpfbbikjjaa.Hw
/-! ### privityref01_Neg: function 58 -/
/-! ### privityref05_base: function 37 -/
/-! ### privityref05_LagrangeWeights: function 14 -/
end Go.Proofs.Ytdbmhpfbbikjjaa.Pr
end
section
/-
  The reference of layer 1: what its printed functions answer.
-/
namespace Go.Proofs.Ytdbmhpfbbikjjaa.E
open Go.RowKit Go.Proofs.Ytdbmhpfbbikjjaa.Pr Go.Proofs.Ytdbmhpfbbikjjaa.Hw Go.Proofs.YtdbmhpfbbikjjaaW.PrintWords Go.Proofs.YtdbmhpfbbikjjaaW.PrintLast Go.Proofs.YtdbmhpfbbikjjaaW.PrintMore
set_option linter.unusedVariables false
set_option linter.unusedSimpArgs false

theorem wcap {n : Int} (h : 0 ≤ n) (h2 : n < 9223372036854775808) : wrap64 n = n := by unfold wrap64; omega
theorem wnat {n : Nat} (h : n < 1099511627776) : wrap64 ((n : Int) + 1) = ((n + 1 : Nat) : Int) := by rw [wcap (by omega) (by omega)]; omega
/-- From the end back to the start. -/
theorem up {Q : Nat → Prop} {n : Nat} (hn : Q n) (hs : ∀ i, i < n → Q (i + 1) → Q i) : Q 0 := by
  have : ∀ d, d ≤ n → Q (n - d) := by
    intro d
    induction d with
    | zero => intro _; exact hn
    | succ d ih =>
      intro h
      have h1 := ih (by omega)
      refine hs (n - (d + 1)) (by omega) ?_
      rwa [show n - (d + 1) + 1 = n - d from by omega]
  have := this n (Nat.le_refl _)
  rwa [Nat.sub_self] at this
theorem exponent_eq (p : Int) : privityref01_Exponent.f 10 p = if p = 31 then some 5 else if p = 127 then some 7 else if p = 8191 then some 13 else if p = 131071 then some 17 else if p = 524287 then some 19 else if p = 2147483647 then some 31 else if p = 2305843009213693951 then some 61 else some 0 := by kernel_rfl
theorem supported_ev (p : Int) : Ev (fun k => privityref01_Supported.f k p) (supB p) := by
  refine Ev.of (fun k => privityref01_Supported.mono _ _) (k := 10) ?_
  show (privityref01_Exponent.f 10 p).bind _ = _
  rw [exponent_eq]
  unfold supB
  by_cases h1 : p = 31
  · subst h1; rfl
  by_cases h2 : p = 127
  · subst h2; rfl
  by_cases h3 : p = 8191
  · subst h3; rfl
  by_cases h4 : p = 131071
  · subst h4; rfl
  by_cases h5 : p = 524287
  · subst h5; rfl
  by_cases h6 : p = 2147483647
  · subst h6; rfl
  by_cases h7 : p = 2305843009213693951
  · subst h7; rfl
  rw [if_neg h1, if_neg h2, if_neg h3, if_neg h4, if_neg h5, if_neg h6, if_neg h7]
  simp [h1, h2, h3, h4, h5, h6, h7]
end Go.Proofs.Ytdbmhpfbbikjjaa.E
end
section
/-
  Plain mathematics: polynomials over a prime field, as lists of coefficients: values, roots, uniqueness. No program in sight.
-/
namespace Go.Proofs.Ytdbmhpfbbikjjaa.Pl
open Go.Proofs.Ytdbmhpfbbikjjaa.Fd

section
variable {p : Nat} [NeZero p]

/-- The value at x: the lowest coefficient first. -/
def ev (x : Fin p) : List (Fin p) → Fin p
  | [] => 0
  | c :: f => c + x * ev x f
/-- The quotient by X - a. -/
def quot (a : Fin p) : List (Fin p) → List (Fin p)
  | [] => []
  | _ :: f => match f with
    | [] => []
    | _ => ev a f :: quot a f
theorem quot_length (a : Fin p) : ∀ f : List (Fin p), (quot a f).length = f.length - 1
  | [] => rfl
  | [_] => rfl
  | _ :: d :: f => by
    have := quot_length a (d :: f)
    simp only [quot, List.length_cons] at *
    omega
theorem quot_spec (a x : Fin p) : ∀ f : List (Fin p), ev x f = (x - a) * ev x (quot a f) + ev a f
  | [] => by simp only [quot, ev]; grind
  | [c] => by simp only [quot, ev]; grind
  | c :: d :: f => by
    have h := quot_spec a x (d :: f)
    have e : quot a (c :: d :: f) = ev a (d :: f) :: quot a (d :: f) := rfl
    rw [e]
    generalize hq : quot a (d :: f) = q at *
    rw [ev, h]
    show _ = (x - a) * (ev a (d :: f) + x * ev x q) + (c + a * ev a (d :: f))
    grind
theorem zero_of_quot (a : Fin p) : ∀ f : List (Fin p), (∀ c ∈ quot a f, c = 0) → ev a f = 0 → ∀ c ∈ f, c = 0
  | [], _, _ => by simp
  | [c], _, h => by
    intro x hx
    have h : c + a * 0 = 0 := h
    simp only [List.mem_cons, List.not_mem_nil, or_false] at hx
    subst hx; grind
  | c :: d :: f, hq, h => by
    have e : quot a (c :: d :: f) = ev a (d :: f) :: quot a (d :: f) := rfl
    rw [e] at hq
    have h1 : ev a (d :: f) = 0 := hq _ (by simp)
    have ih := zero_of_quot a (d :: f) (fun x hx => hq x (List.mem_cons_of_mem _ hx)) h1
    have h2 : c + a * ev a (d :: f) = 0 := h
    rw [h1] at h2
    have hc : c = 0 := by grind
    intro x hx
    rcases List.mem_cons.1 hx with rfl | hx
    · exact hc
    · exact ih x hx
/-- No zero divisors. -/
def Dom (p : Nat) [NeZero p] : Prop := ∀ a b : Fin p, a * b = 0 → a = 0 ∨ b = 0
theorem zero_of_roots (hd : Dom p) : ∀ (xs f : List (Fin p)), xs.Nodup → f.length ≤ xs.length → (∀ x ∈ xs, ev x f = 0) → ∀ c ∈ f, c = 0
  | [], f, _, hl, _ => by
    have : f = [] := by cases f with | nil => rfl | cons _ _ => simp at hl
    subst this; simp
  | a :: xs, f, hn, hl, h => by
    have hn' := List.nodup_cons.1 hn
    refine zero_of_quot a f (zero_of_roots hd xs (quot a f) hn'.2 (by rw [quot_length]; simp at hl; omega) fun x hx => ?_) (h a (by simp))
    have h1 := quot_spec a x f
    rw [h x (List.mem_cons_of_mem _ hx), h a (by simp)] at h1
    have h2 : (x - a) * ev x (quot a f) = 0 := by grind
    rcases hd _ _ h2 with h3 | h3
    · have : x = a := by grind
      subst this; exact absurd hx hn'.1
    · exact h3
/-- The difference, coefficient by coefficient. -/
def sub : List (Fin p) → List (Fin p) → List (Fin p)
  | [], g => g.map fun c => -c
  | f, [] => f
  | c :: f, d :: g => (c - d) :: sub f g
omit [NeZero p] in
theorem sub_length : ∀ f g : List (Fin p), (sub f g).length = max f.length g.length
  | [], g => by simp [sub]
  | _ :: _, [] => by simp [sub]
  | _ :: f, _ :: g => by simp [sub, sub_length f g]
theorem ev_neg (x : Fin p) : ∀ f : List (Fin p), ev x (f.map fun c => -c) = - ev x f
  | [] => by simp only [List.map_nil, ev]; grind
  | c :: f => by simp only [List.map_cons, ev, ev_neg x f]; grind
theorem ev_sub (x : Fin p) : ∀ f g : List (Fin p), ev x (sub f g) = ev x f - ev x g
  | [], g => by simp only [sub, ev_neg, ev]; grind
  | _ :: _, [] => by simp only [sub, ev]; grind
  | c :: f, d :: g => by simp only [sub, ev, ev_sub x f g]; grind
theorem getD_sub (i : Nat) : ∀ f g : List (Fin p), (sub f g).getD i 0 = f.getD i 0 - g.getD i 0 := by
  induction i with
  | zero =>
    intro f g
    cases f with
    | nil => cases g with
      | nil => simp only [sub, List.map_nil, List.getD_nil]; grind
      | cons d g => simp only [sub, List.map_cons, List.getD_cons_zero, List.getD_nil]; grind
    | cons c f => cases g with
      | nil => simp only [sub, List.getD_cons_zero, List.getD_nil]; grind
      | cons d g => simp only [sub, List.getD_cons_zero]
  | succ i ih =>
    intro f g
    cases f with
    | nil => cases g with
      | nil => simp only [sub, List.map_nil, List.getD_nil]; grind
      | cons d g =>
        have := ih [] g
        simp only [sub, List.map_cons, List.getD_cons_succ, List.getD_nil] at *
        exact this
    | cons c f => cases g with
      | nil => simp only [sub, List.getD_cons_succ, List.getD_nil]; grind
      | cons d g => simp only [sub, List.getD_cons_succ]; exact ih f g
theorem getD_zero {f : List (Fin p)} (h : ∀ c ∈ f, c = 0) (i : Nat) : f.getD i 0 = 0 := by
  rw [List.getD_eq_getElem?_getD]
  by_cases hi : i < f.length
  · rw [List.getElem?_eq_getElem hi]; exact h _ (List.getElem_mem hi)
  · rw [List.getElem?_eq_none (by omega)]; rfl
/-- Two polynomials of at most n coefficients that agree at n points are one. -/
theorem unique (hd : Dom p) (xs f g : List (Fin p)) (hn : xs.Nodup) (hf : f.length ≤ xs.length) (hg : g.length ≤ xs.length) (h : ∀ x ∈ xs, ev x f = ev x g) (i : Nat) : f.getD i 0 = g.getD i 0 := by
  have h1 := getD_zero (zero_of_roots hd xs (sub f g) hn (by rw [sub_length]; omega) fun x hx => by rw [ev_sub, h x hx]; grind) i
  rw [getD_sub] at h1
  grind
/-- Values do not see zeros at the end. -/
theorem ev_congr (x : Fin p) : ∀ f g : List (Fin p), (∀ i, f.getD i 0 = g.getD i 0) → ev x f = ev x g := by
  intro f g h
  have : ∀ c ∈ sub f g, c = 0 := by
    intro c hc
    obtain ⟨i, hi, rfl⟩ := List.getElem_of_mem hc
    have := getD_sub i f g
    rw [h i, List.getD_eq_getElem?_getD, List.getElem?_eq_getElem hi] at this
    simp only [Option.getD_some] at this
    rw [this]; grind
  have h0 : ∀ l : List (Fin p), (∀ c ∈ l, c = 0) → ev x l = 0 := by
    intro l
    induction l with
    | nil => intro _; rfl
    | cons c l ih => intro hl; rw [ev, ih (fun d hd => hl d (List.mem_cons_of_mem _ hd)), hl c (by simp)]; grind
  have h1 := h0 _ this
  rw [ev_sub] at h1
  grind
end
end Go.Proofs.Ytdbmhpfbbikjjaa.Pl
end
section
/-
  Plain mathematics: values of lists of residues, whole numbers as residues, products of linear factors. No program in sight.
-/
namespace Go.Proofs.Ytdbmhpfbbikjjaa.Pl
open Go.Proofs.Ytdbmhpfbbikjjaa.Fd

section
variable {p : Nat} [NeZero p]

/-- The n-th power. -/
def mono (x : Fin p) : Nat → Fin p
  | 0 => 1
  | n + 1 => x * mono x n
theorem mono_add (x : Fin p) (a : Nat) : ∀ b, mono x (a + b) = mono x a * mono x b
  | 0 => by simp only [mono, Nat.add_zero]; grind
  | b + 1 => by rw [← Nat.add_assoc]; simp only [mono]; rw [mono_add x a b]; grind
theorem ev_append (x : Fin p) : ∀ f g : List (Fin p), ev x (f ++ g) = ev x f + mono x f.length * ev x g
  | [], g => by simp only [List.nil_append, ev, List.length_nil, mono]; grind
  | c :: f, g => by simp only [List.cons_append, ev, List.length_cons, mono, ev_append x f g]; grind
theorem ev_zeros (x : Fin p) : ∀ n, ev x (List.replicate n 0) = 0
  | 0 => rfl
  | n + 1 => by simp only [List.replicate_succ, ev, ev_zeros x n]; grind
theorem ev_set (x v : Fin p) : ∀ (f : List (Fin p)) (i : Nat), i < f.length → ev x (f.set i v) = ev x f + (v - f.getD i 0) * mono x i
  | [], _, h => by simp at h
  | c :: f, 0, _ => by simp only [List.set_cons_zero, ev, mono, List.getD_cons_zero]; grind
  | c :: f, i + 1, h => by
    have := ev_set x v f i (by simpa using h)
    simp only [List.set_cons_succ, ev, mono, List.getD_cons_succ, this]; grind
theorem ev_take_succ (x : Fin p) : ∀ (f : List (Fin p)) (n : Nat), ev x (f.take (n + 1)) = ev x (f.take n) + f.getD n 0 * mono x n
  | [], n => by simp only [List.take_nil, List.getD_nil, ev]; grind
  | c :: f, 0 => by simp only [List.take_succ_cons, List.take_zero, ev, List.getD_cons_zero, mono]; grind
  | c :: f, n + 1 => by
    have := ev_take_succ x f n
    simp only [List.take_succ_cons, ev, List.getD_cons_succ, mono] at *
    rw [this]; grind
/-- A whole number's residue. -/
def tf (p : Nat) [NeZero p] (a : Int) : Fin p := ⟨(a % (p : Int)).toNat, by
  have h : (0 : Int) < p := by have := Nat.pos_of_neZero p; omega
  have := Int.emod_lt_of_pos a h
  have := Int.emod_nonneg a (by omega : (p : Int) ≠ 0)
  omega⟩
theorem tf_val (a : Int) : (((tf p a).val : Nat) : Int) = a % (p : Int) := by
  have h : (0 : Int) < p := by have := Nat.pos_of_neZero p; omega
  show (((a % (p : Int)).toNat : Nat) : Int) = _
  rw [Int.toNat_of_nonneg (Int.emod_nonneg a (by omega))]
theorem tf_eq {a : Int} {x : Fin p} (h : ((x.val : Nat) : Int) = a % (p : Int)) : tf p a = x := by
  apply Fin.ext
  have := tf_val (p := p) a
  omega
theorem tf_of_emod {a b : Int} (h : a % (p : Int) = b % (p : Int)) : tf p a = tf p b := tf_eq (by rw [tf_val, h])
theorem tf_emod (a : Int) : tf p (a % (p : Int)) = tf p a := tf_of_emod (Int.emod_emod_of_dvd _ (Int.dvd_refl _))
theorem tf_add (a b : Int) : tf p (a + b) = tf p a + tf p b := by
  refine tf_eq ?_
  rw [Fin.val_add, Int.natCast_emod, Int.natCast_add, tf_val, tf_val, ← Int.add_emod]
theorem tf_mul (a b : Int) : tf p (a * b) = tf p a * tf p b := by
  refine tf_eq ?_
  rw [Fin.val_mul, Int.natCast_emod, Int.natCast_mul, tf_val, tf_val, ← Int.mul_emod]
theorem tf_zero : tf p 0 = 0 := tf_eq (by simp)
theorem tf_one : tf p 1 = 1 := by
  refine tf_eq ?_
  rw [show ((1 : Fin p).val) = 1 % p from rfl]; simp
theorem tf_neg (a : Int) : tf p (-a) = - tf p a := by
  have h : tf p (-a) + tf p a = 0 := by rw [← tf_add, show -a + a = 0 from by omega, tf_zero]
  grind
theorem tf_sub (a b : Int) : tf p (a - b) = tf p a - tf p b := by rw [Int.sub_eq_add_neg, tf_add, tf_neg]; grind
theorem tf_of_val (x : Fin p) : tf p ((x.val : Nat) : Int) = x := tf_eq (by
  have := x.isLt
  rw [← Int.natCast_emod, Nat.mod_eq_of_lt this])
theorem tf_inj {a b : Int} (ha : 0 ≤ a ∧ a < (p : Int)) (hb : 0 ≤ b ∧ b < (p : Int)) (h : tf p a = tf p b) : a = b := by
  have h1 := tf_val (p := p) a
  rw [h, tf_val, Int.emod_eq_of_lt ha.1 ha.2, Int.emod_eq_of_lt hb.1 hb.2] at h1
  exact h1.symm
theorem getD_tf (l : List Int) (i : Nat) : (l.map (tf p)).getD i 0 = tf p (l.getD i 0) := by
  rw [List.getD_eq_getElem?_getD, List.getD_eq_getElem?_getD, List.getElem?_map]
  cases l[i]? with
  | none => simp [tf_zero]
  | some v => rfl
/-- The product of the factors y - o. -/
def lin (y : Fin p) : List (Fin p) → Fin p
  | [] => 1
  | o :: l => (y - o) * lin y l
theorem lin_zero {y : Fin p} : ∀ {l : List (Fin p)}, y ∈ l → lin y l = 0
  | o :: l, h => by
    rcases List.mem_cons.1 h with h | h
    · subst h; simp only [lin]; grind
    · simp only [lin]; rw [lin_zero h]; grind
end
end Go.Proofs.Ytdbmhpfbbikjjaa.Pl
end
section
/-
  What the hand-proved functions compute, as polynomials over the field: values, lengths, uniqueness.
-/
namespace Go.Proofs.Ytdbmhpfbbikjjaa.E
open Go.RowKit Go.Proofs.Ytdbmhpfbbikjjaa.Pr Go.Proofs.Ytdbmhpfbbikjjaa.Hw Go.Proofs.Ytdbmhpfbbikjjaa.Pl Go.Proofs.YtdbmhpfbbikjjaaW.PrintWords Go.Proofs.YtdbmhpfbbikjjaaW.PrintLast Go.Proofs.YtdbmhpfbbikjjaaW.PrintMore
set_option linter.unusedVariables false
set_option linter.unusedSimpArgs false

theorem nz {p : Int} (hp : Supp p) : NeZero p.toNat := ⟨by have := hp.bd; omega⟩
theorem cast_p {p : Int} (hp : Supp p) : ((p.toNat : Nat) : Int) = p := by have := hp.bd; omega
section
variable {p : Int} (hp : Supp p) [NeZero p.toNat]

/-- The residue, in the field. -/
def T (p : Int) [NeZero p.toNat] (a : Int) : Fin p.toNat := tf p.toNat a
def M (p : Int) [NeZero p.toNat] (l : List Int) : List (Fin p.toNat) := l.map (T p)
include hp in
theorem T_mod (a : Int) : T p (a % p) = T p a := by
  have h := tf_emod (p := p.toNat) a
  rw [cast_p hp] at h; exact h
theorem T_add (a b : Int) : T p (a + b) = T p a + T p b := tf_add a b
theorem T_mul (a b : Int) : T p (a * b) = T p a * T p b := tf_mul a b
theorem T_sub (a b : Int) : T p (a - b) = T p a - T p b := tf_sub a b
theorem T_neg (a : Int) : T p (-a) = - T p a := tf_neg a
theorem T_zero : T p 0 = 0 := tf_zero
theorem T_one : T p 1 = 1 := tf_one
include hp in
theorem T_inj {a b : Int} (ha : Res p a) (hb : Res p b) (h : T p a = T p b) : a = b :=
  tf_inj (p := p.toNat) (by rw [cast_p hp]; exact ha) (by rw [cast_p hp]; exact hb) h
include hp in
theorem T_inv {a : Int} (ha : Res p a) (h0 : a ≠ 0) : T p a * T p (invp p a) = 1 := by
  rw [← T_mul, ← T_one, ← T_mod hp (a * invp p a), inv_spec hp ha h0]
include hp in
theorem T_back (x : Fin p.toNat) : Res p ((x.val : Nat) : Int) ∧ T p ((x.val : Nat) : Int) = x := by
  have := x.isLt
  have := cast_p hp
  exact ⟨⟨by omega, by omega⟩, tf_of_val x⟩
include hp in
theorem dom : Dom p.toNat := by
  intro a b h
  obtain ⟨r, e⟩ := T_back hp a
  by_cases h0 : ((a.val : Nat) : Int) = 0
  · left; rw [← e, h0, T_zero]
  · right
    have h1 := T_inv hp r h0
    rw [e] at h1
    grind
include hp in
theorem ev_evI (x : Int) : ∀ l, T p (evI p x l) = ev (T p x) (M p l)
  | [] => T_zero
  | c :: l => by
    have := ev_evI x l
    simp only [evI, M, List.map_cons, ev]
    rw [T_mod hp, T_add, T_mod hp, T_mul, this, M]
    grind
theorem M_getD (l : List Int) (i : Nat) : (M p l).getD i 0 = T p (l.getD i 0) := getD_tf l i
theorem M_length (l : List Int) : (M p l).length = l.length := List.length_map _
theorem ev_trimL (x : Fin p.toNat) (l : List Int) : ev x (M p (trimL l)) = ev x (M p l) :=
  ev_congr x _ _ (fun i => by rw [M_getD, M_getD, trimL_getD])
theorem ev_grow (x : Fin p.toNat) (l : List Int) (n : Nat) : ev x (M p (grow l n)) = ev x (M p l) := by
  have : M p (grow l n) = M p l ++ List.replicate (n - l.length) 0 := by
    unfold grow M; rw [List.map_append, List.map_replicate, T_zero]
  rw [this, ev_append, ev_zeros]; grind
include hp in
theorem ev_put (x : Fin p.toNat) (l : List Int) (i : Nat) (k : Int) : ev x (M p (putL p l i k)) = ev x (M p l) + T p k * mono x i := by
  have hg : i < (grow l (i + 1)).length := by unfold grow; simp; omega
  have : M p (putL p l i k) = (M p (grow l (i + 1))).set i (T p ((grow l (i + 1)).getD i 0) + T p k) := by
    unfold putL M; rw [List.map_set, T_mod hp, T_add]
  rw [this, ev_set _ _ _ _ (by rw [M_length]; exact hg), ev_grow, M_getD]
  grind
include hp in
theorem ev_puts (x : Fin p.toNat) (m l : List Int) : ∀ n, ev x (M p (putsL p m l n)) = ev x (M p m) + ev x ((M p l).take n)
  | 0 => by simp only [putsL, List.take_zero, ev]; grind
  | n + 1 => by rw [putsL, ev_put hp, ev_puts x m l n, ev_take_succ, M_getD]; grind
theorem M_take_all (l : List Int) : (M p l).take l.length = M p l := by rw [← M_length (p := p) l, List.take_length]
include hp in
theorem ev_addP (x : Fin p.toNat) (a b : List Int) : ev x (M p (addP p a b)) = ev x (M p a) + ev x (M p b) := by
  unfold addP
  rw [ev_puts hp, ev_puts hp, M_take_all, M_take_all]
  show ev x [] + _ + _ = _
  simp only [ev]; grind
include hp in
theorem ev_row (x : Fin p.toNat) (m : List Int) (u : Int) (b : List Int) (i : Nat) : ∀ n, ev x (M p (rowL p m u b i n)) = ev x (M p m) + T p u * mono x i * ev x ((M p b).take n)
  | 0 => by simp only [rowL, List.take_zero, ev]; grind
  | n + 1 => by
    rw [rowL, ev_put hp, ev_row x m u b i n, ev_take_succ, M_getD, T_mod hp, T_mul, mono_add, rd_nat]; grind
include hp in
theorem ev_muls (x : Fin p.toNat) (a b : List Int) : ∀ n, ev x (M p (mulsL p a b n)) = ev x ((M p a).take n) * ev x (M p b)
  | 0 => by simp only [mulsL, List.take_zero, M, List.map_nil, ev]; grind
  | n + 1 => by rw [mulsL, ev_row hp, ev_muls x a b n, M_take_all, ev_take_succ, M_getD, rd_nat]; grind
include hp in
theorem ev_scaleL (x : Fin p.toNat) (k : Int) : ∀ l, ev x (M p (l.map fun v => k * v % p)) = T p k * ev x (M p l)
  | [] => by simp only [M, List.map_nil, ev]; grind
  | c :: l => by
    have := ev_scaleL x k l
    simp only [M, List.map_cons, ev] at *
    rw [this, T_mod hp, T_mul]; grind
include hp in
theorem M_nodup : ∀ {xs : List Int}, (∀ x ∈ xs, Res p x) → xs.Nodup → (M p xs).Nodup
  | [], _, _ => List.nodup_nil
  | a :: xs, h, hn => by
    have hn' := List.nodup_cons.1 hn
    refine List.nodup_cons.2 ⟨fun hm => ?_, M_nodup (fun x hx => h x (List.mem_cons_of_mem _ hx)) hn'.2⟩
    obtain ⟨b, hb, e⟩ := List.mem_map.1 hm
    have := T_inj hp (h b (List.mem_cons_of_mem _ hb)) (h a (by simp)) e
    exact hn'.1 (this ▸ hb)
end

/-- Two lists of residues with at most n coefficients that agree at n points are one, but for zeros at the end. -/
theorem uniq {p : Int} (hp : Supp p) {xs f g : List Int} (hx : ∀ x ∈ xs, Res p x) (hn : xs.Nodup) (hf : ∀ x ∈ f, Res p x) (hg : ∀ x ∈ g, Res p x) (lf : f.length ≤ xs.length) (lg : g.length ≤ xs.length)
    (h : ∀ x ∈ xs, evI p x f = evI p x g) : trimL f = trimL g := by
  haveI := nz hp
  have hb := hp.bd
  refine trimL_ext fun i => ?_
  have hz : ∀ {l : List Int}, (∀ x ∈ l, Res p x) → Res p (l.getD i 0) := by
    intro l hl
    rw [List.getD_eq_getElem?_getD]
    by_cases hi : i < l.length
    · rw [List.getElem?_eq_getElem hi]; exact hl _ (List.getElem_mem hi)
    · rw [List.getElem?_eq_none (by omega)]; exact ⟨Int.le_refl 0, by show (0 : Int) < p; omega⟩
  refine T_inj hp (hz hf) (hz hg) ?_
  rw [← M_getD, ← M_getD]
  refine unique (dom hp) (M p xs) (M p f) (M p g) (M_nodup hp hx hn) (by simp only [M_length]; exact lf) (by simp only [M_length]; exact lg) (fun y hy => ?_) i
  obtain ⟨x, hxx, rfl⟩ := List.mem_map.1 hy
  rw [← ev_evI hp, ← ev_evI hp, h x hxx]
theorem mulsL_lin_length {p : Int} (f : List Int) (o : Int) : ∀ n, (mulsL p f [o, 1] n).length ≤ n + 1 := by
  intro n
  induction n with
  | zero => simp [mulsL]
  | succ n ih =>
    show (rowL p (mulsL p f [o, 1] n) (rd f n) [o, 1] n 2).length ≤ _
    simp only [rowL, putL_length, Nat.add_zero]; omega
section
variable {p : Int} (hp : Supp p) [NeZero p.toNat]
include hp in
/-- The factors of one round, as values. -/
theorem polS_ev (y : Fin p.toNat) (X : Int) : ∀ (l : List Int) (s : List Int × Int),
    ev y (M p (l.foldl (polStep p X) s).1) = ev y (M p s.1) * lin y (M p l) ∧ T p (l.foldl (polStep p X) s).2 = T p s.2 * lin (T p X) (M p l) ∧ (l.foldl (polStep p X) s).1.length ≤ s.1.length + l.length
  | [], s => ⟨by show _ = _ * 1; grind, by show _ = _ * 1; grind, by simp⟩
  | o :: l, s => by
    obtain ⟨h1, h2, h3⟩ := polS_ev y X l (polStep p X s o)
    have e1 : ev y (M p (polStep p X s o).1) = ev y (M p s.1) * (y - T p o) := by
      show ev y (M p (trimL (mulsL p s.1 [-o % p, 1] s.1.length))) = _
      rw [ev_trimL, ev_muls hp, M_take_all]
      simp only [M, List.map_cons, List.map_nil, ev, T_mod hp, T_neg, T_one]
      grind
    have e2 : T p (polStep p X s o).2 = T p s.2 * (T p X - T p o) := by
      show T p (s.2 * ((X - o) % p) % p) = _
      rw [T_mod hp, T_mul, T_mod hp, T_sub]
    have e3 : (polStep p X s o).1.length ≤ s.1.length + 1 := Nat.le_trans (trimL_length _) (mulsL_lin_length s.1 _ _)
    simp only [List.foldl_cons, List.length_cons]
    rw [h1, h2, e1, e2]
    refine ⟨?_, ?_, by omega⟩
    · simp only [M, List.map_cons, lin]; grind
    · simp only [M, List.map_cons, lin]; grind
end

theorem othersN_len (xs : List Int) (i : Nat) : ∀ n, (othersN xs i n).length = if i < n then n - 1 else n
  | 0 => rfl
  | n + 1 => by
    have ih := othersN_len xs i n
    unfold othersN
    by_cases h : n = i
    · subst h; rw [if_pos rfl, ih, if_neg (by omega), if_pos (by omega)]; omega
    · rw [if_neg h, List.length_append, ih]
      by_cases h2 : i < n
      · rw [if_pos h2, if_pos (by omega)]; simp; omega
      · rw [if_neg h2, if_neg (by omega)]; simp
theorem othersN_has (xs : List Int) (i j : Nat) (hne : j ≠ i) : ∀ n, j < n → rd xs j ∈ othersN xs i n
  | n + 1, h => by
    unfold othersN
    by_cases hj : j = n
    · subst hj; rw [if_neg hne]; simp
    · have := othersN_has xs i j hne n (by omega)
      split
      · exact this
      · exact List.mem_append_left _ this
section
variable {p : Int} (hp : Supp p) [NeZero p.toNat]
/-- The sum of n values. -/
def sumF (f : Nat → Fin p.toNat) : Nat → Fin p.toNat
  | 0 => 0
  | n + 1 => sumF f n + f n
theorem sumF_one {f : Nat → Fin p.toNat} {j : Nat} : ∀ n, (∀ i, i < n → i ≠ j → f i = 0) → sumF f n = if j < n then f j else 0
  | 0, _ => rfl
  | n + 1, h => by
    simp only [sumF]
    rw [sumF_one n (fun i hi => h i (by omega))]
    by_cases hj : j = n
    · subst hj; rw [if_neg (by omega), if_pos (by omega)]; grind
    · rw [h n (by omega) (fun e => hj e.symm)]
      by_cases h2 : j < n
      · rw [if_pos h2, if_pos (by omega)]; grind
      · rw [if_neg h2, if_neg (by omega)]; grind
/-- The other places, in the field. -/
def oth (p : Int) [NeZero p.toNat] (xs : List Int) (i : Nat) : List (Fin p.toNat) := M p (othersN xs i xs.length)
/-- One over the product of the differences. -/
def dinv (p : Int) [NeZero p.toNat] (xs : List Int) (i : Nat) : Fin p.toNat := T p (invp p (lagS p 0 xs i).2)
include hp in
theorem lagS_ev (a : Int) (X : Int) : ∀ (l : List Int) (s : Int × Int),
    T p (l.foldl (lagStep p a X) s).1 = T p s.1 * lin (T p a) (M p l) ∧ T p (l.foldl (lagStep p a X) s).2 = T p s.2 * lin (T p X) (M p l)
  | [], s => ⟨by show _ = _ * 1; grind, by show _ = _ * 1; grind⟩
  | o :: l, s => by
    obtain ⟨h1, h2⟩ := lagS_ev a X l (lagStep p a X s o)
    simp only [List.foldl_cons, M, List.map_cons, lin]
    rw [h1, h2]
    simp only [lagStep, M]
    rw [T_mod hp, T_mod hp, T_mul, T_mul, T_mod hp, T_mod hp, T_sub, T_sub]
    constructor <;> grind
include hp in
theorem dinv_spec {xs : List Int} (hx : ∀ x ∈ xs, Res p x) (hn : xs.Nodup) (i : Nat) (hi : i < xs.length) : lin (T p (rd xs i)) (oth p xs i) * dinv p xs i = 1 := by
  have hb := hp.bd
  obtain ⟨h1, h2, h3⟩ := lagS_ok hp (a := 0) hx hn i hi
  have h := (lagS_ev hp 0 (rd xs i) (othersN xs i xs.length) (1, 1)).2
  have e := T_inv hp h2 h3
  have h' : T p (lagS p 0 xs i).2 = lin (T p (rd xs i)) (oth p xs i) := by
    unfold lagS oth; rw [h, T_one]; grind
  rw [h'] at e
  exact e
include hp in
theorem polTerm_ev {pts : List S38} (hx : PtsOk p pts) (hn : (xsOf pts).Nodup) (i : Nat) (hi : i < pts.length) (y : Fin p.toNat) :
    ev y (M p (polTerm p pts i)) = T p (rd_T38 pts (i : Int)).f1 * (lin y (oth p (xsOf pts) i) * dinv p (xsOf pts) i) := by
  have hl : (xsOf pts).length = pts.length := by simp [xsOf]
  obtain ⟨h1, h2, h3⟩ := polS_ev hp y (rd_T38 pts (i : Int)).f0 (othersN (xsOf pts) i pts.length) ([1], 1)
  obtain ⟨hr1, hr2, hlen, hD0⟩ := polS_ok hp hx hi hn
  have d := dinv_spec hp hx.xs hn i (by omega)
  have e := T_inv hp hr2 hD0
  unfold polTerm
  rw [ev_trimL, ev_scaleL hp, T_mod hp, T_mul]
  have e1 : ev y (M p (polS p pts i).1) = lin y (oth p (xsOf pts) i) := by
    unfold polS oth; rw [h1, hl]; simp only [M, List.map_cons, List.map_nil, ev, T_one]; grind
  have e2 : T p (polS p pts i).2 = lin (T p (rd (xsOf pts) i)) (oth p (xsOf pts) i) := by
    unfold polS oth; rw [h2, T_one, xsOf_rd pts i hi, hl]; grind
  rw [e1]
  rw [e2] at e
  generalize lin (T p (rd (xsOf pts) i)) (oth p (xsOf pts) i) = D at *
  have : T p (invp p (polS p pts i).2) = dinv p (xsOf pts) i := by grind
  rw [this]; grind
include hp in
theorem polSum_ev {pts : List S38} (hx : PtsOk p pts) (hn : (xsOf pts).Nodup) (y : Fin p.toNat) : ∀ n, n ≤ pts.length →
    ev y (M p (polSum p pts n)) = sumF (fun i => T p (rd_T38 pts (i : Int)).f1 * (lin y (oth p (xsOf pts) i) * dinv p (xsOf pts) i)) n
  | 0, _ => rfl
  | n + 1, h => by
    rw [polSum, ev_trimL, ev_addP hp, polSum_ev hx hn y n (by omega), polTerm_ev hp hx hn n (by omega) y]; rfl
include hp in
theorem polTerm_len {pts : List S38} (i : Nat) (hi : i < pts.length) : (polTerm p pts i).length ≤ pts.length := by
  obtain ⟨h1, h2, h3⟩ := polS_ev hp 0 (rd_T38 pts (i : Int)).f0 (othersN (xsOf pts) i pts.length) ([1], 1)
  rw [othersN_len, if_pos hi] at h3
  simp only [List.length_cons, List.length_nil] at h3
  refine Nat.le_trans (trimL_length _) ?_
  rw [List.length_map]
  unfold polS
  omega
include hp in
theorem polSum_len {pts : List S38} : ∀ n, n ≤ pts.length → (polSum p pts n).length ≤ pts.length
  | 0, _ => by simp [polSum]
  | n + 1, h => by
    have h1 := polSum_len (pts := pts) n (by omega)
    have h2 := polTerm_len hp (pts := pts) n (by omega)
    refine Nat.le_trans (trimL_length _) ?_
    rw [addP_length]; omega
include hp in
theorem polL_ev {pts : List S38} (hx : PtsOk p pts) (hn : (xsOf pts).Nodup) (y : Fin p.toNat) :
    ev y (M p (polL p pts)) = sumF (fun i => T p (rd_T38 pts (i : Int)).f1 * (lin y (oth p (xsOf pts) i) * dinv p (xsOf pts) i)) pts.length := by
  unfold polL; rw [ev_trimL, polSum_ev hp hx hn y pts.length (Nat.le_refl _)]
end

theorem polL_res {p : Int} (hp : Supp p) {pts : List S38} (hx : PtsOk p pts) : ∀ x ∈ polL p pts, Res p x := fun x h => (polSum_ok hp hx pts.length (Nat.le_refl _)).1 x (trimL_mem h)
theorem polL_len {p : Int} (hp : Supp p) {pts : List S38} : (polL p pts).length ≤ pts.length := by
  haveI := nz hp
  exact Nat.le_trans (trimL_length _) (polSum_len hp pts.length (Nat.le_refl _))
theorem polL_trim (p : Int) (pts : List S38) : trimL (polL p pts) = polL p pts := trimL_trimL _
/-- The polynomial passes through the points. -/
theorem polL_at {p : Int} (hp : Supp p) {pts : List S38} (hx : PtsOk p pts) (hn : (xsOf pts).Nodup) (j : Nat) (hj : j < pts.length) :
    evI p (rd_T38 pts (j : Int)).f0 (polL p pts) = (rd_T38 pts (j : Int)).f1 := by
  haveI := nz hp
  have hl : (xsOf pts).length = pts.length := by simp [xsOf]
  refine T_inj hp (evI_res hp _ _) (hx.at_ j hj).2 ?_
  rw [ev_evI hp, polL_ev hp hx hn, sumF_one (j := j) _ (fun i hi hij => ?_), if_pos hj]
  · have d := dinv_spec hp hx.xs hn j (by omega)
    rw [xsOf_rd pts j hj] at d
    grind
  · have : lin (T p (rd_T38 pts (j : Int)).f0) (oth p (xsOf pts) i) = 0 := by
      refine lin_zero ?_
      rw [← xsOf_rd pts j hj]
      exact List.mem_map_of_mem (othersN_has _ _ _ (fun e => hij e.symm) _ (by omega))
    rw [this]; grind
/-- What is known of a polynomial through the points. -/
theorem polL_char {p : Int} (hp : Supp p) {pts : List S38} (hx : PtsOk p pts) (hn : (xsOf pts).Nodup) {g : List Int} (hg : ∀ x ∈ g, Res p x) (lg : g.length ≤ pts.length)
    (h : ∀ j, j < pts.length → evI p (rd_T38 pts (j : Int)).f0 g = (rd_T38 pts (j : Int)).f1) : polL p pts = trimL g := by
  have hl : (xsOf pts).length = pts.length := by simp [xsOf]
  rw [← polL_trim]
  refine uniq hp hx.xs hn (polL_res hp hx) hg (by rw [hl]; exact polL_len hp) (by omega) (fun x hxx => ?_)
  obtain ⟨j, hj, rfl⟩ := List.getElem_of_mem hxx
  have e := xsOf_rd pts j (by omega)
  rw [rd_nat, Hw.getD_in _ _ hj] at e
  rw [e, polL_at hp hx hn j (by omega), h j (by omega)]
end Go.Proofs.Ytdbmhpfbbikjjaa.E
end
section
/- Printed by a program of this seat (the kit's printer, with the functions that were proved by hand given to it). What stands here: the functions that the statements reach, as plain functions, and that the Go code computes them. -/
namespace Go.Proofs.Ytdbmhpfbbikjjaa.Pr
open Go.RowKit Go.Proofs.YtdbmhpfbbikjjaaW.PrintWords Go.Proofs.YtdbmhpfbbikjjaaW.PrintLast Go.Proofs.YtdbmhpfbbikjjaaW.PrintMore
attribute [local go_sem] max2_int min2_int max_two min_two max_three min_three max_four min_four   -- for this text's walks alone
set_option linter.unusedVariables false
set_option linter.unusedSimpArgs false

open Go.Proofs.Ytdbmhpfbbikjjaa.Hw
/-! ### privityref04_Coefficient: function 61 -/
/-! ### privityref04_Add: function 45 -/
/-! ### privityref04_Scale: function 46 -/
end Go.Proofs.Ytdbmhpfbbikjjaa.Pr
end
section
/-
  The reference of layer 4: what its printed functions answer.
-/
namespace Go.Proofs.Ytdbmhpfbbikjjaa.E
open Go.RowKit Go.Proofs.Ytdbmhpfbbikjjaa.Pr Go.Proofs.Ytdbmhpfbbikjjaa.Hw Go.Proofs.Ytdbmhpfbbikjjaa.Pl Go.Proofs.YtdbmhpfbbikjjaaW.PrintWords Go.Proofs.YtdbmhpfbbikjjaaW.PrintLast Go.Proofs.YtdbmhpfbbikjjaaW.PrintMore
set_option linter.unusedVariables false
set_option linter.unusedSimpArgs false

theorem getD_out (l : List Int) (j : Nat) (h : l.length ≤ j) : l.getD j 0 = 0 := by rw [List.getD_eq_getElem?_getD, List.getElem?_eq_none h]; rfl
theorem res_getD {p : Int} (hp : Supp p) {l : List Int} (hl : ∀ x ∈ l, Res p x) (i : Nat) : Res p (l.getD i 0) := by
  have hb := hp.bd
  by_cases hi : i < l.length
  · rw [Hw.getD_in _ _ hi]; exact hl _ (List.getElem_mem hi)
  · rw [getD_out l i (by omega)]; exact ⟨Int.le_refl 0, by show (0 : Int) < p; omega⟩
/-! ### Coefficients of what the program adds up -/
/-! ### Sum -/
/-! ### Scale -/
/-! ### Eval -/
/-! ### Product -/
theorem list_ext_getD {a b : List Int} (hl : a.length = b.length) (h : ∀ i, a.getD i 0 = b.getD i 0) : a = b := by
  apply List.ext_getElem hl
  intro i h1 h2
  have := h i
  rwa [Hw.getD_in _ _ h1, Hw.getD_in _ _ h2] at this
end Go.Proofs.Ytdbmhpfbbikjjaa.E
end
section
/- Printed by a program of this seat (the kit's printer, with the functions that were proved by hand given to it). What stands here: the functions that the statements reach, as plain functions, and that the Go code computes them. -/
namespace Go.Proofs.Ytdbmhpfbbikjjaa.Pr
open Go.RowKit Go.Proofs.YtdbmhpfbbikjjaaW.PrintWords Go.Proofs.YtdbmhpfbbikjjaaW.PrintLast Go.Proofs.YtdbmhpfbbikjjaaW.PrintMore
attribute [local go_sem] max2_int min2_int max_two min_two max_three min_three max_four min_four   -- for this text's walks alone
set_option linter.unusedVariables false
set_option linter.unusedSimpArgs false

open Go.Proofs.Ytdbmhpfbbikjjaa.Hw
/-! ### privityref05_Polynomial: function 22 -/
end Go.Proofs.Ytdbmhpfbbikjjaa.Pr
end
section
/- Printed by a program of this seat (the kit's printer, with the functions that were proved by hand given to it). What stands here: the functions that the statements reach, as plain functions, and that the Go code computes them. -/
namespace Go.Proofs.Ytdbmhpfbbikjjaa.Pr
open Go.RowKit Go.Proofs.YtdbmhpfbbikjjaaW.PrintWords Go.Proofs.YtdbmhpfbbikjjaaW.PrintLast Go.Proofs.YtdbmhpfbbikjjaaW.PrintMore
attribute [local go_sem] max2_int min2_int max_two min_two max_three min_three max_four min_four   -- for this text's walks alone
set_option linter.unusedVariables false
set_option linter.unusedSimpArgs false

open Go.Proofs.Ytdbmhpfbbikjjaa.Hw
/-! ### privityref05_Vandermonde: function 28 -/
end Go.Proofs.Ytdbmhpfbbikjjaa.Pr
end
section
/-
  The reference of layer 5: what its printed functions answer.
-/
namespace Go.Proofs.Ytdbmhpfbbikjjaa.E
open Go.RowKit Go.Proofs.Ytdbmhpfbbikjjaa.Pr Go.Proofs.Ytdbmhpfbbikjjaa.Hw Go.Proofs.Ytdbmhpfbbikjjaa.Pl Go.Proofs.YtdbmhpfbbikjjaaW.PrintWords Go.Proofs.YtdbmhpfbbikjjaaW.PrintLast Go.Proofs.YtdbmhpfbbikjjaaW.PrintMore
set_option linter.unusedVariables false
set_option linter.unusedSimpArgs false

/-- A loop that answers false at the first i that Q does not hold of. -/
theorem allLoop {F : Nat → Int → Option Bool} {n : Nat} {Q : Nat → Prop} [DecidablePred Q] (hend : ∀ k, F (k + 1) (n : Int) = some true) (hyes : ∀ i, i < n → Q i → ∀ r, Ev (fun k => F k ((i + 1 : Nat) : Int)) r → Ev (fun k => F k (i : Int)) r)
    (hno : ∀ i, i < n → ¬ Q i → Ev (fun k => F k (i : Int)) false) (r : Bool) (hr : r = true ↔ ∀ i, i < n → Q i) : Ev (fun k => F k ((0 : Nat) : Int)) r := by
  have main : ∀ d i, i + d = n → ∀ r : Bool, (r = true ↔ ∀ j, i ≤ j → j < n → Q j) → Ev (fun k => F k (i : Int)) r := by
    intro d
    induction d with
    | zero =>
      intro i hi r hr
      have : i = n := by omega
      subst this
      have : r = true := hr.2 (fun j h1 h2 => by omega)
      subst this
      exact Ev.step (fun k => hend k) (Ev.now _)
    | succ d ih =>
      intro i hi r hr
      by_cases h : Q i
      · refine hyes i (by omega) h r (ih (i + 1) (by omega) r ⟨fun e j h1 h2 => hr.1 e j (by omega) h2, fun e => hr.2 fun j h1 h2 => ?_⟩)
        by_cases e2 : j = i
        · rw [e2]; exact h
        · exact e j (by omega) h2
      · have : r = false := by
          cases r with
          | false => rfl
          | true => exact absurd (hr.1 rfl i (Nat.le_refl _) (by omega)) h
        subst this
        exact hno i (by omega) h
  exact main n 0 (by omega) r ⟨fun e j _ h2 => hr.1 e j h2, fun e => hr.2 fun j h => e j (Nat.zero_le _) h⟩
theorem same_ev (a b : List Int) (ha : a.length ≤ 1000000000) : Ev (fun k => privityref05_Same.f k a b) (decide (a = b)) := by
  by_cases hl : a.length = b.length
  · have h := allLoop (F := fun k i => privityref05_Same.l0 k a b i) (n := a.length) (Q := fun i => a.getD i 0 = b.getD i 0) (fun k => ?_) (fun i hi hq r h => ?_) (fun i hi hq => ?_) (decide (a = b)) ?_
    · refine h.congr fun k => ?_
      unfold privityref05_Same.f
      rw [if_pos (by omega)]; rfl
    · simp only [privityref05_Same.l0]
      rw [if_neg (by omega)]
    · refine Ev.step (fun k => ?_) h
      simp only [privityref05_Same.l0]
      rw [if_pos (by omega), if_pos (by omega), if_pos (by omega), rd_nat, rd_nat, if_pos hq, wnat (by omega)]
    · refine Ev.step (fun k => ?_) (Ev.now _)
      simp only [privityref05_Same.l0]
      rw [if_pos (by omega), if_pos (by omega), if_pos (by omega), rd_nat, rd_nat, if_neg hq]
    · rw [decide_eq_true_iff]
      refine ⟨fun e i _ => by rw [e], fun h => list_ext_getD hl fun i => ?_⟩
      by_cases hi : i < a.length
      · exact h i hi
      · rw [getD_out a i (by omega), getD_out b i (by omega)]
  · have : decide (a = b) = false := decide_eq_false fun e => hl (by rw [e])
    rw [this]
    refine Ev.congr (fun k => ?_) (Ev.now _)
    unfold privityref05_Same.f
    rw [if_neg (by omega)]
def belowB (p : Int) (l : List Int) : Bool := l.all fun x => decide (x < p)
theorem below_ev (p : Int) (l : List Int) (hl : l.length ≤ 1000000000) : Ev (fun k => privityref05_Below.f k p l) (belowB p l) := by
  have h := allLoop (F := fun k i => privityref05_Below.l0 k p l i) (n := l.length) (Q := fun i => l.getD i 0 < p) (fun k => ?_) (fun i hi hq r h => ?_) (fun i hi hq => ?_) (belowB p l) ?_
  · exact h
  · simp only [privityref05_Below.l0]
    rw [if_neg (by omega)]
  · refine Ev.step (fun k => ?_) h
    simp only [privityref05_Below.l0]
    rw [if_pos (by omega), if_pos (by omega), rd_nat, if_neg (by omega), wnat (by omega)]
  · refine Ev.step (fun k => ?_) (Ev.now _)
    simp only [privityref05_Below.l0]
    rw [if_pos (by omega), if_pos (by omega), rd_nat, if_pos (by omega)]
  · unfold belowB
    rw [List.all_eq_true]
    refine ⟨fun h i hi => ?_, fun h x hx => ?_⟩
    · rw [Hw.getD_in _ _ hi]; exact of_decide_eq_true (h _ (List.getElem_mem hi))
    · obtain ⟨i, hi, rfl⟩ := List.getElem_of_mem hx
      have := h i hi
      rw [Hw.getD_in _ _ hi] at this
      exact decide_eq_true this
theorem below_res {p : Int} {l : List Int} (h : belowB p l = true) (hw : ∀ x ∈ l, 0 ≤ x) : ∀ x ∈ l, Res p x := fun x hx => ⟨hw x hx, of_decide_eq_true (List.all_eq_true.1 h x hx)⟩
def belowP (p : Int) (l : List S38) : Bool := l.all fun x => decide (x.f0 < p) && decide (x.f1 < p)
theorem points_ev (p : Int) (l : List S38) (hl : l.length ≤ 1000000000) : Ev (fun k => privityref05_Points.f k p l) (belowP p l) := by
  have h := allLoop (F := fun k i => privityref05_Points.l0 k p l i) (n := l.length) (Q := fun i => (rd_T38 l (i : Int)).f0 < p ∧ (rd_T38 l (i : Int)).f1 < p) (fun k => ?_) (fun i hi hq r h => ?_) (fun i hi hq => ?_) (belowP p l) ?_
  · exact h
  · simp only [privityref05_Points.l0]
    rw [if_neg (by omega)]
  · refine Ev.step (fun k => ?_) h
    simp only [privityref05_Points.l0]
    rw [if_pos (by omega), if_pos (by omega), if_neg (by omega), if_neg (by omega), wnat (by omega)]
  · refine Ev.step (fun k => ?_) (Ev.now _)
    simp only [privityref05_Points.l0]
    rw [if_pos (by omega), if_pos (by omega)]
    by_cases h1 : (rd_T38 l (i : Int)).f0 < p
    · rw [if_neg (by omega), if_pos (by omega)]
    · rw [if_pos (by omega)]
  · unfold belowP
    rw [List.all_eq_true]
    refine ⟨fun h i hi => ?_, fun h x hx => ?_⟩
    · rw [rdT_nat _ _ hi]; simpa using h _ (List.getElem_mem hi)
    · obtain ⟨i, hi, rfl⟩ := List.getElem_of_mem hx
      have := h i hi
      rw [rdT_nat _ _ hi] at this
      simpa using this
theorem points_res {p : Int} {l : List S38} (h : belowP p l = true) (hw : ∀ x ∈ l, 0 ≤ x.f0 ∧ 0 ≤ x.f1) : PtsOk p l := by
  intro x hx
  have := List.all_eq_true.1 h x hx
  simp only [Bool.and_eq_true, decide_eq_true_eq] at this
  exact ⟨⟨(hw x hx).1, this.1⟩, ⟨(hw x hx).2, this.2⟩⟩
theorem places_ev (l : List S38) (hl : l.length ≤ 1000000000) : Ev (fun k => privityref05_Places.f k l) (xsOf l) := by
  have := up (Q := fun i => Ev (fun k => privityref05_Places.l0 k l (xsOf (l.take i)) (i : Int)) (xsOf l)) (n := l.length) ?_ ?_
  · exact this
  · rw [List.take_length]
    refine Ev.step (fun k => ?_) (Ev.now _)
    simp only [privityref05_Places.l0]
    rw [if_neg (by omega)]
  · intro i hi h
    rw [← xsOf_next l i hi] at h
    refine Ev.step (fun k => ?_) h
    simp only [privityref05_Places.l0]
    rw [if_pos (by omega), if_pos (by omega), if_pos (by rw [xsOf_take_length l i (by omega)]; omega), wnat (by omega)]
theorem unlike_ev (l : List Int) (hl : l.length ≤ 1000000000) : Ev (fun k => privityref05_Unlike.f k l) (decide l.Nodup) := by
  have h := allLoop (F := fun k i => privityref05_Unlike.l0 k l i) (n := l.length) (Q := fun i => ∀ j, j < i → l.getD i 0 ≠ l.getD j 0) (fun k => ?_) (fun i hi hq r h => ?_) (fun i hi hq => ?_) (decide l.Nodup) ?_
  · exact h
  · simp only [privityref05_Unlike.l0]
    rw [if_neg (by omega)]
  · have row : Ev (fun k => privityref05_Unlike.l1 k l (i : Int) ((0 : Nat) : Int)) r := by
      refine up (Q := fun j => Ev (fun k => privityref05_Unlike.l1 k l (i : Int) (j : Int)) r) (n := i) ?_ ?_
      · refine Ev.step (fun k => ?_) h
        simp only [privityref05_Unlike.l1]
        rw [if_neg (by omega), wnat (by omega)]
      · intro j hj h2
        refine Ev.step (fun k => ?_) h2
        simp only [privityref05_Unlike.l1]
        rw [if_pos (by omega), if_pos (by omega), if_pos (by omega), if_pos (by omega), if_pos (by omega), rd_nat, rd_nat, if_neg (hq j hj), wnat (by omega)]
    refine Ev.step (fun k => ?_) row
    simp only [privityref05_Unlike.l0]
    rw [if_pos (by omega)]; rfl
  · have row : Ev (fun k => privityref05_Unlike.l1 k l (i : Int) ((0 : Nat) : Int)) false := by
      obtain ⟨j, hj, he⟩ : ∃ j, j < i ∧ l.getD i 0 = l.getD j 0 := by
        apply Classical.byContradiction
        intro hc
        exact hq fun j hj e => hc ⟨j, hj, e⟩
      refine up (Q := fun j => Ev (fun k => privityref05_Unlike.l1 k l (i : Int) (j : Int)) false) (n := j) ?_ ?_
      · refine Ev.step (fun k => ?_) (Ev.now _)
        simp only [privityref05_Unlike.l1]
        rw [if_pos (by omega), if_pos (by omega), if_pos (by omega), if_pos (by omega), if_pos (by omega), rd_nat, rd_nat, if_pos he]
      · intro j' hj' h2
        by_cases e : l.getD i 0 = l.getD j' 0
        · refine Ev.step (fun k => ?_) (Ev.now _)
          simp only [privityref05_Unlike.l1]
          rw [if_pos (by omega), if_pos (by omega), if_pos (by omega), if_pos (by omega), if_pos (by omega), rd_nat, rd_nat, if_pos e]
        · refine Ev.step (fun k => ?_) h2
          simp only [privityref05_Unlike.l1]
          rw [if_pos (by omega), if_pos (by omega), if_pos (by omega), if_pos (by omega), if_pos (by omega), rd_nat, rd_nat, if_neg e, wnat (by omega)]
    refine Ev.step (fun k => ?_) row
    simp only [privityref05_Unlike.l0]
    rw [if_pos (by omega)]; rfl
  · rw [decide_eq_true_iff, List.nodup_iff_pairwise_ne, List.pairwise_iff_getElem]
    refine ⟨fun h i hi j hj e => ?_, fun h i j hi hj hij e => ?_⟩
    · rw [Hw.getD_in _ _ hi, Hw.getD_in _ _ (by omega)] at e
      exact h j i (by omega) hi hj e.symm
    · have := h j hj i hij
      rw [Hw.getD_in _ _ hi, Hw.getD_in _ _ hj] at this
      exact this e.symm
end Go.Proofs.Ytdbmhpfbbikjjaa.E
end
section
/-
  The reference's Lagrange formula: the same polynomial, the same weights.
-/
namespace Go.Proofs.Ytdbmhpfbbikjjaa.E
open Go.RowKit Go.Proofs.Ytdbmhpfbbikjjaa.Pr Go.Proofs.Ytdbmhpfbbikjjaa.Hw Go.Proofs.Ytdbmhpfbbikjjaa.Pl Go.Proofs.YtdbmhpfbbikjjaaW.PrintWords Go.Proofs.YtdbmhpfbbikjjaaW.PrintLast Go.Proofs.YtdbmhpfbbikjjaaW.PrintMore
set_option linter.unusedVariables false
set_option linter.unusedSimpArgs false

section
variable {p : Int} (hp : Supp p) [NeZero p.toNat]
end

/-! ### Weights -/
/-! ### Polynomial -/
end Go.Proofs.Ytdbmhpfbbikjjaa.E
end
section
/-
  What the statements of chapter 5 share: the first check, the guards, sums.
-/
namespace Go.Proofs.Ytdbmhpfbbikjjaa.E
open Go.RowKit Go.Proofs.Ytdbmhpfbbikjjaa.Pr Go.Proofs.Ytdbmhpfbbikjjaa.Hw Go.Proofs.Ytdbmhpfbbikjjaa.Pl Go.Proofs.YtdbmhpfbbikjjaaW.PrintWords Go.Proofs.YtdbmhpfbbikjjaaW.PrintLast Go.Proofs.YtdbmhpfbbikjjaaW.PrintMore
set_option linter.unusedVariables false
set_option linter.unusedSimpArgs false

theorem awake05 : Ev (fun k => privitylaw05_awake.f k) true := Ev.of (fun k => privitylaw05_awake.mono _) (k := 40) (by kernel_rfl)
end Go.Proofs.Ytdbmhpfbbikjjaa.E
end
section
/-
  Guards, sums, and the hand-proved functions' answers, for the statements.
-/
namespace Go.Proofs.Ytdbmhpfbbikjjaa.E
open Go.RowKit Go.Proofs.Ytdbmhpfbbikjjaa.Pr Go.Proofs.Ytdbmhpfbbikjjaa.Hw Go.Proofs.Ytdbmhpfbbikjjaa.Pl Go.Proofs.YtdbmhpfbbikjjaaW.PrintWords Go.Proofs.YtdbmhpfbbikjjaaW.PrintLast Go.Proofs.YtdbmhpfbbikjjaaW.PrintMore
set_option linter.unusedVariables false
set_option linter.unusedSimpArgs false

theorem wf64 {x : Int} (h : (Lit.int .u64 x).wf = true) : 0 ≤ x ∧ x < 18446744073709551616 := by
  have h1 : IntKind.u64.min ≤ x ∧ x ≤ IntKind.u64.max := by simpa [Lit.wf] using h
  have e1 : IntKind.u64.min = 0 := by decide
  have e2 : IntKind.u64.max = 18446744073709551615 := by decide
  omega
/-- A check, and both ways on. -/
theorem ev_if {α : Type} {A : Nat → Option Bool} {b : Bool} (hA : Ev A b) {X Y : Nat → Option α} {r : α} (hx : b = true → Ev X r) (hy : b = false → Ev Y r) : Ev (fun k => (A k).bind fun t => if t = true then X k else Y k) r := by
  refine Ev.bind (f := fun k t => if t = true then X k else Y k) hA ?_
  cases b with
  | true => exact (hx rfl).congr fun k => if_pos rfl
  | false => exact (hy rfl).congr fun k => if_neg (by simp)
theorem ev_ite {α : Type} {c : Prop} [Decidable c] {X Y : Nat → Option α} {r : α} (hx : c → Ev X r) (hy : ¬ c → Ev Y r) : Ev (fun k => if c then X k else Y k) r := by
  by_cases h : c
  · exact (hx h).congr fun k => if_pos h
  · exact (hy h).congr fun k => if_neg h
/-- A check whose negation is handed on. -/
theorem ev_now_bind {α β : Type} {x : Option α} {a : α} (hx : x = some a) {f : Nat → α → Option β} {r : β} (h : Ev (fun k => f k a) r) : Ev (fun k => x.bind (f k)) r := by subst hx; exact h
theorem ipol_eq {p : Int} (hp : Supp p) {pts : List S38} (hx : PtsOk p pts) (hl : pts.length ≤ 12) : interpolate_Polynomial.f p pts = some (if (xsOf pts).Nodup then polL p pts else [], if (xsOf pts).Nodup then 0 else 1) := by
  unfold interpolate_Polynomial.f
  rw [if_pos (supB_iff.2 hp), if_pos (ptsB_iff.2 hx), if_pos hl]
theorem padd_eq {p : Int} (hp : Supp p) {a b : List Int} (ha : ∀ x ∈ a, Res p x) (hb : ∀ x ∈ b, Res p x) (la : a.length ≤ 1000000) (lb : b.length ≤ 1000000) : poly_Add.f p a b = some (trimL (addP p a b)) := by
  unfold poly_Add.f
  rw [if_pos (supB_iff.2 hp), if_pos (ressB_iff.2 ha), if_pos (ressB_iff.2 hb), if_pos la, if_pos lb]
theorem evI_addP {p : Int} (hp : Supp p) (x : Int) (a b : List Int) : evI p x (trimL (addP p a b)) = (evI p x a + evI p x b) % p := by
  haveI := nz hp
  refine T_inj hp (evI_res hp _ _) (Res.mod hp _) ?_
  rw [ev_evI hp, ev_trimL, ev_addP hp, T_mod hp, T_add, ev_evI hp, ev_evI hp]
theorem evI_trimL {p : Int} (hp : Supp p) (x : Int) (a : List Int) : evI p x (trimL a) = evI p x a := by
  haveI := nz hp
  refine T_inj hp (evI_res hp _ _) (evI_res hp _ _) ?_
  rw [ev_evI hp, ev_trimL, ev_evI hp]
end Go.Proofs.Ytdbmhpfbbikjjaa.E
end
section
/-
  Interpolating the sums of two lists of values yields the sum of both polynomials.
-/
namespace Go.Proofs.Ytdbmhpfbbikjjaa.Pure
open Go.RowKit Go.Proofs.Ytdbmhpfbbikjjaa.Pr Go.Proofs.Ytdbmhpfbbikjjaa.Hw Go.Proofs.Ytdbmhpfbbikjjaa.E Go.Proofs.YtdbmhpfbbikjjaaW.PrintWords Go.Proofs.YtdbmhpfbbikjjaaW.PrintLast Go.Proofs.YtdbmhpfbbikjjaaW.PrintMore
set_option linter.unusedVariables false
set_option linter.unusedSimpArgs false

/-- The same places, other values. -/
def mkP (pts : List S38) (g : Nat → Int) (n : Nat) : List S38 := (List.range n).map fun (j : Nat) => ⟨(rd_T38 pts (j : Int)).f0, g j⟩
theorem mkP_next (pts : List S38) (g : Nat → Int) (n : Nat) : mkP pts g n ++ [⟨(rd_T38 pts (n : Int)).f0, g n⟩] = mkP pts g (n + 1) := by
  unfold mkP; rw [List.range_succ, List.map_append]; rfl
theorem mkP_length (pts : List S38) (g : Nat → Int) (n : Nat) : (mkP pts g n).length = n := by unfold mkP; simp
theorem mkP_rd (pts : List S38) (g : Nat → Int) (n j : Nat) (hj : j < n) : rd_T38 (mkP pts g n) (j : Int) = ⟨(rd_T38 pts (j : Int)).f0, g j⟩ := by
  rw [rdT_nat _ _ (by rw [mkP_length]; exact hj)]; simp [mkP]
theorem mkP_xs (pts : List S38) (g : Nat → Int) : xsOf (mkP pts g pts.length) = xsOf pts := by
  apply List.ext_getElem
  · simp [xsOf, mkP]
  · intro i h1 h2
    have hi : i < pts.length := by simpa [xsOf] using h2
    simp only [xsOf, mkP, List.getElem_map, List.getElem_range]
    rw [rdT_nat _ _ hi]
theorem mkP_ok {p : Int} {pts : List S38} (hx : PtsOk p pts) {g : Nat → Int} (hg : ∀ j, j < pts.length → Res p (g j)) : PtsOk p (mkP pts g pts.length) := by
  intro y hy
  obtain ⟨j, hj, rfl⟩ := List.mem_map.1 hy
  have := List.mem_range.1 hj
  exact ⟨(hx.at_ j this).1, hg j this⟩
theorem linear_eq {p : Int} (hp : Supp p) {pts : List S38} (hx : PtsOk p pts) (hn : (xsOf pts).Nodup) {by_ : List Int} (hb : ∀ x ∈ by_, Res p x) :
    polL p (mkP pts (fun j => ((rd_T38 pts (j : Int)).f1 + by_.getD j 0) % p) pts.length) = trimL (addP p (polL p pts) (polL p (mkP pts (fun j => by_.getD j 0) pts.length))) := by
  have hx1 : PtsOk p (mkP pts (fun j => by_.getD j 0) pts.length) := mkP_ok hx fun j _ => res_getD hp hb j
  have hx2 : PtsOk p (mkP pts (fun j => ((rd_T38 pts (j : Int)).f1 + by_.getD j 0) % p) pts.length) := mkP_ok hx fun j _ => Res.mod hp _
  have l1 := polL_len hp (pts := pts)
  have l2 := polL_len hp (pts := mkP pts (fun j => by_.getD j 0) pts.length)
  rw [mkP_length] at l2
  refine polL_char hp hx2 (by rw [mkP_xs]; exact hn) (addP_res hp _ _) (by rw [addP_length, mkP_length]; omega) (fun j hj => ?_)
  rw [mkP_length] at hj
  rw [mkP_rd _ _ _ _ hj, ← evI_trimL hp, evI_addP hp, polL_at hp hx hn j hj]
  have h2 := polL_at hp hx1 (by rw [mkP_xs]; exact hn) j (by rw [mkP_length]; exact hj)
  rw [mkP_rd _ _ _ _ hj] at h2
  simp only at h2 ⊢
  rw [h2]
theorem linear_skip (p : Int) (pts : List S38) (l : List Int) : Ev (fun k => privitylaw05_InterpolateIsLinear.j0 k p pts l true) true :=
  Ev.step (f := fun _ => some true) (fun k => by simp only [privitylaw05_InterpolateIsLinear.j0]; rw [if_pos trivial]) (Ev.now _)
theorem linear_main {p : Int} (hp : Supp p) {pts : List S38} (hx : PtsOk p pts) (hn : (xsOf pts).Nodup) (lx : pts.length ≤ 12) {l : List Int} (hb : ∀ x ∈ l, Res p x) (ll : l.length = pts.length) : Ev (fun k => privitylaw05_InterpolateIsLinear.j0 k p pts l false) true := by
  have hx1 : PtsOk p (mkP pts (fun j => l.getD j 0) pts.length) := mkP_ok hx fun j _ => res_getD hp hb j
  have hx2 : PtsOk p (mkP pts (fun j => ((rd_T38 pts (j : Int)).f1 + l.getD j 0) % p) pts.length) := mkP_ok hx fun j _ => Res.mod hp _
  have e0 := ipol_eq hp hx lx
  have e1 := ipol_eq hp hx1 (by rw [mkP_length]; exact lx)
  have e2 := ipol_eq hp hx2 (by rw [mkP_length]; exact lx)
  rw [if_pos hn, if_pos hn] at e0
  rw [mkP_xs, if_pos hn, if_pos hn] at e1 e2
  rw [linear_eq hp hx hn hb] at e2
  have l1 := polL_len hp (pts := pts)
  have l2 := polL_len hp (pts := mkP pts (fun j => l.getD j 0) pts.length)
  rw [mkP_length] at l2
  have ha := padd_eq hp (polL_res hp hx) (polL_res hp hx1) (by omega) (by omega)
  have ls : (trimL (addP p (polL p pts) (polL p (mkP pts (fun j => l.getD j 0) pts.length)))).length ≤ 1000000000 := by
    refine Nat.le_trans (trimL_length _) ?_
    rw [addP_length]; omega
  have main : Ev (fun k => privitylaw05_InterpolateIsLinear.l0 k p pts l (mkP pts (fun j => l.getD j 0) 0) (mkP pts (fun j => ((rd_T38 pts (j : Int)).f1 + l.getD j 0) % p) 0) ((0 : Nat) : Int)) true := by
    refine up (Q := fun i => Ev (fun k => privitylaw05_InterpolateIsLinear.l0 k p pts l (mkP pts (fun j => l.getD j 0) i) (mkP pts (fun j => ((rd_T38 pts (j : Int)).f1 + l.getD j 0) % p) i) (i : Int)) true) (n := pts.length) ?_ ?_
    · refine Ev.step (f := fun k => (interpolate_Polynomial.f p pts).bind fun bt334 => ((interpolate_Polynomial.f p (mkP pts (fun j => l.getD j 0) pts.length)).bind fun bt338 => ((interpolate_Polynomial.f p (mkP pts (fun j => ((rd_T38 pts (j : Int)).f1 + l.getD j 0) % p) pts.length)).bind fun bt342 => (if bt334.2 = 0 then (if bt338.2 = 0 then (if bt342.2 = 0 then ((poly_Add.f p bt334.1 bt338.1).bind fun t346 => ((privityref05_Same.f k bt342.1 t346).bind fun t349 => (some t349))) else (some false)) else (some false)) else (some false))))) (fun k => ?_) ?_
      · simp only [privitylaw05_InterpolateIsLinear.l0]
        rw [if_neg (by omega)]
      · refine ev_now_bind e0 (ev_now_bind e1 (ev_now_bind e2 (Ev.congr (fun k => if_pos rfl) (Ev.congr (fun k => if_pos rfl) (Ev.congr (fun k => if_pos rfl) (ev_now_bind ha (Ev.bind (same_ev _ _ ls) ?_)))))))
        rw [decide_eq_true rfl]; exact Ev.now _
    · intro i hi h
      rw [← mkP_next, ← mkP_next] at h
      refine Ev.step (f := fun k => (field_Add.f k p ((rd_T38 pts (i : Int)).f1) (l.getD i 0)).bind fun t330 => (if (mkP pts (fun j => ((rd_T38 pts (j : Int)).f1 + l.getD j 0) % p) i).length < 8796093022208 then (privitylaw05_InterpolateIsLinear.l0 k p pts l (mkP pts (fun j => l.getD j 0) i ++ [(⟨(rd_T38 pts (i : Int)).f0, l.getD i 0⟩ : S38)]) (mkP pts (fun j => ((rd_T38 pts (j : Int)).f1 + l.getD j 0) % p) i ++ [(⟨(rd_T38 pts (i : Int)).f0, t330⟩ : S38)]) ((i + 1 : Nat) : Int)) else (none))) (fun k => ?_) (Ev.bind (add_ev hp (hx.at_ i hi).2 (res_getD hp hb i)) (h.congr fun k => if_pos (by rw [mkP_length]; omega)))
      simp only [privitylaw05_InterpolateIsLinear.l0]
      rw [if_pos (by omega), if_pos (by omega), if_pos (by omega), if_pos (by rw [mkP_length]; omega), rd_nat, wnat (by omega)]
  refine Ev.step (fun k => ?_) main
  simp only [privitylaw05_InterpolateIsLinear.j0]
  rw [if_neg (by simp)]; rfl
theorem InterpolateIsLinear (p : Int) (pts : List S38) (l : List Int) (wp : (Lit.int .u64 p).wf = true) (hw : ∀ x ∈ pts, (Lit.int .u64 x.f0).wf = true ∧ (Lit.int .u64 x.f1).wf = true) (hl : ∀ x ∈ l, (Lit.int .u64 x).wf = true) : ∃ k, privitylaw05_InterpolateIsLinear.f k p pts l = some true := by
  refine Ev.rounds (r := true) ?_
  refine ev_if awake05 (fun _ => ev_if (supported_ev p) (fun hs => ev_ite (fun _ => linear_skip p pts l) fun h1 => ev_ite (fun hll =>
    ev_if (points_ev p pts (by omega)) (fun hb1 => ev_if (below_ev p l (by omega)) (fun hb2 => Ev.bind (places_ev pts (by omega)) (Ev.bind (unlike_ev (xsOf pts) (by simp [xsOf]; omega)) ?_)) fun _ => linear_skip p pts l) fun _ => linear_skip p pts l) fun _ => linear_skip p pts l) fun _ => linear_skip p pts l) (fun h => by cases h)
  by_cases hn : (xsOf pts).Nodup
  · rw [decide_eq_true hn]
    exact linear_main (supB_of hs) (points_res hb1 fun x hx => ⟨(wf64 (hw x hx).1).1, (wf64 (hw x hx).2).1⟩) hn (by omega) (below_res hb2 fun x hx => (wf64 (hl x hx)).1) (by omega)
  · rw [decide_eq_false hn]
    exact linear_skip p pts l
end Go.Proofs.Ytdbmhpfbbikjjaa.Pure
end
section
/-
  What came in, opened: numbers, bools, rows and structs of them, to any depth.
-/
namespace Go.Proofs.Ytdbmhpfbbikjjaa.Op
open Go.RowKit Go.Proofs.YtdbmhpfbbikjjaaW.PrintWords
set_option linter.unusedVariables false

/-- What is read of a type's value is a value of d, and Q holds of it. -/
def OpenK {α : Type} (P : Program) (t : TypeId) (d : Kd α) (Q : α → Prop) : Prop :=
  ∀ {H : Type} {enc : TypeId × Value → H} {w : World} {base : Nat} {sp : Nat → Bool} {hd : Bool} {fuel : Nat} {cs : List Value} {x : DataW H × List MemPlace}, DataW.trod enc P w base sp hd fuel t cs = some x → ∃ v : α, d.K w v cs ∧ Q v
theorem openInt {P : Program} {t : TypeId} {k : IntKind} (ht : P.underlying t = some (.int k)) : OpenK P t (Kd.int k) (fun n => (Lit.int k n).wf = true) := by
  intro H enc w base sp hd fuel cs x h
  obtain ⟨n, rfl, _, hw⟩ := DataW.trod_int ht h
  exact ⟨n, rfl, hw⟩
theorem exists_list {α : Type} {R : Nat → α → Prop} : ∀ (n : Nat), (∀ i, i < n → ∃ v, R i v) → ∃ l : List α, l.length = n ∧ ∀ i v, l[i]? = some v → R i v
  | 0, _ => ⟨[], rfl, fun i v h => by simp at h⟩
  | n + 1, h => by
    obtain ⟨l, hl, hr⟩ := exists_list n (fun i hi => h i (by omega))
    obtain ⟨v, hv⟩ := h n (by omega)
    refine ⟨l ++ [v], by simp [hl], fun i u hu => ?_⟩
    by_cases hi : i < n
    · rw [List.getElem?_append_left (by omega)] at hu
      exact hr i u hu
    · rw [List.getElem?_append_right (by omega)] at hu
      by_cases h0 : i - l.length = 0
      · rw [h0] at hu
        simp only [List.getElem?_cons_zero, Option.some.injEq] at hu
        rw [← hu, show i = n from by omega]; exact hv
      · rw [List.getElem?_eq_none (by simp; omega)] at hu; cases hu
theorem openSlice {α : Type} {P : Program} {t e : TypeId} {d : Kd α} {Q : α → Prop} (ht : P.underlying t = some (.slice e)) (hc : P.cellsOf e = d.sz) (he : OpenK P e d Q) : OpenK P t (Kd.slice e d) (fun l => ∀ x ∈ l, Q x) := by
  intro H enc w base sp hd fuel cs x h
  rcases DataW.trod_slice ht h with ⟨rfl, _⟩ | ⟨a, len, cap, elems, rest, n, _, rfl, _, _, hlc, hm, hlen, hel, _, _⟩
  · exact ⟨[], ⟨none, 0, rfl, Nat.le_refl _, rfl, Nat.zero_le _, fun h => absurd h (Nat.lt_irrefl 0)⟩, fun x hx => by cases hx⟩
  · have each : ∀ i, i < len → ∃ v, (∃ c, c.length = d.sz ∧ d.K w v c ∧ ∀ j u, c[j]? = some u → w.cell? (a.add (i * d.sz + j)) = some u) ∧ Q v := by
      intro i hi
      have h1 := hel i hi
      rw [List.getElem?_eq_getElem (by omega), hc] at h1
      obtain ⟨c, hcs, htr⟩ := Option.bind_eq_some_iff.1 h1
      obtain ⟨v, hk, hq⟩ := he htr
      refine ⟨v, ⟨c, d.K_len hk, hk, fun j u hu => ?_⟩, hq⟩
      have h2 := World.cells?_some hcs
      have hj := (List.getElem?_eq_some_iff.1 hu).1
      have h3 := h2.2.2 j (by rw [← d.K_len hk]; exact hj)
      rw [hu] at h3
      rw [← h3, ← Addr.add_add]
    obtain ⟨l, hl, hr⟩ := exists_list len each
    refine ⟨l, ⟨some a, cap, by rw [hl], by omega, rfl, by rw [hl]; simp only [maxLen] at hm; omega, fun _ => ⟨a, rfl, fun j p hj => (hr j p hj).1⟩⟩, fun x hx => ?_⟩
    obtain ⟨i, hi, rfl⟩ := List.getElem_of_mem hx
    exact (hr i _ (List.getElem?_eq_getElem hi)).2
/-- A struct's fields. -/
theorem openFields {P : Program} {H : Type} {enc : TypeId × Value → H} {w : World} {base : Nat} {sp : Nat → Bool} {hd : Bool} {fuel : Nat} {t : TypeId} {cs : List Value} {x : DataW H × List MemPlace} {fs : Array Field} (ht : P.underlying t = some (.struct fs))
    (h : DataW.trod enc P w base sp hd fuel t cs = some x) : cs.length = P.cellsOf t ∧ ∀ (i : Nat) (f : Field), fs[i]? = some f → ∃ n y, DataW.trod enc P w base sp hd n f.type ((cs.drop f.offset).take (P.cellsOf f.type)) = some y := by
  obtain ⟨xs, n, _, _, hl, hlen, hf⟩ := DataW.trod_struct ht h
  refine ⟨hl, fun i f hi => ?_⟩
  have h1 := hf i f hi
  have h2 : i < fs.size := (Array.getElem?_eq_some_iff.1 hi).1
  rw [List.getElem?_eq_getElem (by omega)] at h1
  exact ⟨n, _, h1⟩
end Go.Proofs.Ytdbmhpfbbikjjaa.Op
end
section
/- The row of the law InterpolateIsLinear, out of its plain law and the walk. -/
namespace Go.Proofs.Ytdbmhpfbbikjjaa.interpolateIsLinear
open Go.ChangeShapes Go.WideShapes Go.ChangeAt Go.RowKit Go.Proofs.Ytdbmhpfbbikjjaa.Pr Go.Proofs.YtdbmhpfbbikjjaaW.PrintWords
set_option linter.unusedVariables false
theorem own : ownKnob Try.prog.godebug = none := by kernel_rfl
theorem laidOut : laidOutB Try.prog = true := by kernel_rfl
theorem open38 : Op.OpenK Try.prog 38 k38 (fun x_ => ((Lit.int .u64 x_.f0).wf = true) ∧ ((Lit.int .u64 x_.f1).wf = true)) := by
  intro H enc w base sp hd fuel cs x h
  obtain ⟨hl, hf⟩ := Op.openFields Try.underlying38 h
  have hN : Try.prog.cellsOf 38 = 2 := by kernel_rfl
  rw [hN] at hl
  obtain ⟨c0_, c1_, rfl⟩ : ∃ c0_ c1_, cs = [c0_, c1_] := by
    match cs, hl with
    | [c0_, c1_], _ => exact ⟨_, _, rfl⟩
  obtain ⟨n0_, y0_, e0_⟩ := hf 0 _ rfl
  have g0_ := (Op.openInt (k := .u64) Try.underlying22) e0_
  obtain ⟨v0_, m0_, q0_⟩ := g0_
  obtain ⟨n1_, y1_, e1_⟩ := hf 1 _ rfl
  have g1_ := (Op.openInt (k := .u64) Try.underlying22) e1_
  obtain ⟨v1_, m1_, q1_⟩ := g1_
  exact ⟨⟨v0_, v1_⟩, ⟨_, _, rfl, m0_, m1_⟩, ⟨q0_, q1_⟩⟩
set_option maxRecDepth 100000 in
theorem lifted (os : Os) (started : os.Started) (H : Type) (enc : TypeId × Value → H) :
    ReturnsInHanded {} Try.checked os 4 .any (Rows.interpolateIsLinearSpec.pre6 enc Try.prog Try.f4 Rows.interpolateIsLinearRow.domain false) (Rows.interpolateIsLinearSpec.post enc Try.prog Try.f4 false true false false) := by
  refine returnsInHanded_of_change_sized (C := Try.checked) own started (by kernel_rfl) Try.func4
    (ChangeSpec.witness6 (enc := enc) (C := Try.checked) false ⟨#[], #[.int .u64 0, .slice none 0 0, .slice none 0 0], []⟩ 8 (by kernel_rfl) (by kernel_rfl) (by kernel_rfl) (by kernel_rfl)) ?_
  intro W base args ds gs before hval0 hW hcnd hsz0 _
  have hval : ∀ (j : Nat) t v, Try.f4.params[j]? = some t → args[j]? = some v → Value.okWide Try.prog W .any base t v := hval0
  have hW' := hW
  obtain ⟨p, q, hA0, hV, rfl, hfz, hnd⟩ := hW
  have hA : DataW.TrodAll enc Try.prog W 0 (fun _ => true) true Try.f4.params.toList args.toList ds p := hA0
  rw [Try.params4] at hA hval
  obtain ⟨v0, vs0, d0, ds0, p0, q0, hargs, rfl, rfl, h0, r0⟩ := trodAll_cons hA
  obtain ⟨v1, vs1, d1, ds1, p1, q1, rfl, rfl, rfl, h1, r1⟩ := trodAll_cons r0
  obtain ⟨v2, vs2, d2, ds2, p2, q2, rfl, rfl, rfl, h2, r2⟩ := trodAll_cons r1
  obtain ⟨rfl, rfl, rfl⟩ := trodAll_nil r2
  obtain rfl : args = #[v0, v1, v2] := by cases args; simp_all
  obtain ⟨rfl, rfl⟩ := trodVars_none hV
  have k0 := h0
  have lt0 : ∀ x ∈ p0, x.block < W.heap.size := by obtain ⟨m, hm⟩ := k0; exact DataW.trod_lt m _ _ _ hm
  obtain ⟨a0, rfl, rfl, rfl, w0⟩ := open_int Try.underlying22 (hval 0 22 v0 rfl rfl) h0
  have k1 := h1
  have lt1 : ∀ x ∈ p1, x.block < W.heap.size := by obtain ⟨m, hm⟩ := k1; exact DataW.trod_lt m _ _ _ hm
  obtain ⟨a1, len1, cap1, rfl⟩ := okWide_slice Try.underlying33 (hval 1 33 v1 rfl rfl)
  obtain ⟨fu1, hf1⟩ := h1
  obtain ⟨z1, ⟨A1, c1, e1, hc1, g1⟩, w1⟩ := (Op.openSlice (d := k38) Try.underlying33 (by kernel_rfl) open38) hf1
  cases e1
  have k2 := h2
  have lt2 : ∀ x ∈ p2, x.block < W.heap.size := by obtain ⟨m, hm⟩ := k2; exact DataW.trod_lt m _ _ _ hm
  obtain ⟨a2, len2, cap2, rfl⟩ := okWide_slice Try.underlying23 (hval 2 23 v2 rfl rfl)
  obtain ⟨fu2, hf2⟩ := h2
  obtain ⟨z2, ⟨A2, c2, e2, hc2, g2⟩, w2⟩ := (Op.openSlice (d := (Kd.int .u64)) Try.underlying23 (by kernel_rfl) (Op.openInt (k := .u64) Try.underlying22)) hf2
  cases e2
  clear hA0 hval0 hsz0
  obtain ⟨kk, hk⟩ := Pure.InterpolateIsLinear a0 z1 z2 w0 w1 w2
  refine (privitylaw05_InterpolateIsLinear.calls kk a0 _ _ z1 _ _ z2 true W g1 hc1 g2 hc2 hk).mono fun e W' ⟨he, bel⟩ => ?_
  subst he
  exact ⟨_, rfl, _, _, _, [], _, [], hW', trodAll_mk1 (shut_bool Try.underlying4 _), (trodAll_cons_mk (shut_int Try.underlying22 w0) (trodAll_cons_mk (Below.trod laidOut (by kernel_rfl) (of_decide_eq_true (by kernel_rfl)) k1 bel lt1) (trodAll_cons_mk (Below.trod laidOut (by kernel_rfl) (of_decide_eq_true (by kernel_rfl)) k2 bel lt2) trodAll_mk0))), rfl, bel.frame _, fun h => by cases h⟩
theorem over : Rows.interpolateIsLinearRow.holds Try.pinned (OpenSpec.ofChange Rows.interpolateIsLinearSpec) :=
  OpenClaim.holds_of_wide 4 Try.f4 rfl rfl rfl rfl rfl rfl rfl ⟨rfl, rfl, rfl, rfl, rfl⟩ rfl rfl rfl rfl rfl (by kernel_rfl) Try.func4 (by kernel_rfl)
    (of_decide_eq_true (by kernel_rfl)) (by unfold Func.isWrapper; first | (rw [if_pos (by decide +kernel)]; kernel_rfl) | (rw [if_neg (by decide +kernel)]; exact ⟨rfl, rfl⟩))
    (fun os started H enc _ => lifted os started H enc)
theorem proved : Rows.InterpolateIsLinearSaid := over
#print axioms proved
end Go.Proofs.Ytdbmhpfbbikjjaa.interpolateIsLinear
namespace Go.Proofs.Ytdbmhpfbbikjjaa
/-- The row, under a short name, for the claim. -/
theorem interpolateIsLinear_holds : Rows.InterpolateIsLinearSaid := interpolateIsLinear.proved
end Go.Proofs.Ytdbmhpfbbikjjaa
end
