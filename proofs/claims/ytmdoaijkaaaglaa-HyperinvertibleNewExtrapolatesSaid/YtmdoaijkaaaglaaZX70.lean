/- Printed by a program of this seat (the kit's printer, with the functions that were proved by hand given to it). What stands here: the functions that the statements reach, as plain functions, and that the Go code computes them. -/
import Derived.Test.YtmdoaijkaaaglaaZB71
import Derived.Test.YtmdoaijkaaaglaaZB77
import Derived.Test.YtmdoaijkaaaglaaZB712
import Derived.Test.YtmdoaijkaaaglaaRows
import Derived.WalkKit
import Derived.ProofKit
import Derived.OpenShut
import Derived.ShutString
import Derived.ChangeOld
import Derived.Below
import Derived.SizedLaws
import Derived.Test.YtmdoaijkaaaglaaZB70
set_option linter.unusedVariables false
set_option linter.unusedSimpArgs false
section
namespace Go.Proofs.Ytmdoaijkaaaglaa.Pr
open Go.RowKit Go.Proofs.YtmdoaijkaaaglaaW.PrintWords Go.Proofs.YtmdoaijkaaaglaaW.PrintLast Go.Proofs.YtmdoaijkaaaglaaW.PrintMore
attribute [local go_sem] max2_int min2_int max_two min_two max_three min_three max_four min_four
open Go.Proofs.Ytmdoaijkaaaglaa.Hw
mutual
def privitylaw07_HyperinvertibleNewExtrapolates.j0 : Nat → Int → List Int → Int → Bool → Option (Bool)
 | 0,_,_,_,_ => none
 | k + 1,x0,x1,x2,x40 => if x40 = true then (some true) else ((hyperinvertible_New.f k x0 (wrap64 (x2)) (x1.length : Int)).bind fun bt642 => (if bt642.2 = 0 then (privitylaw07_HyperinvertibleNewExtrapolates.j1 k x0 x1 x2 bt642.1 ((bt642.1.length : Int) != (wrap64 (x2)))) else (privitylaw07_HyperinvertibleNewExtrapolates.j1 k x0 x1 x2 bt642.1 true)))
def privitylaw07_HyperinvertibleNewExtrapolates.j1 : Nat → Int → List Int → Int → List (List Int) → Bool → Option (Bool)
 | 0,_,_,_,_,_ => none
 | k + 1,x0,x1,x2,x7,x58 => if x58 = true then (some false) else (privitylaw07_HyperinvertibleNewExtrapolates.l0 k x0 x1 x2 x7 0)
def privitylaw07_HyperinvertibleNewExtrapolates.l0 : Nat → Int → List Int → Int → List (List Int) → Int → Option (Bool)
 | 0,_,_,_,_,_ => none
 | k + 1,x0,x1,x2,x7,x9 => if x9 < (wrap64 (x2)) then (if 0 ≤ x9 then (if x9 < (x7.length : Int) then (if ((rd_L2 x7 x9).length : Int) = (x1.length : Int) then (privitylaw07_HyperinvertibleNewExtrapolates.l1 k x0 x1 x2 x7 x9 0 0) else (some false)) else (none)) else (none)) else (some true)
def privitylaw07_HyperinvertibleNewExtrapolates.l1 : Nat → Int → List Int → Int → List (List Int) → Int → Int → Int → Option (Bool)
 | 0,_,_,_,_,_,_,_ => none
 | k + 1,x0,x1,x2,x7,x9,x10,x11 => if x11 < (x1.length : Int) then (if 0 ≤ x9 then (if x9 < (x7.length : Int) then (if 0 ≤ x11 then (if x11 < ((rd_L2 x7 x9).length : Int) then ((poly_Eval.f k x0 x1 (IntKind.u64.wrap (wrap64 (x11 + 1)))).bind fun t649 => ((field_Mul.f k x0 (rd (rd_L2 x7 x9) x11) t649).bind fun t650 => ((field_Add.f k x0 x10 t650).bind fun t651 => (privitylaw07_HyperinvertibleNewExtrapolates.l1 k x0 x1 x2 x7 x9 t651 (wrap64 (x11 + 1)))))) else (none)) else (none)) else (none)) else (none)) else ((poly_Eval.f k x0 x1 (IntKind.u64.wrap (wrap64 ((wrap64 ((x1.length : Int) + x9)) + 1)))).bind fun t652 => (if x10 = t652 then (privitylaw07_HyperinvertibleNewExtrapolates.l0 k x0 x1 x2 x7 (wrap64 (x9 + 1))) else (some false)))
end
def privitylaw07_HyperinvertibleNewExtrapolates.f (k : Nat) (a0 : Int) (l1 : List Int) (a2 : Int) : Option (Bool) := (privitylaw07_awake.f k).bind fun t639 => (if t639 = true then ((privityref01_Supported.f k a0).bind fun t640 => (if t640 = true then (if (l1.length : Int) < 1 then (privitylaw07_HyperinvertibleNewExtrapolates.j0 k a0 l1 a2 true) else (if (l1.length : Int) > 12 then (privitylaw07_HyperinvertibleNewExtrapolates.j0 k a0 l1 a2 true) else (if a2 < 1 then (privitylaw07_HyperinvertibleNewExtrapolates.j0 k a0 l1 a2 true) else (if a2 > 12 then (privitylaw07_HyperinvertibleNewExtrapolates.j0 k a0 l1 a2 true) else ((privityref05_Below.f k a0 l1).bind fun t641 => (privitylaw07_HyperinvertibleNewExtrapolates.j0 k a0 l1 a2 (!t641))))))) else (privitylaw07_HyperinvertibleNewExtrapolates.j0 k a0 l1 a2 true))) else (some false))
set_option maxHeartbeats 8000000 in
set_option maxRecDepth 100000 in
theorem privitylaw07_HyperinvertibleNewExtrapolates.calls (k : Nat) (a0 : Int) (A1 : Option Addr) (c1 : Nat) (l1 : List Int) (a2 : Int) (r : Bool) (w : World) (hr1 : Kd.C (Kd.int .u64) w A1 l1.length l1) (hc1 : l1.length ≤ c1) (hr1_ : r = true) (h : privitylaw07_HyperinvertibleNewExtrapolates.f k a0 l1 a2 = some r) :
  Calls Try.prog 6 #[.int .u64 a0,.slice A1 l1.length c1,.int .u8 a2] w fun e w' => e = .returned (.bool r) ∧ Below w.heap.size w w' := by
 have HRT_ := am hr1_
 clear hr1_
 have HR1 := am hr1
 have HC1 := am hc1
 clear hr1 hc1
 have HB := am (Below.refl w.heap.size w)
 have H : ((privitylaw07_awake.f k).bind fun t639 => (if t639 = true then ((privityref01_Supported.f k a0).bind fun t640 => (if t640 = true then (if (l1.length : Int) < 1 then (privitylaw07_HyperinvertibleNewExtrapolates.j0 k a0 l1 a2 true) else (if (l1.length : Int) > 12 then (privitylaw07_HyperinvertibleNewExtrapolates.j0 k a0 l1 a2 true) else (if a2 < 1 then (privitylaw07_HyperinvertibleNewExtrapolates.j0 k a0 l1 a2 true) else (if a2 > 12 then (privitylaw07_HyperinvertibleNewExtrapolates.j0 k a0 l1 a2 true) else ((privityref05_Below.f k a0 l1).bind fun t641 => (privitylaw07_HyperinvertibleNewExtrapolates.j0 k a0 l1 a2 (!t641))))))) else (privitylaw07_HyperinvertibleNewExtrapolates.j0 k a0 l1 a2 true))) else (some false))) = some r := h
 clear h
 replace H := Option.bind_eq_some_iff.mp H
 obtain ⟨t639,A40,H⟩ := H
 try dsimp only at H
 have A4 := am A40
 clear A40
 by_cases c5 : t639 = true
 ·subst c5
  rw [if_pos rfl] at H
  have HC6 := am H
  clear H
  go_enter Try.func6,Try.ntmps6
  go_upto_region 3 with (first|(go_at_call 12;(with_reducible refine (privitylaw07_awake.calls k  true _ A4.out).mono ?_);rintro e w7 ⟨rfl,hb⟩;have n0_ := am (below_step (bb HB) hb);clear HB;have HB := n0_;clear n0_;(try clear hb);(try clear hb2);(try clear hk);(try clear hi)))
  repeat (go_quiet (first|(go_at_call 12;(with_reducible refine (privitylaw07_awake.calls k  true _ A4.out).mono ?_);rintro e w7 ⟨rfl,hb⟩;have n0_ := am (below_step (bb HB) hb);clear HB;have HB := n0_;clear n0_;(try clear hb);(try clear hb2);(try clear hk);(try clear hi)));go_upto_region 3 with (first|(go_at_call 12;(with_reducible refine (privitylaw07_awake.calls k  true _ A4.out).mono ?_);rintro e w7 ⟨rfl,hb⟩;have n0_ := am (below_step (bb HB) hb);clear HB;have HB := n0_;clear n0_;(try clear hb);(try clear hb2);(try clear hk);(try clear hi))))
  (try simp only [Act.put,List.setIfInBounds_toArray,List.set_cons_zero,List.set_cons_succ])
  go_cut [40] (fun v40 wc => ∃ (kq : Nat) (x40_5 : Bool),v40 = .bool x40_5 ∧ Aside0 (privitylaw07_HyperinvertibleNewExtrapolates.j0 kq a0 l1 a2 x40_5 = some r) ∧ Aside0 (kq ≤ k) ∧ Aside0 (Below w.heap.size w wc))
  case first =>
   have H := HC6.out
   clear HC6
   replace H := Option.bind_eq_some_iff.mp H
   obtain ⟨t640,A80,H⟩ := H
   try dsimp only at H
   have A8 := am A80
   clear A80
   by_cases c9 : t640 = true
   ·subst c9
    rw [if_pos rfl] at H
    by_cases c10 : (l1.length : Int) < 1
    ·rw [if_pos c10] at H
     have c10b0 : decide ((l1.length : Int) < 1) = true := decide_eq_true c10
     have c10b1 : decide (l1.length < 1) = true := decide_eq_true (by omega)
     clear c10
     (first|rw [c10b0]|(simp only [i64_w,i32_w];rw [c10b0])|skip)
     have H' := am H
     clear H
     go_wp2_with (first|(go_at_call 13;(with_reducible refine (privityref01_Supported.calls k a0 true _ A8.out).mono ?_);rintro e w11 ⟨rfl,hb⟩;have n0_ := am (below_step (bb HB) hb);clear HB;have HB := n0_;clear n0_;(try clear hb);(try clear hb2);(try clear hk);(try clear hi)))
     repeat (go_quiet (first|(go_at_call 13;(with_reducible refine (privityref01_Supported.calls k a0 true _ A8.out).mono ?_);rintro e w11 ⟨rfl,hb⟩;have n0_ := am (below_step (bb HB) hb);clear HB;have HB := n0_;clear n0_;(try clear hb);(try clear hb2);(try clear hk);(try clear hi)));try go_wp2_with (first|(go_at_call 13;(with_reducible refine (privityref01_Supported.calls k a0 true _ A8.out).mono ?_);rintro e w11 ⟨rfl,hb⟩;have n0_ := am (below_step (bb HB) hb);clear HB;have HB := n0_;clear n0_;(try clear hb);(try clear hb2);(try clear hk);(try clear hi))))
     go_meet
     case rel => exact ⟨_,(true),(by first|rfl|(simp;done)|(simp [*];done)),H',⟨by first|omega|exact Nat.le_refl _⟩,⟨bb HB⟩⟩
    ·rw [if_neg c10] at H
     have c10b0 : decide ((l1.length : Int) < 1) = false := decide_eq_false c10
     have c10b1 : decide (l1.length < 1) = false := decide_eq_false (by omega)
     clear c10
     (first|rw [c10b0]|(simp only [i64_w,i32_w];rw [c10b0])|skip)
     by_cases c12 : (l1.length : Int) > 12
     ·rw [if_pos c12] at H
      have c12b0 : decide (12 < (l1.length : Int)) = true := decide_eq_true c12
      have c12b1 : decide (12 < l1.length) = true := decide_eq_true (by omega)
      clear c12
      have H' := am H
      clear H
      go_wp2_with (first|(go_at_call 13;(with_reducible refine (privityref01_Supported.calls k a0 true _ A8.out).mono ?_);rintro e w13 ⟨rfl,hb⟩;have n0_ := am (below_step (bb HB) hb);clear HB;have HB := n0_;clear n0_;(try clear hb);(try clear hb2);(try clear hk);(try clear hi)))
      repeat (go_quiet (first|(go_at_call 13;(with_reducible refine (privityref01_Supported.calls k a0 true _ A8.out).mono ?_);rintro e w13 ⟨rfl,hb⟩;have n0_ := am (below_step (bb HB) hb);clear HB;have HB := n0_;clear n0_;(try clear hb);(try clear hb2);(try clear hk);(try clear hi)));try go_wp2_with (first|(go_at_call 13;(with_reducible refine (privityref01_Supported.calls k a0 true _ A8.out).mono ?_);rintro e w13 ⟨rfl,hb⟩;have n0_ := am (below_step (bb HB) hb);clear HB;have HB := n0_;clear n0_;(try clear hb);(try clear hb2);(try clear hk);(try clear hi))))
      go_meet
      case rel => exact ⟨_,(true),(by first|rfl|(simp;done)|(simp [*];done)),H',⟨by first|omega|exact Nat.le_refl _⟩,⟨bb HB⟩⟩
     ·rw [if_neg c12] at H
      have c12b0 : decide (12 < (l1.length : Int)) = false := decide_eq_false c12
      have c12b1 : decide (12 < l1.length) = false := decide_eq_false (by omega)
      clear c12
      by_cases c14 : a2 < 1
      ·rw [if_pos c14] at H
       have c14b0 : decide (a2 < 1) = true := decide_eq_true c14
       clear c14
       have H' := am H
       clear H
       go_wp2_with (first|(go_at_call 13;(with_reducible refine (privityref01_Supported.calls k a0 true _ A8.out).mono ?_);rintro e w15 ⟨rfl,hb⟩;have n0_ := am (below_step (bb HB) hb);clear HB;have HB := n0_;clear n0_;(try clear hb);(try clear hb2);(try clear hk);(try clear hi)))
       repeat (go_quiet (first|(go_at_call 13;(with_reducible refine (privityref01_Supported.calls k a0 true _ A8.out).mono ?_);rintro e w15 ⟨rfl,hb⟩;have n0_ := am (below_step (bb HB) hb);clear HB;have HB := n0_;clear n0_;(try clear hb);(try clear hb2);(try clear hk);(try clear hi)));try go_wp2_with (first|(go_at_call 13;(with_reducible refine (privityref01_Supported.calls k a0 true _ A8.out).mono ?_);rintro e w15 ⟨rfl,hb⟩;have n0_ := am (below_step (bb HB) hb);clear HB;have HB := n0_;clear n0_;(try clear hb);(try clear hb2);(try clear hk);(try clear hi))))
       go_meet
       case rel => exact ⟨_,(true),(by first|rfl|(simp;done)|(simp [*];done)),H',⟨by first|omega|exact Nat.le_refl _⟩,⟨bb HB⟩⟩
      ·rw [if_neg c14] at H
       have c14b0 : decide (a2 < 1) = false := decide_eq_false c14
       clear c14
       by_cases c16 : a2 > 12
       ·rw [if_pos c16] at H
        have c16b0 : decide (12 < a2) = true := decide_eq_true c16
        clear c16
        have H' := am H
        clear H
        go_wp2_with (first|(go_at_call 13;(with_reducible refine (privityref01_Supported.calls k a0 true _ A8.out).mono ?_);rintro e w17 ⟨rfl,hb⟩;have n0_ := am (below_step (bb HB) hb);clear HB;have HB := n0_;clear n0_;(try clear hb);(try clear hb2);(try clear hk);(try clear hi)))
        repeat (go_quiet (first|(go_at_call 13;(with_reducible refine (privityref01_Supported.calls k a0 true _ A8.out).mono ?_);rintro e w17 ⟨rfl,hb⟩;have n0_ := am (below_step (bb HB) hb);clear HB;have HB := n0_;clear n0_;(try clear hb);(try clear hb2);(try clear hk);(try clear hi)));try go_wp2_with (first|(go_at_call 13;(with_reducible refine (privityref01_Supported.calls k a0 true _ A8.out).mono ?_);rintro e w17 ⟨rfl,hb⟩;have n0_ := am (below_step (bb HB) hb);clear HB;have HB := n0_;clear n0_;(try clear hb);(try clear hb2);(try clear hk);(try clear hi))))
        go_meet
        case rel => exact ⟨_,(true),(by first|rfl|(simp;done)|(simp [*];done)),H',⟨by first|omega|exact Nat.le_refl _⟩,⟨bb HB⟩⟩
       ·rw [if_neg c16] at H
        have c16b0 : decide (12 < a2) = false := decide_eq_false c16
        clear c16
        replace H := Option.bind_eq_some_iff.mp H
        obtain ⟨t641,A180,H⟩ := H
        try dsimp only at H
        have A18 := am A180
        clear A180
        have H' := am H
        clear H
        go_wp2_with (first|(go_at_call 13;(with_reducible refine (privityref01_Supported.calls k a0 true _ A8.out).mono ?_);rintro e w19 ⟨rfl,hb⟩;have n0_ := am (below_step (bb HB) hb);clear HB;have HB := n0_;clear n0_;(try clear hb);(try clear hb2);(try clear hk);(try clear hi))|(go_at_call 25;(with_reducible refine (privityref05_Below.calls k a0 _ _ l1 t641 _ ?side1 ?side2 A18.out).mono ?_);(case side1 => exact cb HR1 HB);(case side2 => exact HC1.out);rintro e w' ⟨rfl,⟨nd,rfl⟩⟩;(try first|exact ⟨rfl,_,World.drewN_drewN _ _ _⟩|exact ⟨rfl,_,Eq.trans (World.drewN_drewN _ _ _) (congrArg (World.drewN _) (Nat.add_assoc _ _ _))⟩)))
        repeat (go_quiet (first|(go_at_call 13;(with_reducible refine (privityref01_Supported.calls k a0 true _ A8.out).mono ?_);rintro e w19 ⟨rfl,hb⟩;have n0_ := am (below_step (bb HB) hb);clear HB;have HB := n0_;clear n0_;(try clear hb);(try clear hb2);(try clear hk);(try clear hi))|(go_at_call 25;(with_reducible refine (privityref05_Below.calls k a0 _ _ l1 t641 _ ?side1 ?side2 A18.out).mono ?_);(case side1 => exact cb HR1 HB);(case side2 => exact HC1.out);rintro e w' ⟨rfl,⟨nd,rfl⟩⟩;(try first|exact ⟨rfl,_,World.drewN_drewN _ _ _⟩|exact ⟨rfl,_,Eq.trans (World.drewN_drewN _ _ _) (congrArg (World.drewN _) (Nat.add_assoc _ _ _))⟩)));try go_wp2_with (first|(go_at_call 13;(with_reducible refine (privityref01_Supported.calls k a0 true _ A8.out).mono ?_);rintro e w19 ⟨rfl,hb⟩;have n0_ := am (below_step (bb HB) hb);clear HB;have HB := n0_;clear n0_;(try clear hb);(try clear hb2);(try clear hk);(try clear hi))|(go_at_call 25;(with_reducible refine (privityref05_Below.calls k a0 _ _ l1 t641 _ ?side1 ?side2 A18.out).mono ?_);(case side1 => exact cb HR1 HB);(case side2 => exact HC1.out);rintro e w' ⟨rfl,⟨nd,rfl⟩⟩;(try first|exact ⟨rfl,_,World.drewN_drewN _ _ _⟩|exact ⟨rfl,_,Eq.trans (World.drewN_drewN _ _ _) (congrArg (World.drewN _) (Nat.add_assoc _ _ _))⟩))))
        go_meet
        case rel => exact ⟨_,(!t641),(by first|rfl|(simp;done)|(simp [*];done)),H',⟨by first|omega|exact Nat.le_refl _⟩,⟨bb HB⟩⟩
   ·replace c9 := Bool.eq_false_iff.mpr c9
    subst c9
    rw [if_neg (show ¬ (false = true) by decide)] at H
    have H' := am H
    clear H
    go_wp2_with (first|(go_at_call 13;(with_reducible refine (privityref01_Supported.calls k a0 false _ A8.out).mono ?_);rintro e w20 ⟨rfl,hb⟩;have n0_ := am (below_step (bb HB) hb);clear HB;have HB := n0_;clear n0_;(try clear hb);(try clear hb2);(try clear hk);(try clear hi)))
    repeat (go_quiet (first|(go_at_call 13;(with_reducible refine (privityref01_Supported.calls k a0 false _ A8.out).mono ?_);rintro e w20 ⟨rfl,hb⟩;have n0_ := am (below_step (bb HB) hb);clear HB;have HB := n0_;clear n0_;(try clear hb);(try clear hb2);(try clear hk);(try clear hi)));try go_wp2_with (first|(go_at_call 13;(with_reducible refine (privityref01_Supported.calls k a0 false _ A8.out).mono ?_);rintro e w20 ⟨rfl,hb⟩;have n0_ := am (below_step (bb HB) hb);clear HB;have HB := n0_;clear n0_;(try clear hb);(try clear hb2);(try clear hk);(try clear hi))))
    go_meet
    case rel => exact ⟨_,(true),(by first|rfl|(simp;done)|(simp [*];done)),H',⟨by first|omega|exact Nat.le_refl _⟩,⟨bb HB⟩⟩
  case rest =>
   clear HC6
   try clear c1
   try clear p2
   try clear c5
   try clear c6
   try clear c9
   try clear c10
   try clear c10b0
   try clear c10b1
   try clear c12
   try clear c12b0
   try clear c12b1
   try clear c14
   try clear c14b0
   try clear c16
   try clear c16b0
   obtain ⟨kq,x40_5,rfl,HA,HJ5,HB⟩ := hcut
   cases kq with
   | zero => exact absurd HA.out (by simp [privitylaw07_HyperinvertibleNewExtrapolates.j0])
   | succ kj5 =>
    have H := HA.out
    clear HA
    simp only [privitylaw07_HyperinvertibleNewExtrapolates.j0] at H
    by_cases c21 : x40_5 = true
    ·subst c21
     rw [if_pos rfl] at H
     obtain rfl := Option.some.inj H
     go_wp2
     repeat (go_quiet (fail);try go_wp2)
     go_ret
     exact ⟨by first|rfl|(simp [errW_none,errW_some] <;> rfl)|(simp [*,errW_none,errW_some] <;> rfl),bb HB⟩
    ·replace c21 := Bool.eq_false_iff.mpr c21
     subst c21
     rw [if_neg (show ¬ (false = true) by decide)] at H
     replace H := Option.bind_eq_some_iff.mp H
     obtain ⟨⟨t642,t643⟩,A220,H⟩ := H
     try dsimp only at H
     have A22 := am A220
     clear A220
     have HC23 := am H
     clear H
     go_upto_region 6 with (first|(go_at_call 14;(with_reducible refine (hyperinvertible_New.calls kj5 a0 (wrap64 (a2)) (l1.length : Int) t642 t643 _ A22.out).mono ?_);rintro e w24 ⟨v644,rfl,ho0,hb⟩;have n0_ := am (Kd.S_lower ho0 (below_size (bb HB)));have n1_ := am (below_step (bb HB) hb);clear HB;have HO645 := n0_;have HB := n1_;clear n0_ n1_;(try clear hb);(try clear hb2);(try clear hk);(try clear hi);(try clear ho0)))
     repeat (go_quiet (first|(go_at_call 14;(with_reducible refine (hyperinvertible_New.calls kj5 a0 (wrap64 (a2)) (l1.length : Int) t642 t643 _ A22.out).mono ?_);rintro e w24 ⟨v644,rfl,ho0,hb⟩;have n0_ := am (Kd.S_lower ho0 (below_size (bb HB)));have n1_ := am (below_step (bb HB) hb);clear HB;have HO645 := n0_;have HB := n1_;clear n0_ n1_;(try clear hb);(try clear hb2);(try clear hk);(try clear hi);(try clear ho0)));go_upto_region 6 with (first|(go_at_call 14;(with_reducible refine (hyperinvertible_New.calls kj5 a0 (wrap64 (a2)) (l1.length : Int) t642 t643 _ A22.out).mono ?_);rintro e w24 ⟨v644,rfl,ho0,hb⟩;have n0_ := am (Kd.S_lower ho0 (below_size (bb HB)));have n1_ := am (below_step (bb HB) hb);clear HB;have HO645 := n0_;have HB := n1_;clear n0_ n1_;(try clear hb);(try clear hb2);(try clear hk);(try clear hi);(try clear ho0))))
     (try simp only [Act.put,List.setIfInBounds_toArray,List.set_cons_zero,List.set_cons_succ])
     go_cut [58] (fun v58 wc => ∃ (kq : Nat) (x58_22 : Bool),v58 = .bool x58_22 ∧ Aside0 (privitylaw07_HyperinvertibleNewExtrapolates.j1 kq a0 l1 a2 t642 x58_22 = some r) ∧ Aside0 (kq ≤ kj5) ∧ Aside0 (Kd.S (Kd.slice 22 (Kd.int .u64)) 40 wc w.heap.size (fun _ => True) v644 t642) ∧ Aside0 (Below w.heap.size w wc))
     case first =>
      have H := HC23.out
      clear HC23
      by_cases c25 : t643 = 0
      ·rw [if_pos c25] at H
       have c25b0 : (t643 == 0) = true := beq_iff_eq.mpr c25
       have c25b1 : (t643 != 0) = false := bne_eq_false_iff_eq.mpr c25
       clear c25
       (first|rw [c25b0]|(simp only [i64_w,i32_w];rw [c25b0])|skip)
       have H' := am H
       clear H
       obtain ⟨Ao26,co26,eo26⟩ := Kd.S_slice HO645.out
       subst eo26
       go_wp2
       repeat (go_quiet (fail);try go_wp2)
       go_meet
       case rel => exact ⟨_,(((t642.length : Int) != (wrap64 (a2)))),(by first|rfl|(simp;done)|(simp [*];done)),H',⟨by have := HJ5.out;first|omega|exact Nat.le_refl _⟩,⟨by (with_reducible repeat (first|apply Kd.S_alloc|apply Kd.S_drewN|apply Kd.S_drew));exact HO645.out⟩,⟨bb HB⟩⟩
      ·rw [if_neg c25] at H
       have c25b0 : (t643 == 0) = false := beq_eq_false_iff_ne.mpr c25
       have c25b1 : (t643 != 0) = true := bne_iff_ne.mpr c25
       (first|rw [c25b0]|(simp only [i64_w,i32_w];rw [c25b0])|skip)
       have H' := am H
       clear H
       go_wp2
       repeat (go_quiet (fail);try go_wp2)
       go_meet
       case rel => exact ⟨_,(true),(by first|rfl|(simp;done)|(simp [*];done)),H',⟨by have := HJ5.out;first|omega|exact Nat.le_refl _⟩,⟨by (with_reducible repeat (first|apply Kd.S_alloc|apply Kd.S_drewN|apply Kd.S_drew));exact HO645.out⟩,⟨bb HB⟩⟩
     case rest =>
      clear HC23
      try clear c1
      try clear c2
      try clear p2
      try clear c5
      try clear c6
      try clear p6
      try clear c9
      try clear c10
      try clear c10b0
      try clear c10b1
      try clear c12
      try clear c12b0
      try clear c12b1
      try clear c14
      try clear c14b0
      try clear c16
      try clear c16b0
      try clear c21
      try clear c25
      try clear c25b0
      try clear c25b1
      try clear p2
      obtain ⟨kq,x58_22,rfl,HA,HJ22,HO_7,HB⟩ := hcut
      cases kq with
      | zero => exact absurd HA.out (by simp [privitylaw07_HyperinvertibleNewExtrapolates.j1])
      | succ kj22 =>
       have H := HA.out
       clear HA
       simp only [privitylaw07_HyperinvertibleNewExtrapolates.j1] at H
       by_cases c27 : x58_22 = true
       ·subst c27
        rw [if_pos rfl] at H
        exact absurd (Option.some.inj H) (by rw [HRT_.out];simp)
       ·replace c27 := Bool.eq_false_iff.mpr c27
        subst c27
        rw [if_neg (show ¬ (false = true) by decide)] at H
        have H' := am H
        clear H
        go_wp2
        repeat (go_quiet (fail);try go_wp2)
        go_loopg [9] kj22 (fun kq v9 w' => ∃ (x9_3 : Int),v9 = .int .i64 x9_3 ∧ Aside0 (privitylaw07_HyperinvertibleNewExtrapolates.l0 kq a0 l1 a2 t642 x9_3 = some r) ∧ Aside0 (kq ≤ kj22) ∧ Aside0 (Kd.S (Kd.slice 22 (Kd.int .u64)) 40 w' w.heap.size (fun _ => True) v644 t642) ∧ Aside0 (Below w.heap.size w w'))
        case atStart => exact ⟨(0),(by first|rfl|(simp;done)|(simp [*];done)),H',⟨Nat.le_refl _⟩,⟨by (with_reducible repeat (first|apply Kd.S_alloc|apply Kd.S_drewN|apply Kd.S_drew));exact HO_7.out⟩,⟨bb HB⟩⟩
        case round =>
         clear H'
         try clear c1
         try clear c2
         try clear p2
         try clear c5
         try clear c6
         try clear p6
         try clear c9
         try clear c10
         try clear c10b0
         try clear c10b1
         try clear c12
         try clear c12b0
         try clear c12b1
         try clear c14
         try clear c14b0
         try clear c16
         try clear c16b0
         try clear c21
         try clear c25
         try clear c25b0
         try clear c25b1
         try clear c27
         try clear p2
         try clear p6
         obtain ⟨x9_3,rfl,HA,HK3,HO_7,HB⟩ := hrel
         cases gk with
         | zero => exact absurd HA.out (by simp [privitylaw07_HyperinvertibleNewExtrapolates.l0])
         | succ k3 =>
          have H := HA.out
          clear HA
          simp only [privitylaw07_HyperinvertibleNewExtrapolates.l0] at H
          by_cases c28 : x9_3 < (wrap64 (a2))
          ·rw [if_pos c28] at H
           have c28b0 : decide (x9_3 < (wrap64 (a2))) = true := decide_eq_true c28
           clear c28
           by_cases c29 : 0 ≤ x9_3
           ·rw [if_pos c29] at H
            have c29b0 : decide (0 ≤ x9_3) = true := decide_eq_true c29
            clear c29
            by_cases c30 : x9_3 < (t642.length : Int)
            ·rw [if_pos c30] at H
             have c30b0 : decide (x9_3 < (t642.length : Int)) = true := decide_eq_true c30
             clear c30
             by_cases c31 : ((rd_L2 t642 x9_3).length : Int) = (l1.length : Int)
             ·rw [if_pos c31] at H
              have c31b0 : (((rd_L2 t642 x9_3).length : Int) == (l1.length : Int)) = true := beq_iff_eq.mpr c31
              have c31b1 : (((rd_L2 t642 x9_3).length : Int) != (l1.length : Int)) = false := bne_eq_false_iff_eq.mpr c31
              have c31b2 : ((rd_L2 t642 x9_3).length == l1.length) = true := by first|simpa using c31|(simp at c31 ⊢;omega)
              clear c31
              have H' := am H
              clear H
              obtain ⟨Ao32,co32,eo32⟩ := Kd.S_slice HO_7.out
              subst eo32
              have p646 : 0 ≤ (x9_3 : Int) := od
              have q646 : x9_3 < (t642.length : Int) := od
              obtain ⟨ad646,A646_0,c646_0,e646,hx646_0,hl646_0,hi646_0⟩ := at_L2 (Kd.S_reads' HO_7.out).2.2 x9_3 p646 q646
              cases e646
              obtain ⟨ce646,hce646,hMe646,hcc646⟩ := Kd.S_get HO_7.out [] x9_3 p646 (by first|exact q646|exact od|(have e_ := (Kd.S_reads' HO_7.out).1;omega))
              obtain ⟨ve646_0,rfl,ge646_0⟩ := hMe646
              have hv646_0 := hcc646 0 _ rfl
              rw [Nat.add_zero,show ((Kd.slice 22 (Kd.int .u64))).sz = 1 from rfl,Nat.mul_one] at hv646_0
              replace hv646_0 := Option.some.inj (hv646_0.symm.trans hx646_0)
              rw [hv646_0] at ge646_0
              have HL646_0 := am (show Kd.R (Kd.int .u64) 22 _ _ _ _ (rd_L2 t642 x9_3) from ge646_0)
              clear hv646_0 ge646_0
              clear hcc646 hce646
              have HR646_0 := am hi646_0
              have HC646_0 := am hl646_0
              clear hi646_0 hl646_0
              replace p646 := eq_true p646
              replace q646 := eq_true q646
              go_wp2
              repeat (go_quiet (fail);try go_wp2)
              go_loopg [10,11] k3 (fun kq v10 v11 w' => ∃ (x10_4 : Int) (x11_4 : Int),v10 = .int .u64 x10_4 ∧ v11 = .int .i64 x11_4 ∧ Aside0 (privitylaw07_HyperinvertibleNewExtrapolates.l1 kq a0 l1 a2 t642 x9_3 x10_4 x11_4 = some r) ∧ Aside0 (kq ≤ k3) ∧ Aside0 (Kd.S (Kd.slice 22 (Kd.int .u64)) 40 w' w.heap.size (fun _ => True) (.slice (some ad646) t642.length co32) t642) ∧ Aside0 (Kd.C (Kd.int .u64) w' A646_0 (rd_L2 t642 x9_3).length (rd_L2 t642 x9_3)) ∧ Aside0 (Below w.heap.size w w'))
              case atStart => exact ⟨(0),(0),(by first|rfl|(simp;done)|(simp [*];done)),(by first|rfl|(simp;done)|(simp [*];done)),H',⟨Nat.le_refl _⟩,⟨by (with_reducible repeat (first|apply Kd.S_alloc|apply Kd.S_drewN|apply Kd.S_drew));exact HO_7.out⟩,⟨by repeat (first|(with_reducible exact HR646_0.out)|(with_reducible refine Kd.C_alloc ?_ _)|(with_reducible refine Kd.C_drewN ?_ _)|(with_reducible refine Kd.C_drew ?_)|exact HR646_0.out)⟩,⟨bb HB⟩⟩
              case round =>
               clear H'
               try clear c1
               try clear c2
               try clear p2
               try clear c3
               try clear c5
               try clear c6
               try clear p6
               try clear q6
               try clear hx6
               try clear c9
               try clear c10
               try clear c10b0
               try clear c10b1
               try clear c12
               try clear c12b0
               try clear c12b1
               try clear c14
               try clear c14b0
               try clear c16
               try clear c16b0
               try clear c21
               try clear c25
               try clear c25b0
               try clear c25b1
               try clear c27
               try clear c28
               try clear c28b0
               try clear c29
               try clear c29b0
               try clear c30
               try clear c30b0
               try clear c31
               try clear c31b0
               try clear c31b1
               try clear c31b2
               try clear hx646_0
               try clear p2
               try clear p6
               try clear p646
               try clear q646
               obtain ⟨x10_4,x11_4,rfl,rfl,HA,HK4,HO_7,HR646_0,HB⟩ := hrel
               cases gk with
               | zero => exact absurd HA.out (by simp [privitylaw07_HyperinvertibleNewExtrapolates.l1])
               | succ k4 =>
                have H := HA.out
                clear HA
                simp only [privitylaw07_HyperinvertibleNewExtrapolates.l1] at H
                by_cases c33 : x11_4 < (l1.length : Int)
                ·rw [if_pos c33] at H
                 have c33b0 : decide (x11_4 < (l1.length : Int)) = true := decide_eq_true c33
                 clear c33
                 by_cases c34 : 0 ≤ x9_3
                 ·rw [if_pos c34] at H
                  have c34b0 : decide (0 ≤ x9_3) = true := decide_eq_true c34
                  clear c34
                  by_cases c35 : x9_3 < (t642.length : Int)
                  ·rw [if_pos c35] at H
                   have c35b0 : decide (x9_3 < (t642.length : Int)) = true := decide_eq_true c35
                   clear c35
                   by_cases c36 : 0 ≤ x11_4
                   ·rw [if_pos c36] at H
                    have c36b0 : decide (0 ≤ x11_4) = true := decide_eq_true c36
                    clear c36
                    by_cases c37 : x11_4 < ((rd_L2 t642 x9_3).length : Int)
                    ·rw [if_pos c37] at H
                     have c37b0 : decide (x11_4 < ((rd_L2 t642 x9_3).length : Int)) = true := decide_eq_true c37
                     clear c37
                     replace H := Option.bind_eq_some_iff.mp H
                     obtain ⟨t649,A380,H⟩ := H
                     try dsimp only at H
                     have A38 := am A380
                     clear A380
                     replace H := Option.bind_eq_some_iff.mp H
                     obtain ⟨t650,A390,H⟩ := H
                     try dsimp only at H
                     have A39 := am A390
                     clear A390
                     replace H := Option.bind_eq_some_iff.mp H
                     obtain ⟨t651,A400,H⟩ := H
                     try dsimp only at H
                     have A40 := am A400
                     clear A400
                     have H' := am H
                     clear H
                     have p647 : 0 ≤ (x9_3 : Int) := od
                     have q647 : x9_3 < (t642.length : Int) := od
                     obtain ⟨ad647,A647_0,c647_0,e647,hx647_0,hl647_0,hi647_0⟩ := at_L2 (Kd.S_reads' HO_7.out).2.2 x9_3 p647 q647
                     obtain rfl : ad646 = ad647 := (by injection e647)
                     obtain ⟨ce647,hce647,hMe647,hcc647⟩ := Kd.S_get HO_7.out [] x9_3 p647 (by first|exact q647|exact od|(have e_ := (Kd.S_reads' HO_7.out).1;omega))
                     obtain ⟨ve647_0,rfl,ge647_0⟩ := hMe647
                     have hv647_0 := hcc647 0 _ rfl
                     rw [Nat.add_zero,show ((Kd.slice 22 (Kd.int .u64))).sz = 1 from rfl,Nat.mul_one] at hv647_0
                     replace hv647_0 := Option.some.inj (hv647_0.symm.trans hx647_0)
                     rw [hv647_0] at ge647_0
                     have HL647_0 := am (show Kd.R (Kd.int .u64) 22 _ _ _ _ (rd_L2 t642 x9_3) from ge647_0)
                     clear hv647_0 ge647_0
                     clear hcc647 hce647
                     have HR647_0 := am hi647_0
                     have HC647_0 := am hl647_0
                     clear hi647_0 hl647_0
                     replace p647 := eq_true p647
                     replace q647 := eq_true q647
                     have p648 : 0 ≤ (x11_4 : Int) := od
                     have q648 : x11_4 < ((rd_L2 t642 x9_3).length : Int) := od
                     obtain ⟨ad648,e648,hx648_0⟩ := Kd.at_int (cx HR647_0) x11_4 p648 q648
                     cases e648
                     replace p648 := eq_true p648
                     replace q648 := eq_true q648
                     go_wp2_with (first|(go_at_call 28;(with_reducible refine (poly_Eval.calls k4 a0 _ _ l1 (IntKind.u64.wrap (wrap64 (x11_4 + 1))) t649 _ ?side1 ?side2 A38.out).mono ?_);(case side1 => exact cb HR1 HB);(case side2 => exact HC1.out);rintro e w' ⟨rfl,⟨nd,rfl⟩⟩;(try first|exact ⟨rfl,_,World.drewN_drewN _ _ _⟩|exact ⟨rfl,_,Eq.trans (World.drewN_drewN _ _ _) (congrArg (World.drewN _) (Nat.add_assoc _ _ _))⟩))|(go_at_call 27;(with_reducible refine (field_Mul.calls k4 a0 (rd (rd_L2 t642 x9_3) x11_4) t649 t650 _ A39.out).mono ?_);rintro e w' ⟨rfl,⟨nd,rfl⟩⟩;(try first|exact ⟨rfl,_,World.drewN_drewN _ _ _⟩|exact ⟨rfl,_,Eq.trans (World.drewN_drewN _ _ _) (congrArg (World.drewN _) (Nat.add_assoc _ _ _))⟩))|(go_at_call 26;(with_reducible refine (field_Add.calls k4 a0 x10_4 t650 t651 _ A40.out).mono ?_);rintro e w' ⟨rfl,⟨nd,rfl⟩⟩;(try first|exact ⟨rfl,_,World.drewN_drewN _ _ _⟩|exact ⟨rfl,_,Eq.trans (World.drewN_drewN _ _ _) (congrArg (World.drewN _) (Nat.add_assoc _ _ _))⟩)))
                     repeat (go_quiet (first|(go_at_call 28;(with_reducible refine (poly_Eval.calls k4 a0 _ _ l1 (IntKind.u64.wrap (wrap64 (x11_4 + 1))) t649 _ ?side1 ?side2 A38.out).mono ?_);(case side1 => exact cb HR1 HB);(case side2 => exact HC1.out);rintro e w' ⟨rfl,⟨nd,rfl⟩⟩;(try first|exact ⟨rfl,_,World.drewN_drewN _ _ _⟩|exact ⟨rfl,_,Eq.trans (World.drewN_drewN _ _ _) (congrArg (World.drewN _) (Nat.add_assoc _ _ _))⟩))|(go_at_call 27;(with_reducible refine (field_Mul.calls k4 a0 (rd (rd_L2 t642 x9_3) x11_4) t649 t650 _ A39.out).mono ?_);rintro e w' ⟨rfl,⟨nd,rfl⟩⟩;(try first|exact ⟨rfl,_,World.drewN_drewN _ _ _⟩|exact ⟨rfl,_,Eq.trans (World.drewN_drewN _ _ _) (congrArg (World.drewN _) (Nat.add_assoc _ _ _))⟩))|(go_at_call 26;(with_reducible refine (field_Add.calls k4 a0 x10_4 t650 t651 _ A40.out).mono ?_);rintro e w' ⟨rfl,⟨nd,rfl⟩⟩;(try first|exact ⟨rfl,_,World.drewN_drewN _ _ _⟩|exact ⟨rfl,_,Eq.trans (World.drewN_drewN _ _ _) (congrArg (World.drewN _) (Nat.add_assoc _ _ _))⟩)));try go_wp2_with (first|(go_at_call 28;(with_reducible refine (poly_Eval.calls k4 a0 _ _ l1 (IntKind.u64.wrap (wrap64 (x11_4 + 1))) t649 _ ?side1 ?side2 A38.out).mono ?_);(case side1 => exact cb HR1 HB);(case side2 => exact HC1.out);rintro e w' ⟨rfl,⟨nd,rfl⟩⟩;(try first|exact ⟨rfl,_,World.drewN_drewN _ _ _⟩|exact ⟨rfl,_,Eq.trans (World.drewN_drewN _ _ _) (congrArg (World.drewN _) (Nat.add_assoc _ _ _))⟩))|(go_at_call 27;(with_reducible refine (field_Mul.calls k4 a0 (rd (rd_L2 t642 x9_3) x11_4) t649 t650 _ A39.out).mono ?_);rintro e w' ⟨rfl,⟨nd,rfl⟩⟩;(try first|exact ⟨rfl,_,World.drewN_drewN _ _ _⟩|exact ⟨rfl,_,Eq.trans (World.drewN_drewN _ _ _) (congrArg (World.drewN _) (Nat.add_assoc _ _ _))⟩))|(go_at_call 26;(with_reducible refine (field_Add.calls k4 a0 x10_4 t650 t651 _ A40.out).mono ?_);rintro e w' ⟨rfl,⟨nd,rfl⟩⟩;(try first|exact ⟨rfl,_,World.drewN_drewN _ _ _⟩|exact ⟨rfl,_,Eq.trans (World.drewN_drewN _ _ _) (congrArg (World.drewN _) (Nat.add_assoc _ _ _))⟩))))
                     go_roundg k4
                     case measure => have := HJ5.out;have := HJ22.out;have := HK3.out;have := HK4.out;omega
                     case rel => exact ⟨(t651),(wrap64 (x11_4 + 1)),(by first|rfl|(simp;done)|(simp [*];done)),(by first|rfl|(simp;done)|(simp [*];done)),H',⟨by have := HJ5.out;have := HJ22.out;have := HK3.out;have := HK4.out;omega⟩,⟨by (with_reducible repeat (first|apply Kd.S_alloc|apply Kd.S_drewN|apply Kd.S_drew));exact HO_7.out⟩,⟨by repeat (first|(with_reducible exact HR646_0.out)|(with_reducible refine Kd.C_alloc ?_ _)|(with_reducible refine Kd.C_drewN ?_ _)|(with_reducible refine Kd.C_drew ?_)|exact HR646_0.out)⟩,⟨bb HB⟩⟩
                    ·rw [if_neg c37] at H
                     exact absurd H (by simp)
                   ·rw [if_neg c36] at H
                    exact absurd H (by simp)
                  ·rw [if_neg c35] at H
                   exact absurd H (by simp)
                 ·rw [if_neg c34] at H
                  exact absurd H (by simp)
                ·rw [if_neg c33] at H
                 have c33b0 : decide (x11_4 < (l1.length : Int)) = false := decide_eq_false c33
                 clear c33
                 replace H := Option.bind_eq_some_iff.mp H
                 obtain ⟨t652,A410,H⟩ := H
                 try dsimp only at H
                 have A41 := am A410
                 clear A410
                 by_cases c42 : x10_4 = t652
                 ·rw [if_pos c42] at H
                  have c42b0 : (x10_4 == t652) = true := beq_iff_eq.mpr c42
                  have c42b1 : (x10_4 != t652) = false := bne_eq_false_iff_eq.mpr c42
                  clear c42
                  have H' := am H
                  clear H
                  go_wp2_with (first|(go_at_call 28;(with_reducible refine (poly_Eval.calls k4 a0 _ _ l1 (IntKind.u64.wrap (wrap64 ((wrap64 ((l1.length : Int) + x9_3)) + 1))) t652 _ ?side1 ?side2 A41.out).mono ?_);(case side1 => exact cb HR1 HB);(case side2 => exact HC1.out);rintro e w' ⟨rfl,⟨nd,rfl⟩⟩;(try first|exact ⟨rfl,_,World.drewN_drewN _ _ _⟩|exact ⟨rfl,_,Eq.trans (World.drewN_drewN _ _ _) (congrArg (World.drewN _) (Nat.add_assoc _ _ _))⟩)))
                  repeat (go_quiet (first|(go_at_call 28;(with_reducible refine (poly_Eval.calls k4 a0 _ _ l1 (IntKind.u64.wrap (wrap64 ((wrap64 ((l1.length : Int) + x9_3)) + 1))) t652 _ ?side1 ?side2 A41.out).mono ?_);(case side1 => exact cb HR1 HB);(case side2 => exact HC1.out);rintro e w' ⟨rfl,⟨nd,rfl⟩⟩;(try first|exact ⟨rfl,_,World.drewN_drewN _ _ _⟩|exact ⟨rfl,_,Eq.trans (World.drewN_drewN _ _ _) (congrArg (World.drewN _) (Nat.add_assoc _ _ _))⟩)));try go_wp2_with (first|(go_at_call 28;(with_reducible refine (poly_Eval.calls k4 a0 _ _ l1 (IntKind.u64.wrap (wrap64 ((wrap64 ((l1.length : Int) + x9_3)) + 1))) t652 _ ?side1 ?side2 A41.out).mono ?_);(case side1 => exact cb HR1 HB);(case side2 => exact HC1.out);rintro e w' ⟨rfl,⟨nd,rfl⟩⟩;(try first|exact ⟨rfl,_,World.drewN_drewN _ _ _⟩|exact ⟨rfl,_,Eq.trans (World.drewN_drewN _ _ _) (congrArg (World.drewN _) (Nat.add_assoc _ _ _))⟩))))
                  go_roundg k4
                  case measure => have := HJ5.out;have := HJ22.out;have := HK3.out;have := HK4.out;omega
                  case rel => exact ⟨(wrap64 (x9_3 + 1)),(by first|rfl|(simp;done)|(simp [*];done)),H',⟨by have := HJ5.out;have := HJ22.out;have := HK3.out;have := HK4.out;omega⟩,⟨by (with_reducible repeat (first|apply Kd.S_alloc|apply Kd.S_drewN|apply Kd.S_drew));exact HO_7.out⟩,⟨bb HB⟩⟩
                 ·rw [if_neg c42] at H
                  have c42b0 : (x10_4 == t652) = false := beq_eq_false_iff_ne.mpr c42
                  have c42b1 : (x10_4 != t652) = true := bne_iff_ne.mpr c42
                  exact absurd (Option.some.inj H) (by rw [HRT_.out];simp)
             ·rw [if_neg c31] at H
              have c31b0 : (((rd_L2 t642 x9_3).length : Int) == (l1.length : Int)) = false := beq_eq_false_iff_ne.mpr c31
              have c31b1 : (((rd_L2 t642 x9_3).length : Int) != (l1.length : Int)) = true := bne_iff_ne.mpr c31
              have c31b2 : ((rd_L2 t642 x9_3).length == l1.length) = false := by first|simpa using c31|(simp at c31 ⊢;omega)
              obtain rfl := Option.some.inj H
              obtain ⟨Ao43,co43,eo43⟩ := Kd.S_slice HO_7.out
              subst eo43
              have p646 : 0 ≤ (x9_3 : Int) := od
              have q646 : x9_3 < (t642.length : Int) := od
              obtain ⟨ad646,A646_0,c646_0,e646,hx646_0,hl646_0,hi646_0⟩ := at_L2 (Kd.S_reads' HO_7.out).2.2 x9_3 p646 q646
              cases e646
              obtain ⟨ce646,hce646,hMe646,hcc646⟩ := Kd.S_get HO_7.out [] x9_3 p646 (by first|exact q646|exact od|(have e_ := (Kd.S_reads' HO_7.out).1;omega))
              obtain ⟨ve646_0,rfl,ge646_0⟩ := hMe646
              have hv646_0 := hcc646 0 _ rfl
              rw [Nat.add_zero,show ((Kd.slice 22 (Kd.int .u64))).sz = 1 from rfl,Nat.mul_one] at hv646_0
              replace hv646_0 := Option.some.inj (hv646_0.symm.trans hx646_0)
              rw [hv646_0] at ge646_0
              have HL646_0 := am (show Kd.R (Kd.int .u64) 22 _ _ _ _ (rd_L2 t642 x9_3) from ge646_0)
              clear hv646_0 ge646_0
              clear hcc646 hce646
              have HR646_0 := am hi646_0
              have HC646_0 := am hl646_0
              clear hi646_0 hl646_0
              replace p646 := eq_true p646
              replace q646 := eq_true q646
              go_wp2
              repeat (go_quiet (fail);try go_wp2)
              go_ret
              exact ⟨by first|rfl|(simp [errW_none,errW_some] <;> rfl)|(simp [*,errW_none,errW_some] <;> rfl),bb HB⟩
            ·rw [if_neg c30] at H
             exact absurd H (by simp)
           ·rw [if_neg c29] at H
            exact absurd H (by simp)
          ·rw [if_neg c28] at H
           have c28b0 : decide (x9_3 < (wrap64 (a2))) = false := decide_eq_false c28
           clear c28
           obtain rfl := Option.some.inj H
           go_wp2
           repeat (go_quiet (fail);try go_wp2)
           go_ret
           exact ⟨by first|rfl|(simp [errW_none,errW_some] <;> rfl)|(simp [*,errW_none,errW_some] <;> rfl),bb HB⟩
 ·replace c5 := Bool.eq_false_iff.mpr c5
  subst c5
  rw [if_neg (show ¬ (false = true) by decide)] at H
  exact absurd (Option.some.inj H) (by rw [HRT_.out];simp)
def privitylaw07_HyperinvertibleNewExtrapolates.Pure : Prop := ∀ (a0 : Int) (l1 : List Int) (a2 : Int),(Lit.int .u64 a0).wf = true → l1.length ≤ maxLen → l1.length * 8 ≤ 140737488351232 → (∀ x ∈ l1,(Lit.int .u64 x).wf = true) → (Lit.int .u8 a2).wf = true → ∃ k,privitylaw07_HyperinvertibleNewExtrapolates.f k a0 l1 a2 = some true
theorem privitylaw07_HyperinvertibleNewExtrapolates.walk (P : privitylaw07_HyperinvertibleNewExtrapolates.Pure) (a0 : Int) (a1 : Option Addr) (len1 cap1 : Nat) (z1 : List Int) (a2 : Int) (w : World) (w0 : (Lit.int .u64 a0).wf = true) (w1 : (a1 = none ∧ len1 = 0 ∧ cap1 = 0 ∧ z1 = []) ∨ ∃ x,a1 = some x ∧ len1 ≤ cap1 ∧ cap1 ≤ maxLen ∧ z1.length = cap1 ∧ (∀ i,i < z1.length → w.cell? (x.add i) = some (.int .u64 (z1.getD i 0))) ∧ ∀ n ∈ z1,(Lit.int .u64 n).wf = true) (y1 : len1 * 8 ≤ 140737488351232) (w2 : (Lit.int .u8 a2).wf = true) :
  Calls Try.prog 6 #[.int .u64 a0,.slice a1 len1 cap1,.int .u8 a2] w fun e w' => e = .returned (.bool true) ∧ Below w.heap.size w w' := by
 obtain ⟨l1,rfl,hr1,hm1,hw1,hc1⟩ := ReadsInt.ofRowC w1
 obtain ⟨k,h⟩ := P a0 l1 a2 w0 hm1 y1 hw1 w2
 refine (privitylaw07_HyperinvertibleNewExtrapolates.calls k a0 _ _ l1 a2 true w (Kd.C_of_reads (d := (0 : Int)) (h1 := fun _ => rfl) hr1) hc1 rfl h).mono ?_
 rintro e w' ⟨rfl,hd⟩
 exact ⟨rfl,hd⟩
end Go.Proofs.Ytmdoaijkaaaglaa.Pr
end
section
namespace Go.Proofs.Ytmdoaijkaaaglaa.Pure
open Go.RowKit Go.Proofs.Ytmdoaijkaaaglaa.Pr Go.Proofs.Ytmdoaijkaaaglaa.Hw Go.Proofs.Ytmdoaijkaaaglaa.E Go.Proofs.YtmdoaijkaaaglaaW.PrintWords Go.Proofs.YtmdoaijkaaaglaaW.PrintLast Go.Proofs.YtmdoaijkaaaglaaW.PrintMore
theorem extr_skip (p : Int) (f : List Int) (r : Int) : Ev (fun k => privitylaw07_HyperinvertibleNewExtrapolates.j0 k p f r true) true :=
 Ev.step (f := fun _ => some true) (fun k => by simp only [privitylaw07_HyperinvertibleNewExtrapolates.j0];rw [if_pos trivial]) (Ev.now _)
theorem extr_row {p : Int} (hp : Supp p) {f : List Int} (hf : ∀ x ∈ f,Res p x) (h1 : 1 ≤ f.length) (h12 : f.length ≤ 12) {r i : Nat} (hr : r ≤ 12) (hi : i < r) (h : Ev (fun k => privitylaw07_HyperinvertibleNewExtrapolates.l0 k p f (r : Int) (newM p r f.length) ((i + 1 : Nat) : Int)) true) :
  Ev (fun k => privitylaw07_HyperinvertibleNewExtrapolates.l1 k p f (r : Int) (newM p r f.length) (i : Int) 0 0) true := by
 have hb := hp.bd
 have hrow : rd_L2 (newM p r f.length) (i : Int) = lagL p (((f.length + 1) + i : Nat) : Int) (pz 1 f.length) f.length := by rw [rdM_nat,newM_at hi]
 obtain ⟨row,hro⟩ : ∃ row,row = lagL p (((f.length + 1) + i : Nat) : Int) (pz 1 f.length) f.length := ⟨_,rfl⟩
 rw [← hro] at hrow
 have hln : row.length = f.length := by rw [hro,lagL_length]
 have hres : ∀ x ∈ row,Res p x := by rw [hro];exact lagL_res hp _ _ _
 have hsum : accI p (fun j => row.getD j 0 * evI p ((j + 1 : Nat) : Int) f % p) f.length = evI p (((f.length + 1) + i : Nat) : Int) f := by
  have h2 := weval07 hp (xs := pz 1 f.length) (f := f) (pz_res (by omega)) (pz_nodup _ _) hf (by rw [pz_len];exact Nat.le_refl _) (((f.length + 1) + i : Nat) : Int)
  rw [pz_len,← hro] at h2
  rw [← h2]
  refine accI_congr7 _ fun j hj => ?_
  rw [pz_getD hj,show ((1 + j : Nat) : Int) = ((j + 1 : Nat) : Int) from by omega]
 have main := up (Q := fun j => Ev (fun k => privitylaw07_HyperinvertibleNewExtrapolates.l1 k p f (r : Int) (newM p r f.length) (i : Int) (accI p (fun j => row.getD j 0 * evI p ((j + 1 : Nat) : Int) f % p) j) (j : Int)) true) (n := f.length) ?_ (fun j hj h3 => ?_)
 ·exact main
 ·refine Ev.step (f := fun k => (poly_Eval.f k p f (((f.length + 1) + i : Nat) : Int)).bind fun t => (if accI p (fun j => row.getD j 0 * evI p ((j + 1 : Nat) : Int) f % p) f.length = t then privitylaw07_HyperinvertibleNewExtrapolates.l0 k p f (r : Int) (newM p r f.length) ((i + 1 : Nat) : Int) else some false)) (fun k => ?_) (Ev.bind (eval_ev hp (by exact ⟨by omega,by omega⟩) f hf (by omega)) ?_)
  ·simp only [privitylaw07_HyperinvertibleNewExtrapolates.l1]
   rw [if_neg (by omega),wnat (by omega),show (wrap64 (wrap64 ((f.length : Int) + (i : Int)) + 1)) = (((f.length + 1) + i : Nat) : Int) from by rw [wcap (n := (f.length : Int) + (i : Int)) (by omega) (by omega),wcap (by omega) (by omega)];omega,wrapU_id (by omega) (by omega)]
  ·rw [hsum]
   exact h.congr fun k => if_pos rfl
 ·refine Ev.step (f := fun k => (poly_Eval.f k p f ((j + 1 : Nat) : Int)).bind fun t649 => ((field_Mul.f k p (row.getD j 0) t649).bind fun t650 => ((field_Add.f k p (accI p (fun j => row.getD j 0 * evI p ((j + 1 : Nat) : Int) f % p) j) t650).bind fun t651 => (privitylaw07_HyperinvertibleNewExtrapolates.l1 k p f (r : Int) (newM p r f.length) (i : Int) t651 ((j + 1 : Nat) : Int))))) (fun k => ?_) ?_
  ·simp only [privitylaw07_HyperinvertibleNewExtrapolates.l1]
   rw [if_pos (by omega),if_pos (by omega),if_pos (by rw [newM_len];omega),if_pos (by omega),hrow,if_pos (by omega),wnat (by omega),wrapU_id (by omega) (by omega),rd_nat]
  ·exact Ev.bind (eval_ev hp ⟨by omega,by omega⟩ f hf (by omega)) (Ev.bind (mul_ev hp (res_at hres (by omega)) (evI_res hp _ _)) (Ev.bind (add_ev hp (accI_res hp _ _) (Res.mod hp _)) h3))
theorem extr_main {p : Int} (hp : Supp p) {f : List Int} (hf : ∀ x ∈ f,Res p x) (h1 : 1 ≤ f.length) (h12 : f.length ≤ 12) {r : Nat} (hr1 : 1 ≤ r) (hr : r ≤ 12) : Ev (fun k => privitylaw07_HyperinvertibleNewExtrapolates.j0 k p f (r : Int) false) true := by
 have hN := new_ev hp (r : Int) (f.length : Int)
 rw [newR_ok hp hr1 (by omega) h1 (by omega)] at hN
 have main := up (Q := fun i => Ev (fun k => privitylaw07_HyperinvertibleNewExtrapolates.l0 k p f (r : Int) (newM p r f.length) (i : Int)) true) (n := r) ?_ (fun i hi h => ?_)
 ·refine Ev.step (f := fun k => (hyperinvertible_New.f k p (r : Int) (f.length : Int)).bind fun bt => (if bt.2 = 0 then (privitylaw07_HyperinvertibleNewExtrapolates.j1 k p f (r : Int) bt.1 ((bt.1.length : Int) != (r : Int))) else (privitylaw07_HyperinvertibleNewExtrapolates.j1 k p f (r : Int) bt.1 true))) (fun k => ?_) (Ev.bind hN (Ev.congr (fun k => if_pos rfl) ?_))
  ·simp only [privitylaw07_HyperinvertibleNewExtrapolates.j0]
   rw [if_neg (by simp),wcap (by omega) (by omega)]
  ·rw [ne_bool (show (((newM p r f.length).length : Nat) : Int) = (r : Int) from by rw [newM_len])]
   refine Ev.step (f := fun k => privitylaw07_HyperinvertibleNewExtrapolates.l0 k p f (r : Int) (newM p r f.length) ((0 : Nat) : Int)) (fun k => ?_) main
   simp only [privitylaw07_HyperinvertibleNewExtrapolates.j1]
   rw [if_neg (by simp)];rfl
 ·refine Ev.step (fun k => ?_) (Ev.now _)
  simp only [privitylaw07_HyperinvertibleNewExtrapolates.l0]
  rw [wcap (by omega) (by omega),if_neg (by omega)]
 ·refine Ev.step (f := fun k => privitylaw07_HyperinvertibleNewExtrapolates.l1 k p f (r : Int) (newM p r f.length) (i : Int) 0 0) (fun k => ?_) (extr_row hp hf h1 h12 hr hi h)
  simp only [privitylaw07_HyperinvertibleNewExtrapolates.l0]
  rw [wcap (by omega) (by omega),if_pos (by omega),if_pos (by omega),if_pos (by rw [newM_len];omega),if_pos (by rw [rdM_nat,newM_at hi,lagL_length])]
theorem HyperinvertibleNewExtrapolates : privitylaw07_HyperinvertibleNewExtrapolates.Pure := by
 intro p f r wp hm hm8 wf wr
 refine Ev.rounds (r := true) ?_
 refine ev_if awake07 (fun _ => ev_if (supported_ev p) (fun hs => ev_ite (fun _ => extr_skip p f r) fun h1 => ev_ite (fun _ => extr_skip p f r) fun h2 => ev_ite (fun _ => extr_skip p f r) fun h3 => ev_ite (fun _ => extr_skip p f r) fun h4 => ?_) fun _ => extr_skip p f r) (fun h => by cases h)
 refine Ev.bind (f := fun k t => privitylaw07_HyperinvertibleNewExtrapolates.j0 k p f r (!t)) (below_ev p f (by omega)) ?_
 by_cases hb : belowB p f = true
 ·rw [hb]
  have h := extr_main (supB_of hs) (below_res hb fun x hx => (wf64 (wf x hx)).1) (by omega) (by omega) (r := r.toNat) (by omega) (by omega)
  rw [show ((r.toNat : Nat) : Int) = r from by omega] at h
  exact h
 ·rw [Bool.eq_false_iff.2 hb]
  exact extr_skip p f r
end Go.Proofs.Ytmdoaijkaaaglaa.Pure
end
section
/- Printed by a program of this seat (the kit's printer, with the functions that were proved by hand given to it). What stands here: the functions that the statements reach, as plain functions, and that the Go code computes them. -/
namespace Go.Proofs.Ytmdoaijkaaaglaa.hyperinvertibleNewExtrapolates
open Go.ChangeShapes Go.WideShapes Go.ChangeAt Go.RowKit
open Go.ChangeMaps (open_string shut_string)
theorem own : ownKnob Try.prog.godebug = none := by kernel_rfl
theorem laidOut : laidOutB Try.prog = true := by kernel_rfl
def IsRow (k : IntKind) (w : World) (a : Option Addr) (len cap : Nat) (zs : List Int) : Prop :=
  (a = none ∧ len = 0 ∧ cap = 0 ∧ zs = []) ∨
  ∃ x, a = some x ∧ len ≤ cap ∧ cap ≤ maxLen ∧ zs.length = cap ∧ (∀ i, i < zs.length → w.cell? (x.add i) = some (.int k (zs.getD i 0))) ∧ ∀ n ∈ zs, (Lit.int k n).wf = true
set_option maxRecDepth 100000 in
theorem lifted (os : Os) (started : os.Started) (H : Type) (enc : TypeId × Value → H) :
    ReturnsInHanded {} Try.checked os 6 .any (Rows.hyperinvertibleNewExtrapolatesSpec.pre6 enc Try.prog Try.f6 Rows.hyperinvertibleNewExtrapolatesRow.domain false) (Rows.hyperinvertibleNewExtrapolatesSpec.post enc Try.prog Try.f6 false true false false) := by
  refine returnsInHanded_of_change_sized (C := Try.checked) own started (by kernel_rfl) Try.func6
    (ChangeSpec.witness6 (enc := enc) (C := Try.checked) false ⟨#[], #[.int .u64 0, .slice none 0 0, .int .u8 0], []⟩ 8 (by kernel_rfl) (by kernel_rfl) (by kernel_rfl) (by kernel_rfl)) ?_
  intro W base args ds gs before hval0 hW hcnd hsz0 _
  have hsz : (DataW.weightsEach Try.prog (Try.f6.params.toList ++ Rows.hyperinvertibleNewExtrapolatesSpec.plain.varTypes Try.prog) (ds ++ gs)).all (· ≤ reachBytes) = true := hsz0
  have hval : ∀ (j : Nat) t v, Try.f6.params[j]? = some t → args[j]? = some v → Value.okWide Try.prog W .any base t v := hval0
  have hW' := hW
  obtain ⟨p, q, hA0, hV, rfl, hfz, hnd⟩ := hW
  have hA : DataW.TrodAll enc Try.prog W 0 (fun _ => true) true Try.f6.params.toList args.toList ds p := hA0
  rw [Try.params6] at hA hval hsz
  obtain ⟨v0, vs0, d0, ds0, p0, q0, hargs, rfl, rfl, h0, r0⟩ := trodAll_cons hA
  obtain ⟨v1, vs1, d1, ds1, p1, q1, rfl, rfl, rfl, h1, r1⟩ := trodAll_cons r0
  obtain ⟨v2, vs2, d2, ds2, p2, q2, rfl, rfl, rfl, h2, r2⟩ := trodAll_cons r1
  obtain ⟨rfl, rfl, rfl⟩ := trodAll_nil r2
  obtain rfl : args = #[v0, v1, v2] := by cases args; simp_all
  obtain ⟨rfl, rfl⟩ := trodVars_none hV
  obtain ⟨a0, rfl, rfl, rfl, w0⟩ := open_int Try.underlying22 (hval 0 22 v0 rfl rfl) h0
  obtain ⟨a1, len1, cap1, rfl⟩ := okWide_slice Try.underlying40 (hval 1 40 v1 rfl rfl)
  have k1 := h1
  have lt1 : ∀ x ∈ p1, x.block < W.heap.size := by obtain ⟨m, hm⟩ := k1; exact DataW.trod_lt m _ _ _ hm
  obtain ⟨z1, w1⟩ : ∃ zs, IsRow .u64 W a1 len1 cap1 zs := by
    obtain ⟨fuel, hf⟩ := h1
    rcases open_ints Try.underlying40 Try.underlying22 (by kernel_rfl) hf with ⟨hcs, _⟩ | ⟨x, l, c, zs, hcs, _, hl, hm, hz, _, hcell, hwz⟩
    · simp [Value.cells] at hcs
      obtain ⟨rfl, rfl, rfl⟩ := hcs
      exact ⟨[], .inl ⟨rfl, rfl, rfl, rfl⟩⟩
    · simp [Value.cells] at hcs
      obtain ⟨rfl, rfl, rfl⟩ := hcs
      exact ⟨zs, .inr ⟨_, rfl, hl, hm, by simpa using hz, hcell, hwz⟩⟩
  have y1 : len1 * 8 ≤ 140737488351232 := Go.Proofs.YtmdoaijkaaaglaaW.PrintWords.sized_ints hsz (j := 1) (t := 40) rfl rfl Try.underlying40 Try.underlying22 (by kernel_rfl) (by kernel_rfl) h1
  obtain ⟨a2, rfl, rfl, rfl, w2⟩ := open_int Try.underlying5 (hval 2 5 v2 rfl rfl) h2
  clear hA0 hval0 hsz0 hsz
  refine (Pr.privitylaw07_HyperinvertibleNewExtrapolates.walk Pure.HyperinvertibleNewExtrapolates a0 a1 len1 cap1 z1 a2 W w0 w1 y1 w2).mono fun e W' ⟨he, bel⟩ => ?_
  subst he
  exact ⟨_, rfl, _, _, _, [], _, [], hW', trodAll_mk1 (shut_bool Try.underlying4 _), (trodAll_cons_mk (shut_int Try.underlying22 w0) (trodAll_cons_mk (Below.trod laidOut (by kernel_rfl) (of_decide_eq_true (by kernel_rfl)) k1 bel lt1) (trodAll_cons_mk (shut_int Try.underlying5 w2) trodAll_mk0))), rfl, bel.frame _, fun h => by cases h⟩
theorem over : Rows.hyperinvertibleNewExtrapolatesRow.holds Try.pinned (OpenSpec.ofChange Rows.hyperinvertibleNewExtrapolatesSpec) :=
  OpenClaim.holds_of_wide 6 Try.f6 rfl rfl rfl rfl rfl rfl rfl ⟨rfl, rfl, rfl, rfl, rfl⟩ rfl rfl rfl rfl rfl (by kernel_rfl) Try.func6 (by kernel_rfl)
    (of_decide_eq_true (by kernel_rfl)) (by unfold Func.isWrapper; first | (rw [if_pos (by decide +kernel)]; kernel_rfl) | (rw [if_neg (by decide +kernel)]; exact ⟨rfl, rfl⟩))
    (fun os started H enc _ => lifted os started H enc)
theorem proved : Rows.HyperinvertibleNewExtrapolatesSaid := over
#print axioms proved
end Go.Proofs.Ytmdoaijkaaaglaa.hyperinvertibleNewExtrapolates
namespace Go.Proofs.Ytmdoaijkaaaglaa
/-- The row, under a short name, for the claim. -/
theorem hyperinvertibleNewExtrapolates_holds : Rows.HyperinvertibleNewExtrapolatesSaid := hyperinvertibleNewExtrapolates.proved
end Go.Proofs.Ytmdoaijkaaaglaa
end
