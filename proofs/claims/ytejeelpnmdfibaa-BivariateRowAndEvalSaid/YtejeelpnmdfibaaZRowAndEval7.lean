/- The row of the law BivariateRowAndEval, out of its plain law and the walk. -/
import Derived.Test.YtejeelpnmdfibaaZRowAndEval2
import Derived.Test.YtejeelpnmdfibaaZRowAndEval6
import Derived.Test.YtejeelpnmdfibaaZRowAndEval3
import Derived.Test.YtejeelpnmdfibaaZRowAndEval4
import Derived.Test.YtejeelpnmdfibaaZRowAndEval5
import Derived.Test.YtejeelpnmdfibaaProg
import Derived.ChangeArms
import Derived.DataReads
import Derived.DataElems
import Derived.ShutString
import Derived.ChangeSame
import Derived.OpenShut
import Derived.Test.YtejeelpnmdfibaaZRowAndEval0
import Derived.Test.YtejeelpnmdfibaaRows
import Derived.WalkKit
import Derived.ProofKit
import Derived.ChangeOld
import Derived.Below
import Derived.SizedLaws
section
/- Printed by a program of this seat (the kit's printer, with the functions that were proved by hand given to it). What stands here: the functions that the statements reach, as plain functions, and that the Go code computes them. -/
namespace Go.Proofs.Ytejeelpnmdfibaa.Pr
open Go.RowKit Go.Proofs.YtejeelpnmdfibaaW.PrintWords Go.Proofs.YtejeelpnmdfibaaW.PrintLast Go.Proofs.YtejeelpnmdfibaaW.PrintMore
attribute [local go_sem] max2_int min2_int max_two min_two max_three min_three max_four min_four   -- for this text's walks alone
set_option linter.unusedVariables false
set_option linter.unusedSimpArgs false

open Go.Proofs.Ytejeelpnmdfibaa.Hw
/-! ### privitylaw10_BivariateRowAndEval: function 10 -/
def privitylaw10_BivariateRowAndEval.f (k : Nat) (a0 : Int) (l1 : List (List Int)) (a2_0 : Int) (a2_1 : Int) : Option (Bool) := (privityref10_Fair.f k a0 l1 6).bind fun t640 => (if t640 = true then (if a0 = 0 then (none) else ((privitylaw10_awake.f k).bind fun t642 => (if t642 = true then ((bivariate_Row.f k a0 l1 (Int.tmod a2_0 a0)).bind fun t643 => ((privityref10_Row.f k a0 l1 (Int.tmod a2_0 a0)).bind fun t646 => ((privityref06_SameList.f k t643 t646).bind fun t649 => (if t649 = true then ((bivariate_Eval.f k a0 l1 (Int.tmod a2_0 a0) (Int.tmod a2_1 a0)).bind fun t650 => ((privityref10_Eval.f k a0 l1 (Int.tmod a2_0 a0) (Int.tmod a2_1 a0)).bind fun t651 => (if t650 = t651 then ((bivariate_Eval.f k a0 l1 (Int.tmod a2_0 a0) (Int.tmod a2_1 a0)).bind fun t652 => ((bivariate_Row.f k a0 l1 (Int.tmod a2_0 a0)).bind fun t653 => ((poly_Eval.f k a0 t653 (Int.tmod a2_1 a0)).bind fun t656 => (some (t652 == t656))))) else (some false)))) else (some false))))) else (some false)))) else ((privitylaw10_awake.f k).bind fun t641 => (some t641)))
set_option maxHeartbeats 8000000 in
set_option maxRecDepth 100000 in
theorem privitylaw10_BivariateRowAndEval.calls (k : Nat) (a0 : Int) (A1 : Option Addr) (c1 : Nat) (l1 : List (List Int)) (a2_0 : Int) (a2_1 : Int) (r : Bool) (w : World) (hr1 : Kd.C (Kd.slice 22 (Kd.int .u64)) w A1 l1.length l1) (hc1 : l1.length ≤ c1) (h : privitylaw10_BivariateRowAndEval.f k a0 l1 a2_0 a2_1 = some r) :
  Calls Try.prog 10 #[.int .u64 a0,.slice A1 l1.length c1,.agg #[.int .u64 a2_0,.int .u64 a2_1]] w fun e w' => e = .returned (.bool r) ∧ Below w.heap.size w w' := by
 have hu50 := Try.underlying50
 have HR1 := Aside0.mk hr1
 have HC1 := Aside0.mk hc1
 clear hr1 hc1
 have HB := Aside0.mk (Below.refl w.heap.size w)
 have H : ((privityref10_Fair.f k a0 l1 6).bind fun t640 => (if t640 = true then (if a0 = 0 then (none) else ((privitylaw10_awake.f k).bind fun t642 => (if t642 = true then ((bivariate_Row.f k a0 l1 (Int.tmod a2_0 a0)).bind fun t643 => ((privityref10_Row.f k a0 l1 (Int.tmod a2_0 a0)).bind fun t646 => ((privityref06_SameList.f k t643 t646).bind fun t649 => (if t649 = true then ((bivariate_Eval.f k a0 l1 (Int.tmod a2_0 a0) (Int.tmod a2_1 a0)).bind fun t650 => ((privityref10_Eval.f k a0 l1 (Int.tmod a2_0 a0) (Int.tmod a2_1 a0)).bind fun t651 => (if t650 = t651 then ((bivariate_Eval.f k a0 l1 (Int.tmod a2_0 a0) (Int.tmod a2_1 a0)).bind fun t652 => ((bivariate_Row.f k a0 l1 (Int.tmod a2_0 a0)).bind fun t653 => ((poly_Eval.f k a0 t653 (Int.tmod a2_1 a0)).bind fun t656 => (some (t652 == t656))))) else (some false)))) else (some false))))) else (some false)))) else ((privitylaw10_awake.f k).bind fun t641 => (some t641)))) = some r := h
 clear h
 replace H := Option.bind_eq_some_iff.mp H
 obtain ⟨t640,A40,H⟩ := H
 replace H : (if t640 = true then (if a0 = 0 then (none) else ((privitylaw10_awake.f k).bind fun t642 => (if t642 = true then ((bivariate_Row.f k a0 l1 (Int.tmod a2_0 a0)).bind fun t643 => ((privityref10_Row.f k a0 l1 (Int.tmod a2_0 a0)).bind fun t646 => ((privityref06_SameList.f k t643 t646).bind fun t649 => (if t649 = true then ((bivariate_Eval.f k a0 l1 (Int.tmod a2_0 a0) (Int.tmod a2_1 a0)).bind fun t650 => ((privityref10_Eval.f k a0 l1 (Int.tmod a2_0 a0) (Int.tmod a2_1 a0)).bind fun t651 => (if t650 = t651 then ((bivariate_Eval.f k a0 l1 (Int.tmod a2_0 a0) (Int.tmod a2_1 a0)).bind fun t652 => ((bivariate_Row.f k a0 l1 (Int.tmod a2_0 a0)).bind fun t653 => ((poly_Eval.f k a0 t653 (Int.tmod a2_1 a0)).bind fun t656 => (some (t652 == t656))))) else (some false)))) else (some false))))) else (some false)))) else ((privitylaw10_awake.f k).bind fun t641 => (some t641))) = some r := H
 have A4 := Aside0.mk A40
 clear A40
 by_cases c5 : t640 = true
 ·subst c5
  have H1 : (if a0 = 0 then (none) else ((privitylaw10_awake.f k).bind fun t642 => (if t642 = true then ((bivariate_Row.f k a0 l1 (Int.tmod a2_0 a0)).bind fun t643 => ((privityref10_Row.f k a0 l1 (Int.tmod a2_0 a0)).bind fun t646 => ((privityref06_SameList.f k t643 t646).bind fun t649 => (if t649 = true then ((bivariate_Eval.f k a0 l1 (Int.tmod a2_0 a0) (Int.tmod a2_1 a0)).bind fun t650 => ((privityref10_Eval.f k a0 l1 (Int.tmod a2_0 a0) (Int.tmod a2_1 a0)).bind fun t651 => (if t650 = t651 then ((bivariate_Eval.f k a0 l1 (Int.tmod a2_0 a0) (Int.tmod a2_1 a0)).bind fun t652 => ((bivariate_Row.f k a0 l1 (Int.tmod a2_0 a0)).bind fun t653 => ((poly_Eval.f k a0 t653 (Int.tmod a2_1 a0)).bind fun t656 => (some (t652 == t656))))) else (some false)))) else (some false))))) else (some false)))) = some r := by rw [if_pos rfl] at H;exact H
  clear H
  have H := H1
  clear H1
  by_cases c6 : a0 = 0
  ·rw [if_pos c6] at H
   exact absurd H (by simp)
  ·rw [if_neg c6] at H
   have c6b0 : (a0 == 0) = false := beq_eq_false_iff_ne.mpr c6
   have c6b1 : (a0 != 0) = true := bne_iff_ne.mpr c6
   replace H := Option.bind_eq_some_iff.mp H
   obtain ⟨t642,A70,H⟩ := H
   replace H : (if t642 = true then ((bivariate_Row.f k a0 l1 (Int.tmod a2_0 a0)).bind fun t643 => ((privityref10_Row.f k a0 l1 (Int.tmod a2_0 a0)).bind fun t646 => ((privityref06_SameList.f k t643 t646).bind fun t649 => (if t649 = true then ((bivariate_Eval.f k a0 l1 (Int.tmod a2_0 a0) (Int.tmod a2_1 a0)).bind fun t650 => ((privityref10_Eval.f k a0 l1 (Int.tmod a2_0 a0) (Int.tmod a2_1 a0)).bind fun t651 => (if t650 = t651 then ((bivariate_Eval.f k a0 l1 (Int.tmod a2_0 a0) (Int.tmod a2_1 a0)).bind fun t652 => ((bivariate_Row.f k a0 l1 (Int.tmod a2_0 a0)).bind fun t653 => ((poly_Eval.f k a0 t653 (Int.tmod a2_1 a0)).bind fun t656 => (some (t652 == t656))))) else (some false)))) else (some false))))) else (some false)) = some r := H
   have A7 := Aside0.mk A70
   clear A70
   by_cases c8 : t642 = true
   ·subst c8
    have H1 : ((bivariate_Row.f k a0 l1 (Int.tmod a2_0 a0)).bind fun t643 => ((privityref10_Row.f k a0 l1 (Int.tmod a2_0 a0)).bind fun t646 => ((privityref06_SameList.f k t643 t646).bind fun t649 => (if t649 = true then ((bivariate_Eval.f k a0 l1 (Int.tmod a2_0 a0) (Int.tmod a2_1 a0)).bind fun t650 => ((privityref10_Eval.f k a0 l1 (Int.tmod a2_0 a0) (Int.tmod a2_1 a0)).bind fun t651 => (if t650 = t651 then ((bivariate_Eval.f k a0 l1 (Int.tmod a2_0 a0) (Int.tmod a2_1 a0)).bind fun t652 => ((bivariate_Row.f k a0 l1 (Int.tmod a2_0 a0)).bind fun t653 => ((poly_Eval.f k a0 t653 (Int.tmod a2_1 a0)).bind fun t656 => (some (t652 == t656))))) else (some false)))) else (some false))))) = some r := by rw [if_pos rfl] at H;exact H
    clear H
    have H := H1
    clear H1
    replace H := Option.bind_eq_some_iff.mp H
    obtain ⟨t643,A90,H⟩ := H
    replace H : ((privityref10_Row.f k a0 l1 (Int.tmod a2_0 a0)).bind fun t646 => ((privityref06_SameList.f k t643 t646).bind fun t649 => (if t649 = true then ((bivariate_Eval.f k a0 l1 (Int.tmod a2_0 a0) (Int.tmod a2_1 a0)).bind fun t650 => ((privityref10_Eval.f k a0 l1 (Int.tmod a2_0 a0) (Int.tmod a2_1 a0)).bind fun t651 => (if t650 = t651 then ((bivariate_Eval.f k a0 l1 (Int.tmod a2_0 a0) (Int.tmod a2_1 a0)).bind fun t652 => ((bivariate_Row.f k a0 l1 (Int.tmod a2_0 a0)).bind fun t653 => ((poly_Eval.f k a0 t653 (Int.tmod a2_1 a0)).bind fun t656 => (some (t652 == t656))))) else (some false)))) else (some false)))) = some r := H
    have A9 := Aside0.mk A90
    clear A90
    replace H := Option.bind_eq_some_iff.mp H
    obtain ⟨t646,A100,H⟩ := H
    replace H : ((privityref06_SameList.f k t643 t646).bind fun t649 => (if t649 = true then ((bivariate_Eval.f k a0 l1 (Int.tmod a2_0 a0) (Int.tmod a2_1 a0)).bind fun t650 => ((privityref10_Eval.f k a0 l1 (Int.tmod a2_0 a0) (Int.tmod a2_1 a0)).bind fun t651 => (if t650 = t651 then ((bivariate_Eval.f k a0 l1 (Int.tmod a2_0 a0) (Int.tmod a2_1 a0)).bind fun t652 => ((bivariate_Row.f k a0 l1 (Int.tmod a2_0 a0)).bind fun t653 => ((poly_Eval.f k a0 t653 (Int.tmod a2_1 a0)).bind fun t656 => (some (t652 == t656))))) else (some false)))) else (some false))) = some r := H
    have A10 := Aside0.mk A100
    clear A100
    replace H := Option.bind_eq_some_iff.mp H
    obtain ⟨t649,A110,H⟩ := H
    replace H : (if t649 = true then ((bivariate_Eval.f k a0 l1 (Int.tmod a2_0 a0) (Int.tmod a2_1 a0)).bind fun t650 => ((privityref10_Eval.f k a0 l1 (Int.tmod a2_0 a0) (Int.tmod a2_1 a0)).bind fun t651 => (if t650 = t651 then ((bivariate_Eval.f k a0 l1 (Int.tmod a2_0 a0) (Int.tmod a2_1 a0)).bind fun t652 => ((bivariate_Row.f k a0 l1 (Int.tmod a2_0 a0)).bind fun t653 => ((poly_Eval.f k a0 t653 (Int.tmod a2_1 a0)).bind fun t656 => (some (t652 == t656))))) else (some false)))) else (some false)) = some r := H
    have A11 := Aside0.mk A110
    clear A110
    by_cases c12 : t649 = true
    ·subst c12
     have H1 : ((bivariate_Eval.f k a0 l1 (Int.tmod a2_0 a0) (Int.tmod a2_1 a0)).bind fun t650 => ((privityref10_Eval.f k a0 l1 (Int.tmod a2_0 a0) (Int.tmod a2_1 a0)).bind fun t651 => (if t650 = t651 then ((bivariate_Eval.f k a0 l1 (Int.tmod a2_0 a0) (Int.tmod a2_1 a0)).bind fun t652 => ((bivariate_Row.f k a0 l1 (Int.tmod a2_0 a0)).bind fun t653 => ((poly_Eval.f k a0 t653 (Int.tmod a2_1 a0)).bind fun t656 => (some (t652 == t656))))) else (some false)))) = some r := by rw [if_pos rfl] at H;exact H
     clear H
     have H := H1
     clear H1
     replace H := Option.bind_eq_some_iff.mp H
     obtain ⟨t650,A130,H⟩ := H
     replace H : ((privityref10_Eval.f k a0 l1 (Int.tmod a2_0 a0) (Int.tmod a2_1 a0)).bind fun t651 => (if t650 = t651 then ((bivariate_Eval.f k a0 l1 (Int.tmod a2_0 a0) (Int.tmod a2_1 a0)).bind fun t652 => ((bivariate_Row.f k a0 l1 (Int.tmod a2_0 a0)).bind fun t653 => ((poly_Eval.f k a0 t653 (Int.tmod a2_1 a0)).bind fun t656 => (some (t652 == t656))))) else (some false))) = some r := H
     have A13 := Aside0.mk A130
     clear A130
     replace H := Option.bind_eq_some_iff.mp H
     obtain ⟨t651,A140,H⟩ := H
     replace H : (if t650 = t651 then ((bivariate_Eval.f k a0 l1 (Int.tmod a2_0 a0) (Int.tmod a2_1 a0)).bind fun t652 => ((bivariate_Row.f k a0 l1 (Int.tmod a2_0 a0)).bind fun t653 => ((poly_Eval.f k a0 t653 (Int.tmod a2_1 a0)).bind fun t656 => (some (t652 == t656))))) else (some false)) = some r := H
     have A14 := Aside0.mk A140
     clear A140
     by_cases c15 : t650 = t651
     ·rw [if_pos c15] at H
      have c15b0 : (t650 == t651) = true := beq_iff_eq.mpr c15
      have c15b1 : (t650 != t651) = false := bne_eq_false_iff_eq.mpr c15
      clear c15
      replace H := Option.bind_eq_some_iff.mp H
      obtain ⟨t652,A160,H⟩ := H
      replace H : ((bivariate_Row.f k a0 l1 (Int.tmod a2_0 a0)).bind fun t653 => ((poly_Eval.f k a0 t653 (Int.tmod a2_1 a0)).bind fun t656 => (some (t652 == t656)))) = some r := H
      have A16 := Aside0.mk A160
      clear A160
      replace H := Option.bind_eq_some_iff.mp H
      obtain ⟨t653,A170,H⟩ := H
      replace H : ((poly_Eval.f k a0 t653 (Int.tmod a2_1 a0)).bind fun t656 => (some (t652 == t656))) = some r := H
      have A17 := Aside0.mk A170
      clear A170
      replace H := Option.bind_eq_some_iff.mp H
      obtain ⟨t656,A180,H⟩ := H
      replace H : (some (t652 == t656)) = some r := H
      have A18 := Aside0.mk A180
      clear A180
      obtain rfl := Option.some.inj H
      obtain rfl : t650 = t652 := Option.some.inj (A13.out.symm.trans A16.out)
      obtain rfl : t643 = t653 := Option.some.inj (A9.out.symm.trans A17.out)
      go_enter Try.func10,Try.ntmps10
      go_wp2_with (first|((with_reducible refine gate_dst (N := 5) rfl ?_);refine box_event ?hg (N := 5) ?hd (cs := #[.int .u64 a2_0,.int .u64 a2_1]) (t := 50) ?hr ?_;(case hd => rfl);(case hg => rfl);(case hr => first|(go_simp;done)|(go_simp;rfl));intro gb639 hg w19 hbox hb;have n0_ := Aside0.mk (below_step (by repeat (first|(with_reducible first|exact HB.out|apply below_alloc|apply pw_below_drewN|apply below_drew1)|exact HB.out)) hb);have n1_ := Aside0.mk (hbox);have n2_ := Aside0.mk ((by rw [hg];exact (below_size (by repeat (first|(with_reducible first|exact HB.out|apply below_alloc|apply pw_below_drewN|apply below_drew1)|exact HB.out))) : w.heap.size ≤ gb639));have n3_ := Aside0.mk ((by rw [hg];exact (below_size (by repeat (first|(with_reducible first|exact HB.out|apply below_alloc|apply pw_below_drewN|apply below_drew1)|exact HB.out))) : w.heap.size ≤ gb639));clear HB;have HB := n0_;have BK639 := n1_;have GW639 := n2_;have GE639 := n3_;clear n0_ n1_ n2_ n3_;clear hb hbox hg)|(go_at_call 32;(with_reducible refine (privityref10_Fair.calls k a0 _ _ l1 6 true _ ?side1 ?side2 A4.out).mono ?_);(case side1 => repeat (first|exact (Kd.C_below HR1.out HB.out)|(with_reducible refine Kd.C_alloc ?_ _)|(with_reducible refine Kd.C_drewN ?_ _)|(with_reducible refine Kd.C_drew ?_)));(case side2 => exact HC1.out);rintro e w20 ⟨rfl,hb⟩;have n0_ := Aside0.mk (blk_below (g := gb639) (o := .cells #[.int .u64 a2_0,.int .u64 a2_1] 50 (0,0)) (by (with_reducible repeat (first|refine blk_drewN ?_ _|refine blk_drew ?_|refine blk_alloc ?_ _));exact BK639.out) hb);have n1_ := Aside0.mk (below_step (by repeat (first|(with_reducible first|exact HB.out|apply below_alloc|apply pw_below_drewN|apply below_drew1|refine below_set ?_ GE639.out)|exact HB.out)) hb);clear BK639;clear HB;have BK639 := n0_;have HB := n1_;clear n0_ n1_;(try clear hb);(try clear hb2);(try clear hk);(try clear hi);have hcz21_0 : w20.cell? ⟨gb639,0,none⟩ = some (.int .u64 a2_0) := (blk_cell BK639.out 0).trans rfl;have hcz21_1 : w20.cell? ⟨gb639,1,none⟩ = some (.int .u64 a2_1) := (blk_cell BK639.out 1).trans rfl;have hfz21_0 := blk_frozen BK639.out 0;have hfz21_1 := blk_frozen BK639.out 1)|(go_at_call 33;(with_reducible refine (privitylaw10_awake.calls k  true _ A7.out).mono ?_);rintro e w22 ⟨rfl,hb⟩;have n0_ := Aside0.mk (blk_below (g := gb639) (o := .cells #[.int .u64 a2_0,.int .u64 a2_1] 50 (0,0)) (by (with_reducible repeat (first|refine blk_drewN ?_ _|refine blk_drew ?_|refine blk_alloc ?_ _));exact BK639.out) hb);have n1_ := Aside0.mk (below_step (by repeat (first|(with_reducible first|exact HB.out|apply below_alloc|apply pw_below_drewN|apply below_drew1|refine below_set ?_ GE639.out)|exact HB.out)) hb);clear BK639;clear HB;have BK639 := n0_;have HB := n1_;clear n0_ n1_;(try clear hb);(try clear hb2);(try clear hk);(try clear hi))|(go_at_call 35;(with_reducible refine (bivariate_Row.calls k a0 _ _ l1 (Int.tmod a2_0 a0) t643 _ ?side1 ?side2 A9.out).mono ?_);(case side1 => repeat (first|exact (Kd.C_below HR1.out HB.out)|(with_reducible refine Kd.C_alloc ?_ _)|(with_reducible refine Kd.C_drewN ?_ _)|(with_reducible refine Kd.C_drew ?_)));(case side2 => exact HC1.out);rintro e w23 ⟨v644,rfl,ho0,hb⟩;have n0_ := Aside0.mk (Kd.R_lower ho0 (below_size (by repeat (first|(with_reducible first|exact HB.out|apply below_alloc|apply pw_below_drewN|apply below_drew1|refine below_set ?_ GE639.out)|exact HB.out))));have n1_ := Aside0.mk (blk_below (g := gb639) (o := .cells #[.int .u64 a2_0,.int .u64 a2_1] 50 (0,0)) (by (with_reducible repeat (first|refine blk_drewN ?_ _|refine blk_drew ?_|refine blk_alloc ?_ _));exact BK639.out) hb);have n2_ := Aside0.mk (below_step (by repeat (first|(with_reducible first|exact HB.out|apply below_alloc|apply pw_below_drewN|apply below_drew1|refine below_set ?_ GE639.out)|exact HB.out)) hb);clear BK639;clear HB;have HO645 := n0_;have BK639 := n1_;have HB := n2_;clear n0_ n1_ n2_;(try clear hb);(try clear hb2);(try clear hk);(try clear hi);(try clear ho0))|(go_at_call 19;(with_reducible refine (privityref10_Row.calls k a0 _ _ l1 (Int.tmod a2_0 a0) t646 _ ?side1 ?side2 A10.out).mono ?_);(case side1 => repeat (first|exact (Kd.C_below HR1.out HB.out)|(with_reducible refine Kd.C_alloc ?_ _)|(with_reducible refine Kd.C_drewN ?_ _)|(with_reducible refine Kd.C_drew ?_)));(case side2 => exact HC1.out);rintro e w24 ⟨v647,rfl,ho0,hb⟩;have n0_ := Aside0.mk (Kd.R_elder' (by (with_reducible repeat (first|apply Kd.R_alloc|apply Kd.R_drewN|apply Kd.R_drew));exact HO645.out) (Kd.R_base ho0) hb);have n1_ := Aside0.mk (Kd.R_lower (Kd.R_new' ho0 (Kd.R_lt (by (with_reducible repeat (first|apply Kd.R_alloc|apply Kd.R_drewN|apply Kd.R_drew));exact HO645.out))) (below_size (by repeat (first|(with_reducible first|exact HB.out|apply below_alloc|apply pw_below_drewN|apply below_drew1|refine below_set ?_ GE639.out)|exact HB.out))));have n2_ := Aside0.mk (blk_below (g := gb639) (o := .cells #[.int .u64 a2_0,.int .u64 a2_1] 50 (0,0)) (by (with_reducible repeat (first|refine blk_drewN ?_ _|refine blk_drew ?_|refine blk_alloc ?_ _));exact BK639.out) hb);have n3_ := Aside0.mk (below_step (by repeat (first|(with_reducible first|exact HB.out|apply below_alloc|apply pw_below_drewN|apply below_drew1|refine below_set ?_ GE639.out)|exact HB.out)) hb);clear HO645;clear BK639;clear HB;have HO645 := n0_;have HO648 := n1_;have BK639 := n2_;have HB := n3_;clear n0_ n1_ n2_ n3_;(try clear hb);(try clear hb2);(try clear hk);(try clear hi);(try clear ho0);obtain ⟨Ao25,co25,eo25⟩ := Kd.R_slice HO645.out;subst eo25;obtain ⟨Ao26,co26,eo26⟩ := Kd.R_slice HO648.out;subst eo26)|(go_at_call 34;(with_reducible refine (privityref06_SameList.calls k _ _ t643 _ _ t646 true _ ?side1 ?side2 ?side3 ?side4 A11.out).mono ?_);(case side1 => repeat (first|exact (Kd.R_reads' HO645.out).2.2|(with_reducible refine Kd.C_alloc ?_ _)|(with_reducible refine Kd.C_drewN ?_ _)|(with_reducible refine Kd.C_drew ?_)));(case side2 => exact (Kd.R_reads' HO645.out).2.1);(case side3 => repeat (first|exact (Kd.R_reads' HO648.out).2.2|(with_reducible refine Kd.C_alloc ?_ _)|(with_reducible refine Kd.C_drewN ?_ _)|(with_reducible refine Kd.C_drew ?_)));(case side4 => exact (Kd.R_reads' HO648.out).2.1);rintro e w' ⟨rfl,⟨nd,rfl⟩⟩;(try first|exact ⟨rfl,_,World.drewN_drewN _ _ _⟩|exact ⟨rfl,_,Eq.trans (World.drewN_drewN _ _ _) (congrArg (World.drewN _) (Nat.add_assoc _ _ _))⟩))|(go_at_call 36;(with_reducible refine (bivariate_Eval.calls k a0 _ _ l1 (Int.tmod a2_0 a0) (Int.tmod a2_1 a0) t650 _ ?side1 ?side2 A13.out).mono ?_);(case side1 => repeat (first|exact (Kd.C_below HR1.out (by repeat (first|(with_reducible first|exact HB.out|apply below_alloc|apply pw_below_drewN|apply below_drew1|refine below_set ?_ GE639.out)|exact HB.out)))|(with_reducible refine Kd.C_alloc ?_ _)|(with_reducible refine Kd.C_drewN ?_ _)|(with_reducible refine Kd.C_drew ?_)));(case side2 => exact HC1.out);rintro e w27 ⟨rfl,hb⟩;have n0_ := Aside0.mk (Kd.R_below (by (with_reducible repeat (first|apply Kd.R_alloc|apply Kd.R_drewN|apply Kd.R_drew));exact HO645.out) hb);have n1_ := Aside0.mk (Kd.R_below (by (with_reducible repeat (first|apply Kd.R_alloc|apply Kd.R_drewN|apply Kd.R_drew));exact HO648.out) hb);have n2_ := Aside0.mk (blk_below (g := gb639) (o := .cells #[.int .u64 a2_0,.int .u64 a2_1] 50 (0,0)) (by (with_reducible repeat (first|refine blk_drewN ?_ _|refine blk_drew ?_|refine blk_alloc ?_ _));exact BK639.out) hb);have n3_ := Aside0.mk (below_step (by repeat (first|(with_reducible first|exact HB.out|apply below_alloc|apply pw_below_drewN|apply below_drew1|refine below_set ?_ GE639.out)|exact HB.out)) hb);clear HO645;clear HO648;clear BK639;clear HB;have HO645 := n0_;have HO648 := n1_;have BK639 := n2_;have HB := n3_;clear n0_ n1_ n2_ n3_;(try clear hb);(try clear hb2);(try clear hk);(try clear hi))|(go_at_call 29;(with_reducible refine (privityref10_Eval.calls k a0 _ _ l1 (Int.tmod a2_0 a0) (Int.tmod a2_1 a0) t651 _ ?side1 ?side2 A14.out).mono ?_);(case side1 => repeat (first|exact (Kd.C_below HR1.out HB.out)|(with_reducible refine Kd.C_alloc ?_ _)|(with_reducible refine Kd.C_drewN ?_ _)|(with_reducible refine Kd.C_drew ?_)));(case side2 => exact HC1.out);rintro e w28 ⟨rfl,hb⟩;have n0_ := Aside0.mk (Kd.R_below (by (with_reducible repeat (first|apply Kd.R_alloc|apply Kd.R_drewN|apply Kd.R_drew));exact HO645.out) hb);have n1_ := Aside0.mk (Kd.R_below (by (with_reducible repeat (first|apply Kd.R_alloc|apply Kd.R_drewN|apply Kd.R_drew));exact HO648.out) hb);have n2_ := Aside0.mk (blk_below (g := gb639) (o := .cells #[.int .u64 a2_0,.int .u64 a2_1] 50 (0,0)) (by (with_reducible repeat (first|refine blk_drewN ?_ _|refine blk_drew ?_|refine blk_alloc ?_ _));exact BK639.out) hb);have n3_ := Aside0.mk (below_step (by repeat (first|(with_reducible first|exact HB.out|apply below_alloc|apply pw_below_drewN|apply below_drew1|refine below_set ?_ GE639.out)|exact HB.out)) hb);clear HO645;clear HO648;clear BK639;clear HB;have HO645 := n0_;have HO648 := n1_;have BK639 := n2_;have HB := n3_;clear n0_ n1_ n2_ n3_;(try clear hb);(try clear hb2);(try clear hk);(try clear hi))|(go_at_call 36;(with_reducible refine (bivariate_Eval.calls k a0 _ _ l1 (Int.tmod a2_0 a0) (Int.tmod a2_1 a0) t650 _ ?side1 ?side2 A16.out).mono ?_);(case side1 => repeat (first|exact (Kd.C_below HR1.out HB.out)|(with_reducible refine Kd.C_alloc ?_ _)|(with_reducible refine Kd.C_drewN ?_ _)|(with_reducible refine Kd.C_drew ?_)));(case side2 => exact HC1.out);rintro e w29 ⟨rfl,hb⟩;have n0_ := Aside0.mk (Kd.R_below (by (with_reducible repeat (first|apply Kd.R_alloc|apply Kd.R_drewN|apply Kd.R_drew));exact HO645.out) hb);have n1_ := Aside0.mk (Kd.R_below (by (with_reducible repeat (first|apply Kd.R_alloc|apply Kd.R_drewN|apply Kd.R_drew));exact HO648.out) hb);have n2_ := Aside0.mk (blk_below (g := gb639) (o := .cells #[.int .u64 a2_0,.int .u64 a2_1] 50 (0,0)) (by (with_reducible repeat (first|refine blk_drewN ?_ _|refine blk_drew ?_|refine blk_alloc ?_ _));exact BK639.out) hb);have n3_ := Aside0.mk (below_step (by repeat (first|(with_reducible first|exact HB.out|apply below_alloc|apply pw_below_drewN|apply below_drew1|refine below_set ?_ GE639.out)|exact HB.out)) hb);clear HO645;clear HO648;clear BK639;clear HB;have HO645 := n0_;have HO648 := n1_;have BK639 := n2_;have HB := n3_;clear n0_ n1_ n2_ n3_;(try clear hb);(try clear hb2);(try clear hk);(try clear hi))|(go_at_call 35;(with_reducible refine (bivariate_Row.calls k a0 _ _ l1 (Int.tmod a2_0 a0) t643 _ ?side1 ?side2 A17.out).mono ?_);(case side1 => repeat (first|exact (Kd.C_below HR1.out HB.out)|(with_reducible refine Kd.C_alloc ?_ _)|(with_reducible refine Kd.C_drewN ?_ _)|(with_reducible refine Kd.C_drew ?_)));(case side2 => exact HC1.out);rintro e w30 ⟨v654,rfl,ho0,hb⟩;have n0_ := Aside0.mk (Kd.R_elder' (by (with_reducible repeat (first|apply Kd.R_alloc|apply Kd.R_drewN|apply Kd.R_drew));exact HO645.out) (Kd.R_base ho0) hb);have n1_ := Aside0.mk (Kd.R_elder' (by (with_reducible repeat (first|apply Kd.R_alloc|apply Kd.R_drewN|apply Kd.R_drew));exact HO648.out) (Kd.R_base ho0) hb);have n2_ := Aside0.mk (Kd.R_lower (Kd.R_new' (Kd.R_new' ho0 (Kd.R_lt (by (with_reducible repeat (first|apply Kd.R_alloc|apply Kd.R_drewN|apply Kd.R_drew));exact HO645.out))) (Kd.R_lt (by (with_reducible repeat (first|apply Kd.R_alloc|apply Kd.R_drewN|apply Kd.R_drew));exact HO648.out))) (below_size (by repeat (first|(with_reducible first|exact HB.out|apply below_alloc|apply pw_below_drewN|apply below_drew1|refine below_set ?_ GE639.out)|exact HB.out))));have n3_ := Aside0.mk (blk_below (g := gb639) (o := .cells #[.int .u64 a2_0,.int .u64 a2_1] 50 (0,0)) (by (with_reducible repeat (first|refine blk_drewN ?_ _|refine blk_drew ?_|refine blk_alloc ?_ _));exact BK639.out) hb);have n4_ := Aside0.mk (below_step (by repeat (first|(with_reducible first|exact HB.out|apply below_alloc|apply pw_below_drewN|apply below_drew1|refine below_set ?_ GE639.out)|exact HB.out)) hb);clear HO645;clear HO648;clear BK639;clear HB;have HO645 := n0_;have HO648 := n1_;have HO645 := n2_;have BK639 := n3_;have HB := n4_;clear n0_ n1_ n2_ n3_ n4_;(try clear hb);(try clear hb2);(try clear hk);(try clear hi);(try clear ho0);obtain ⟨Ao31,co31,eo31⟩ := Kd.R_slice HO645.out;subst eo31)|(go_at_call 37;obtain ⟨Ao9_,co9_,eo9_⟩ := Kd.R_slice HO645.out;subst eo9_;(with_reducible refine (poly_Eval.calls k a0 _ _ t643 (Int.tmod a2_1 a0) t656 _ ?side1 ?side2 A18.out).mono ?_);(case side1 => repeat (first|exact (Kd.R_reads' HO645.out).2.2|(with_reducible refine Kd.C_alloc ?_ _)|(with_reducible refine Kd.C_drewN ?_ _)|(with_reducible refine Kd.C_drew ?_)));(case side2 => exact (Kd.R_reads' HO645.out).2.1);rintro e w' ⟨rfl,⟨nd,rfl⟩⟩;(try first|exact ⟨rfl,_,World.drewN_drewN _ _ _⟩|exact ⟨rfl,_,Eq.trans (World.drewN_drewN _ _ _) (congrArg (World.drewN _) (Nat.add_assoc _ _ _))⟩)))
      repeat (go_quiet (first|((with_reducible refine gate_dst (N := 5) rfl ?_);refine box_event ?hg (N := 5) ?hd (cs := #[.int .u64 a2_0,.int .u64 a2_1]) (t := 50) ?hr ?_;(case hd => rfl);(case hg => rfl);(case hr => first|(go_simp;done)|(go_simp;rfl));intro gb639 hg w19 hbox hb;have n0_ := Aside0.mk (below_step (by repeat (first|(with_reducible first|exact HB.out|apply below_alloc|apply pw_below_drewN|apply below_drew1)|exact HB.out)) hb);have n1_ := Aside0.mk (hbox);have n2_ := Aside0.mk ((by rw [hg];exact (below_size (by repeat (first|(with_reducible first|exact HB.out|apply below_alloc|apply pw_below_drewN|apply below_drew1)|exact HB.out))) : w.heap.size ≤ gb639));have n3_ := Aside0.mk ((by rw [hg];exact (below_size (by repeat (first|(with_reducible first|exact HB.out|apply below_alloc|apply pw_below_drewN|apply below_drew1)|exact HB.out))) : w.heap.size ≤ gb639));clear HB;have HB := n0_;have BK639 := n1_;have GW639 := n2_;have GE639 := n3_;clear n0_ n1_ n2_ n3_;clear hb hbox hg)|(go_at_call 32;(with_reducible refine (privityref10_Fair.calls k a0 _ _ l1 6 true _ ?side1 ?side2 A4.out).mono ?_);(case side1 => repeat (first|exact (Kd.C_below HR1.out HB.out)|(with_reducible refine Kd.C_alloc ?_ _)|(with_reducible refine Kd.C_drewN ?_ _)|(with_reducible refine Kd.C_drew ?_)));(case side2 => exact HC1.out);rintro e w20 ⟨rfl,hb⟩;have n0_ := Aside0.mk (blk_below (g := gb639) (o := .cells #[.int .u64 a2_0,.int .u64 a2_1] 50 (0,0)) (by (with_reducible repeat (first|refine blk_drewN ?_ _|refine blk_drew ?_|refine blk_alloc ?_ _));exact BK639.out) hb);have n1_ := Aside0.mk (below_step (by repeat (first|(with_reducible first|exact HB.out|apply below_alloc|apply pw_below_drewN|apply below_drew1|refine below_set ?_ GE639.out)|exact HB.out)) hb);clear BK639;clear HB;have BK639 := n0_;have HB := n1_;clear n0_ n1_;(try clear hb);(try clear hb2);(try clear hk);(try clear hi);have hcz21_0 : w20.cell? ⟨gb639,0,none⟩ = some (.int .u64 a2_0) := (blk_cell BK639.out 0).trans rfl;have hcz21_1 : w20.cell? ⟨gb639,1,none⟩ = some (.int .u64 a2_1) := (blk_cell BK639.out 1).trans rfl;have hfz21_0 := blk_frozen BK639.out 0;have hfz21_1 := blk_frozen BK639.out 1)|(go_at_call 33;(with_reducible refine (privitylaw10_awake.calls k  true _ A7.out).mono ?_);rintro e w22 ⟨rfl,hb⟩;have n0_ := Aside0.mk (blk_below (g := gb639) (o := .cells #[.int .u64 a2_0,.int .u64 a2_1] 50 (0,0)) (by (with_reducible repeat (first|refine blk_drewN ?_ _|refine blk_drew ?_|refine blk_alloc ?_ _));exact BK639.out) hb);have n1_ := Aside0.mk (below_step (by repeat (first|(with_reducible first|exact HB.out|apply below_alloc|apply pw_below_drewN|apply below_drew1|refine below_set ?_ GE639.out)|exact HB.out)) hb);clear BK639;clear HB;have BK639 := n0_;have HB := n1_;clear n0_ n1_;(try clear hb);(try clear hb2);(try clear hk);(try clear hi))|(go_at_call 35;(with_reducible refine (bivariate_Row.calls k a0 _ _ l1 (Int.tmod a2_0 a0) t643 _ ?side1 ?side2 A9.out).mono ?_);(case side1 => repeat (first|exact (Kd.C_below HR1.out HB.out)|(with_reducible refine Kd.C_alloc ?_ _)|(with_reducible refine Kd.C_drewN ?_ _)|(with_reducible refine Kd.C_drew ?_)));(case side2 => exact HC1.out);rintro e w23 ⟨v644,rfl,ho0,hb⟩;have n0_ := Aside0.mk (Kd.R_lower ho0 (below_size (by repeat (first|(with_reducible first|exact HB.out|apply below_alloc|apply pw_below_drewN|apply below_drew1|refine below_set ?_ GE639.out)|exact HB.out))));have n1_ := Aside0.mk (blk_below (g := gb639) (o := .cells #[.int .u64 a2_0,.int .u64 a2_1] 50 (0,0)) (by (with_reducible repeat (first|refine blk_drewN ?_ _|refine blk_drew ?_|refine blk_alloc ?_ _));exact BK639.out) hb);have n2_ := Aside0.mk (below_step (by repeat (first|(with_reducible first|exact HB.out|apply below_alloc|apply pw_below_drewN|apply below_drew1|refine below_set ?_ GE639.out)|exact HB.out)) hb);clear BK639;clear HB;have HO645 := n0_;have BK639 := n1_;have HB := n2_;clear n0_ n1_ n2_;(try clear hb);(try clear hb2);(try clear hk);(try clear hi);(try clear ho0))|(go_at_call 19;(with_reducible refine (privityref10_Row.calls k a0 _ _ l1 (Int.tmod a2_0 a0) t646 _ ?side1 ?side2 A10.out).mono ?_);(case side1 => repeat (first|exact (Kd.C_below HR1.out HB.out)|(with_reducible refine Kd.C_alloc ?_ _)|(with_reducible refine Kd.C_drewN ?_ _)|(with_reducible refine Kd.C_drew ?_)));(case side2 => exact HC1.out);rintro e w24 ⟨v647,rfl,ho0,hb⟩;have n0_ := Aside0.mk (Kd.R_elder' (by (with_reducible repeat (first|apply Kd.R_alloc|apply Kd.R_drewN|apply Kd.R_drew));exact HO645.out) (Kd.R_base ho0) hb);have n1_ := Aside0.mk (Kd.R_lower (Kd.R_new' ho0 (Kd.R_lt (by (with_reducible repeat (first|apply Kd.R_alloc|apply Kd.R_drewN|apply Kd.R_drew));exact HO645.out))) (below_size (by repeat (first|(with_reducible first|exact HB.out|apply below_alloc|apply pw_below_drewN|apply below_drew1|refine below_set ?_ GE639.out)|exact HB.out))));have n2_ := Aside0.mk (blk_below (g := gb639) (o := .cells #[.int .u64 a2_0,.int .u64 a2_1] 50 (0,0)) (by (with_reducible repeat (first|refine blk_drewN ?_ _|refine blk_drew ?_|refine blk_alloc ?_ _));exact BK639.out) hb);have n3_ := Aside0.mk (below_step (by repeat (first|(with_reducible first|exact HB.out|apply below_alloc|apply pw_below_drewN|apply below_drew1|refine below_set ?_ GE639.out)|exact HB.out)) hb);clear HO645;clear BK639;clear HB;have HO645 := n0_;have HO648 := n1_;have BK639 := n2_;have HB := n3_;clear n0_ n1_ n2_ n3_;(try clear hb);(try clear hb2);(try clear hk);(try clear hi);(try clear ho0);obtain ⟨Ao25,co25,eo25⟩ := Kd.R_slice HO645.out;subst eo25;obtain ⟨Ao26,co26,eo26⟩ := Kd.R_slice HO648.out;subst eo26)|(go_at_call 34;(with_reducible refine (privityref06_SameList.calls k _ _ t643 _ _ t646 true _ ?side1 ?side2 ?side3 ?side4 A11.out).mono ?_);(case side1 => repeat (first|exact (Kd.R_reads' HO645.out).2.2|(with_reducible refine Kd.C_alloc ?_ _)|(with_reducible refine Kd.C_drewN ?_ _)|(with_reducible refine Kd.C_drew ?_)));(case side2 => exact (Kd.R_reads' HO645.out).2.1);(case side3 => repeat (first|exact (Kd.R_reads' HO648.out).2.2|(with_reducible refine Kd.C_alloc ?_ _)|(with_reducible refine Kd.C_drewN ?_ _)|(with_reducible refine Kd.C_drew ?_)));(case side4 => exact (Kd.R_reads' HO648.out).2.1);rintro e w' ⟨rfl,⟨nd,rfl⟩⟩;(try first|exact ⟨rfl,_,World.drewN_drewN _ _ _⟩|exact ⟨rfl,_,Eq.trans (World.drewN_drewN _ _ _) (congrArg (World.drewN _) (Nat.add_assoc _ _ _))⟩))|(go_at_call 36;(with_reducible refine (bivariate_Eval.calls k a0 _ _ l1 (Int.tmod a2_0 a0) (Int.tmod a2_1 a0) t650 _ ?side1 ?side2 A13.out).mono ?_);(case side1 => repeat (first|exact (Kd.C_below HR1.out (by repeat (first|(with_reducible first|exact HB.out|apply below_alloc|apply pw_below_drewN|apply below_drew1|refine below_set ?_ GE639.out)|exact HB.out)))|(with_reducible refine Kd.C_alloc ?_ _)|(with_reducible refine Kd.C_drewN ?_ _)|(with_reducible refine Kd.C_drew ?_)));(case side2 => exact HC1.out);rintro e w27 ⟨rfl,hb⟩;have n0_ := Aside0.mk (Kd.R_below (by (with_reducible repeat (first|apply Kd.R_alloc|apply Kd.R_drewN|apply Kd.R_drew));exact HO645.out) hb);have n1_ := Aside0.mk (Kd.R_below (by (with_reducible repeat (first|apply Kd.R_alloc|apply Kd.R_drewN|apply Kd.R_drew));exact HO648.out) hb);have n2_ := Aside0.mk (blk_below (g := gb639) (o := .cells #[.int .u64 a2_0,.int .u64 a2_1] 50 (0,0)) (by (with_reducible repeat (first|refine blk_drewN ?_ _|refine blk_drew ?_|refine blk_alloc ?_ _));exact BK639.out) hb);have n3_ := Aside0.mk (below_step (by repeat (first|(with_reducible first|exact HB.out|apply below_alloc|apply pw_below_drewN|apply below_drew1|refine below_set ?_ GE639.out)|exact HB.out)) hb);clear HO645;clear HO648;clear BK639;clear HB;have HO645 := n0_;have HO648 := n1_;have BK639 := n2_;have HB := n3_;clear n0_ n1_ n2_ n3_;(try clear hb);(try clear hb2);(try clear hk);(try clear hi))|(go_at_call 29;(with_reducible refine (privityref10_Eval.calls k a0 _ _ l1 (Int.tmod a2_0 a0) (Int.tmod a2_1 a0) t651 _ ?side1 ?side2 A14.out).mono ?_);(case side1 => repeat (first|exact (Kd.C_below HR1.out HB.out)|(with_reducible refine Kd.C_alloc ?_ _)|(with_reducible refine Kd.C_drewN ?_ _)|(with_reducible refine Kd.C_drew ?_)));(case side2 => exact HC1.out);rintro e w28 ⟨rfl,hb⟩;have n0_ := Aside0.mk (Kd.R_below (by (with_reducible repeat (first|apply Kd.R_alloc|apply Kd.R_drewN|apply Kd.R_drew));exact HO645.out) hb);have n1_ := Aside0.mk (Kd.R_below (by (with_reducible repeat (first|apply Kd.R_alloc|apply Kd.R_drewN|apply Kd.R_drew));exact HO648.out) hb);have n2_ := Aside0.mk (blk_below (g := gb639) (o := .cells #[.int .u64 a2_0,.int .u64 a2_1] 50 (0,0)) (by (with_reducible repeat (first|refine blk_drewN ?_ _|refine blk_drew ?_|refine blk_alloc ?_ _));exact BK639.out) hb);have n3_ := Aside0.mk (below_step (by repeat (first|(with_reducible first|exact HB.out|apply below_alloc|apply pw_below_drewN|apply below_drew1|refine below_set ?_ GE639.out)|exact HB.out)) hb);clear HO645;clear HO648;clear BK639;clear HB;have HO645 := n0_;have HO648 := n1_;have BK639 := n2_;have HB := n3_;clear n0_ n1_ n2_ n3_;(try clear hb);(try clear hb2);(try clear hk);(try clear hi))|(go_at_call 36;(with_reducible refine (bivariate_Eval.calls k a0 _ _ l1 (Int.tmod a2_0 a0) (Int.tmod a2_1 a0) t650 _ ?side1 ?side2 A16.out).mono ?_);(case side1 => repeat (first|exact (Kd.C_below HR1.out HB.out)|(with_reducible refine Kd.C_alloc ?_ _)|(with_reducible refine Kd.C_drewN ?_ _)|(with_reducible refine Kd.C_drew ?_)));(case side2 => exact HC1.out);rintro e w29 ⟨rfl,hb⟩;have n0_ := Aside0.mk (Kd.R_below (by (with_reducible repeat (first|apply Kd.R_alloc|apply Kd.R_drewN|apply Kd.R_drew));exact HO645.out) hb);have n1_ := Aside0.mk (Kd.R_below (by (with_reducible repeat (first|apply Kd.R_alloc|apply Kd.R_drewN|apply Kd.R_drew));exact HO648.out) hb);have n2_ := Aside0.mk (blk_below (g := gb639) (o := .cells #[.int .u64 a2_0,.int .u64 a2_1] 50 (0,0)) (by (with_reducible repeat (first|refine blk_drewN ?_ _|refine blk_drew ?_|refine blk_alloc ?_ _));exact BK639.out) hb);have n3_ := Aside0.mk (below_step (by repeat (first|(with_reducible first|exact HB.out|apply below_alloc|apply pw_below_drewN|apply below_drew1|refine below_set ?_ GE639.out)|exact HB.out)) hb);clear HO645;clear HO648;clear BK639;clear HB;have HO645 := n0_;have HO648 := n1_;have BK639 := n2_;have HB := n3_;clear n0_ n1_ n2_ n3_;(try clear hb);(try clear hb2);(try clear hk);(try clear hi))|(go_at_call 35;(with_reducible refine (bivariate_Row.calls k a0 _ _ l1 (Int.tmod a2_0 a0) t643 _ ?side1 ?side2 A17.out).mono ?_);(case side1 => repeat (first|exact (Kd.C_below HR1.out HB.out)|(with_reducible refine Kd.C_alloc ?_ _)|(with_reducible refine Kd.C_drewN ?_ _)|(with_reducible refine Kd.C_drew ?_)));(case side2 => exact HC1.out);rintro e w30 ⟨v654,rfl,ho0,hb⟩;have n0_ := Aside0.mk (Kd.R_elder' (by (with_reducible repeat (first|apply Kd.R_alloc|apply Kd.R_drewN|apply Kd.R_drew));exact HO645.out) (Kd.R_base ho0) hb);have n1_ := Aside0.mk (Kd.R_elder' (by (with_reducible repeat (first|apply Kd.R_alloc|apply Kd.R_drewN|apply Kd.R_drew));exact HO648.out) (Kd.R_base ho0) hb);have n2_ := Aside0.mk (Kd.R_lower (Kd.R_new' (Kd.R_new' ho0 (Kd.R_lt (by (with_reducible repeat (first|apply Kd.R_alloc|apply Kd.R_drewN|apply Kd.R_drew));exact HO645.out))) (Kd.R_lt (by (with_reducible repeat (first|apply Kd.R_alloc|apply Kd.R_drewN|apply Kd.R_drew));exact HO648.out))) (below_size (by repeat (first|(with_reducible first|exact HB.out|apply below_alloc|apply pw_below_drewN|apply below_drew1|refine below_set ?_ GE639.out)|exact HB.out))));have n3_ := Aside0.mk (blk_below (g := gb639) (o := .cells #[.int .u64 a2_0,.int .u64 a2_1] 50 (0,0)) (by (with_reducible repeat (first|refine blk_drewN ?_ _|refine blk_drew ?_|refine blk_alloc ?_ _));exact BK639.out) hb);have n4_ := Aside0.mk (below_step (by repeat (first|(with_reducible first|exact HB.out|apply below_alloc|apply pw_below_drewN|apply below_drew1|refine below_set ?_ GE639.out)|exact HB.out)) hb);clear HO645;clear HO648;clear BK639;clear HB;have HO645 := n0_;have HO648 := n1_;have HO645 := n2_;have BK639 := n3_;have HB := n4_;clear n0_ n1_ n2_ n3_ n4_;(try clear hb);(try clear hb2);(try clear hk);(try clear hi);(try clear ho0);obtain ⟨Ao31,co31,eo31⟩ := Kd.R_slice HO645.out;subst eo31)|(go_at_call 37;obtain ⟨Ao9_,co9_,eo9_⟩ := Kd.R_slice HO645.out;subst eo9_;(with_reducible refine (poly_Eval.calls k a0 _ _ t643 (Int.tmod a2_1 a0) t656 _ ?side1 ?side2 A18.out).mono ?_);(case side1 => repeat (first|exact (Kd.R_reads' HO645.out).2.2|(with_reducible refine Kd.C_alloc ?_ _)|(with_reducible refine Kd.C_drewN ?_ _)|(with_reducible refine Kd.C_drew ?_)));(case side2 => exact (Kd.R_reads' HO645.out).2.1);rintro e w' ⟨rfl,⟨nd,rfl⟩⟩;(try first|exact ⟨rfl,_,World.drewN_drewN _ _ _⟩|exact ⟨rfl,_,Eq.trans (World.drewN_drewN _ _ _) (congrArg (World.drewN _) (Nat.add_assoc _ _ _))⟩)));try go_wp2_with (first|((with_reducible refine gate_dst (N := 5) rfl ?_);refine box_event ?hg (N := 5) ?hd (cs := #[.int .u64 a2_0,.int .u64 a2_1]) (t := 50) ?hr ?_;(case hd => rfl);(case hg => rfl);(case hr => first|(go_simp;done)|(go_simp;rfl));intro gb639 hg w19 hbox hb;have n0_ := Aside0.mk (below_step (by repeat (first|(with_reducible first|exact HB.out|apply below_alloc|apply pw_below_drewN|apply below_drew1)|exact HB.out)) hb);have n1_ := Aside0.mk (hbox);have n2_ := Aside0.mk ((by rw [hg];exact (below_size (by repeat (first|(with_reducible first|exact HB.out|apply below_alloc|apply pw_below_drewN|apply below_drew1)|exact HB.out))) : w.heap.size ≤ gb639));have n3_ := Aside0.mk ((by rw [hg];exact (below_size (by repeat (first|(with_reducible first|exact HB.out|apply below_alloc|apply pw_below_drewN|apply below_drew1)|exact HB.out))) : w.heap.size ≤ gb639));clear HB;have HB := n0_;have BK639 := n1_;have GW639 := n2_;have GE639 := n3_;clear n0_ n1_ n2_ n3_;clear hb hbox hg)|(go_at_call 32;(with_reducible refine (privityref10_Fair.calls k a0 _ _ l1 6 true _ ?side1 ?side2 A4.out).mono ?_);(case side1 => repeat (first|exact (Kd.C_below HR1.out HB.out)|(with_reducible refine Kd.C_alloc ?_ _)|(with_reducible refine Kd.C_drewN ?_ _)|(with_reducible refine Kd.C_drew ?_)));(case side2 => exact HC1.out);rintro e w20 ⟨rfl,hb⟩;have n0_ := Aside0.mk (blk_below (g := gb639) (o := .cells #[.int .u64 a2_0,.int .u64 a2_1] 50 (0,0)) (by (with_reducible repeat (first|refine blk_drewN ?_ _|refine blk_drew ?_|refine blk_alloc ?_ _));exact BK639.out) hb);have n1_ := Aside0.mk (below_step (by repeat (first|(with_reducible first|exact HB.out|apply below_alloc|apply pw_below_drewN|apply below_drew1|refine below_set ?_ GE639.out)|exact HB.out)) hb);clear BK639;clear HB;have BK639 := n0_;have HB := n1_;clear n0_ n1_;(try clear hb);(try clear hb2);(try clear hk);(try clear hi);have hcz21_0 : w20.cell? ⟨gb639,0,none⟩ = some (.int .u64 a2_0) := (blk_cell BK639.out 0).trans rfl;have hcz21_1 : w20.cell? ⟨gb639,1,none⟩ = some (.int .u64 a2_1) := (blk_cell BK639.out 1).trans rfl;have hfz21_0 := blk_frozen BK639.out 0;have hfz21_1 := blk_frozen BK639.out 1)|(go_at_call 33;(with_reducible refine (privitylaw10_awake.calls k  true _ A7.out).mono ?_);rintro e w22 ⟨rfl,hb⟩;have n0_ := Aside0.mk (blk_below (g := gb639) (o := .cells #[.int .u64 a2_0,.int .u64 a2_1] 50 (0,0)) (by (with_reducible repeat (first|refine blk_drewN ?_ _|refine blk_drew ?_|refine blk_alloc ?_ _));exact BK639.out) hb);have n1_ := Aside0.mk (below_step (by repeat (first|(with_reducible first|exact HB.out|apply below_alloc|apply pw_below_drewN|apply below_drew1|refine below_set ?_ GE639.out)|exact HB.out)) hb);clear BK639;clear HB;have BK639 := n0_;have HB := n1_;clear n0_ n1_;(try clear hb);(try clear hb2);(try clear hk);(try clear hi))|(go_at_call 35;(with_reducible refine (bivariate_Row.calls k a0 _ _ l1 (Int.tmod a2_0 a0) t643 _ ?side1 ?side2 A9.out).mono ?_);(case side1 => repeat (first|exact (Kd.C_below HR1.out HB.out)|(with_reducible refine Kd.C_alloc ?_ _)|(with_reducible refine Kd.C_drewN ?_ _)|(with_reducible refine Kd.C_drew ?_)));(case side2 => exact HC1.out);rintro e w23 ⟨v644,rfl,ho0,hb⟩;have n0_ := Aside0.mk (Kd.R_lower ho0 (below_size (by repeat (first|(with_reducible first|exact HB.out|apply below_alloc|apply pw_below_drewN|apply below_drew1|refine below_set ?_ GE639.out)|exact HB.out))));have n1_ := Aside0.mk (blk_below (g := gb639) (o := .cells #[.int .u64 a2_0,.int .u64 a2_1] 50 (0,0)) (by (with_reducible repeat (first|refine blk_drewN ?_ _|refine blk_drew ?_|refine blk_alloc ?_ _));exact BK639.out) hb);have n2_ := Aside0.mk (below_step (by repeat (first|(with_reducible first|exact HB.out|apply below_alloc|apply pw_below_drewN|apply below_drew1|refine below_set ?_ GE639.out)|exact HB.out)) hb);clear BK639;clear HB;have HO645 := n0_;have BK639 := n1_;have HB := n2_;clear n0_ n1_ n2_;(try clear hb);(try clear hb2);(try clear hk);(try clear hi);(try clear ho0))|(go_at_call 19;(with_reducible refine (privityref10_Row.calls k a0 _ _ l1 (Int.tmod a2_0 a0) t646 _ ?side1 ?side2 A10.out).mono ?_);(case side1 => repeat (first|exact (Kd.C_below HR1.out HB.out)|(with_reducible refine Kd.C_alloc ?_ _)|(with_reducible refine Kd.C_drewN ?_ _)|(with_reducible refine Kd.C_drew ?_)));(case side2 => exact HC1.out);rintro e w24 ⟨v647,rfl,ho0,hb⟩;have n0_ := Aside0.mk (Kd.R_elder' (by (with_reducible repeat (first|apply Kd.R_alloc|apply Kd.R_drewN|apply Kd.R_drew));exact HO645.out) (Kd.R_base ho0) hb);have n1_ := Aside0.mk (Kd.R_lower (Kd.R_new' ho0 (Kd.R_lt (by (with_reducible repeat (first|apply Kd.R_alloc|apply Kd.R_drewN|apply Kd.R_drew));exact HO645.out))) (below_size (by repeat (first|(with_reducible first|exact HB.out|apply below_alloc|apply pw_below_drewN|apply below_drew1|refine below_set ?_ GE639.out)|exact HB.out))));have n2_ := Aside0.mk (blk_below (g := gb639) (o := .cells #[.int .u64 a2_0,.int .u64 a2_1] 50 (0,0)) (by (with_reducible repeat (first|refine blk_drewN ?_ _|refine blk_drew ?_|refine blk_alloc ?_ _));exact BK639.out) hb);have n3_ := Aside0.mk (below_step (by repeat (first|(with_reducible first|exact HB.out|apply below_alloc|apply pw_below_drewN|apply below_drew1|refine below_set ?_ GE639.out)|exact HB.out)) hb);clear HO645;clear BK639;clear HB;have HO645 := n0_;have HO648 := n1_;have BK639 := n2_;have HB := n3_;clear n0_ n1_ n2_ n3_;(try clear hb);(try clear hb2);(try clear hk);(try clear hi);(try clear ho0);obtain ⟨Ao25,co25,eo25⟩ := Kd.R_slice HO645.out;subst eo25;obtain ⟨Ao26,co26,eo26⟩ := Kd.R_slice HO648.out;subst eo26)|(go_at_call 34;(with_reducible refine (privityref06_SameList.calls k _ _ t643 _ _ t646 true _ ?side1 ?side2 ?side3 ?side4 A11.out).mono ?_);(case side1 => repeat (first|exact (Kd.R_reads' HO645.out).2.2|(with_reducible refine Kd.C_alloc ?_ _)|(with_reducible refine Kd.C_drewN ?_ _)|(with_reducible refine Kd.C_drew ?_)));(case side2 => exact (Kd.R_reads' HO645.out).2.1);(case side3 => repeat (first|exact (Kd.R_reads' HO648.out).2.2|(with_reducible refine Kd.C_alloc ?_ _)|(with_reducible refine Kd.C_drewN ?_ _)|(with_reducible refine Kd.C_drew ?_)));(case side4 => exact (Kd.R_reads' HO648.out).2.1);rintro e w' ⟨rfl,⟨nd,rfl⟩⟩;(try first|exact ⟨rfl,_,World.drewN_drewN _ _ _⟩|exact ⟨rfl,_,Eq.trans (World.drewN_drewN _ _ _) (congrArg (World.drewN _) (Nat.add_assoc _ _ _))⟩))|(go_at_call 36;(with_reducible refine (bivariate_Eval.calls k a0 _ _ l1 (Int.tmod a2_0 a0) (Int.tmod a2_1 a0) t650 _ ?side1 ?side2 A13.out).mono ?_);(case side1 => repeat (first|exact (Kd.C_below HR1.out (by repeat (first|(with_reducible first|exact HB.out|apply below_alloc|apply pw_below_drewN|apply below_drew1|refine below_set ?_ GE639.out)|exact HB.out)))|(with_reducible refine Kd.C_alloc ?_ _)|(with_reducible refine Kd.C_drewN ?_ _)|(with_reducible refine Kd.C_drew ?_)));(case side2 => exact HC1.out);rintro e w27 ⟨rfl,hb⟩;have n0_ := Aside0.mk (Kd.R_below (by (with_reducible repeat (first|apply Kd.R_alloc|apply Kd.R_drewN|apply Kd.R_drew));exact HO645.out) hb);have n1_ := Aside0.mk (Kd.R_below (by (with_reducible repeat (first|apply Kd.R_alloc|apply Kd.R_drewN|apply Kd.R_drew));exact HO648.out) hb);have n2_ := Aside0.mk (blk_below (g := gb639) (o := .cells #[.int .u64 a2_0,.int .u64 a2_1] 50 (0,0)) (by (with_reducible repeat (first|refine blk_drewN ?_ _|refine blk_drew ?_|refine blk_alloc ?_ _));exact BK639.out) hb);have n3_ := Aside0.mk (below_step (by repeat (first|(with_reducible first|exact HB.out|apply below_alloc|apply pw_below_drewN|apply below_drew1|refine below_set ?_ GE639.out)|exact HB.out)) hb);clear HO645;clear HO648;clear BK639;clear HB;have HO645 := n0_;have HO648 := n1_;have BK639 := n2_;have HB := n3_;clear n0_ n1_ n2_ n3_;(try clear hb);(try clear hb2);(try clear hk);(try clear hi))|(go_at_call 29;(with_reducible refine (privityref10_Eval.calls k a0 _ _ l1 (Int.tmod a2_0 a0) (Int.tmod a2_1 a0) t651 _ ?side1 ?side2 A14.out).mono ?_);(case side1 => repeat (first|exact (Kd.C_below HR1.out HB.out)|(with_reducible refine Kd.C_alloc ?_ _)|(with_reducible refine Kd.C_drewN ?_ _)|(with_reducible refine Kd.C_drew ?_)));(case side2 => exact HC1.out);rintro e w28 ⟨rfl,hb⟩;have n0_ := Aside0.mk (Kd.R_below (by (with_reducible repeat (first|apply Kd.R_alloc|apply Kd.R_drewN|apply Kd.R_drew));exact HO645.out) hb);have n1_ := Aside0.mk (Kd.R_below (by (with_reducible repeat (first|apply Kd.R_alloc|apply Kd.R_drewN|apply Kd.R_drew));exact HO648.out) hb);have n2_ := Aside0.mk (blk_below (g := gb639) (o := .cells #[.int .u64 a2_0,.int .u64 a2_1] 50 (0,0)) (by (with_reducible repeat (first|refine blk_drewN ?_ _|refine blk_drew ?_|refine blk_alloc ?_ _));exact BK639.out) hb);have n3_ := Aside0.mk (below_step (by repeat (first|(with_reducible first|exact HB.out|apply below_alloc|apply pw_below_drewN|apply below_drew1|refine below_set ?_ GE639.out)|exact HB.out)) hb);clear HO645;clear HO648;clear BK639;clear HB;have HO645 := n0_;have HO648 := n1_;have BK639 := n2_;have HB := n3_;clear n0_ n1_ n2_ n3_;(try clear hb);(try clear hb2);(try clear hk);(try clear hi))|(go_at_call 36;(with_reducible refine (bivariate_Eval.calls k a0 _ _ l1 (Int.tmod a2_0 a0) (Int.tmod a2_1 a0) t650 _ ?side1 ?side2 A16.out).mono ?_);(case side1 => repeat (first|exact (Kd.C_below HR1.out HB.out)|(with_reducible refine Kd.C_alloc ?_ _)|(with_reducible refine Kd.C_drewN ?_ _)|(with_reducible refine Kd.C_drew ?_)));(case side2 => exact HC1.out);rintro e w29 ⟨rfl,hb⟩;have n0_ := Aside0.mk (Kd.R_below (by (with_reducible repeat (first|apply Kd.R_alloc|apply Kd.R_drewN|apply Kd.R_drew));exact HO645.out) hb);have n1_ := Aside0.mk (Kd.R_below (by (with_reducible repeat (first|apply Kd.R_alloc|apply Kd.R_drewN|apply Kd.R_drew));exact HO648.out) hb);have n2_ := Aside0.mk (blk_below (g := gb639) (o := .cells #[.int .u64 a2_0,.int .u64 a2_1] 50 (0,0)) (by (with_reducible repeat (first|refine blk_drewN ?_ _|refine blk_drew ?_|refine blk_alloc ?_ _));exact BK639.out) hb);have n3_ := Aside0.mk (below_step (by repeat (first|(with_reducible first|exact HB.out|apply below_alloc|apply pw_below_drewN|apply below_drew1|refine below_set ?_ GE639.out)|exact HB.out)) hb);clear HO645;clear HO648;clear BK639;clear HB;have HO645 := n0_;have HO648 := n1_;have BK639 := n2_;have HB := n3_;clear n0_ n1_ n2_ n3_;(try clear hb);(try clear hb2);(try clear hk);(try clear hi))|(go_at_call 35;(with_reducible refine (bivariate_Row.calls k a0 _ _ l1 (Int.tmod a2_0 a0) t643 _ ?side1 ?side2 A17.out).mono ?_);(case side1 => repeat (first|exact (Kd.C_below HR1.out HB.out)|(with_reducible refine Kd.C_alloc ?_ _)|(with_reducible refine Kd.C_drewN ?_ _)|(with_reducible refine Kd.C_drew ?_)));(case side2 => exact HC1.out);rintro e w30 ⟨v654,rfl,ho0,hb⟩;have n0_ := Aside0.mk (Kd.R_elder' (by (with_reducible repeat (first|apply Kd.R_alloc|apply Kd.R_drewN|apply Kd.R_drew));exact HO645.out) (Kd.R_base ho0) hb);have n1_ := Aside0.mk (Kd.R_elder' (by (with_reducible repeat (first|apply Kd.R_alloc|apply Kd.R_drewN|apply Kd.R_drew));exact HO648.out) (Kd.R_base ho0) hb);have n2_ := Aside0.mk (Kd.R_lower (Kd.R_new' (Kd.R_new' ho0 (Kd.R_lt (by (with_reducible repeat (first|apply Kd.R_alloc|apply Kd.R_drewN|apply Kd.R_drew));exact HO645.out))) (Kd.R_lt (by (with_reducible repeat (first|apply Kd.R_alloc|apply Kd.R_drewN|apply Kd.R_drew));exact HO648.out))) (below_size (by repeat (first|(with_reducible first|exact HB.out|apply below_alloc|apply pw_below_drewN|apply below_drew1|refine below_set ?_ GE639.out)|exact HB.out))));have n3_ := Aside0.mk (blk_below (g := gb639) (o := .cells #[.int .u64 a2_0,.int .u64 a2_1] 50 (0,0)) (by (with_reducible repeat (first|refine blk_drewN ?_ _|refine blk_drew ?_|refine blk_alloc ?_ _));exact BK639.out) hb);have n4_ := Aside0.mk (below_step (by repeat (first|(with_reducible first|exact HB.out|apply below_alloc|apply pw_below_drewN|apply below_drew1|refine below_set ?_ GE639.out)|exact HB.out)) hb);clear HO645;clear HO648;clear BK639;clear HB;have HO645 := n0_;have HO648 := n1_;have HO645 := n2_;have BK639 := n3_;have HB := n4_;clear n0_ n1_ n2_ n3_ n4_;(try clear hb);(try clear hb2);(try clear hk);(try clear hi);(try clear ho0);obtain ⟨Ao31,co31,eo31⟩ := Kd.R_slice HO645.out;subst eo31)|(go_at_call 37;obtain ⟨Ao9_,co9_,eo9_⟩ := Kd.R_slice HO645.out;subst eo9_;(with_reducible refine (poly_Eval.calls k a0 _ _ t643 (Int.tmod a2_1 a0) t656 _ ?side1 ?side2 A18.out).mono ?_);(case side1 => repeat (first|exact (Kd.R_reads' HO645.out).2.2|(with_reducible refine Kd.C_alloc ?_ _)|(with_reducible refine Kd.C_drewN ?_ _)|(with_reducible refine Kd.C_drew ?_)));(case side2 => exact (Kd.R_reads' HO645.out).2.1);rintro e w' ⟨rfl,⟨nd,rfl⟩⟩;(try first|exact ⟨rfl,_,World.drewN_drewN _ _ _⟩|exact ⟨rfl,_,Eq.trans (World.drewN_drewN _ _ _) (congrArg (World.drewN _) (Nat.add_assoc _ _ _))⟩))))
      go_ret
      exact ⟨by first|rfl|(simp [errW_none,errW_some] <;> rfl)|(simp [*,errW_none,errW_some] <;> rfl),by repeat (first|(with_reducible first|exact HB.out|apply below_alloc|apply pw_below_drewN|apply below_drew1|refine below_set ?_ GE639.out)|exact HB.out)⟩
     ·rw [if_neg c15] at H
      have c15b0 : (t650 == t651) = false := beq_eq_false_iff_ne.mpr c15
      have c15b1 : (t650 != t651) = true := bne_iff_ne.mpr c15
      obtain rfl := Option.some.inj H
      go_enter Try.func10,Try.ntmps10
      go_wp2_with (first|((with_reducible refine gate_dst (N := 5) rfl ?_);refine box_event ?hg (N := 5) ?hd (cs := #[.int .u64 a2_0,.int .u64 a2_1]) (t := 50) ?hr ?_;(case hd => rfl);(case hg => rfl);(case hr => first|(go_simp;done)|(go_simp;rfl));intro gb639 hg w32 hbox hb;have n0_ := Aside0.mk (below_step (by repeat (first|(with_reducible first|exact HB.out|apply below_alloc|apply pw_below_drewN|apply below_drew1)|exact HB.out)) hb);have n1_ := Aside0.mk (hbox);have n2_ := Aside0.mk ((by rw [hg];exact (below_size (by repeat (first|(with_reducible first|exact HB.out|apply below_alloc|apply pw_below_drewN|apply below_drew1)|exact HB.out))) : w.heap.size ≤ gb639));have n3_ := Aside0.mk ((by rw [hg];exact (below_size (by repeat (first|(with_reducible first|exact HB.out|apply below_alloc|apply pw_below_drewN|apply below_drew1)|exact HB.out))) : w.heap.size ≤ gb639));clear HB;have HB := n0_;have BK639 := n1_;have GW639 := n2_;have GE639 := n3_;clear n0_ n1_ n2_ n3_;clear hb hbox hg)|(go_at_call 32;(with_reducible refine (privityref10_Fair.calls k a0 _ _ l1 6 true _ ?side1 ?side2 A4.out).mono ?_);(case side1 => repeat (first|exact (Kd.C_below HR1.out HB.out)|(with_reducible refine Kd.C_alloc ?_ _)|(with_reducible refine Kd.C_drewN ?_ _)|(with_reducible refine Kd.C_drew ?_)));(case side2 => exact HC1.out);rintro e w33 ⟨rfl,hb⟩;have n0_ := Aside0.mk (blk_below (g := gb639) (o := .cells #[.int .u64 a2_0,.int .u64 a2_1] 50 (0,0)) (by (with_reducible repeat (first|refine blk_drewN ?_ _|refine blk_drew ?_|refine blk_alloc ?_ _));exact BK639.out) hb);have n1_ := Aside0.mk (below_step (by repeat (first|(with_reducible first|exact HB.out|apply below_alloc|apply pw_below_drewN|apply below_drew1|refine below_set ?_ GE639.out)|exact HB.out)) hb);clear BK639;clear HB;have BK639 := n0_;have HB := n1_;clear n0_ n1_;(try clear hb);(try clear hb2);(try clear hk);(try clear hi);have hcz34_0 : w33.cell? ⟨gb639,0,none⟩ = some (.int .u64 a2_0) := (blk_cell BK639.out 0).trans rfl;have hcz34_1 : w33.cell? ⟨gb639,1,none⟩ = some (.int .u64 a2_1) := (blk_cell BK639.out 1).trans rfl;have hfz34_0 := blk_frozen BK639.out 0;have hfz34_1 := blk_frozen BK639.out 1)|(go_at_call 33;(with_reducible refine (privitylaw10_awake.calls k  true _ A7.out).mono ?_);rintro e w35 ⟨rfl,hb⟩;have n0_ := Aside0.mk (blk_below (g := gb639) (o := .cells #[.int .u64 a2_0,.int .u64 a2_1] 50 (0,0)) (by (with_reducible repeat (first|refine blk_drewN ?_ _|refine blk_drew ?_|refine blk_alloc ?_ _));exact BK639.out) hb);have n1_ := Aside0.mk (below_step (by repeat (first|(with_reducible first|exact HB.out|apply below_alloc|apply pw_below_drewN|apply below_drew1|refine below_set ?_ GE639.out)|exact HB.out)) hb);clear BK639;clear HB;have BK639 := n0_;have HB := n1_;clear n0_ n1_;(try clear hb);(try clear hb2);(try clear hk);(try clear hi))|(go_at_call 35;(with_reducible refine (bivariate_Row.calls k a0 _ _ l1 (Int.tmod a2_0 a0) t643 _ ?side1 ?side2 A9.out).mono ?_);(case side1 => repeat (first|exact (Kd.C_below HR1.out HB.out)|(with_reducible refine Kd.C_alloc ?_ _)|(with_reducible refine Kd.C_drewN ?_ _)|(with_reducible refine Kd.C_drew ?_)));(case side2 => exact HC1.out);rintro e w36 ⟨v644,rfl,ho0,hb⟩;have n0_ := Aside0.mk (Kd.R_lower ho0 (below_size (by repeat (first|(with_reducible first|exact HB.out|apply below_alloc|apply pw_below_drewN|apply below_drew1|refine below_set ?_ GE639.out)|exact HB.out))));have n1_ := Aside0.mk (blk_below (g := gb639) (o := .cells #[.int .u64 a2_0,.int .u64 a2_1] 50 (0,0)) (by (with_reducible repeat (first|refine blk_drewN ?_ _|refine blk_drew ?_|refine blk_alloc ?_ _));exact BK639.out) hb);have n2_ := Aside0.mk (below_step (by repeat (first|(with_reducible first|exact HB.out|apply below_alloc|apply pw_below_drewN|apply below_drew1|refine below_set ?_ GE639.out)|exact HB.out)) hb);clear BK639;clear HB;have HO645 := n0_;have BK639 := n1_;have HB := n2_;clear n0_ n1_ n2_;(try clear hb);(try clear hb2);(try clear hk);(try clear hi);(try clear ho0))|(go_at_call 19;(with_reducible refine (privityref10_Row.calls k a0 _ _ l1 (Int.tmod a2_0 a0) t646 _ ?side1 ?side2 A10.out).mono ?_);(case side1 => repeat (first|exact (Kd.C_below HR1.out HB.out)|(with_reducible refine Kd.C_alloc ?_ _)|(with_reducible refine Kd.C_drewN ?_ _)|(with_reducible refine Kd.C_drew ?_)));(case side2 => exact HC1.out);rintro e w37 ⟨v647,rfl,ho0,hb⟩;have n0_ := Aside0.mk (Kd.R_elder' (by (with_reducible repeat (first|apply Kd.R_alloc|apply Kd.R_drewN|apply Kd.R_drew));exact HO645.out) (Kd.R_base ho0) hb);have n1_ := Aside0.mk (Kd.R_lower (Kd.R_new' ho0 (Kd.R_lt (by (with_reducible repeat (first|apply Kd.R_alloc|apply Kd.R_drewN|apply Kd.R_drew));exact HO645.out))) (below_size (by repeat (first|(with_reducible first|exact HB.out|apply below_alloc|apply pw_below_drewN|apply below_drew1|refine below_set ?_ GE639.out)|exact HB.out))));have n2_ := Aside0.mk (blk_below (g := gb639) (o := .cells #[.int .u64 a2_0,.int .u64 a2_1] 50 (0,0)) (by (with_reducible repeat (first|refine blk_drewN ?_ _|refine blk_drew ?_|refine blk_alloc ?_ _));exact BK639.out) hb);have n3_ := Aside0.mk (below_step (by repeat (first|(with_reducible first|exact HB.out|apply below_alloc|apply pw_below_drewN|apply below_drew1|refine below_set ?_ GE639.out)|exact HB.out)) hb);clear HO645;clear BK639;clear HB;have HO645 := n0_;have HO648 := n1_;have BK639 := n2_;have HB := n3_;clear n0_ n1_ n2_ n3_;(try clear hb);(try clear hb2);(try clear hk);(try clear hi);(try clear ho0);obtain ⟨Ao38,co38,eo38⟩ := Kd.R_slice HO645.out;subst eo38;obtain ⟨Ao39,co39,eo39⟩ := Kd.R_slice HO648.out;subst eo39)|(go_at_call 34;(with_reducible refine (privityref06_SameList.calls k _ _ t643 _ _ t646 true _ ?side1 ?side2 ?side3 ?side4 A11.out).mono ?_);(case side1 => repeat (first|exact (Kd.R_reads' HO645.out).2.2|(with_reducible refine Kd.C_alloc ?_ _)|(with_reducible refine Kd.C_drewN ?_ _)|(with_reducible refine Kd.C_drew ?_)));(case side2 => exact (Kd.R_reads' HO645.out).2.1);(case side3 => repeat (first|exact (Kd.R_reads' HO648.out).2.2|(with_reducible refine Kd.C_alloc ?_ _)|(with_reducible refine Kd.C_drewN ?_ _)|(with_reducible refine Kd.C_drew ?_)));(case side4 => exact (Kd.R_reads' HO648.out).2.1);rintro e w' ⟨rfl,⟨nd,rfl⟩⟩;(try first|exact ⟨rfl,_,World.drewN_drewN _ _ _⟩|exact ⟨rfl,_,Eq.trans (World.drewN_drewN _ _ _) (congrArg (World.drewN _) (Nat.add_assoc _ _ _))⟩))|(go_at_call 36;(with_reducible refine (bivariate_Eval.calls k a0 _ _ l1 (Int.tmod a2_0 a0) (Int.tmod a2_1 a0) t650 _ ?side1 ?side2 A13.out).mono ?_);(case side1 => repeat (first|exact (Kd.C_below HR1.out (by repeat (first|(with_reducible first|exact HB.out|apply below_alloc|apply pw_below_drewN|apply below_drew1|refine below_set ?_ GE639.out)|exact HB.out)))|(with_reducible refine Kd.C_alloc ?_ _)|(with_reducible refine Kd.C_drewN ?_ _)|(with_reducible refine Kd.C_drew ?_)));(case side2 => exact HC1.out);rintro e w40 ⟨rfl,hb⟩;have n0_ := Aside0.mk (Kd.R_below (by (with_reducible repeat (first|apply Kd.R_alloc|apply Kd.R_drewN|apply Kd.R_drew));exact HO645.out) hb);have n1_ := Aside0.mk (Kd.R_below (by (with_reducible repeat (first|apply Kd.R_alloc|apply Kd.R_drewN|apply Kd.R_drew));exact HO648.out) hb);have n2_ := Aside0.mk (blk_below (g := gb639) (o := .cells #[.int .u64 a2_0,.int .u64 a2_1] 50 (0,0)) (by (with_reducible repeat (first|refine blk_drewN ?_ _|refine blk_drew ?_|refine blk_alloc ?_ _));exact BK639.out) hb);have n3_ := Aside0.mk (below_step (by repeat (first|(with_reducible first|exact HB.out|apply below_alloc|apply pw_below_drewN|apply below_drew1|refine below_set ?_ GE639.out)|exact HB.out)) hb);clear HO645;clear HO648;clear BK639;clear HB;have HO645 := n0_;have HO648 := n1_;have BK639 := n2_;have HB := n3_;clear n0_ n1_ n2_ n3_;(try clear hb);(try clear hb2);(try clear hk);(try clear hi))|(go_at_call 29;(with_reducible refine (privityref10_Eval.calls k a0 _ _ l1 (Int.tmod a2_0 a0) (Int.tmod a2_1 a0) t651 _ ?side1 ?side2 A14.out).mono ?_);(case side1 => repeat (first|exact (Kd.C_below HR1.out HB.out)|(with_reducible refine Kd.C_alloc ?_ _)|(with_reducible refine Kd.C_drewN ?_ _)|(with_reducible refine Kd.C_drew ?_)));(case side2 => exact HC1.out);rintro e w41 ⟨rfl,hb⟩;have n0_ := Aside0.mk (Kd.R_below (by (with_reducible repeat (first|apply Kd.R_alloc|apply Kd.R_drewN|apply Kd.R_drew));exact HO645.out) hb);have n1_ := Aside0.mk (Kd.R_below (by (with_reducible repeat (first|apply Kd.R_alloc|apply Kd.R_drewN|apply Kd.R_drew));exact HO648.out) hb);have n2_ := Aside0.mk (blk_below (g := gb639) (o := .cells #[.int .u64 a2_0,.int .u64 a2_1] 50 (0,0)) (by (with_reducible repeat (first|refine blk_drewN ?_ _|refine blk_drew ?_|refine blk_alloc ?_ _));exact BK639.out) hb);have n3_ := Aside0.mk (below_step (by repeat (first|(with_reducible first|exact HB.out|apply below_alloc|apply pw_below_drewN|apply below_drew1|refine below_set ?_ GE639.out)|exact HB.out)) hb);clear HO645;clear HO648;clear BK639;clear HB;have HO645 := n0_;have HO648 := n1_;have BK639 := n2_;have HB := n3_;clear n0_ n1_ n2_ n3_;(try clear hb);(try clear hb2);(try clear hk);(try clear hi)))
      repeat (go_quiet (first|((with_reducible refine gate_dst (N := 5) rfl ?_);refine box_event ?hg (N := 5) ?hd (cs := #[.int .u64 a2_0,.int .u64 a2_1]) (t := 50) ?hr ?_;(case hd => rfl);(case hg => rfl);(case hr => first|(go_simp;done)|(go_simp;rfl));intro gb639 hg w32 hbox hb;have n0_ := Aside0.mk (below_step (by repeat (first|(with_reducible first|exact HB.out|apply below_alloc|apply pw_below_drewN|apply below_drew1)|exact HB.out)) hb);have n1_ := Aside0.mk (hbox);have n2_ := Aside0.mk ((by rw [hg];exact (below_size (by repeat (first|(with_reducible first|exact HB.out|apply below_alloc|apply pw_below_drewN|apply below_drew1)|exact HB.out))) : w.heap.size ≤ gb639));have n3_ := Aside0.mk ((by rw [hg];exact (below_size (by repeat (first|(with_reducible first|exact HB.out|apply below_alloc|apply pw_below_drewN|apply below_drew1)|exact HB.out))) : w.heap.size ≤ gb639));clear HB;have HB := n0_;have BK639 := n1_;have GW639 := n2_;have GE639 := n3_;clear n0_ n1_ n2_ n3_;clear hb hbox hg)|(go_at_call 32;(with_reducible refine (privityref10_Fair.calls k a0 _ _ l1 6 true _ ?side1 ?side2 A4.out).mono ?_);(case side1 => repeat (first|exact (Kd.C_below HR1.out HB.out)|(with_reducible refine Kd.C_alloc ?_ _)|(with_reducible refine Kd.C_drewN ?_ _)|(with_reducible refine Kd.C_drew ?_)));(case side2 => exact HC1.out);rintro e w33 ⟨rfl,hb⟩;have n0_ := Aside0.mk (blk_below (g := gb639) (o := .cells #[.int .u64 a2_0,.int .u64 a2_1] 50 (0,0)) (by (with_reducible repeat (first|refine blk_drewN ?_ _|refine blk_drew ?_|refine blk_alloc ?_ _));exact BK639.out) hb);have n1_ := Aside0.mk (below_step (by repeat (first|(with_reducible first|exact HB.out|apply below_alloc|apply pw_below_drewN|apply below_drew1|refine below_set ?_ GE639.out)|exact HB.out)) hb);clear BK639;clear HB;have BK639 := n0_;have HB := n1_;clear n0_ n1_;(try clear hb);(try clear hb2);(try clear hk);(try clear hi);have hcz34_0 : w33.cell? ⟨gb639,0,none⟩ = some (.int .u64 a2_0) := (blk_cell BK639.out 0).trans rfl;have hcz34_1 : w33.cell? ⟨gb639,1,none⟩ = some (.int .u64 a2_1) := (blk_cell BK639.out 1).trans rfl;have hfz34_0 := blk_frozen BK639.out 0;have hfz34_1 := blk_frozen BK639.out 1)|(go_at_call 33;(with_reducible refine (privitylaw10_awake.calls k  true _ A7.out).mono ?_);rintro e w35 ⟨rfl,hb⟩;have n0_ := Aside0.mk (blk_below (g := gb639) (o := .cells #[.int .u64 a2_0,.int .u64 a2_1] 50 (0,0)) (by (with_reducible repeat (first|refine blk_drewN ?_ _|refine blk_drew ?_|refine blk_alloc ?_ _));exact BK639.out) hb);have n1_ := Aside0.mk (below_step (by repeat (first|(with_reducible first|exact HB.out|apply below_alloc|apply pw_below_drewN|apply below_drew1|refine below_set ?_ GE639.out)|exact HB.out)) hb);clear BK639;clear HB;have BK639 := n0_;have HB := n1_;clear n0_ n1_;(try clear hb);(try clear hb2);(try clear hk);(try clear hi))|(go_at_call 35;(with_reducible refine (bivariate_Row.calls k a0 _ _ l1 (Int.tmod a2_0 a0) t643 _ ?side1 ?side2 A9.out).mono ?_);(case side1 => repeat (first|exact (Kd.C_below HR1.out HB.out)|(with_reducible refine Kd.C_alloc ?_ _)|(with_reducible refine Kd.C_drewN ?_ _)|(with_reducible refine Kd.C_drew ?_)));(case side2 => exact HC1.out);rintro e w36 ⟨v644,rfl,ho0,hb⟩;have n0_ := Aside0.mk (Kd.R_lower ho0 (below_size (by repeat (first|(with_reducible first|exact HB.out|apply below_alloc|apply pw_below_drewN|apply below_drew1|refine below_set ?_ GE639.out)|exact HB.out))));have n1_ := Aside0.mk (blk_below (g := gb639) (o := .cells #[.int .u64 a2_0,.int .u64 a2_1] 50 (0,0)) (by (with_reducible repeat (first|refine blk_drewN ?_ _|refine blk_drew ?_|refine blk_alloc ?_ _));exact BK639.out) hb);have n2_ := Aside0.mk (below_step (by repeat (first|(with_reducible first|exact HB.out|apply below_alloc|apply pw_below_drewN|apply below_drew1|refine below_set ?_ GE639.out)|exact HB.out)) hb);clear BK639;clear HB;have HO645 := n0_;have BK639 := n1_;have HB := n2_;clear n0_ n1_ n2_;(try clear hb);(try clear hb2);(try clear hk);(try clear hi);(try clear ho0))|(go_at_call 19;(with_reducible refine (privityref10_Row.calls k a0 _ _ l1 (Int.tmod a2_0 a0) t646 _ ?side1 ?side2 A10.out).mono ?_);(case side1 => repeat (first|exact (Kd.C_below HR1.out HB.out)|(with_reducible refine Kd.C_alloc ?_ _)|(with_reducible refine Kd.C_drewN ?_ _)|(with_reducible refine Kd.C_drew ?_)));(case side2 => exact HC1.out);rintro e w37 ⟨v647,rfl,ho0,hb⟩;have n0_ := Aside0.mk (Kd.R_elder' (by (with_reducible repeat (first|apply Kd.R_alloc|apply Kd.R_drewN|apply Kd.R_drew));exact HO645.out) (Kd.R_base ho0) hb);have n1_ := Aside0.mk (Kd.R_lower (Kd.R_new' ho0 (Kd.R_lt (by (with_reducible repeat (first|apply Kd.R_alloc|apply Kd.R_drewN|apply Kd.R_drew));exact HO645.out))) (below_size (by repeat (first|(with_reducible first|exact HB.out|apply below_alloc|apply pw_below_drewN|apply below_drew1|refine below_set ?_ GE639.out)|exact HB.out))));have n2_ := Aside0.mk (blk_below (g := gb639) (o := .cells #[.int .u64 a2_0,.int .u64 a2_1] 50 (0,0)) (by (with_reducible repeat (first|refine blk_drewN ?_ _|refine blk_drew ?_|refine blk_alloc ?_ _));exact BK639.out) hb);have n3_ := Aside0.mk (below_step (by repeat (first|(with_reducible first|exact HB.out|apply below_alloc|apply pw_below_drewN|apply below_drew1|refine below_set ?_ GE639.out)|exact HB.out)) hb);clear HO645;clear BK639;clear HB;have HO645 := n0_;have HO648 := n1_;have BK639 := n2_;have HB := n3_;clear n0_ n1_ n2_ n3_;(try clear hb);(try clear hb2);(try clear hk);(try clear hi);(try clear ho0);obtain ⟨Ao38,co38,eo38⟩ := Kd.R_slice HO645.out;subst eo38;obtain ⟨Ao39,co39,eo39⟩ := Kd.R_slice HO648.out;subst eo39)|(go_at_call 34;(with_reducible refine (privityref06_SameList.calls k _ _ t643 _ _ t646 true _ ?side1 ?side2 ?side3 ?side4 A11.out).mono ?_);(case side1 => repeat (first|exact (Kd.R_reads' HO645.out).2.2|(with_reducible refine Kd.C_alloc ?_ _)|(with_reducible refine Kd.C_drewN ?_ _)|(with_reducible refine Kd.C_drew ?_)));(case side2 => exact (Kd.R_reads' HO645.out).2.1);(case side3 => repeat (first|exact (Kd.R_reads' HO648.out).2.2|(with_reducible refine Kd.C_alloc ?_ _)|(with_reducible refine Kd.C_drewN ?_ _)|(with_reducible refine Kd.C_drew ?_)));(case side4 => exact (Kd.R_reads' HO648.out).2.1);rintro e w' ⟨rfl,⟨nd,rfl⟩⟩;(try first|exact ⟨rfl,_,World.drewN_drewN _ _ _⟩|exact ⟨rfl,_,Eq.trans (World.drewN_drewN _ _ _) (congrArg (World.drewN _) (Nat.add_assoc _ _ _))⟩))|(go_at_call 36;(with_reducible refine (bivariate_Eval.calls k a0 _ _ l1 (Int.tmod a2_0 a0) (Int.tmod a2_1 a0) t650 _ ?side1 ?side2 A13.out).mono ?_);(case side1 => repeat (first|exact (Kd.C_below HR1.out (by repeat (first|(with_reducible first|exact HB.out|apply below_alloc|apply pw_below_drewN|apply below_drew1|refine below_set ?_ GE639.out)|exact HB.out)))|(with_reducible refine Kd.C_alloc ?_ _)|(with_reducible refine Kd.C_drewN ?_ _)|(with_reducible refine Kd.C_drew ?_)));(case side2 => exact HC1.out);rintro e w40 ⟨rfl,hb⟩;have n0_ := Aside0.mk (Kd.R_below (by (with_reducible repeat (first|apply Kd.R_alloc|apply Kd.R_drewN|apply Kd.R_drew));exact HO645.out) hb);have n1_ := Aside0.mk (Kd.R_below (by (with_reducible repeat (first|apply Kd.R_alloc|apply Kd.R_drewN|apply Kd.R_drew));exact HO648.out) hb);have n2_ := Aside0.mk (blk_below (g := gb639) (o := .cells #[.int .u64 a2_0,.int .u64 a2_1] 50 (0,0)) (by (with_reducible repeat (first|refine blk_drewN ?_ _|refine blk_drew ?_|refine blk_alloc ?_ _));exact BK639.out) hb);have n3_ := Aside0.mk (below_step (by repeat (first|(with_reducible first|exact HB.out|apply below_alloc|apply pw_below_drewN|apply below_drew1|refine below_set ?_ GE639.out)|exact HB.out)) hb);clear HO645;clear HO648;clear BK639;clear HB;have HO645 := n0_;have HO648 := n1_;have BK639 := n2_;have HB := n3_;clear n0_ n1_ n2_ n3_;(try clear hb);(try clear hb2);(try clear hk);(try clear hi))|(go_at_call 29;(with_reducible refine (privityref10_Eval.calls k a0 _ _ l1 (Int.tmod a2_0 a0) (Int.tmod a2_1 a0) t651 _ ?side1 ?side2 A14.out).mono ?_);(case side1 => repeat (first|exact (Kd.C_below HR1.out HB.out)|(with_reducible refine Kd.C_alloc ?_ _)|(with_reducible refine Kd.C_drewN ?_ _)|(with_reducible refine Kd.C_drew ?_)));(case side2 => exact HC1.out);rintro e w41 ⟨rfl,hb⟩;have n0_ := Aside0.mk (Kd.R_below (by (with_reducible repeat (first|apply Kd.R_alloc|apply Kd.R_drewN|apply Kd.R_drew));exact HO645.out) hb);have n1_ := Aside0.mk (Kd.R_below (by (with_reducible repeat (first|apply Kd.R_alloc|apply Kd.R_drewN|apply Kd.R_drew));exact HO648.out) hb);have n2_ := Aside0.mk (blk_below (g := gb639) (o := .cells #[.int .u64 a2_0,.int .u64 a2_1] 50 (0,0)) (by (with_reducible repeat (first|refine blk_drewN ?_ _|refine blk_drew ?_|refine blk_alloc ?_ _));exact BK639.out) hb);have n3_ := Aside0.mk (below_step (by repeat (first|(with_reducible first|exact HB.out|apply below_alloc|apply pw_below_drewN|apply below_drew1|refine below_set ?_ GE639.out)|exact HB.out)) hb);clear HO645;clear HO648;clear BK639;clear HB;have HO645 := n0_;have HO648 := n1_;have BK639 := n2_;have HB := n3_;clear n0_ n1_ n2_ n3_;(try clear hb);(try clear hb2);(try clear hk);(try clear hi)));try go_wp2_with (first|((with_reducible refine gate_dst (N := 5) rfl ?_);refine box_event ?hg (N := 5) ?hd (cs := #[.int .u64 a2_0,.int .u64 a2_1]) (t := 50) ?hr ?_;(case hd => rfl);(case hg => rfl);(case hr => first|(go_simp;done)|(go_simp;rfl));intro gb639 hg w32 hbox hb;have n0_ := Aside0.mk (below_step (by repeat (first|(with_reducible first|exact HB.out|apply below_alloc|apply pw_below_drewN|apply below_drew1)|exact HB.out)) hb);have n1_ := Aside0.mk (hbox);have n2_ := Aside0.mk ((by rw [hg];exact (below_size (by repeat (first|(with_reducible first|exact HB.out|apply below_alloc|apply pw_below_drewN|apply below_drew1)|exact HB.out))) : w.heap.size ≤ gb639));have n3_ := Aside0.mk ((by rw [hg];exact (below_size (by repeat (first|(with_reducible first|exact HB.out|apply below_alloc|apply pw_below_drewN|apply below_drew1)|exact HB.out))) : w.heap.size ≤ gb639));clear HB;have HB := n0_;have BK639 := n1_;have GW639 := n2_;have GE639 := n3_;clear n0_ n1_ n2_ n3_;clear hb hbox hg)|(go_at_call 32;(with_reducible refine (privityref10_Fair.calls k a0 _ _ l1 6 true _ ?side1 ?side2 A4.out).mono ?_);(case side1 => repeat (first|exact (Kd.C_below HR1.out HB.out)|(with_reducible refine Kd.C_alloc ?_ _)|(with_reducible refine Kd.C_drewN ?_ _)|(with_reducible refine Kd.C_drew ?_)));(case side2 => exact HC1.out);rintro e w33 ⟨rfl,hb⟩;have n0_ := Aside0.mk (blk_below (g := gb639) (o := .cells #[.int .u64 a2_0,.int .u64 a2_1] 50 (0,0)) (by (with_reducible repeat (first|refine blk_drewN ?_ _|refine blk_drew ?_|refine blk_alloc ?_ _));exact BK639.out) hb);have n1_ := Aside0.mk (below_step (by repeat (first|(with_reducible first|exact HB.out|apply below_alloc|apply pw_below_drewN|apply below_drew1|refine below_set ?_ GE639.out)|exact HB.out)) hb);clear BK639;clear HB;have BK639 := n0_;have HB := n1_;clear n0_ n1_;(try clear hb);(try clear hb2);(try clear hk);(try clear hi);have hcz34_0 : w33.cell? ⟨gb639,0,none⟩ = some (.int .u64 a2_0) := (blk_cell BK639.out 0).trans rfl;have hcz34_1 : w33.cell? ⟨gb639,1,none⟩ = some (.int .u64 a2_1) := (blk_cell BK639.out 1).trans rfl;have hfz34_0 := blk_frozen BK639.out 0;have hfz34_1 := blk_frozen BK639.out 1)|(go_at_call 33;(with_reducible refine (privitylaw10_awake.calls k  true _ A7.out).mono ?_);rintro e w35 ⟨rfl,hb⟩;have n0_ := Aside0.mk (blk_below (g := gb639) (o := .cells #[.int .u64 a2_0,.int .u64 a2_1] 50 (0,0)) (by (with_reducible repeat (first|refine blk_drewN ?_ _|refine blk_drew ?_|refine blk_alloc ?_ _));exact BK639.out) hb);have n1_ := Aside0.mk (below_step (by repeat (first|(with_reducible first|exact HB.out|apply below_alloc|apply pw_below_drewN|apply below_drew1|refine below_set ?_ GE639.out)|exact HB.out)) hb);clear BK639;clear HB;have BK639 := n0_;have HB := n1_;clear n0_ n1_;(try clear hb);(try clear hb2);(try clear hk);(try clear hi))|(go_at_call 35;(with_reducible refine (bivariate_Row.calls k a0 _ _ l1 (Int.tmod a2_0 a0) t643 _ ?side1 ?side2 A9.out).mono ?_);(case side1 => repeat (first|exact (Kd.C_below HR1.out HB.out)|(with_reducible refine Kd.C_alloc ?_ _)|(with_reducible refine Kd.C_drewN ?_ _)|(with_reducible refine Kd.C_drew ?_)));(case side2 => exact HC1.out);rintro e w36 ⟨v644,rfl,ho0,hb⟩;have n0_ := Aside0.mk (Kd.R_lower ho0 (below_size (by repeat (first|(with_reducible first|exact HB.out|apply below_alloc|apply pw_below_drewN|apply below_drew1|refine below_set ?_ GE639.out)|exact HB.out))));have n1_ := Aside0.mk (blk_below (g := gb639) (o := .cells #[.int .u64 a2_0,.int .u64 a2_1] 50 (0,0)) (by (with_reducible repeat (first|refine blk_drewN ?_ _|refine blk_drew ?_|refine blk_alloc ?_ _));exact BK639.out) hb);have n2_ := Aside0.mk (below_step (by repeat (first|(with_reducible first|exact HB.out|apply below_alloc|apply pw_below_drewN|apply below_drew1|refine below_set ?_ GE639.out)|exact HB.out)) hb);clear BK639;clear HB;have HO645 := n0_;have BK639 := n1_;have HB := n2_;clear n0_ n1_ n2_;(try clear hb);(try clear hb2);(try clear hk);(try clear hi);(try clear ho0))|(go_at_call 19;(with_reducible refine (privityref10_Row.calls k a0 _ _ l1 (Int.tmod a2_0 a0) t646 _ ?side1 ?side2 A10.out).mono ?_);(case side1 => repeat (first|exact (Kd.C_below HR1.out HB.out)|(with_reducible refine Kd.C_alloc ?_ _)|(with_reducible refine Kd.C_drewN ?_ _)|(with_reducible refine Kd.C_drew ?_)));(case side2 => exact HC1.out);rintro e w37 ⟨v647,rfl,ho0,hb⟩;have n0_ := Aside0.mk (Kd.R_elder' (by (with_reducible repeat (first|apply Kd.R_alloc|apply Kd.R_drewN|apply Kd.R_drew));exact HO645.out) (Kd.R_base ho0) hb);have n1_ := Aside0.mk (Kd.R_lower (Kd.R_new' ho0 (Kd.R_lt (by (with_reducible repeat (first|apply Kd.R_alloc|apply Kd.R_drewN|apply Kd.R_drew));exact HO645.out))) (below_size (by repeat (first|(with_reducible first|exact HB.out|apply below_alloc|apply pw_below_drewN|apply below_drew1|refine below_set ?_ GE639.out)|exact HB.out))));have n2_ := Aside0.mk (blk_below (g := gb639) (o := .cells #[.int .u64 a2_0,.int .u64 a2_1] 50 (0,0)) (by (with_reducible repeat (first|refine blk_drewN ?_ _|refine blk_drew ?_|refine blk_alloc ?_ _));exact BK639.out) hb);have n3_ := Aside0.mk (below_step (by repeat (first|(with_reducible first|exact HB.out|apply below_alloc|apply pw_below_drewN|apply below_drew1|refine below_set ?_ GE639.out)|exact HB.out)) hb);clear HO645;clear BK639;clear HB;have HO645 := n0_;have HO648 := n1_;have BK639 := n2_;have HB := n3_;clear n0_ n1_ n2_ n3_;(try clear hb);(try clear hb2);(try clear hk);(try clear hi);(try clear ho0);obtain ⟨Ao38,co38,eo38⟩ := Kd.R_slice HO645.out;subst eo38;obtain ⟨Ao39,co39,eo39⟩ := Kd.R_slice HO648.out;subst eo39)|(go_at_call 34;(with_reducible refine (privityref06_SameList.calls k _ _ t643 _ _ t646 true _ ?side1 ?side2 ?side3 ?side4 A11.out).mono ?_);(case side1 => repeat (first|exact (Kd.R_reads' HO645.out).2.2|(with_reducible refine Kd.C_alloc ?_ _)|(with_reducible refine Kd.C_drewN ?_ _)|(with_reducible refine Kd.C_drew ?_)));(case side2 => exact (Kd.R_reads' HO645.out).2.1);(case side3 => repeat (first|exact (Kd.R_reads' HO648.out).2.2|(with_reducible refine Kd.C_alloc ?_ _)|(with_reducible refine Kd.C_drewN ?_ _)|(with_reducible refine Kd.C_drew ?_)));(case side4 => exact (Kd.R_reads' HO648.out).2.1);rintro e w' ⟨rfl,⟨nd,rfl⟩⟩;(try first|exact ⟨rfl,_,World.drewN_drewN _ _ _⟩|exact ⟨rfl,_,Eq.trans (World.drewN_drewN _ _ _) (congrArg (World.drewN _) (Nat.add_assoc _ _ _))⟩))|(go_at_call 36;(with_reducible refine (bivariate_Eval.calls k a0 _ _ l1 (Int.tmod a2_0 a0) (Int.tmod a2_1 a0) t650 _ ?side1 ?side2 A13.out).mono ?_);(case side1 => repeat (first|exact (Kd.C_below HR1.out (by repeat (first|(with_reducible first|exact HB.out|apply below_alloc|apply pw_below_drewN|apply below_drew1|refine below_set ?_ GE639.out)|exact HB.out)))|(with_reducible refine Kd.C_alloc ?_ _)|(with_reducible refine Kd.C_drewN ?_ _)|(with_reducible refine Kd.C_drew ?_)));(case side2 => exact HC1.out);rintro e w40 ⟨rfl,hb⟩;have n0_ := Aside0.mk (Kd.R_below (by (with_reducible repeat (first|apply Kd.R_alloc|apply Kd.R_drewN|apply Kd.R_drew));exact HO645.out) hb);have n1_ := Aside0.mk (Kd.R_below (by (with_reducible repeat (first|apply Kd.R_alloc|apply Kd.R_drewN|apply Kd.R_drew));exact HO648.out) hb);have n2_ := Aside0.mk (blk_below (g := gb639) (o := .cells #[.int .u64 a2_0,.int .u64 a2_1] 50 (0,0)) (by (with_reducible repeat (first|refine blk_drewN ?_ _|refine blk_drew ?_|refine blk_alloc ?_ _));exact BK639.out) hb);have n3_ := Aside0.mk (below_step (by repeat (first|(with_reducible first|exact HB.out|apply below_alloc|apply pw_below_drewN|apply below_drew1|refine below_set ?_ GE639.out)|exact HB.out)) hb);clear HO645;clear HO648;clear BK639;clear HB;have HO645 := n0_;have HO648 := n1_;have BK639 := n2_;have HB := n3_;clear n0_ n1_ n2_ n3_;(try clear hb);(try clear hb2);(try clear hk);(try clear hi))|(go_at_call 29;(with_reducible refine (privityref10_Eval.calls k a0 _ _ l1 (Int.tmod a2_0 a0) (Int.tmod a2_1 a0) t651 _ ?side1 ?side2 A14.out).mono ?_);(case side1 => repeat (first|exact (Kd.C_below HR1.out HB.out)|(with_reducible refine Kd.C_alloc ?_ _)|(with_reducible refine Kd.C_drewN ?_ _)|(with_reducible refine Kd.C_drew ?_)));(case side2 => exact HC1.out);rintro e w41 ⟨rfl,hb⟩;have n0_ := Aside0.mk (Kd.R_below (by (with_reducible repeat (first|apply Kd.R_alloc|apply Kd.R_drewN|apply Kd.R_drew));exact HO645.out) hb);have n1_ := Aside0.mk (Kd.R_below (by (with_reducible repeat (first|apply Kd.R_alloc|apply Kd.R_drewN|apply Kd.R_drew));exact HO648.out) hb);have n2_ := Aside0.mk (blk_below (g := gb639) (o := .cells #[.int .u64 a2_0,.int .u64 a2_1] 50 (0,0)) (by (with_reducible repeat (first|refine blk_drewN ?_ _|refine blk_drew ?_|refine blk_alloc ?_ _));exact BK639.out) hb);have n3_ := Aside0.mk (below_step (by repeat (first|(with_reducible first|exact HB.out|apply below_alloc|apply pw_below_drewN|apply below_drew1|refine below_set ?_ GE639.out)|exact HB.out)) hb);clear HO645;clear HO648;clear BK639;clear HB;have HO645 := n0_;have HO648 := n1_;have BK639 := n2_;have HB := n3_;clear n0_ n1_ n2_ n3_;(try clear hb);(try clear hb2);(try clear hk);(try clear hi))))
      go_ret
      exact ⟨by first|rfl|(simp [errW_none,errW_some] <;> rfl)|(simp [*,errW_none,errW_some] <;> rfl),by repeat (first|(with_reducible first|exact HB.out|apply below_alloc|apply pw_below_drewN|apply below_drew1|refine below_set ?_ GE639.out)|exact HB.out)⟩
    ·replace c12 := Bool.eq_false_iff.mpr c12
     subst c12
     have H1 : (some false) = some r := by rw [if_neg (show ¬ (false = true) by decide)] at H;exact H
     clear H
     have H := H1
     clear H1
     obtain rfl := Option.some.inj H
     go_enter Try.func10,Try.ntmps10
     go_wp2_with (first|((with_reducible refine gate_dst (N := 5) rfl ?_);refine box_event ?hg (N := 5) ?hd (cs := #[.int .u64 a2_0,.int .u64 a2_1]) (t := 50) ?hr ?_;(case hd => rfl);(case hg => rfl);(case hr => first|(go_simp;done)|(go_simp;rfl));intro gb639 hg w42 hbox hb;have n0_ := Aside0.mk (below_step (by repeat (first|(with_reducible first|exact HB.out|apply below_alloc|apply pw_below_drewN|apply below_drew1)|exact HB.out)) hb);have n1_ := Aside0.mk (hbox);have n2_ := Aside0.mk ((by rw [hg];exact (below_size (by repeat (first|(with_reducible first|exact HB.out|apply below_alloc|apply pw_below_drewN|apply below_drew1)|exact HB.out))) : w.heap.size ≤ gb639));have n3_ := Aside0.mk ((by rw [hg];exact (below_size (by repeat (first|(with_reducible first|exact HB.out|apply below_alloc|apply pw_below_drewN|apply below_drew1)|exact HB.out))) : w.heap.size ≤ gb639));clear HB;have HB := n0_;have BK639 := n1_;have GW639 := n2_;have GE639 := n3_;clear n0_ n1_ n2_ n3_;clear hb hbox hg)|(go_at_call 32;(with_reducible refine (privityref10_Fair.calls k a0 _ _ l1 6 true _ ?side1 ?side2 A4.out).mono ?_);(case side1 => repeat (first|exact (Kd.C_below HR1.out HB.out)|(with_reducible refine Kd.C_alloc ?_ _)|(with_reducible refine Kd.C_drewN ?_ _)|(with_reducible refine Kd.C_drew ?_)));(case side2 => exact HC1.out);rintro e w43 ⟨rfl,hb⟩;have n0_ := Aside0.mk (blk_below (g := gb639) (o := .cells #[.int .u64 a2_0,.int .u64 a2_1] 50 (0,0)) (by (with_reducible repeat (first|refine blk_drewN ?_ _|refine blk_drew ?_|refine blk_alloc ?_ _));exact BK639.out) hb);have n1_ := Aside0.mk (below_step (by repeat (first|(with_reducible first|exact HB.out|apply below_alloc|apply pw_below_drewN|apply below_drew1|refine below_set ?_ GE639.out)|exact HB.out)) hb);clear BK639;clear HB;have BK639 := n0_;have HB := n1_;clear n0_ n1_;(try clear hb);(try clear hb2);(try clear hk);(try clear hi);have hcz44_0 : w43.cell? ⟨gb639,0,none⟩ = some (.int .u64 a2_0) := (blk_cell BK639.out 0).trans rfl;have hcz44_1 : w43.cell? ⟨gb639,1,none⟩ = some (.int .u64 a2_1) := (blk_cell BK639.out 1).trans rfl;have hfz44_0 := blk_frozen BK639.out 0;have hfz44_1 := blk_frozen BK639.out 1)|(go_at_call 33;(with_reducible refine (privitylaw10_awake.calls k  true _ A7.out).mono ?_);rintro e w45 ⟨rfl,hb⟩;have n0_ := Aside0.mk (blk_below (g := gb639) (o := .cells #[.int .u64 a2_0,.int .u64 a2_1] 50 (0,0)) (by (with_reducible repeat (first|refine blk_drewN ?_ _|refine blk_drew ?_|refine blk_alloc ?_ _));exact BK639.out) hb);have n1_ := Aside0.mk (below_step (by repeat (first|(with_reducible first|exact HB.out|apply below_alloc|apply pw_below_drewN|apply below_drew1|refine below_set ?_ GE639.out)|exact HB.out)) hb);clear BK639;clear HB;have BK639 := n0_;have HB := n1_;clear n0_ n1_;(try clear hb);(try clear hb2);(try clear hk);(try clear hi))|(go_at_call 35;(with_reducible refine (bivariate_Row.calls k a0 _ _ l1 (Int.tmod a2_0 a0) t643 _ ?side1 ?side2 A9.out).mono ?_);(case side1 => repeat (first|exact (Kd.C_below HR1.out HB.out)|(with_reducible refine Kd.C_alloc ?_ _)|(with_reducible refine Kd.C_drewN ?_ _)|(with_reducible refine Kd.C_drew ?_)));(case side2 => exact HC1.out);rintro e w46 ⟨v644,rfl,ho0,hb⟩;have n0_ := Aside0.mk (Kd.R_lower ho0 (below_size (by repeat (first|(with_reducible first|exact HB.out|apply below_alloc|apply pw_below_drewN|apply below_drew1|refine below_set ?_ GE639.out)|exact HB.out))));have n1_ := Aside0.mk (blk_below (g := gb639) (o := .cells #[.int .u64 a2_0,.int .u64 a2_1] 50 (0,0)) (by (with_reducible repeat (first|refine blk_drewN ?_ _|refine blk_drew ?_|refine blk_alloc ?_ _));exact BK639.out) hb);have n2_ := Aside0.mk (below_step (by repeat (first|(with_reducible first|exact HB.out|apply below_alloc|apply pw_below_drewN|apply below_drew1|refine below_set ?_ GE639.out)|exact HB.out)) hb);clear BK639;clear HB;have HO645 := n0_;have BK639 := n1_;have HB := n2_;clear n0_ n1_ n2_;(try clear hb);(try clear hb2);(try clear hk);(try clear hi);(try clear ho0))|(go_at_call 19;(with_reducible refine (privityref10_Row.calls k a0 _ _ l1 (Int.tmod a2_0 a0) t646 _ ?side1 ?side2 A10.out).mono ?_);(case side1 => repeat (first|exact (Kd.C_below HR1.out HB.out)|(with_reducible refine Kd.C_alloc ?_ _)|(with_reducible refine Kd.C_drewN ?_ _)|(with_reducible refine Kd.C_drew ?_)));(case side2 => exact HC1.out);rintro e w47 ⟨v647,rfl,ho0,hb⟩;have n0_ := Aside0.mk (Kd.R_elder' (by (with_reducible repeat (first|apply Kd.R_alloc|apply Kd.R_drewN|apply Kd.R_drew));exact HO645.out) (Kd.R_base ho0) hb);have n1_ := Aside0.mk (Kd.R_lower (Kd.R_new' ho0 (Kd.R_lt (by (with_reducible repeat (first|apply Kd.R_alloc|apply Kd.R_drewN|apply Kd.R_drew));exact HO645.out))) (below_size (by repeat (first|(with_reducible first|exact HB.out|apply below_alloc|apply pw_below_drewN|apply below_drew1|refine below_set ?_ GE639.out)|exact HB.out))));have n2_ := Aside0.mk (blk_below (g := gb639) (o := .cells #[.int .u64 a2_0,.int .u64 a2_1] 50 (0,0)) (by (with_reducible repeat (first|refine blk_drewN ?_ _|refine blk_drew ?_|refine blk_alloc ?_ _));exact BK639.out) hb);have n3_ := Aside0.mk (below_step (by repeat (first|(with_reducible first|exact HB.out|apply below_alloc|apply pw_below_drewN|apply below_drew1|refine below_set ?_ GE639.out)|exact HB.out)) hb);clear HO645;clear BK639;clear HB;have HO645 := n0_;have HO648 := n1_;have BK639 := n2_;have HB := n3_;clear n0_ n1_ n2_ n3_;(try clear hb);(try clear hb2);(try clear hk);(try clear hi);(try clear ho0);obtain ⟨Ao48,co48,eo48⟩ := Kd.R_slice HO645.out;subst eo48;obtain ⟨Ao49,co49,eo49⟩ := Kd.R_slice HO648.out;subst eo49)|(go_at_call 34;(with_reducible refine (privityref06_SameList.calls k _ _ t643 _ _ t646 false _ ?side1 ?side2 ?side3 ?side4 A11.out).mono ?_);(case side1 => repeat (first|exact (Kd.R_reads' HO645.out).2.2|(with_reducible refine Kd.C_alloc ?_ _)|(with_reducible refine Kd.C_drewN ?_ _)|(with_reducible refine Kd.C_drew ?_)));(case side2 => exact (Kd.R_reads' HO645.out).2.1);(case side3 => repeat (first|exact (Kd.R_reads' HO648.out).2.2|(with_reducible refine Kd.C_alloc ?_ _)|(with_reducible refine Kd.C_drewN ?_ _)|(with_reducible refine Kd.C_drew ?_)));(case side4 => exact (Kd.R_reads' HO648.out).2.1);rintro e w' ⟨rfl,⟨nd,rfl⟩⟩;(try first|exact ⟨rfl,_,World.drewN_drewN _ _ _⟩|exact ⟨rfl,_,Eq.trans (World.drewN_drewN _ _ _) (congrArg (World.drewN _) (Nat.add_assoc _ _ _))⟩)))
     repeat (go_quiet (first|((with_reducible refine gate_dst (N := 5) rfl ?_);refine box_event ?hg (N := 5) ?hd (cs := #[.int .u64 a2_0,.int .u64 a2_1]) (t := 50) ?hr ?_;(case hd => rfl);(case hg => rfl);(case hr => first|(go_simp;done)|(go_simp;rfl));intro gb639 hg w42 hbox hb;have n0_ := Aside0.mk (below_step (by repeat (first|(with_reducible first|exact HB.out|apply below_alloc|apply pw_below_drewN|apply below_drew1)|exact HB.out)) hb);have n1_ := Aside0.mk (hbox);have n2_ := Aside0.mk ((by rw [hg];exact (below_size (by repeat (first|(with_reducible first|exact HB.out|apply below_alloc|apply pw_below_drewN|apply below_drew1)|exact HB.out))) : w.heap.size ≤ gb639));have n3_ := Aside0.mk ((by rw [hg];exact (below_size (by repeat (first|(with_reducible first|exact HB.out|apply below_alloc|apply pw_below_drewN|apply below_drew1)|exact HB.out))) : w.heap.size ≤ gb639));clear HB;have HB := n0_;have BK639 := n1_;have GW639 := n2_;have GE639 := n3_;clear n0_ n1_ n2_ n3_;clear hb hbox hg)|(go_at_call 32;(with_reducible refine (privityref10_Fair.calls k a0 _ _ l1 6 true _ ?side1 ?side2 A4.out).mono ?_);(case side1 => repeat (first|exact (Kd.C_below HR1.out HB.out)|(with_reducible refine Kd.C_alloc ?_ _)|(with_reducible refine Kd.C_drewN ?_ _)|(with_reducible refine Kd.C_drew ?_)));(case side2 => exact HC1.out);rintro e w43 ⟨rfl,hb⟩;have n0_ := Aside0.mk (blk_below (g := gb639) (o := .cells #[.int .u64 a2_0,.int .u64 a2_1] 50 (0,0)) (by (with_reducible repeat (first|refine blk_drewN ?_ _|refine blk_drew ?_|refine blk_alloc ?_ _));exact BK639.out) hb);have n1_ := Aside0.mk (below_step (by repeat (first|(with_reducible first|exact HB.out|apply below_alloc|apply pw_below_drewN|apply below_drew1|refine below_set ?_ GE639.out)|exact HB.out)) hb);clear BK639;clear HB;have BK639 := n0_;have HB := n1_;clear n0_ n1_;(try clear hb);(try clear hb2);(try clear hk);(try clear hi);have hcz44_0 : w43.cell? ⟨gb639,0,none⟩ = some (.int .u64 a2_0) := (blk_cell BK639.out 0).trans rfl;have hcz44_1 : w43.cell? ⟨gb639,1,none⟩ = some (.int .u64 a2_1) := (blk_cell BK639.out 1).trans rfl;have hfz44_0 := blk_frozen BK639.out 0;have hfz44_1 := blk_frozen BK639.out 1)|(go_at_call 33;(with_reducible refine (privitylaw10_awake.calls k  true _ A7.out).mono ?_);rintro e w45 ⟨rfl,hb⟩;have n0_ := Aside0.mk (blk_below (g := gb639) (o := .cells #[.int .u64 a2_0,.int .u64 a2_1] 50 (0,0)) (by (with_reducible repeat (first|refine blk_drewN ?_ _|refine blk_drew ?_|refine blk_alloc ?_ _));exact BK639.out) hb);have n1_ := Aside0.mk (below_step (by repeat (first|(with_reducible first|exact HB.out|apply below_alloc|apply pw_below_drewN|apply below_drew1|refine below_set ?_ GE639.out)|exact HB.out)) hb);clear BK639;clear HB;have BK639 := n0_;have HB := n1_;clear n0_ n1_;(try clear hb);(try clear hb2);(try clear hk);(try clear hi))|(go_at_call 35;(with_reducible refine (bivariate_Row.calls k a0 _ _ l1 (Int.tmod a2_0 a0) t643 _ ?side1 ?side2 A9.out).mono ?_);(case side1 => repeat (first|exact (Kd.C_below HR1.out HB.out)|(with_reducible refine Kd.C_alloc ?_ _)|(with_reducible refine Kd.C_drewN ?_ _)|(with_reducible refine Kd.C_drew ?_)));(case side2 => exact HC1.out);rintro e w46 ⟨v644,rfl,ho0,hb⟩;have n0_ := Aside0.mk (Kd.R_lower ho0 (below_size (by repeat (first|(with_reducible first|exact HB.out|apply below_alloc|apply pw_below_drewN|apply below_drew1|refine below_set ?_ GE639.out)|exact HB.out))));have n1_ := Aside0.mk (blk_below (g := gb639) (o := .cells #[.int .u64 a2_0,.int .u64 a2_1] 50 (0,0)) (by (with_reducible repeat (first|refine blk_drewN ?_ _|refine blk_drew ?_|refine blk_alloc ?_ _));exact BK639.out) hb);have n2_ := Aside0.mk (below_step (by repeat (first|(with_reducible first|exact HB.out|apply below_alloc|apply pw_below_drewN|apply below_drew1|refine below_set ?_ GE639.out)|exact HB.out)) hb);clear BK639;clear HB;have HO645 := n0_;have BK639 := n1_;have HB := n2_;clear n0_ n1_ n2_;(try clear hb);(try clear hb2);(try clear hk);(try clear hi);(try clear ho0))|(go_at_call 19;(with_reducible refine (privityref10_Row.calls k a0 _ _ l1 (Int.tmod a2_0 a0) t646 _ ?side1 ?side2 A10.out).mono ?_);(case side1 => repeat (first|exact (Kd.C_below HR1.out HB.out)|(with_reducible refine Kd.C_alloc ?_ _)|(with_reducible refine Kd.C_drewN ?_ _)|(with_reducible refine Kd.C_drew ?_)));(case side2 => exact HC1.out);rintro e w47 ⟨v647,rfl,ho0,hb⟩;have n0_ := Aside0.mk (Kd.R_elder' (by (with_reducible repeat (first|apply Kd.R_alloc|apply Kd.R_drewN|apply Kd.R_drew));exact HO645.out) (Kd.R_base ho0) hb);have n1_ := Aside0.mk (Kd.R_lower (Kd.R_new' ho0 (Kd.R_lt (by (with_reducible repeat (first|apply Kd.R_alloc|apply Kd.R_drewN|apply Kd.R_drew));exact HO645.out))) (below_size (by repeat (first|(with_reducible first|exact HB.out|apply below_alloc|apply pw_below_drewN|apply below_drew1|refine below_set ?_ GE639.out)|exact HB.out))));have n2_ := Aside0.mk (blk_below (g := gb639) (o := .cells #[.int .u64 a2_0,.int .u64 a2_1] 50 (0,0)) (by (with_reducible repeat (first|refine blk_drewN ?_ _|refine blk_drew ?_|refine blk_alloc ?_ _));exact BK639.out) hb);have n3_ := Aside0.mk (below_step (by repeat (first|(with_reducible first|exact HB.out|apply below_alloc|apply pw_below_drewN|apply below_drew1|refine below_set ?_ GE639.out)|exact HB.out)) hb);clear HO645;clear BK639;clear HB;have HO645 := n0_;have HO648 := n1_;have BK639 := n2_;have HB := n3_;clear n0_ n1_ n2_ n3_;(try clear hb);(try clear hb2);(try clear hk);(try clear hi);(try clear ho0);obtain ⟨Ao48,co48,eo48⟩ := Kd.R_slice HO645.out;subst eo48;obtain ⟨Ao49,co49,eo49⟩ := Kd.R_slice HO648.out;subst eo49)|(go_at_call 34;(with_reducible refine (privityref06_SameList.calls k _ _ t643 _ _ t646 false _ ?side1 ?side2 ?side3 ?side4 A11.out).mono ?_);(case side1 => repeat (first|exact (Kd.R_reads' HO645.out).2.2|(with_reducible refine Kd.C_alloc ?_ _)|(with_reducible refine Kd.C_drewN ?_ _)|(with_reducible refine Kd.C_drew ?_)));(case side2 => exact (Kd.R_reads' HO645.out).2.1);(case side3 => repeat (first|exact (Kd.R_reads' HO648.out).2.2|(with_reducible refine Kd.C_alloc ?_ _)|(with_reducible refine Kd.C_drewN ?_ _)|(with_reducible refine Kd.C_drew ?_)));(case side4 => exact (Kd.R_reads' HO648.out).2.1);rintro e w' ⟨rfl,⟨nd,rfl⟩⟩;(try first|exact ⟨rfl,_,World.drewN_drewN _ _ _⟩|exact ⟨rfl,_,Eq.trans (World.drewN_drewN _ _ _) (congrArg (World.drewN _) (Nat.add_assoc _ _ _))⟩)));try go_wp2_with (first|((with_reducible refine gate_dst (N := 5) rfl ?_);refine box_event ?hg (N := 5) ?hd (cs := #[.int .u64 a2_0,.int .u64 a2_1]) (t := 50) ?hr ?_;(case hd => rfl);(case hg => rfl);(case hr => first|(go_simp;done)|(go_simp;rfl));intro gb639 hg w42 hbox hb;have n0_ := Aside0.mk (below_step (by repeat (first|(with_reducible first|exact HB.out|apply below_alloc|apply pw_below_drewN|apply below_drew1)|exact HB.out)) hb);have n1_ := Aside0.mk (hbox);have n2_ := Aside0.mk ((by rw [hg];exact (below_size (by repeat (first|(with_reducible first|exact HB.out|apply below_alloc|apply pw_below_drewN|apply below_drew1)|exact HB.out))) : w.heap.size ≤ gb639));have n3_ := Aside0.mk ((by rw [hg];exact (below_size (by repeat (first|(with_reducible first|exact HB.out|apply below_alloc|apply pw_below_drewN|apply below_drew1)|exact HB.out))) : w.heap.size ≤ gb639));clear HB;have HB := n0_;have BK639 := n1_;have GW639 := n2_;have GE639 := n3_;clear n0_ n1_ n2_ n3_;clear hb hbox hg)|(go_at_call 32;(with_reducible refine (privityref10_Fair.calls k a0 _ _ l1 6 true _ ?side1 ?side2 A4.out).mono ?_);(case side1 => repeat (first|exact (Kd.C_below HR1.out HB.out)|(with_reducible refine Kd.C_alloc ?_ _)|(with_reducible refine Kd.C_drewN ?_ _)|(with_reducible refine Kd.C_drew ?_)));(case side2 => exact HC1.out);rintro e w43 ⟨rfl,hb⟩;have n0_ := Aside0.mk (blk_below (g := gb639) (o := .cells #[.int .u64 a2_0,.int .u64 a2_1] 50 (0,0)) (by (with_reducible repeat (first|refine blk_drewN ?_ _|refine blk_drew ?_|refine blk_alloc ?_ _));exact BK639.out) hb);have n1_ := Aside0.mk (below_step (by repeat (first|(with_reducible first|exact HB.out|apply below_alloc|apply pw_below_drewN|apply below_drew1|refine below_set ?_ GE639.out)|exact HB.out)) hb);clear BK639;clear HB;have BK639 := n0_;have HB := n1_;clear n0_ n1_;(try clear hb);(try clear hb2);(try clear hk);(try clear hi);have hcz44_0 : w43.cell? ⟨gb639,0,none⟩ = some (.int .u64 a2_0) := (blk_cell BK639.out 0).trans rfl;have hcz44_1 : w43.cell? ⟨gb639,1,none⟩ = some (.int .u64 a2_1) := (blk_cell BK639.out 1).trans rfl;have hfz44_0 := blk_frozen BK639.out 0;have hfz44_1 := blk_frozen BK639.out 1)|(go_at_call 33;(with_reducible refine (privitylaw10_awake.calls k  true _ A7.out).mono ?_);rintro e w45 ⟨rfl,hb⟩;have n0_ := Aside0.mk (blk_below (g := gb639) (o := .cells #[.int .u64 a2_0,.int .u64 a2_1] 50 (0,0)) (by (with_reducible repeat (first|refine blk_drewN ?_ _|refine blk_drew ?_|refine blk_alloc ?_ _));exact BK639.out) hb);have n1_ := Aside0.mk (below_step (by repeat (first|(with_reducible first|exact HB.out|apply below_alloc|apply pw_below_drewN|apply below_drew1|refine below_set ?_ GE639.out)|exact HB.out)) hb);clear BK639;clear HB;have BK639 := n0_;have HB := n1_;clear n0_ n1_;(try clear hb);(try clear hb2);(try clear hk);(try clear hi))|(go_at_call 35;(with_reducible refine (bivariate_Row.calls k a0 _ _ l1 (Int.tmod a2_0 a0) t643 _ ?side1 ?side2 A9.out).mono ?_);(case side1 => repeat (first|exact (Kd.C_below HR1.out HB.out)|(with_reducible refine Kd.C_alloc ?_ _)|(with_reducible refine Kd.C_drewN ?_ _)|(with_reducible refine Kd.C_drew ?_)));(case side2 => exact HC1.out);rintro e w46 ⟨v644,rfl,ho0,hb⟩;have n0_ := Aside0.mk (Kd.R_lower ho0 (below_size (by repeat (first|(with_reducible first|exact HB.out|apply below_alloc|apply pw_below_drewN|apply below_drew1|refine below_set ?_ GE639.out)|exact HB.out))));have n1_ := Aside0.mk (blk_below (g := gb639) (o := .cells #[.int .u64 a2_0,.int .u64 a2_1] 50 (0,0)) (by (with_reducible repeat (first|refine blk_drewN ?_ _|refine blk_drew ?_|refine blk_alloc ?_ _));exact BK639.out) hb);have n2_ := Aside0.mk (below_step (by repeat (first|(with_reducible first|exact HB.out|apply below_alloc|apply pw_below_drewN|apply below_drew1|refine below_set ?_ GE639.out)|exact HB.out)) hb);clear BK639;clear HB;have HO645 := n0_;have BK639 := n1_;have HB := n2_;clear n0_ n1_ n2_;(try clear hb);(try clear hb2);(try clear hk);(try clear hi);(try clear ho0))|(go_at_call 19;(with_reducible refine (privityref10_Row.calls k a0 _ _ l1 (Int.tmod a2_0 a0) t646 _ ?side1 ?side2 A10.out).mono ?_);(case side1 => repeat (first|exact (Kd.C_below HR1.out HB.out)|(with_reducible refine Kd.C_alloc ?_ _)|(with_reducible refine Kd.C_drewN ?_ _)|(with_reducible refine Kd.C_drew ?_)));(case side2 => exact HC1.out);rintro e w47 ⟨v647,rfl,ho0,hb⟩;have n0_ := Aside0.mk (Kd.R_elder' (by (with_reducible repeat (first|apply Kd.R_alloc|apply Kd.R_drewN|apply Kd.R_drew));exact HO645.out) (Kd.R_base ho0) hb);have n1_ := Aside0.mk (Kd.R_lower (Kd.R_new' ho0 (Kd.R_lt (by (with_reducible repeat (first|apply Kd.R_alloc|apply Kd.R_drewN|apply Kd.R_drew));exact HO645.out))) (below_size (by repeat (first|(with_reducible first|exact HB.out|apply below_alloc|apply pw_below_drewN|apply below_drew1|refine below_set ?_ GE639.out)|exact HB.out))));have n2_ := Aside0.mk (blk_below (g := gb639) (o := .cells #[.int .u64 a2_0,.int .u64 a2_1] 50 (0,0)) (by (with_reducible repeat (first|refine blk_drewN ?_ _|refine blk_drew ?_|refine blk_alloc ?_ _));exact BK639.out) hb);have n3_ := Aside0.mk (below_step (by repeat (first|(with_reducible first|exact HB.out|apply below_alloc|apply pw_below_drewN|apply below_drew1|refine below_set ?_ GE639.out)|exact HB.out)) hb);clear HO645;clear BK639;clear HB;have HO645 := n0_;have HO648 := n1_;have BK639 := n2_;have HB := n3_;clear n0_ n1_ n2_ n3_;(try clear hb);(try clear hb2);(try clear hk);(try clear hi);(try clear ho0);obtain ⟨Ao48,co48,eo48⟩ := Kd.R_slice HO645.out;subst eo48;obtain ⟨Ao49,co49,eo49⟩ := Kd.R_slice HO648.out;subst eo49)|(go_at_call 34;(with_reducible refine (privityref06_SameList.calls k _ _ t643 _ _ t646 false _ ?side1 ?side2 ?side3 ?side4 A11.out).mono ?_);(case side1 => repeat (first|exact (Kd.R_reads' HO645.out).2.2|(with_reducible refine Kd.C_alloc ?_ _)|(with_reducible refine Kd.C_drewN ?_ _)|(with_reducible refine Kd.C_drew ?_)));(case side2 => exact (Kd.R_reads' HO645.out).2.1);(case side3 => repeat (first|exact (Kd.R_reads' HO648.out).2.2|(with_reducible refine Kd.C_alloc ?_ _)|(with_reducible refine Kd.C_drewN ?_ _)|(with_reducible refine Kd.C_drew ?_)));(case side4 => exact (Kd.R_reads' HO648.out).2.1);rintro e w' ⟨rfl,⟨nd,rfl⟩⟩;(try first|exact ⟨rfl,_,World.drewN_drewN _ _ _⟩|exact ⟨rfl,_,Eq.trans (World.drewN_drewN _ _ _) (congrArg (World.drewN _) (Nat.add_assoc _ _ _))⟩))))
     go_ret
     exact ⟨by first|rfl|(simp [errW_none,errW_some] <;> rfl)|(simp [*,errW_none,errW_some] <;> rfl),by repeat (first|(with_reducible first|exact HB.out|apply below_alloc|apply pw_below_drewN|apply below_drew1|refine below_set ?_ GE639.out)|exact HB.out)⟩
   ·replace c8 := Bool.eq_false_iff.mpr c8
    subst c8
    have H1 : (some false) = some r := by rw [if_neg (show ¬ (false = true) by decide)] at H;exact H
    clear H
    have H := H1
    clear H1
    obtain rfl := Option.some.inj H
    go_enter Try.func10,Try.ntmps10
    go_wp2_with (first|((with_reducible refine gate_dst (N := 5) rfl ?_);refine box_event ?hg (N := 5) ?hd (cs := #[.int .u64 a2_0,.int .u64 a2_1]) (t := 50) ?hr ?_;(case hd => rfl);(case hg => rfl);(case hr => first|(go_simp;done)|(go_simp;rfl));intro gb639 hg w50 hbox hb;have n0_ := Aside0.mk (below_step (by repeat (first|(with_reducible first|exact HB.out|apply below_alloc|apply pw_below_drewN|apply below_drew1)|exact HB.out)) hb);have n1_ := Aside0.mk (hbox);have n2_ := Aside0.mk ((by rw [hg];exact (below_size (by repeat (first|(with_reducible first|exact HB.out|apply below_alloc|apply pw_below_drewN|apply below_drew1)|exact HB.out))) : w.heap.size ≤ gb639));have n3_ := Aside0.mk ((by rw [hg];exact (below_size (by repeat (first|(with_reducible first|exact HB.out|apply below_alloc|apply pw_below_drewN|apply below_drew1)|exact HB.out))) : w.heap.size ≤ gb639));clear HB;have HB := n0_;have BK639 := n1_;have GW639 := n2_;have GE639 := n3_;clear n0_ n1_ n2_ n3_;clear hb hbox hg)|(go_at_call 32;(with_reducible refine (privityref10_Fair.calls k a0 _ _ l1 6 true _ ?side1 ?side2 A4.out).mono ?_);(case side1 => repeat (first|exact (Kd.C_below HR1.out HB.out)|(with_reducible refine Kd.C_alloc ?_ _)|(with_reducible refine Kd.C_drewN ?_ _)|(with_reducible refine Kd.C_drew ?_)));(case side2 => exact HC1.out);rintro e w51 ⟨rfl,hb⟩;have n0_ := Aside0.mk (blk_below (g := gb639) (o := .cells #[.int .u64 a2_0,.int .u64 a2_1] 50 (0,0)) (by (with_reducible repeat (first|refine blk_drewN ?_ _|refine blk_drew ?_|refine blk_alloc ?_ _));exact BK639.out) hb);have n1_ := Aside0.mk (below_step (by repeat (first|(with_reducible first|exact HB.out|apply below_alloc|apply pw_below_drewN|apply below_drew1|refine below_set ?_ GE639.out)|exact HB.out)) hb);clear BK639;clear HB;have BK639 := n0_;have HB := n1_;clear n0_ n1_;(try clear hb);(try clear hb2);(try clear hk);(try clear hi);have hcz52_0 : w51.cell? ⟨gb639,0,none⟩ = some (.int .u64 a2_0) := (blk_cell BK639.out 0).trans rfl;have hcz52_1 : w51.cell? ⟨gb639,1,none⟩ = some (.int .u64 a2_1) := (blk_cell BK639.out 1).trans rfl;have hfz52_0 := blk_frozen BK639.out 0;have hfz52_1 := blk_frozen BK639.out 1)|(go_at_call 33;(with_reducible refine (privitylaw10_awake.calls k  false _ A7.out).mono ?_);rintro e w53 ⟨rfl,hb⟩;have n0_ := Aside0.mk (blk_below (g := gb639) (o := .cells #[.int .u64 a2_0,.int .u64 a2_1] 50 (0,0)) (by (with_reducible repeat (first|refine blk_drewN ?_ _|refine blk_drew ?_|refine blk_alloc ?_ _));exact BK639.out) hb);have n1_ := Aside0.mk (below_step (by repeat (first|(with_reducible first|exact HB.out|apply below_alloc|apply pw_below_drewN|apply below_drew1|refine below_set ?_ GE639.out)|exact HB.out)) hb);clear BK639;clear HB;have BK639 := n0_;have HB := n1_;clear n0_ n1_;(try clear hb);(try clear hb2);(try clear hk);(try clear hi)))
    repeat (go_quiet (first|((with_reducible refine gate_dst (N := 5) rfl ?_);refine box_event ?hg (N := 5) ?hd (cs := #[.int .u64 a2_0,.int .u64 a2_1]) (t := 50) ?hr ?_;(case hd => rfl);(case hg => rfl);(case hr => first|(go_simp;done)|(go_simp;rfl));intro gb639 hg w50 hbox hb;have n0_ := Aside0.mk (below_step (by repeat (first|(with_reducible first|exact HB.out|apply below_alloc|apply pw_below_drewN|apply below_drew1)|exact HB.out)) hb);have n1_ := Aside0.mk (hbox);have n2_ := Aside0.mk ((by rw [hg];exact (below_size (by repeat (first|(with_reducible first|exact HB.out|apply below_alloc|apply pw_below_drewN|apply below_drew1)|exact HB.out))) : w.heap.size ≤ gb639));have n3_ := Aside0.mk ((by rw [hg];exact (below_size (by repeat (first|(with_reducible first|exact HB.out|apply below_alloc|apply pw_below_drewN|apply below_drew1)|exact HB.out))) : w.heap.size ≤ gb639));clear HB;have HB := n0_;have BK639 := n1_;have GW639 := n2_;have GE639 := n3_;clear n0_ n1_ n2_ n3_;clear hb hbox hg)|(go_at_call 32;(with_reducible refine (privityref10_Fair.calls k a0 _ _ l1 6 true _ ?side1 ?side2 A4.out).mono ?_);(case side1 => repeat (first|exact (Kd.C_below HR1.out HB.out)|(with_reducible refine Kd.C_alloc ?_ _)|(with_reducible refine Kd.C_drewN ?_ _)|(with_reducible refine Kd.C_drew ?_)));(case side2 => exact HC1.out);rintro e w51 ⟨rfl,hb⟩;have n0_ := Aside0.mk (blk_below (g := gb639) (o := .cells #[.int .u64 a2_0,.int .u64 a2_1] 50 (0,0)) (by (with_reducible repeat (first|refine blk_drewN ?_ _|refine blk_drew ?_|refine blk_alloc ?_ _));exact BK639.out) hb);have n1_ := Aside0.mk (below_step (by repeat (first|(with_reducible first|exact HB.out|apply below_alloc|apply pw_below_drewN|apply below_drew1|refine below_set ?_ GE639.out)|exact HB.out)) hb);clear BK639;clear HB;have BK639 := n0_;have HB := n1_;clear n0_ n1_;(try clear hb);(try clear hb2);(try clear hk);(try clear hi);have hcz52_0 : w51.cell? ⟨gb639,0,none⟩ = some (.int .u64 a2_0) := (blk_cell BK639.out 0).trans rfl;have hcz52_1 : w51.cell? ⟨gb639,1,none⟩ = some (.int .u64 a2_1) := (blk_cell BK639.out 1).trans rfl;have hfz52_0 := blk_frozen BK639.out 0;have hfz52_1 := blk_frozen BK639.out 1)|(go_at_call 33;(with_reducible refine (privitylaw10_awake.calls k  false _ A7.out).mono ?_);rintro e w53 ⟨rfl,hb⟩;have n0_ := Aside0.mk (blk_below (g := gb639) (o := .cells #[.int .u64 a2_0,.int .u64 a2_1] 50 (0,0)) (by (with_reducible repeat (first|refine blk_drewN ?_ _|refine blk_drew ?_|refine blk_alloc ?_ _));exact BK639.out) hb);have n1_ := Aside0.mk (below_step (by repeat (first|(with_reducible first|exact HB.out|apply below_alloc|apply pw_below_drewN|apply below_drew1|refine below_set ?_ GE639.out)|exact HB.out)) hb);clear BK639;clear HB;have BK639 := n0_;have HB := n1_;clear n0_ n1_;(try clear hb);(try clear hb2);(try clear hk);(try clear hi)));try go_wp2_with (first|((with_reducible refine gate_dst (N := 5) rfl ?_);refine box_event ?hg (N := 5) ?hd (cs := #[.int .u64 a2_0,.int .u64 a2_1]) (t := 50) ?hr ?_;(case hd => rfl);(case hg => rfl);(case hr => first|(go_simp;done)|(go_simp;rfl));intro gb639 hg w50 hbox hb;have n0_ := Aside0.mk (below_step (by repeat (first|(with_reducible first|exact HB.out|apply below_alloc|apply pw_below_drewN|apply below_drew1)|exact HB.out)) hb);have n1_ := Aside0.mk (hbox);have n2_ := Aside0.mk ((by rw [hg];exact (below_size (by repeat (first|(with_reducible first|exact HB.out|apply below_alloc|apply pw_below_drewN|apply below_drew1)|exact HB.out))) : w.heap.size ≤ gb639));have n3_ := Aside0.mk ((by rw [hg];exact (below_size (by repeat (first|(with_reducible first|exact HB.out|apply below_alloc|apply pw_below_drewN|apply below_drew1)|exact HB.out))) : w.heap.size ≤ gb639));clear HB;have HB := n0_;have BK639 := n1_;have GW639 := n2_;have GE639 := n3_;clear n0_ n1_ n2_ n3_;clear hb hbox hg)|(go_at_call 32;(with_reducible refine (privityref10_Fair.calls k a0 _ _ l1 6 true _ ?side1 ?side2 A4.out).mono ?_);(case side1 => repeat (first|exact (Kd.C_below HR1.out HB.out)|(with_reducible refine Kd.C_alloc ?_ _)|(with_reducible refine Kd.C_drewN ?_ _)|(with_reducible refine Kd.C_drew ?_)));(case side2 => exact HC1.out);rintro e w51 ⟨rfl,hb⟩;have n0_ := Aside0.mk (blk_below (g := gb639) (o := .cells #[.int .u64 a2_0,.int .u64 a2_1] 50 (0,0)) (by (with_reducible repeat (first|refine blk_drewN ?_ _|refine blk_drew ?_|refine blk_alloc ?_ _));exact BK639.out) hb);have n1_ := Aside0.mk (below_step (by repeat (first|(with_reducible first|exact HB.out|apply below_alloc|apply pw_below_drewN|apply below_drew1|refine below_set ?_ GE639.out)|exact HB.out)) hb);clear BK639;clear HB;have BK639 := n0_;have HB := n1_;clear n0_ n1_;(try clear hb);(try clear hb2);(try clear hk);(try clear hi);have hcz52_0 : w51.cell? ⟨gb639,0,none⟩ = some (.int .u64 a2_0) := (blk_cell BK639.out 0).trans rfl;have hcz52_1 : w51.cell? ⟨gb639,1,none⟩ = some (.int .u64 a2_1) := (blk_cell BK639.out 1).trans rfl;have hfz52_0 := blk_frozen BK639.out 0;have hfz52_1 := blk_frozen BK639.out 1)|(go_at_call 33;(with_reducible refine (privitylaw10_awake.calls k  false _ A7.out).mono ?_);rintro e w53 ⟨rfl,hb⟩;have n0_ := Aside0.mk (blk_below (g := gb639) (o := .cells #[.int .u64 a2_0,.int .u64 a2_1] 50 (0,0)) (by (with_reducible repeat (first|refine blk_drewN ?_ _|refine blk_drew ?_|refine blk_alloc ?_ _));exact BK639.out) hb);have n1_ := Aside0.mk (below_step (by repeat (first|(with_reducible first|exact HB.out|apply below_alloc|apply pw_below_drewN|apply below_drew1|refine below_set ?_ GE639.out)|exact HB.out)) hb);clear BK639;clear HB;have BK639 := n0_;have HB := n1_;clear n0_ n1_;(try clear hb);(try clear hb2);(try clear hk);(try clear hi))))
    go_ret
    exact ⟨by first|rfl|(simp [errW_none,errW_some] <;> rfl)|(simp [*,errW_none,errW_some] <;> rfl),by repeat (first|(with_reducible first|exact HB.out|apply below_alloc|apply pw_below_drewN|apply below_drew1|refine below_set ?_ GE639.out)|exact HB.out)⟩
 ·replace c5 := Bool.eq_false_iff.mpr c5
  subst c5
  have H1 : ((privitylaw10_awake.f k).bind fun t641 => (some t641)) = some r := by rw [if_neg (show ¬ (false = true) by decide)] at H;exact H
  clear H
  have H := H1
  clear H1
  replace H := Option.bind_eq_some_iff.mp H
  obtain ⟨t641,A540,H⟩ := H
  replace H : (some t641) = some r := H
  have A54 := Aside0.mk A540
  clear A540
  obtain rfl := Option.some.inj H
  go_enter Try.func10,Try.ntmps10
  go_wp2_with (first|((with_reducible refine gate_dst (N := 5) rfl ?_);refine box_event ?hg (N := 5) ?hd (cs := #[.int .u64 a2_0,.int .u64 a2_1]) (t := 50) ?hr ?_;(case hd => rfl);(case hg => rfl);(case hr => first|(go_simp;done)|(go_simp;rfl));intro gb639 hg w55 hbox hb;have n0_ := Aside0.mk (below_step (by repeat (first|(with_reducible first|exact HB.out|apply below_alloc|apply pw_below_drewN|apply below_drew1)|exact HB.out)) hb);have n1_ := Aside0.mk (hbox);have n2_ := Aside0.mk ((by rw [hg];exact (below_size (by repeat (first|(with_reducible first|exact HB.out|apply below_alloc|apply pw_below_drewN|apply below_drew1)|exact HB.out))) : w.heap.size ≤ gb639));have n3_ := Aside0.mk ((by rw [hg];exact (below_size (by repeat (first|(with_reducible first|exact HB.out|apply below_alloc|apply pw_below_drewN|apply below_drew1)|exact HB.out))) : w.heap.size ≤ gb639));clear HB;have HB := n0_;have BK639 := n1_;have GW639 := n2_;have GE639 := n3_;clear n0_ n1_ n2_ n3_;clear hb hbox hg)|(go_at_call 32;(with_reducible refine (privityref10_Fair.calls k a0 _ _ l1 6 false _ ?side1 ?side2 A4.out).mono ?_);(case side1 => repeat (first|exact (Kd.C_below HR1.out HB.out)|(with_reducible refine Kd.C_alloc ?_ _)|(with_reducible refine Kd.C_drewN ?_ _)|(with_reducible refine Kd.C_drew ?_)));(case side2 => exact HC1.out);rintro e w56 ⟨rfl,hb⟩;have n0_ := Aside0.mk (blk_below (g := gb639) (o := .cells #[.int .u64 a2_0,.int .u64 a2_1] 50 (0,0)) (by (with_reducible repeat (first|refine blk_drewN ?_ _|refine blk_drew ?_|refine blk_alloc ?_ _));exact BK639.out) hb);have n1_ := Aside0.mk (below_step (by repeat (first|(with_reducible first|exact HB.out|apply below_alloc|apply pw_below_drewN|apply below_drew1|refine below_set ?_ GE639.out)|exact HB.out)) hb);clear BK639;clear HB;have BK639 := n0_;have HB := n1_;clear n0_ n1_;(try clear hb);(try clear hb2);(try clear hk);(try clear hi))|(go_at_call 33;(with_reducible refine (privitylaw10_awake.calls k  t641 _ A54.out).mono ?_);rintro e w57 ⟨rfl,hb⟩;have n0_ := Aside0.mk (blk_below (g := gb639) (o := .cells #[.int .u64 a2_0,.int .u64 a2_1] 50 (0,0)) (by (with_reducible repeat (first|refine blk_drewN ?_ _|refine blk_drew ?_|refine blk_alloc ?_ _));exact BK639.out) hb);have n1_ := Aside0.mk (below_step (by repeat (first|(with_reducible first|exact HB.out|apply below_alloc|apply pw_below_drewN|apply below_drew1|refine below_set ?_ GE639.out)|exact HB.out)) hb);clear BK639;clear HB;have BK639 := n0_;have HB := n1_;clear n0_ n1_;(try clear hb);(try clear hb2);(try clear hk);(try clear hi)))
  repeat (go_quiet (first|((with_reducible refine gate_dst (N := 5) rfl ?_);refine box_event ?hg (N := 5) ?hd (cs := #[.int .u64 a2_0,.int .u64 a2_1]) (t := 50) ?hr ?_;(case hd => rfl);(case hg => rfl);(case hr => first|(go_simp;done)|(go_simp;rfl));intro gb639 hg w55 hbox hb;have n0_ := Aside0.mk (below_step (by repeat (first|(with_reducible first|exact HB.out|apply below_alloc|apply pw_below_drewN|apply below_drew1)|exact HB.out)) hb);have n1_ := Aside0.mk (hbox);have n2_ := Aside0.mk ((by rw [hg];exact (below_size (by repeat (first|(with_reducible first|exact HB.out|apply below_alloc|apply pw_below_drewN|apply below_drew1)|exact HB.out))) : w.heap.size ≤ gb639));have n3_ := Aside0.mk ((by rw [hg];exact (below_size (by repeat (first|(with_reducible first|exact HB.out|apply below_alloc|apply pw_below_drewN|apply below_drew1)|exact HB.out))) : w.heap.size ≤ gb639));clear HB;have HB := n0_;have BK639 := n1_;have GW639 := n2_;have GE639 := n3_;clear n0_ n1_ n2_ n3_;clear hb hbox hg)|(go_at_call 32;(with_reducible refine (privityref10_Fair.calls k a0 _ _ l1 6 false _ ?side1 ?side2 A4.out).mono ?_);(case side1 => repeat (first|exact (Kd.C_below HR1.out HB.out)|(with_reducible refine Kd.C_alloc ?_ _)|(with_reducible refine Kd.C_drewN ?_ _)|(with_reducible refine Kd.C_drew ?_)));(case side2 => exact HC1.out);rintro e w56 ⟨rfl,hb⟩;have n0_ := Aside0.mk (blk_below (g := gb639) (o := .cells #[.int .u64 a2_0,.int .u64 a2_1] 50 (0,0)) (by (with_reducible repeat (first|refine blk_drewN ?_ _|refine blk_drew ?_|refine blk_alloc ?_ _));exact BK639.out) hb);have n1_ := Aside0.mk (below_step (by repeat (first|(with_reducible first|exact HB.out|apply below_alloc|apply pw_below_drewN|apply below_drew1|refine below_set ?_ GE639.out)|exact HB.out)) hb);clear BK639;clear HB;have BK639 := n0_;have HB := n1_;clear n0_ n1_;(try clear hb);(try clear hb2);(try clear hk);(try clear hi))|(go_at_call 33;(with_reducible refine (privitylaw10_awake.calls k  t641 _ A54.out).mono ?_);rintro e w57 ⟨rfl,hb⟩;have n0_ := Aside0.mk (blk_below (g := gb639) (o := .cells #[.int .u64 a2_0,.int .u64 a2_1] 50 (0,0)) (by (with_reducible repeat (first|refine blk_drewN ?_ _|refine blk_drew ?_|refine blk_alloc ?_ _));exact BK639.out) hb);have n1_ := Aside0.mk (below_step (by repeat (first|(with_reducible first|exact HB.out|apply below_alloc|apply pw_below_drewN|apply below_drew1|refine below_set ?_ GE639.out)|exact HB.out)) hb);clear BK639;clear HB;have BK639 := n0_;have HB := n1_;clear n0_ n1_;(try clear hb);(try clear hb2);(try clear hk);(try clear hi)));try go_wp2_with (first|((with_reducible refine gate_dst (N := 5) rfl ?_);refine box_event ?hg (N := 5) ?hd (cs := #[.int .u64 a2_0,.int .u64 a2_1]) (t := 50) ?hr ?_;(case hd => rfl);(case hg => rfl);(case hr => first|(go_simp;done)|(go_simp;rfl));intro gb639 hg w55 hbox hb;have n0_ := Aside0.mk (below_step (by repeat (first|(with_reducible first|exact HB.out|apply below_alloc|apply pw_below_drewN|apply below_drew1)|exact HB.out)) hb);have n1_ := Aside0.mk (hbox);have n2_ := Aside0.mk ((by rw [hg];exact (below_size (by repeat (first|(with_reducible first|exact HB.out|apply below_alloc|apply pw_below_drewN|apply below_drew1)|exact HB.out))) : w.heap.size ≤ gb639));have n3_ := Aside0.mk ((by rw [hg];exact (below_size (by repeat (first|(with_reducible first|exact HB.out|apply below_alloc|apply pw_below_drewN|apply below_drew1)|exact HB.out))) : w.heap.size ≤ gb639));clear HB;have HB := n0_;have BK639 := n1_;have GW639 := n2_;have GE639 := n3_;clear n0_ n1_ n2_ n3_;clear hb hbox hg)|(go_at_call 32;(with_reducible refine (privityref10_Fair.calls k a0 _ _ l1 6 false _ ?side1 ?side2 A4.out).mono ?_);(case side1 => repeat (first|exact (Kd.C_below HR1.out HB.out)|(with_reducible refine Kd.C_alloc ?_ _)|(with_reducible refine Kd.C_drewN ?_ _)|(with_reducible refine Kd.C_drew ?_)));(case side2 => exact HC1.out);rintro e w56 ⟨rfl,hb⟩;have n0_ := Aside0.mk (blk_below (g := gb639) (o := .cells #[.int .u64 a2_0,.int .u64 a2_1] 50 (0,0)) (by (with_reducible repeat (first|refine blk_drewN ?_ _|refine blk_drew ?_|refine blk_alloc ?_ _));exact BK639.out) hb);have n1_ := Aside0.mk (below_step (by repeat (first|(with_reducible first|exact HB.out|apply below_alloc|apply pw_below_drewN|apply below_drew1|refine below_set ?_ GE639.out)|exact HB.out)) hb);clear BK639;clear HB;have BK639 := n0_;have HB := n1_;clear n0_ n1_;(try clear hb);(try clear hb2);(try clear hk);(try clear hi))|(go_at_call 33;(with_reducible refine (privitylaw10_awake.calls k  t641 _ A54.out).mono ?_);rintro e w57 ⟨rfl,hb⟩;have n0_ := Aside0.mk (blk_below (g := gb639) (o := .cells #[.int .u64 a2_0,.int .u64 a2_1] 50 (0,0)) (by (with_reducible repeat (first|refine blk_drewN ?_ _|refine blk_drew ?_|refine blk_alloc ?_ _));exact BK639.out) hb);have n1_ := Aside0.mk (below_step (by repeat (first|(with_reducible first|exact HB.out|apply below_alloc|apply pw_below_drewN|apply below_drew1|refine below_set ?_ GE639.out)|exact HB.out)) hb);clear BK639;clear HB;have BK639 := n0_;have HB := n1_;clear n0_ n1_;(try clear hb);(try clear hb2);(try clear hk);(try clear hi))))
  go_ret
  exact ⟨by first|rfl|(simp [errW_none,errW_some] <;> rfl)|(simp [*,errW_none,errW_some] <;> rfl),by repeat (first|(with_reducible first|exact HB.out|apply below_alloc|apply pw_below_drewN|apply below_drew1|refine below_set ?_ GE639.out)|exact HB.out)⟩
end Go.Proofs.Ytejeelpnmdfibaa.Pr
end
section
/- Printed by a program of this seat (the kit's printer, with the functions that were proved by hand given to it). What stands here: the functions that the statements reach, as plain functions, and that the Go code computes them. -/
namespace Go.Proofs.Ytejeelpnmdfibaa.Pr
open Go.RowKit Go.Proofs.YtejeelpnmdfibaaW.PrintWords Go.Proofs.YtejeelpnmdfibaaW.PrintLast Go.Proofs.YtejeelpnmdfibaaW.PrintMore
attribute [local go_sem] max2_int min2_int max_two min_two max_three min_three max_four min_four   -- for this text's walks alone
set_option linter.unusedVariables false
set_option linter.unusedSimpArgs false

open Go.Proofs.Ytejeelpnmdfibaa.Hw
/-! ### privityref12_In: function 47 -/
/-! ### privityref12_ExtendCoalition: function 21 -/
/-! ### privityref01_Sub: function 22 -/
end Go.Proofs.Ytejeelpnmdfibaa.Pr
end
section
/-
  The reference of layer 1: what its printed functions answer.
-/
namespace Go.Proofs.Ytejeelpnmdfibaa.E
open Go.RowKit Go.Proofs.Ytejeelpnmdfibaa.Pr Go.Proofs.Ytejeelpnmdfibaa.Hw Go.Proofs.YtejeelpnmdfibaaW.PrintWords Go.Proofs.YtejeelpnmdfibaaW.PrintLast Go.Proofs.YtejeelpnmdfibaaW.PrintMore
set_option linter.unusedVariables false
set_option linter.unusedSimpArgs false

theorem wcap {n : Int} (h : 0 ≤ n) (h2 : n < 9223372036854775808) : wrap64 n = n := by unfold wrap64; omega
theorem wnat {n : Nat} (h : n < 1099511627776) : wrap64 ((n : Int) + 1) = ((n + 1 : Nat) : Int) := by rw [wcap (by omega) (by omega)]; omega
/-- From the end back to the start. -/
theorem up {Q : Nat → Prop} {n : Nat} (hn : Q n) (hs : ∀ i, i < n → Q (i + 1) → Q i) : Q 0 := by
  have : ∀ d, d ≤ n → Q (n - d) := by
    intro d
    induction d with
    | zero => intro _; exact hn
    | succ d ih =>
      intro h
      have h1 := ih (by omega)
      refine hs (n - (d + 1)) (by omega) ?_
      rwa [show n - (d + 1) + 1 = n - d from by omega]
  have := this n (Nat.le_refl _)
  rwa [Nat.sub_self] at this
theorem exponent_eq (p : Int) : privityref01_Exponent.f 10 p = if p = 31 then some 5 else if p = 127 then some 7 else if p = 8191 then some 13 else if p = 131071 then some 17 else if p = 524287 then some 19 else if p = 2147483647 then some 31 else if p = 2305843009213693951 then some 61 else some 0 := by kernel_rfl
theorem supported_ev (p : Int) : Ev (fun k => privityref01_Supported.f k p) (supB p) := by
  refine Ev.of (fun k => privityref01_Supported.mono _ _) (k := 10) ?_
  show (privityref01_Exponent.f 10 p).bind _ = _
  rw [exponent_eq]
  unfold supB
  by_cases h1 : p = 31
  · subst h1; rfl
  by_cases h2 : p = 127
  · subst h2; rfl
  by_cases h3 : p = 8191
  · subst h3; rfl
  by_cases h4 : p = 131071
  · subst h4; rfl
  by_cases h5 : p = 524287
  · subst h5; rfl
  by_cases h6 : p = 2147483647
  · subst h6; rfl
  by_cases h7 : p = 2305843009213693951
  · subst h7; rfl
  rw [if_neg h1, if_neg h2, if_neg h3, if_neg h4, if_neg h5, if_neg h6, if_neg h7]
  simp [h1, h2, h3, h4, h5, h6, h7]
theorem tmod_pos {a p : Int} (h : 0 ≤ a) : Int.tmod a p = a % p := Int.tmod_eq_emod_of_nonneg h
theorem radd_eq {p : Int} (hp : Supp p) {a b : Int} (ha : Res p a) (hb : Res p b) : privityref01_Add.f p a b = some ((a + b) % p) := by
  have := hp.bd
  obtain ⟨a0, a1⟩ := ha
  obtain ⟨b0, b1⟩ := hb
  unfold privityref01_Add.f
  rw [if_neg (by omega), wrapU_id (by omega) (by omega), tmod_pos (by omega)]
theorem rmul_l0 {p : Int} (hp : Supp p) : ∀ (n : Nat) (a out : Int), n < 18446744073709551616 → Res p a → Res p out → Ev (fun k => privityref01_Mul.l0 k p a n out) ((out + a * n) % p) := by
  intro n
  induction n using Nat.strongRecOn with
  | _ n ih =>
    intro a out hn ha ho
    have hb := hp.bd
    obtain ⟨a0, a1⟩ := ha
    obtain ⟨o0, o1⟩ := ho
    by_cases h0 : n = 0
    · subst h0
      refine Ev.of (fun k => (privityref01_Mul.mono_l k) _ _ _ _) (k := 1) ?_
      simp only [privityref01_Mul.l0]
      rw [if_neg (by omega), Int.natCast_zero, Int.mul_zero, Int.add_zero, Int.emod_eq_of_lt o0 o1]
    · have e1 : Int.tmod (n : Int) 2 = n % 2 := tmod_pos (by omega)
      have e2 : IntKind.u64.wrap (Int.tdiv (n : Int) 2) = ((n / 2 : Nat) : Int) := by
        rw [Int.tdiv_eq_ediv_of_nonneg (by omega), wrapU_id (by omega) (by omega)]; omega
      have e3 : IntKind.u64.wrap (a + a) = a + a := wrapU_id (by omega) (by omega)
      have e4 : IntKind.u64.wrap (out + a) = out + a := wrapU_id (by omega) (by omega)
      have hN : (n : Int) = 2 * ((n / 2 : Nat) : Int) + n % 2 := by omega
      by_cases hodd : n % 2 = 1
      · have h := ih (n / 2) (by omega) ((a + a) % p) ((out + a) % p) (by omega) (Res.mod hp _) (Res.mod hp _)
        refine Ev.step (fun k => ?_) (f := fun k => privityref01_Mul.l0 k p ((a + a) % p) ((n / 2 : Nat) : Int) ((out + a) % p)) ?_
        · simp only [privityref01_Mul.l0]
          rw [if_pos (by omega), if_pos (by omega), if_neg (by omega), e2, e3, e4, tmod_pos (by omega), tmod_pos (by omega)]
        · rw [show (out + a * n) % p = ((out + a) % p + (a + a) % p * ((n / 2 : Nat) : Int)) % p from ?_]
          · exact h
          · rw [addm (modm p (out + a)) (mulm (modm p (a + a)) rfl)]
            congr 1
            have : (n : Int) = 2 * ((n / 2 : Nat) : Int) + 1 := by omega
            generalize ((n / 2 : Nat) : Int) = m at *
            rw [this]; grind
      · have h := ih (n / 2) (by omega) ((a + a) % p) out (by omega) (Res.mod hp _) ⟨o0, o1⟩
        refine Ev.step (fun k => ?_) (f := fun k => privityref01_Mul.l0 k p ((a + a) % p) ((n / 2 : Nat) : Int) out) ?_
        · simp only [privityref01_Mul.l0]
          rw [if_pos (by omega), if_neg (by omega), if_neg (by omega), e2, e3, tmod_pos (by omega)]
        · rw [show (out + a * n) % p = (out + (a + a) % p * ((n / 2 : Nat) : Int)) % p from ?_]
          · exact h
          · rw [addm (a := out) rfl (mulm (modm p (a + a)) rfl)]
            congr 1
            have : (n : Int) = 2 * ((n / 2 : Nat) : Int) := by omega
            generalize ((n / 2 : Nat) : Int) = m at *
            rw [this]; grind
theorem rmul_ev {p : Int} (hp : Supp p) {a b : Int} (ha : Res p a) (hb : Res p b) : Ev (fun k => privityref01_Mul.f k p a b) (a * b % p) := by
  have h := hp.bd
  have := rmul_l0 hp b.toNat a 0 (by have := hb.1; have := hb.2; omega) ha ⟨by omega, by omega⟩
  rw [Int.toNat_of_nonneg hb.1, Int.zero_add] at this
  exact this
end Go.Proofs.Ytejeelpnmdfibaa.E
end
section
/-
  Guards, sums, and the hand-proved functions' answers, for the statements.
-/
namespace Go.Proofs.Ytejeelpnmdfibaa.E
open Go.RowKit Go.Proofs.Ytejeelpnmdfibaa.Pr Go.Proofs.Ytejeelpnmdfibaa.Hw Go.Proofs.Ytejeelpnmdfibaa.Pl Go.Proofs.YtejeelpnmdfibaaW.PrintWords Go.Proofs.YtejeelpnmdfibaaW.PrintLast Go.Proofs.YtejeelpnmdfibaaW.PrintMore
set_option linter.unusedVariables false
set_option linter.unusedSimpArgs false

theorem wf64 {x : Int} (h : (Lit.int .u64 x).wf = true) : 0 ≤ x ∧ x < 18446744073709551616 := by
  have h1 : IntKind.u64.min ≤ x ∧ x ≤ IntKind.u64.max := by simpa [Lit.wf] using h
  have e1 : IntKind.u64.min = 0 := by decide
  have e2 : IntKind.u64.max = 18446744073709551615 := by decide
  omega
/-- A check, and both ways on. -/
theorem ev_if {α : Type} {A : Nat → Option Bool} {b : Bool} (hA : Ev A b) {X Y : Nat → Option α} {r : α} (hx : b = true → Ev X r) (hy : b = false → Ev Y r) : Ev (fun k => (A k).bind fun t => if t = true then X k else Y k) r := by
  refine Ev.bind (f := fun k t => if t = true then X k else Y k) hA ?_
  cases b with
  | true => exact (hx rfl).congr fun k => if_pos rfl
  | false => exact (hy rfl).congr fun k => if_neg (by simp)
theorem ev_ite {α : Type} {c : Prop} [Decidable c] {X Y : Nat → Option α} {r : α} (hx : c → Ev X r) (hy : ¬ c → Ev Y r) : Ev (fun k => if c then X k else Y k) r := by
  by_cases h : c
  · exact (hx h).congr fun k => if_pos h
  · exact (hy h).congr fun k => if_neg h
/-- A check whose negation is handed on. -/
theorem ev_now_bind {α β : Type} {x : Option α} {a : α} (hx : x = some a) {f : Nat → α → Option β} {r : β} (h : Ev (fun k => f k a) r) : Ev (fun k => x.bind (f k)) r := by subst hx; exact h
end Go.Proofs.Ytejeelpnmdfibaa.E
end
section
/- Printed by a program of this seat (the kit's printer, with the functions that were proved by hand given to it). What stands here: the functions that the statements reach, as plain functions, and that the Go code computes them. -/
namespace Go.Proofs.Ytejeelpnmdfibaa.Pr
open Go.RowKit Go.Proofs.YtejeelpnmdfibaaW.PrintWords Go.Proofs.YtejeelpnmdfibaaW.PrintLast Go.Proofs.YtejeelpnmdfibaaW.PrintMore
attribute [local go_sem] max2_int min2_int max_two min_two max_three min_three max_four min_four   -- for this text's walks alone
set_option linter.unusedVariables false
set_option linter.unusedSimpArgs false

open Go.Proofs.Ytejeelpnmdfibaa.Hw
/-! ### privityref10_IsSymmetric: function 38 -/
/-! ### privitylaw10_BivariateRowsAgree: function 11 -/
end Go.Proofs.Ytejeelpnmdfibaa.Pr
end
section
/-
  Chapter 10: what the printed functions on matrices answer.
-/
namespace Go.Proofs.Ytejeelpnmdfibaa.E
open Go.RowKit Go.Proofs.Ytejeelpnmdfibaa.Pr Go.Proofs.Ytejeelpnmdfibaa.Hw Go.Proofs.Ytejeelpnmdfibaa.Pl Go.Proofs.YtejeelpnmdfibaaW.PrintWords Go.Proofs.YtejeelpnmdfibaaW.PrintLast Go.Proofs.YtejeelpnmdfibaaW.PrintMore
set_option linter.unusedVariables false
set_option linter.unusedSimpArgs false

theorem rdM_nat (l : List (List Int)) (i : Nat) : rd_L4 l (i : Int) = l.getD i [] := by unfold rd_L4; rw [Int.toNat_natCast]
theorem rd_at2 (s : List (List Int)) (i j : Nat) : rd (rd_L4 s (i : Int)) (j : Int) = at2 s i j := by rw [rdM_nat]; exact rd_nat _ j
/-- A loop that answers false at the first i that Q does not hold of, and goes on with e behind it. -/
theorem allL {F : Nat → Int → Option Bool} {n : Nat} {Q : Nat → Prop} [DecidablePred Q] {e : Bool} (hend : Ev (fun k => F k (n : Int)) e) (hyes : ∀ i, i < n → Q i → ∀ r, Ev (fun k => F k ((i + 1 : Nat) : Int)) r → Ev (fun k => F k (i : Int)) r)
    (hno : ∀ i, i < n → ¬ Q i → Ev (fun k => F k (i : Int)) false) (r : Bool) (hr : r = true ↔ ((∀ i, i < n → Q i) ∧ e = true)) : Ev (fun k => F k ((0 : Nat) : Int)) r := by
  by_cases hall : ∀ i, i < n → Q i
  · have : r = e := by
      cases e with
      | true => exact hr.2 ⟨hall, rfl⟩
      | false => exact Bool.eq_false_iff.mpr fun h => by have := (hr.1 h).2; cases this
    rw [this]
    exact up (Q := fun i => Ev (fun k => F k (i : Int)) e) (n := n) hend fun i hi h => hyes i hi (hall i hi) e h
  · have hf : r = false := Bool.eq_false_iff.mpr fun h => hall (hr.1 h).1
    rw [hf]
    obtain ⟨i, hi, hq⟩ : ∃ i, i < n ∧ ¬ Q i := Classical.byContradiction fun h => hall fun i hi => Classical.byContradiction fun hq => h ⟨i, hi, hq⟩
    refine up (Q := fun i => Ev (fun k => F k (i : Int)) false) (n := i) (hno i hi hq) fun j hj h => ?_
    by_cases hqj : Q j
    · exact hyes j (by omega) hqj false h
    · exact hno j (by omega) hqj
theorem samel_ev (a b : List Int) (ha : a.length ≤ 1000000000) : Ev (fun k => privityref06_SameList.f k a b) (decide (a = b)) := by
  by_cases hl : a.length = b.length
  · have h := allL (F := fun k i => privityref06_SameList.l0 k a b i) (n := a.length) (Q := fun i => a.getD i 0 = b.getD i 0) (e := true) ?_ (fun i hi hq r h => ?_) (fun i hi hq => ?_) (decide (a = b)) ?_
    · refine h.congr fun k => ?_
      unfold privityref06_SameList.f
      rw [if_pos (by omega)]; rfl
    · refine Ev.step (fun k => ?_) (Ev.now _)
      simp only [privityref06_SameList.l0]
      rw [if_neg (by omega)]
    · refine Ev.step (fun k => ?_) h
      simp only [privityref06_SameList.l0]
      rw [if_pos (by omega), if_pos (by omega), if_pos (by omega), rd_nat, rd_nat, if_pos hq, wnat (by omega)]
    · refine Ev.step (fun k => ?_) (Ev.now _)
      simp only [privityref06_SameList.l0]
      rw [if_pos (by omega), if_pos (by omega), if_pos (by omega), rd_nat, rd_nat, if_neg hq]
    · rw [decide_eq_true_iff]
      refine ⟨fun e => ⟨fun i _ => by rw [e], rfl⟩, fun h => list_ext_getD hl fun i => ?_⟩
      by_cases hi : i < a.length
      · exact h.1 i hi
      · rw [getD_out a i (by omega), getD_out b i (by omega)]
  · have : decide (a = b) = false := decide_eq_false fun e => hl (by rw [e])
    rw [this]
    refine Ev.congr (fun k => ?_) (Ev.now _)
    unfold privityref06_SameList.f
    rw [if_neg (by omega)]
theorem getD_mem {a : List (List Int)} {i : Nat} (hi : i < a.length) : a.getD i [] ∈ a := by
  rw [List.getD_eq_getElem?_getD, List.getElem?_eq_getElem hi]; exact List.getElem_mem hi
/-- At most m words, all below p. -/
def belB (p : Int) (l : List Int) (m : Nat) : Bool := decide (l.length ≤ m) && l.all fun x => decide (x < p)
theorem bel_ev (p : Int) (l : List Int) (m : Nat) (hm : m ≤ 1000) : Ev (fun k => privityref06_Below.f k p l (m : Int)) (belB p l m) := by
  have hend : ∀ i : Nat, Ev (fun k => privityref06_Below.j1 k p l (m : Int) (i : Int) false) (decide (l.length ≤ m)) := fun i => by
    refine Ev.step (fun k => ?_) (Ev.now _)
    simp only [privityref06_Below.j1]
    rw [if_neg (by simp)]
    exact congrArg some (decide_eq_decide.2 (by omega))
  have hin : ∀ i : Nat, i < l.length → i ≤ m → ∀ k, privityref06_Below.l0 (k + 1) p l (m : Int) (i : Int) = privityref06_Below.j1 k p l (m : Int) (i : Int) true := fun i h1 h2 k => by
    simp only [privityref06_Below.l0]
    rw [if_pos (by omega), decide_eq_true (by omega)]
  have hj : ∀ i : Nat, i < l.length → i ≤ m → ∀ k, privityref06_Below.j1 (k + 1) p l (m : Int) (i : Int) true = if l.getD i 0 ≥ p then some false else privityref06_Below.l0 k p l (m : Int) ((i + 1 : Nat) : Int) := fun i h1 h2 k => by
    simp only [privityref06_Below.j1]
    rw [if_pos trivial, if_pos (by omega), if_pos (by omega), rd_nat, wnat (by omega)]
  have h := allL (F := fun k i => privityref06_Below.l0 k p l (m : Int) i) (n := min l.length (m + 1)) (Q := fun i => l.getD i 0 < p) (e := decide (l.length ≤ m)) ?_ (fun i hi hq r h => ?_) (fun i hi hq => ?_) (belB p l m) ?_
  · exact h.congr fun k => rfl
  · by_cases hlm : l.length ≤ m
    · rw [show min l.length (m + 1) = l.length from by omega]
      refine Ev.step (f := fun k => privityref06_Below.j1 k p l (m : Int) (l.length : Int) false) (fun k => ?_) (hend _)
      simp only [privityref06_Below.l0]
      rw [if_neg (by omega)]
    · rw [show min l.length (m + 1) = m + 1 from by omega]
      refine Ev.step (f := fun k => privityref06_Below.j1 k p l (m : Int) ((m + 1 : Nat) : Int) false) (fun k => ?_) (hend _)
      simp only [privityref06_Below.l0]
      by_cases h2 : ((m + 1 : Nat) : Int) < (l.length : Int)
      · rw [if_pos h2, decide_eq_false (by omega)]
      · rw [if_neg h2]
  · exact Ev.step (hin i (by omega) (by omega)) (Ev.step (hj i (by omega) (by omega)) (h.congr fun k => if_neg (by omega)))
  · exact Ev.step (hin i (by omega) (by omega)) (Ev.step (hj i (by omega) (by omega)) ((Ev.now false).congr fun k => if_pos (by omega)))
  · unfold belB
    rw [Bool.and_eq_true, decide_eq_true_iff, List.all_eq_true]
    constructor
    · rintro ⟨h1, h2⟩
      refine ⟨fun i hi => ?_, h1⟩
      rw [Hw.getD_in _ _ (show i < l.length by omega)]
      exact of_decide_eq_true (h2 _ (List.getElem_mem _))
    · rintro ⟨h1, h2⟩
      refine ⟨h2, fun x hx => ?_⟩
      obtain ⟨i, hi, rfl⟩ := List.getElem_of_mem hx
      have := h1 i (by omega)
      rw [Hw.getD_in _ _ hi] at this
      exact decide_eq_true this
theorem bel_res {p : Int} {l : List Int} {m : Nat} (h : belB p l m = true) (hw : ∀ x ∈ l, 0 ≤ x) : l.length ≤ m ∧ ∀ x ∈ l, Res p x := by
  unfold belB at h
  rw [Bool.and_eq_true, decide_eq_true_iff, List.all_eq_true] at h
  exact ⟨h.1, fun x hx => ⟨hw x hx, of_decide_eq_true (h.2 x hx)⟩⟩
def fairB (p : Int) (s : List (List Int)) (m : Nat) : Bool := supB p && (decide (s.length ≤ m) && s.all fun r => belB p r m)
theorem fair_ev (p : Int) (s : List (List Int)) (m : Nat) (hm0 : m ≤ 1000) : Ev (fun k => privityref06_Fair.f k p s (m : Int)) (fairB p s m) := by
  have hno : Ev (fun k => privityref06_Fair.j0 k p s (m : Int) true) false := Ev.step (f := fun _ => some false) (fun k => by simp only [privityref06_Fair.j0]; rw [if_pos trivial]) (Ev.now _)
  unfold fairB
  refine ev_if (supported_ev p) (fun hs => ?_) (fun hs => by rw [hs]; exact hno)
  rw [hs, Bool.true_and]
  by_cases hm : s.length ≤ m
  · rw [decide_eq_true hm, Bool.true_and, decide_eq_false (by omega)]
    have hst : ∀ i, i < s.length → ∀ k, privityref06_Fair.l0 (k + 1) p s (m : Int) (i : Int) = (privityref06_Below.f k p (s.getD i []) (m : Int)).bind fun t => (if t = true then (privityref06_Fair.l0 k p s (m : Int) ((i + 1 : Nat) : Int)) else (some false)) := fun i hi k => by
      simp only [privityref06_Fair.l0]
      rw [if_pos (by omega), if_pos (by omega), rdM_nat, wnat (by omega)]
    have hb := fun i (hi : i < s.length) => bel_ev p (s.getD i []) m hm0
    have h := allL (F := fun k i => privityref06_Fair.l0 k p s (m : Int) i) (n := s.length) (Q := fun i => belB p (s.getD i []) m = true) (e := true) ?_ (fun i hi hq r h => ?_) (fun i hi hq => ?_) (s.all fun r => belB p r m) ?_
    · refine Ev.step (fun k => ?_) h
      simp only [privityref06_Fair.j0]
      rw [if_neg (by simp)]; rfl
    · refine Ev.step (fun k => ?_) (Ev.now _)
      simp only [privityref06_Fair.l0]
      rw [if_neg (by omega)]
    · have h1 := hb i hi
      rw [hq] at h1
      exact Ev.step (hst i hi) (ev_if h1 (fun _ => h) fun e => by cases e)
    · have h1 := hb i hi
      rw [Bool.eq_false_iff.mpr hq] at h1
      exact Ev.step (hst i hi) (ev_if h1 (fun e => by cases e) fun _ => Ev.now _)
    · rw [List.all_eq_true]
      refine ⟨fun h => ⟨fun i hi => h _ (getD_mem hi), rfl⟩, fun h x hx => ?_⟩
      obtain ⟨i, hi, rfl⟩ := List.getElem_of_mem hx
      have := h.1 i hi
      rwa [List.getD_eq_getElem?_getD, List.getElem?_eq_getElem hi] at this
  · rw [decide_eq_false hm, Bool.false_and, decide_eq_true (by omega)]
    exact hno
theorem fair_res {p : Int} {s : List (List Int)} {m : Nat} (h : fairB p s m = true) (hw : ∀ r ∈ s, ∀ x ∈ r, 0 ≤ x) : Supp p ∧ s.length ≤ m ∧ (∀ r ∈ s, r.length ≤ m) ∧ ResM p s := by
  unfold fairB at h
  rw [Bool.and_eq_true, Bool.and_eq_true, decide_eq_true_iff, List.all_eq_true] at h
  exact ⟨supB_of h.1, h.2.1, fun r hr => (bel_res (h.2.2 r hr) (hw r hr)).1, fun r hr => (bel_res (h.2.2 r hr) (hw r hr)).2⟩
def sqB (s : List (List Int)) : Bool := (s.all fun r => decide (r.length = s.length)) && decide (0 < s.length)
theorem sqB_iff {s : List (List Int)} : sqB s = true ↔ (Sq s.length s ∧ 0 < s.length) := by
  unfold sqB
  rw [Bool.and_eq_true, decide_eq_true_iff, List.all_eq_true]
  exact ⟨fun h => ⟨⟨rfl, fun r hr => of_decide_eq_true (h.1 r hr)⟩, h.2⟩, fun h => ⟨fun r hr => decide_eq_true (h.1.row r hr), h.2⟩⟩
theorem sq_iff {s : List (List Int)} : (∀ i, i < s.length → (s.getD i []).length = s.length) ↔ Sq s.length s := by
  refine ⟨fun h => ⟨rfl, fun r hr => ?_⟩, fun h i hi => h.getD i hi⟩
  obtain ⟨i, hi, rfl⟩ := List.getElem_of_mem hr
  have := h i hi
  rwa [List.getD_eq_getElem?_getD, List.getElem?_eq_getElem hi] at this
theorem square_ev (s : List (List Int)) (hl : s.length ≤ 1000000000) : Ev (fun k => privityref10_Square.f k s) (sqB s) := by
  have h := allL (F := fun k i => privityref10_Square.l0 k s i) (n := s.length) (Q := fun i => (s.getD i []).length = s.length) (e := decide (0 < s.length)) ?_ (fun i hi hq r h => ?_) (fun i hi hq => ?_) (sqB s) ?_
  · exact h.congr fun k => rfl
  · refine Ev.step (fun k => ?_) (Ev.now _)
    simp only [privityref10_Square.l0]
    rw [if_neg (by omega)]
    exact congrArg some (decide_eq_decide.2 (by omega))
  · refine Ev.step (fun k => ?_) h
    simp only [privityref10_Square.l0]
    rw [if_pos (by omega), if_pos (by omega), rdM_nat, if_pos (by omega), wnat (by omega)]
  · refine Ev.step (fun k => ?_) (Ev.now _)
    simp only [privityref10_Square.l0]
    rw [if_pos (by omega), if_pos (by omega), rdM_nat, if_neg (by omega)]
  · rw [sqB_iff, sq_iff, decide_eq_true_iff]
/-- Square, not empty, symmetric. -/
def SymP (s : List (List Int)) (i : Nat) : Prop := ∀ a, i ≤ a → a < s.length → ∀ b, b < a → at2 s a b = at2 s b a
theorem SymP.next {s : List (List Int)} {i : Nat} (hi : i < s.length) : SymP s i ↔ ((∀ j, j < i → at2 s i j = at2 s j i) ∧ SymP s (i + 1)) := by
  constructor
  · exact fun h => ⟨fun j hj => h i (Nat.le_refl _) hi j hj, fun a h1 h2 b hb => h a (by omega) h2 b hb⟩
  · rintro ⟨h1, h2⟩ a ha hl b hb
    by_cases e : a = i
    · subst e; exact h1 b hb
    · exact h2 a (by omega) hl b hb
theorem SymP.last (s : List (List Int)) : SymP s s.length := fun a h1 h2 => by omega
end Go.Proofs.Ytejeelpnmdfibaa.E
end
section
/-
  Chapter 10: rows, values, translations, vanishing polynomials.
-/
namespace Go.Proofs.Ytejeelpnmdfibaa.E
open Go.RowKit Go.Proofs.Ytejeelpnmdfibaa.Pr Go.Proofs.Ytejeelpnmdfibaa.Hw Go.Proofs.Ytejeelpnmdfibaa.Pl Go.Proofs.YtejeelpnmdfibaaW.PrintWords Go.Proofs.YtejeelpnmdfibaaW.PrintLast Go.Proofs.YtejeelpnmdfibaaW.PrintMore
set_option linter.unusedVariables false
set_option linter.unusedSimpArgs false

theorem evI_tab_next {p : Int} (hp : Supp p) [NeZero p.toNat] (x pw : Int) (h : Nat → Int) (i : Nat) (hpw : T p pw = mono (T p x) i) : (evI p x (tabL i h) + h i * pw % p) % p = evI p x (tabL (i + 1) h) := by
  refine T_inj hp (Res.mod hp _) (evI_res hp _ _) ?_
  rw [T_mod hp, T_add, T_mod hp, T_mul, T_tab hp, T_tab hp, hpw]
  rfl
theorem tabL_set (n : Nat) (h : Nat → Int) (j : Nat) (v : Int) : (tabL n h).set j v = tabL n fun i => if i = j then v else h i := by
  refine list_ext_getD (by rw [List.length_set, tabL_length, tabL_length]) fun i => ?_
  rw [tabL_getD, List.getD_eq_getElem?_getD]
  by_cases hi : i < n
  · rw [if_pos hi]
    by_cases e : i = j
    · subst e
      rw [List.getElem?_set_self (by rw [tabL_length]; exact hi), if_pos rfl]; rfl
    · rw [List.getElem?_set_ne (Ne.symm e), if_neg e, ← List.getD_eq_getElem?_getD, tabL_getD, if_pos hi]
  · rw [if_neg hi, List.getElem?_eq_none (by rw [List.length_set, tabL_length]; omega)]; rfl
def rowAcc (p : Int) (n : Nat) (g : Nat → Nat → Int) (x : Int) (i j : Nat) : List Int := tabL n fun b => if b < j then evI p x (tabL (i + 1) fun a => g a b) else evI p x (tabL i fun a => g a b)
theorem rowAcc_length (p : Int) (n : Nat) (g : Nat → Nat → Int) (x : Int) (i j : Nat) : (rowAcc p n g x i j).length = n := tabL_length _ _
theorem rowAcc_next {p : Int} (n : Nat) (g : Nat → Nat → Int) (x : Int) (i j : Nat) (hj : j < n) : (rowAcc p n g x i j).set j (evI p x (tabL (i + 1) fun a => g a j)) = rowAcc p n g x i (j + 1) := by
  unfold rowAcc
  rw [tabL_set]
  refine tabL_congr fun b hb => ?_
  by_cases e : b = j
  · subst e; rw [if_pos rfl, if_pos (by omega)]
  · rw [if_neg e]
    by_cases h : b < j
    · rw [if_pos h, if_pos (by omega)]
    · rw [if_neg h, if_neg (by omega)]
theorem rowAcc_row (p : Int) (n : Nat) (g : Nat → Nat → Int) (x : Int) (i : Nat) : rowAcc p n g x i n = rowAcc p n g x (i + 1) 0 := tabL_congr fun b hb => by rw [if_pos hb, if_neg (by omega)]
theorem brow_ev {p : Int} (hp : Supp p) {n : Nat} {s : List (List Int)} (hq : Sq n s) (hr : ResM p s) (hn : n ≤ 1000) {x : Int} (hx : Res p x) : Ev (fun k => bivariate_Row.f k p s x) (rowX p n (at2 s) x) := by
  haveI := nz hp
  have hb := hp.bd
  have hl := hq.len
  have main : Ev (fun k => bivariate_Row.l0 k p x (rowAcc p n (at2 s) x 0 0) 1 s (s.length : Int) ((0 : Nat) : Int)) (rowX p n (at2 s) x) := by
    refine up (Q := fun i => ∀ pw, Res p pw → T p pw = mono (T p x) i → Ev (fun k => bivariate_Row.l0 k p x (rowAcc p n (at2 s) x i 0) pw s (s.length : Int) (i : Int)) (rowX p n (at2 s) x)) (n := n) ?_ (fun i hi h => ?_) 1 ⟨by omega, by omega⟩ T_one
    · intro pw _ _
      have e : rowAcc p n (at2 s) x n 0 = rowX p n (at2 s) x := tabL_congr fun b hb => by rw [if_neg (by omega)]
      refine Ev.step (f := fun _ => some (rowX p n (at2 s) x)) (fun k => ?_) (Ev.now _)
      simp only [bivariate_Row.l0]
      rw [if_neg (by omega), e]
    · intro pw hpw hT
      have hri := hq.getD i hi
      have hrl : (rd_L4 s (i : Int)).length = n := by rw [rdM_nat]; exact hri
      have hin : Ev (fun k => bivariate_Row.l1 k p x (rowAcc p n (at2 s) x i 0) pw s (s.length : Int) (i : Int) (rd_L4 s (i : Int)) ((rd_L4 s (i : Int)).length : Int) ((0 : Nat) : Int)) (rowX p n (at2 s) x) := by
        refine up (Q := fun j => Ev (fun k => bivariate_Row.l1 k p x (rowAcc p n (at2 s) x i j) pw s (s.length : Int) (i : Int) (rd_L4 s (i : Int)) ((rd_L4 s (i : Int)).length : Int) (j : Int)) (rowX p n (at2 s) x)) (n := n) ?_ (fun j hj h2 => ?_)
        · rw [rowAcc_row]
          refine Ev.step (f := fun k => (field_Mul.f k p pw x).bind fun t => bivariate_Row.l0 k p x (rowAcc p n (at2 s) x (i + 1) 0) t s (s.length : Int) ((i + 1 : Nat) : Int)) (fun k => ?_) (Ev.bind (mul_ev hp hpw hx) (h _ (Res.mod hp _) ?_))
          · simp only [bivariate_Row.l1]
            rw [if_neg (by omega), wnat (by omega)]
          · rw [T_mod hp, T_mul, hT]
            show _ = T p x * mono (T p x) i
            grind
        · have hal := rowAcc_length p n (at2 s) x i j
          have hacc : rd (rowAcc p n (at2 s) x i j) (j : Int) = evI p x (tabL i fun a => at2 s a j) := by
            rw [rd_nat]
            unfold rowAcc
            rw [tabL_getD, if_pos hj, if_neg (by omega)]
          rw [← rowAcc_next n (at2 s) x i j hj, ← evI_tab_next hp x pw (fun a => at2 s a j) i hT] at h2
          refine Ev.step (f := fun k => (field_Mul.f k p (at2 s i j) pw).bind fun t => ((field_Add.f k p (evI p x (tabL i fun a => at2 s a j)) t).bind fun t2 => bivariate_Row.l1 k p x ((rowAcc p n (at2 s) x i j).set j t2) pw s (s.length : Int) (i : Int) (rd_L4 s (i : Int)) ((rd_L4 s (i : Int)).length : Int) ((j + 1 : Nat) : Int))) (fun k => ?_) (Ev.bind (mul_ev hp (hr.at2 hp i j) hpw) (Ev.bind (add_ev hp (evI_res hp _ _) (Res.mod hp _)) h2))
          simp only [bivariate_Row.l1]
          rw [if_pos (by omega), if_pos (by omega), if_pos (by omega), if_pos (by omega), rd_at2, hacc, wnat (by omega), Int.toNat_natCast]
      refine Ev.step (fun k => ?_) hin
      simp only [bivariate_Row.l0]
      rw [if_pos (by omega), if_pos (by omega), if_pos (by omega)]; rfl
  have e0 : List.replicate s.length (0 : Int) = rowAcc p n (at2 s) x 0 0 := by
    refine list_ext_getD (by rw [List.length_replicate, rowAcc_length, hl]) fun i => ?_
    unfold rowAcc
    rw [tabL_getD, List.getD_eq_getElem?_getD, List.getElem?_replicate, hl]
    by_cases hi : i < n
    · rw [if_pos hi, if_pos hi, if_neg (by omega)]; rfl
    · rw [if_neg hi, if_neg hi]; rfl
  refine main.congr fun k => ?_
  unfold bivariate_Row.f
  rw [if_pos (by omega), Int.toNat_natCast, if_pos (by omega), e0]; rfl
theorem beval_ev {p : Int} (hp : Supp p) {n : Nat} {s : List (List Int)} (hq : Sq n s) (hr : ResM p s) (hn : n ≤ 1000) {x y : Int} (hx : Res p x) (hy : Res p y) : Ev (fun k => bivariate_Eval.f k p s x y) (evI p y (rowX p n (at2 s) x)) := by
  refine Ev.congr (fun k => ?_) (Ev.bind (f := fun k t => (poly_Eval.f k p t y).bind fun r => some r) (brow_ev hp hq hr hn hx) (Ev.bind (eval_ev hp hy _ (rowX_res hp n (at2 s) x) (by rw [rowX_length]; omega)) (Ev.now _)))
  unfold bivariate_Eval.f; rfl
def fairS (p : Int) (s : List (List Int)) (m : Nat) : Bool := fairB p s m && sqB s
theorem fairS_ev (p : Int) (s : List (List Int)) (m : Nat) (hm0 : m ≤ 1000) : Ev (fun k => privityref10_Fair.f k p s (m : Int)) (fairS p s m) := by
  unfold fairS
  refine ev_if (fair_ev p s m hm0) (fun hf => ?_) (fun hf => by rw [hf]; exact Ev.now _)
  rw [hf, Bool.true_and]
  refine Ev.congr (fun k => ?_) (square_ev s ?_)
  · cases privityref10_Square.f k s <;> rfl
  · unfold fairB at hf
    rw [Bool.and_eq_true, Bool.and_eq_true, decide_eq_true_iff] at hf
    omega
structure Fs (p : Int) (s : List (List Int)) : Prop where
  hp : Supp p
  n0 : 0 < s.length
  n6 : s.length ≤ 6
  sq : Sq s.length s
  res : ResM p s
theorem fairS_fs {p : Int} {s : List (List Int)} (h : fairS p s 6 = true) (hw : ∀ r ∈ s, ∀ x ∈ r, 0 ≤ x) : Fs p s := by
  unfold fairS at h
  rw [Bool.and_eq_true] at h
  have h1 := fair_res h.1 hw
  have h2 := sqB_iff.1 h.2
  exact ⟨h1.1, h2.2, h1.2.1, h2.1, h1.2.2.2⟩
structure Vt (p : Int) (s : List (List Int)) (xs : List Int) (d x : Int) : Prop where
  fs : Fs p s
  sym : ∀ i, i < s.length → ∀ j, j < s.length → at2 s i j = at2 s j i
  xr : ∀ x ∈ xs, Res p x
  xl : xs.length + 1 = s.length
  nd : (0 :: xs).Nodup
  dr : Res p d
  rx : Res p x
end Go.Proofs.Ytejeelpnmdfibaa.E
end
section
/-
  What the statements of chapter 10 share: the first check.
-/
namespace Go.Proofs.Ytejeelpnmdfibaa.E
open Go.RowKit Go.Proofs.Ytejeelpnmdfibaa.Pr Go.Proofs.Ytejeelpnmdfibaa.Hw Go.Proofs.Ytejeelpnmdfibaa.Pl Go.Proofs.YtejeelpnmdfibaaW.PrintWords Go.Proofs.YtejeelpnmdfibaaW.PrintLast Go.Proofs.YtejeelpnmdfibaaW.PrintMore
set_option linter.unusedVariables false
set_option linter.unusedSimpArgs false

theorem awake10 : Ev (fun k => privitylaw10_awake.f k) true := Ev.of (fun k => privitylaw10_awake.mono _) (k := 60) privitylaw10_awake.is
theorem awake10' : Ev (fun k => (privitylaw10_awake.f k).bind fun t => some t) true := Ev.bind awake10 (Ev.now _)
end Go.Proofs.Ytejeelpnmdfibaa.E
end
section
/-
  The reference's value and row, plainly.
-/
namespace Go.Proofs.Ytejeelpnmdfibaa.E
open Go.RowKit Go.Proofs.Ytejeelpnmdfibaa.Pr Go.Proofs.Ytejeelpnmdfibaa.Hw Go.Proofs.Ytejeelpnmdfibaa.Pl Go.Proofs.YtejeelpnmdfibaaW.PrintWords Go.Proofs.YtejeelpnmdfibaaW.PrintLast Go.Proofs.YtejeelpnmdfibaaW.PrintMore
set_option linter.unusedVariables false
set_option linter.unusedSimpArgs false

theorem value43 {p : Int} (hp : Supp p) {l : List Int} (hl : ∀ x ∈ l, Res p x) (hll : l.length ≤ 1000000) {x : Int} (hx : Res p x) : Ev (fun k => privityref10_Value.f k p l x) (evI p x l) := by
  have hb := hp.bd
  have main : ∀ m, m ≤ l.length → Ev (fun k => privityref10_Value.l0 k p l x (evI p x (l.drop m)) ((m : Int) - 1)) (evI p x l) := by
    intro m
    induction m with
    | zero =>
      intro _
      refine Ev.step (f := fun _ => some (evI p x l)) (fun k => ?_) (Ev.now _)
      simp only [privityref10_Value.l0]
      rw [if_neg (by omega)]; rfl
    | succ m ih =>
      intro hm
      have ih := ih (by omega)
      have e : l.drop m = l.getD m 0 :: l.drop (m + 1) := by
        rw [Hw.getD_in _ _ (show m < l.length by omega)]
        exact List.drop_eq_getElem_cons (by omega)
      rw [e] at ih
      refine Ev.step (f := fun k => (privityref01_Mul.f k p (evI p x (l.drop (m + 1))) x).bind fun t => ((privityref01_Add.f p t (l.getD m 0)).bind fun t2 => privityref10_Value.l0 k p l x t2 ((m : Int) - 1))) (fun k => ?_) (Ev.bind (rmul_ev hp (evI_res hp _ _) hx) (ev_now_bind (radd_eq hp (Res.mod hp _) (res_getD hp hl m)) ih))
      have e2 : ((m + 1 : Nat) : Int) - 1 = (m : Int) := by omega
      simp only [privityref10_Value.l0]
      rw [e2, if_pos (by omega)]
      refine congrArg (Option.bind _) (funext fun t => ?_)
      rw [if_pos (by omega), if_pos (by omega), rd_nat, w64' (by omega) (by omega)]
  refine (main l.length (Nat.le_refl _)).congr fun k => ?_
  unfold privityref10_Value.f
  rw [List.drop_length, w64' (by omega) (by omega)]; rfl
theorem rdR_nat (l : List (List Int)) (i : Nat) : rd_L4 l (i : Int) = l.getD i [] := by unfold rd_L4; rw [Int.toNat_natCast]
theorem rrow_ev {p : Int} (hp : Supp p) {n : Nat} (hn : n ≤ 1000) {g : Nat → Nat → Int} (hg : ∀ i j, Res p (g i j)) {x : Int} (hx : Res p x) : Ev (fun k => privityref10_Row.f k p (matL n g) x) (rowX p n g x) := by
  have hml : (matL n g).length = n := (matL_sq n g).len
  have hrow : ∀ j : Nat, j < n → rd_L4 (matL n g) (j : Int) = tabL n (g j) := fun j hj => by rw [rdR_nat]; exact matP_getD _ _ _ _ hj
  unfold privityref10_Row.f
  have h := up (Q := fun i => Ev (fun k => privityref10_Row.l0 k p (matL n g) x (tabL i fun j => evI p x (tabL n fun a => g a j)) (i : Int)) (rowX p n g x)) (n := n) ?_ fun i hi h => ?_
  · exact h
  · refine Ev.step (fun k => ?_) (Ev.now _)
    simp only [privityref10_Row.l0]
    rw [if_neg (by omega)]; rfl
  · refine Ev.step (f := fun k => privityref10_Row.l1 k p (matL n g) x (tabL i fun j => evI p x (tabL n fun a => g a j)) (i : Int) [] 0) (fun k => by simp only [privityref10_Row.l0]; rw [if_pos (by omega)]) ?_
    have h1 := up (Q := fun j => Ev (fun k => privityref10_Row.l1 k p (matL n g) x (tabL i fun j => evI p x (tabL n fun a => g a j)) (i : Int) (tabL j fun a => g a i) (j : Int)) (rowX p n g x)) (n := n) ?_ fun j hj h1 => ?_
    · exact h1
    · rw [tabL_succ] at h
      refine Ev.step (f := fun k => (privityref10_Value.f k p (tabL n fun a => g a i) x).bind fun t => privityref10_Row.l0 k p (matL n g) x ((tabL i fun j => evI p x (tabL n fun a => g a j)) ++ [t]) ((i + 1 : Nat) : Int)) (fun k => ?_) (Ev.bind (value43 hp (tabL_res fun a _ => hg a i) (by rw [tabL_length]; omega) hx) h)
      simp only [privityref10_Row.l1]
      rw [if_neg (by omega), tabL_length]
      refine congrArg (Option.bind _) (funext fun t => ?_)
      rw [if_pos (by omega), wnat (by omega)]
    · rw [tabL_succ] at h1
      refine Ev.step (fun k => ?_) h1
      simp only [privityref10_Row.l1]
      rw [if_pos (by omega), if_pos (by omega), if_pos (by omega), hrow j hj, tabL_length, if_pos (by omega), tabL_length, if_pos (by omega), rd_nat, tabL_getD, if_pos hi, wnat (by omega)]
/-! The matrix of the words. -/
end Go.Proofs.Ytejeelpnmdfibaa.E
end
section
/-
  Row and Eval return the specified results; a value is the value of the row polynomial.
-/
namespace Go.Proofs.Ytejeelpnmdfibaa.Pure
open Go.RowKit Go.Proofs.Ytejeelpnmdfibaa.Pr Go.Proofs.Ytejeelpnmdfibaa.Hw Go.Proofs.Ytejeelpnmdfibaa.E Go.Proofs.YtejeelpnmdfibaaW.PrintWords Go.Proofs.YtejeelpnmdfibaaW.PrintLast Go.Proofs.YtejeelpnmdfibaaW.PrintMore
set_option linter.unusedVariables false
set_option linter.unusedSimpArgs false

theorem rrowS_ev {p : Int} {s : List (List Int)} (hf : Fs p s) {x : Int} (hx : Res p x) : Ev (fun k => privityref10_Row.f k p s x) (rowX p s.length (at2 s) x) := by
  have n6 := hf.n6
  have h := rrow_ev hf.hp (n := s.length) (by omega) (g := at2 s) (fun i j => hf.res.at2 hf.hp i j) hx
  rw [← hf.sq.eq] at h
  exact h
theorem BivariateRowAndEval (p : Int) (s : List (List Int)) (a b : Int) (wp : (Lit.int .u64 p).wf = true) (ws : ∀ x_ ∈ s, ∀ y_ ∈ x_, (Lit.int .u64 y_).wf = true) (wa : (Lit.int .u64 a).wf = true) (wb : (Lit.int .u64 b).wf = true) : ∃ k, privitylaw10_BivariateRowAndEval.f k p s a b = some true := by
  refine Ev.rounds (r := true) ?_
  unfold privitylaw10_BivariateRowAndEval.f
  refine ev_if (fairS_ev p s 6 (by omega)) (fun h3 => ?_) (fun _ => awake10')
  have hf := fairS_fs h3 fun r hr y hy => (wf64 (ws r hr y hy)).1
  have hp := hf.hp
  have hb := hp.bd
  have n6 := hf.n6
  rw [tmod_pos (wf64 wa).1, tmod_pos (wf64 wb).1]
  have hx : Res p (a % p) := Res.mod hp _
  have hy : Res p (b % p) := Res.mod hp _
  have e1 := brow_ev hp hf.sq hf.res (by omega) hx
  have e2 := rrowS_ev hf hx
  have e3 := samel_ev (rowX p s.length (at2 s) (a % p)) (rowX p s.length (at2 s) (a % p)) (by rw [rowX_length]; omega)
  rw [decide_eq_true rfl] at e3
  have e4 := beval_ev hp hf.sq hf.res (by omega) hx hy
  have e5 : Ev (fun k => privityref10_Eval.f k p s (a % p) (b % p)) (evI p (b % p) (rowX p s.length (at2 s) (a % p))) := by
    unfold privityref10_Eval.f
    exact Ev.bind e2 (Ev.bind (value43 hp (rowX_res hp _ _ _) (by rw [rowX_length]; omega) hy) (Ev.now _))
  have e6 := eval_ev hp hy (rowX p s.length (at2 s) (a % p)) (rowX_res hp _ _ _) (by rw [rowX_length]; omega)
  refine ev_ite (fun h0 => absurd h0 (by omega)) fun _ => ?_
  refine ev_if awake10 (fun _ => ?_) (fun h => by cases h)
  refine Ev.bind e1 (Ev.bind e2 (ev_if e3 (fun _ => ?_) (fun h => by cases h)))
  refine Ev.bind e4 (Ev.bind e5 ?_)
  refine ev_ite (fun _ => ?_) (fun h => absurd rfl h)
  refine Ev.bind e4 (Ev.bind e1 (Ev.bind e6 ?_))
  have : ∀ z : Int, (z == z) = true := fun z => beq_self_eq_true z
  simp only [this]
  exact Ev.now _
end Go.Proofs.Ytejeelpnmdfibaa.Pure
end
section
/-
  What came in, opened: numbers, bools, rows and structs of them, to any depth.
-/
namespace Go.Proofs.Ytejeelpnmdfibaa.Op
open Go.RowKit Go.Proofs.YtejeelpnmdfibaaW.PrintWords
set_option linter.unusedVariables false

/-- What is read of a type's value is a value of d, and Q holds of it. -/
def OpenK {α : Type} (P : Program) (t : TypeId) (d : Kd α) (Q : α → Prop) : Prop :=
  ∀ {H : Type} {enc : TypeId × Value → H} {w : World} {base : Nat} {sp : Nat → Bool} {hd : Bool} {fuel : Nat} {cs : List Value} {x : DataW H × List MemPlace}, DataW.trod enc P w base sp hd fuel t cs = some x → ∃ v : α, d.K w v cs ∧ Q v
theorem openInt {P : Program} {t : TypeId} {k : IntKind} (ht : P.underlying t = some (.int k)) : OpenK P t (Kd.int k) (fun n => (Lit.int k n).wf = true) := by
  intro H enc w base sp hd fuel cs x h
  obtain ⟨n, rfl, _, hw⟩ := DataW.trod_int ht h
  exact ⟨n, rfl, hw⟩
theorem exists_list {α : Type} {R : Nat → α → Prop} : ∀ (n : Nat), (∀ i, i < n → ∃ v, R i v) → ∃ l : List α, l.length = n ∧ ∀ i v, l[i]? = some v → R i v
  | 0, _ => ⟨[], rfl, fun i v h => by simp at h⟩
  | n + 1, h => by
    obtain ⟨l, hl, hr⟩ := exists_list n (fun i hi => h i (by omega))
    obtain ⟨v, hv⟩ := h n (by omega)
    refine ⟨l ++ [v], by simp [hl], fun i u hu => ?_⟩
    by_cases hi : i < n
    · rw [List.getElem?_append_left (by omega)] at hu
      exact hr i u hu
    · rw [List.getElem?_append_right (by omega)] at hu
      by_cases h0 : i - l.length = 0
      · rw [h0] at hu
        simp only [List.getElem?_cons_zero, Option.some.injEq] at hu
        rw [← hu, show i = n from by omega]; exact hv
      · rw [List.getElem?_eq_none (by simp; omega)] at hu; cases hu
theorem openSlice {α : Type} {P : Program} {t e : TypeId} {d : Kd α} {Q : α → Prop} (ht : P.underlying t = some (.slice e)) (hc : P.cellsOf e = d.sz) (he : OpenK P e d Q) : OpenK P t (Kd.slice e d) (fun l => ∀ x ∈ l, Q x) := by
  intro H enc w base sp hd fuel cs x h
  rcases DataW.trod_slice ht h with ⟨rfl, _⟩ | ⟨a, len, cap, elems, rest, n, _, rfl, _, _, hlc, hm, hlen, hel, _, _⟩
  · exact ⟨[], ⟨none, 0, rfl, Nat.le_refl _, rfl, Nat.zero_le _, fun h => absurd h (Nat.lt_irrefl 0)⟩, fun x hx => by cases hx⟩
  · have each : ∀ i, i < len → ∃ v, (∃ c, c.length = d.sz ∧ d.K w v c ∧ ∀ j u, c[j]? = some u → w.cell? (a.add (i * d.sz + j)) = some u) ∧ Q v := by
      intro i hi
      have h1 := hel i hi
      rw [List.getElem?_eq_getElem (by omega), hc] at h1
      obtain ⟨c, hcs, htr⟩ := Option.bind_eq_some_iff.1 h1
      obtain ⟨v, hk, hq⟩ := he htr
      refine ⟨v, ⟨c, d.K_len hk, hk, fun j u hu => ?_⟩, hq⟩
      have h2 := World.cells?_some hcs
      have hj := (List.getElem?_eq_some_iff.1 hu).1
      have h3 := h2.2.2 j (by rw [← d.K_len hk]; exact hj)
      rw [hu] at h3
      rw [← h3, ← Addr.add_add]
    obtain ⟨l, hl, hr⟩ := exists_list len each
    refine ⟨l, ⟨some a, cap, by rw [hl], by omega, rfl, by rw [hl]; simp only [maxLen] at hm; omega, fun _ => ⟨a, rfl, fun j p hj => (hr j p hj).1⟩⟩, fun x hx => ?_⟩
    obtain ⟨i, hi, rfl⟩ := List.getElem_of_mem hx
    exact (hr i _ (List.getElem?_eq_getElem hi)).2
/-- An array's elements. -/
theorem openElems {P : Program} {H : Type} {enc : TypeId × Value → H} {w : World} {base : Nat} {sp : Nat → Bool} {hd : Bool} {fuel : Nat} {t : TypeId} {cs : List Value} {x : DataW H × List MemPlace} {n : Nat} {e : TypeId} (ht : P.underlying t = some (.array n e))
    (h : DataW.trod enc P w base sp hd fuel t cs = some x) : cs.length = P.cellsOf t ∧ ∀ (i : Nat), i < n → ∃ m y, DataW.trod enc P w base sp hd m e ((cs.drop (i * P.cellsOf e)).take (P.cellsOf e)) = some y := by
  obtain ⟨xs, m, _, _, hl, hlen, hf⟩ := DataW.trod_array ht h
  refine ⟨hl, fun i hi => ?_⟩
  have h1 := hf i hi
  rw [List.getElem?_eq_getElem (by omega)] at h1
  exact ⟨m, _, h1⟩
theorem okWide_arr {P : Program} {w : World} {r : Reach} {base : Nat} {t : TypeId} {v : Value} {n : Nat} {e : TypeId} (ht : P.underlying t = some (.array n e)) (h : Value.okWide P w r base t v) : ∃ cs, v = .agg cs ∧ cs.size = P.cellsOf t := by
  simp only [Value.okWide, ht] at h
  obtain ⟨cs, h1, h2, _⟩ := h
  exact ⟨cs, h1, h2⟩
end Go.Proofs.Ytejeelpnmdfibaa.Op
end
section
/- The row of the law BivariateRowAndEval, out of its plain law and the walk. -/
namespace Go.Proofs.Ytejeelpnmdfibaa.bivariateRowAndEval
open Go.ChangeShapes Go.WideShapes Go.ChangeAt Go.RowKit Go.Proofs.Ytejeelpnmdfibaa.Pr Go.Proofs.YtejeelpnmdfibaaW.PrintWords
set_option linter.unusedVariables false
theorem own : ownKnob Try.prog.godebug = none := by kernel_rfl
theorem laidOut : laidOutB Try.prog = true := by kernel_rfl
theorem arr2 (cs : Array Value) (h : cs.size = 2) : ∃ c0_ c1_, cs = #[c0_, c1_] := by
  obtain ⟨l_⟩ := cs
  match l_, h with
  | [c0_, c1_], _ => exact ⟨_, _, rfl⟩
set_option maxHeartbeats 4000000 in
set_option maxRecDepth 100000 in
theorem lifted (os : Os) (started : os.Started) (H : Type) (enc : TypeId × Value → H) :
    ReturnsInHanded {} Try.checked os 10 .any (Rows.bivariateRowAndEvalSpec.pre6 enc Try.prog Try.f10 Rows.bivariateRowAndEvalRow.domain false) (Rows.bivariateRowAndEvalSpec.post enc Try.prog Try.f10 false true false false) := by
  refine returnsInHanded_of_change_sized (C := Try.checked) own started (by kernel_rfl) Try.func10
    (ChangeSpec.witness6 (enc := enc) (C := Try.checked) false ⟨#[], #[.int .u64 0, .slice none 0 0, .agg #[.int .u64 0, .int .u64 0]], []⟩ 8 (by kernel_rfl) (by kernel_rfl) (by kernel_rfl) (by kernel_rfl)) ?_
  intro W base args ds gs before hval0 hW hcnd hsz0 _
  have hval : ∀ (j : Nat) t v, Try.f10.params[j]? = some t → args[j]? = some v → Value.okWide Try.prog W .any base t v := hval0
  have hW' := hW
  obtain ⟨p, q, hA0, hV, rfl, hfz, hnd⟩ := hW
  have hA : DataW.TrodAll enc Try.prog W 0 (fun _ => true) true Try.f10.params.toList args.toList ds p := hA0
  rw [Try.params10] at hA hval
  obtain ⟨v0, vs0, d0, ds0, p0, q0, hargs, rfl, rfl, h0, r0⟩ := trodAll_cons hA
  obtain ⟨v1, vs1, d1, ds1, p1, q1, rfl, rfl, rfl, h1, r1⟩ := trodAll_cons r0
  obtain ⟨v2, vs2, d2, ds2, p2, q2, rfl, rfl, rfl, h2, r2⟩ := trodAll_cons r1
  obtain ⟨rfl, rfl, rfl⟩ := trodAll_nil r2
  obtain rfl : args = #[v0, v1, v2] := by cases args; simp_all
  obtain ⟨rfl, rfl⟩ := trodVars_none hV
  have k0 := h0
  have lt0 : ∀ x ∈ p0, x.block < W.heap.size := by obtain ⟨m, hm⟩ := k0; exact DataW.trod_lt m _ _ _ hm
  obtain ⟨a0, rfl, rfl, rfl, w0⟩ := open_int Try.underlying22 (hval 0 22 v0 rfl rfl) h0
  have k1 := h1
  have lt1 : ∀ x ∈ p1, x.block < W.heap.size := by obtain ⟨m, hm⟩ := k1; exact DataW.trod_lt m _ _ _ hm
  obtain ⟨a1, len1, cap1, rfl⟩ := okWide_slice Try.underlying34 (hval 1 34 v1 rfl rfl)
  obtain ⟨fu1, hf1⟩ := h1
  obtain ⟨z1, ⟨A1, c1, e1, hc1, g1⟩, w1⟩ := (Op.openSlice (d := (Kd.slice 22 (Kd.int .u64))) Try.underlying34 (by kernel_rfl) (Op.openSlice (d := (Kd.int .u64)) Try.underlying26 (by kernel_rfl) (Op.openInt (k := .u64) Try.underlying22))) hf1
  cases e1
  have k2 := h2
  have lt2 : ∀ x ∈ p2, x.block < W.heap.size := by obtain ⟨m, hm⟩ := k2; exact DataW.trod_lt m _ _ _ hm
  obtain ⟨cs2, rfl, hs2⟩ := Op.okWide_arr Try.underlying50 (hval 2 50 v2 rfl rfl)
  have hN2 : Try.prog.cellsOf 50 = 2 := by kernel_rfl
  rw [hN2] at hs2
  obtain ⟨x2_0, x2_1, rfl⟩ := arr2 cs2 hs2
  obtain ⟨fu2, hf2⟩ := h2
  have hg2 : DataW.trod enc Try.prog W 0 (fun _ => true) true fu2 50 [x2_0, x2_1] = some (d2, p2) := hf2
  have f2 := (Op.openElems Try.underlying50 hg2).2
  obtain ⟨n2_0, y2_0, e2_0⟩ := f2 0 (by decide)
  have b2_0 : DataW.trod enc Try.prog W 0 (fun _ => true) true n2_0 22 [x2_0] = some y2_0 := e2_0
  obtain ⟨a2_0, e2_0, w2_0⟩ := (Op.openInt (k := .u64) Try.underlying22) b2_0
  cases e2_0
  obtain ⟨n2_1, y2_1, e2_1⟩ := f2 1 (by decide)
  have b2_1 : DataW.trod enc Try.prog W 0 (fun _ => true) true n2_1 22 [x2_1] = some y2_1 := e2_1
  obtain ⟨a2_1, e2_1, w2_1⟩ := (Op.openInt (k := .u64) Try.underlying22) b2_1
  cases e2_1
  clear hA0 hval0 hsz0
  obtain ⟨kk, hk⟩ := Pure.BivariateRowAndEval a0 z1 a2_0 a2_1 w0 w1 w2_0 w2_1
  refine (privitylaw10_BivariateRowAndEval.calls kk a0 _ _ z1 a2_0 a2_1 true W g1 hc1 hk).mono fun e W' ⟨he, bel⟩ => ?_
  subst he
  exact ⟨_, rfl, _, _, _, [], _, [], hW', trodAll_mk1 (shut_bool Try.underlying4 _), (trodAll_cons_mk (shut_int Try.underlying22 w0) (trodAll_cons_mk (Below.trod laidOut (by kernel_rfl) (of_decide_eq_true (by kernel_rfl)) k1 bel lt1) (trodAll_cons_mk (Below.trod laidOut (by kernel_rfl) (of_decide_eq_true (by kernel_rfl)) k2 bel lt2) trodAll_mk0))), rfl, bel.frame _, fun h => by cases h⟩
theorem over : Rows.bivariateRowAndEvalRow.holds Try.pinned (OpenSpec.ofChange Rows.bivariateRowAndEvalSpec) :=
  OpenClaim.holds_of_wide 10 Try.f10 rfl rfl rfl rfl rfl rfl rfl ⟨rfl, rfl, rfl, rfl, rfl⟩ rfl rfl rfl rfl rfl (by kernel_rfl) Try.func10 (by kernel_rfl)
    (of_decide_eq_true (by kernel_rfl)) (by unfold Func.isWrapper; first | (rw [if_pos (by decide +kernel)]; kernel_rfl) | (rw [if_neg (by decide +kernel)]; exact ⟨rfl, rfl⟩))
    (fun os started H enc _ => lifted os started H enc)
theorem proved : Rows.BivariateRowAndEvalSaid := over
#print axioms proved
end Go.Proofs.Ytejeelpnmdfibaa.bivariateRowAndEval
namespace Go.Proofs.Ytejeelpnmdfibaa
/-- The row, under a short name, for the claim. -/
theorem bivariateRowAndEval_holds : Rows.BivariateRowAndEvalSaid := bivariateRowAndEval.proved
end Go.Proofs.Ytejeelpnmdfibaa
end
