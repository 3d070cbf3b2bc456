/- The row of the law BivariatePerfectSecrecy, out of its plain law and the walk. -/
import Derived.Test.YtkhdocabgmemiaaZPerfectSecrecy2
import Derived.Test.YtkhdocabgmemiaaZPerfectSecrecy6
import Derived.Test.YtkhdocabgmemiaaZPerfectSecrecy7
import Derived.Test.YtkhdocabgmemiaaZPerfectSecrecy3
import Derived.Test.YtkhdocabgmemiaaZPerfectSecrecy4
import Derived.Test.YtkhdocabgmemiaaProg
import Derived.ChangeArms
import Derived.DataReads
import Derived.DataElems
import Derived.ShutString
import Derived.ChangeSame
import Derived.Test.YtkhdocabgmemiaaZPerfectSecrecy0
import Derived.Test.YtkhdocabgmemiaaRows
import Derived.WalkKit
import Derived.ProofKit
import Derived.OpenShut
import Derived.ChangeOld
import Derived.Below
import Derived.SizedLaws
section
/- Printed by a program of this seat (the kit's printer, with the functions that were proved by hand given to it). What stands here: the functions that the statements reach, as plain functions, and that the Go code computes them. -/
namespace Go.Proofs.Ytkhdocabgmemiaa.Pr
open Go.RowKit Go.Proofs.YtkhdocabgmemiaaW.PrintWords Go.Proofs.YtkhdocabgmemiaaW.PrintLast Go.Proofs.YtkhdocabgmemiaaW.PrintMore
attribute [local go_sem] max2_int min2_int max_two min_two max_three min_three max_four min_four   -- for this text's walks alone
set_option linter.unusedVariables false
set_option linter.unusedSimpArgs false

open Go.Proofs.Ytkhdocabgmemiaa.Hw
/-! ### privitylaw10_BivariatePerfectSecrecy: function 6 -/
mutual
def privitylaw10_BivariatePerfectSecrecy.j0 : Nat → List Int → List (List Int) → Bool → Int → List (List Int) → List Int → Int → Int → Option (Bool)
 | 0,_,_,_,_,_,_,_,_ => none
 | k + 1,x3,x4,x39,x440000,x440001,x440002,x440003,x440004 => if x39 = true then (some false) else (privitylaw10_BivariatePerfectSecrecy.l0 k x3 x4 0 x440000 x440001 x440002 x440003 x440004)
def privitylaw10_BivariatePerfectSecrecy.l0 : Nat → List Int → List (List Int) → Int → Int → List (List Int) → List Int → Int → Int → Option (Bool)
 | 0,_,_,_,_,_,_,_,_ => none
 | k + 1,x3,x4,x5,x440000,x440001,x440002,x440003,x440004 => if x5 < (x440002.length : Int) then (if 0 ≤ x5 then ((bivariate_Row.f k x440000 x4 (rd x440002 x5)).bind fun t454 => ((bivariate_Row.f k x440000 x440001 (rd x440002 x5)).bind fun t458 => ((privityref06_SameList.f k t454 t458).bind fun t461 => (if t461 = true then (privitylaw10_BivariatePerfectSecrecy.l0 k x3 x4 (wrap64 (x5 + 1)) x440000 x440001 x440002 x440003 x440004) else (some false))))) else (none)) else ((field_Neg.f x440000 x440003).bind fun t462 => ((bivariate_Translate.f k x440000 x4 t462 x3).bind fun t463 => ((privitylaw10_awake.f k).bind fun t466 => (if t466 = true then ((bivariate_Eval.f k x440000 x4 0 0).bind fun t467 => ((bivariate_Eval.f k x440000 x440001 0 0).bind fun t468 => ((field_Add.f k x440000 t468 x440003).bind fun t469 => (if t467 = t469 then ((privityref06_Same.f k t463 x440001).bind fun t470 => (some t470)) else (some false))))) else (some false)))))
end
def privitylaw10_BivariatePerfectSecrecy.f (k : Nat) (a0_0 : Int) (l0_1 : List (List Int)) (l0_2 : List Int) (a0_3 : Int) (a0_4 : Int) : Option (Bool) := (privitylaw10_validTranslation.f k a0_0 l0_1 l0_2 a0_3 a0_4).bind fun t440 => (if t440 = true then ((privityref10_Vanish.f k a0_0 l0_2).bind fun t442 => ((bivariate_Translate.f k a0_0 l0_1 a0_3 t442).bind fun t445 => ((privityref10_Translate.f k a0_0 l0_1 a0_3 t442).bind fun t448 => ((privityref06_Same.f k t445 t448).bind fun t451 => (if t451 = true then ((bivariate_IsSymmetric.f k t445).bind fun t452 => (privitylaw10_BivariatePerfectSecrecy.j0 k t442 t445 (!t452) a0_0 l0_1 l0_2 a0_3 a0_4)) else (privitylaw10_BivariatePerfectSecrecy.j0 k t442 t445 true a0_0 l0_1 l0_2 a0_3 a0_4)))))) else ((privitylaw10_awake.f k).bind fun t441 => (some t441)))
def privitylaw10_BivariatePerfectSecrecy.T10 : Bool × List (List Nat × List Nat) := (true, [([], []), ([0], [0]), ([], []), ([], []), ([3], [3]), ([], []), ([4, 5], [4, 5]), ([6], [6]), ([1, 2, 7], [1, 2, 7]), ([], []), ([9], [9]), ([], []), ([11], [11]), ([], []), ([13], [13]), ([], []), ([14, 15], [14, 15]), ([16], [16]), ([10, 12, 17, 8], [10, 12, 17]), ([8, 18, 18], [8, 18]), ([19], [19])])
def privitylaw10_BivariatePerfectSecrecy.B10 : List Nat := [0, 1, 0, 0, 8, 0, 56, 120, 255, 0, 512, 0, 2048, 0, 8192, 0, 57344, 122880, 262143, 524287, 1048575]
theorem privitylaw10_BivariatePerfectSecrecy.tab10 : rtab .any (opsOf Try.f6 10) = privitylaw10_BivariatePerfectSecrecy.T10 := by kernel_rfl
theorem privitylaw10_BivariatePerfectSecrecy.bits10 : waitsOk privitylaw10_BivariatePerfectSecrecy.T10.2 privitylaw10_BivariatePerfectSecrecy.B10 = true := by kernel_rfl
def privitylaw10_BivariatePerfectSecrecy.T12 : Bool × List (List Nat × List Nat) := (true, [([], []), ([0], [0]), ([], []), ([], []), ([3], [3]), ([], []), ([5], [5]), ([4, 6], [4, 6]), ([], []), ([1, 2, 7, 8, 7], [1, 2, 7, 8]), ([9, 9, 0, 1, 2, 3, 4, 5, 6, 7, 8, 9], [9])])
def privitylaw10_BivariatePerfectSecrecy.B12 : List Nat := [0, 1, 0, 0, 8, 0, 32, 120, 0, 511, 1023]
theorem privitylaw10_BivariatePerfectSecrecy.tab12 : rtab .any (opsOf Try.f6 12) = privitylaw10_BivariatePerfectSecrecy.T12 := by kernel_rfl
theorem privitylaw10_BivariatePerfectSecrecy.bits12 : waitsOk privitylaw10_BivariatePerfectSecrecy.T12.2 privitylaw10_BivariatePerfectSecrecy.B12 = true := by kernel_rfl
def privitylaw10_BivariatePerfectSecrecy.T13 : Bool × List (List Nat × List Nat) := (true, [([], []), ([0, 0], [0]), ([1], [1]), ([2, 1], [1, 2]), ([1], [1]), ([3, 4, 1, 1], [1, 3, 4]), ([1], [1]), ([6, 1], [1, 6]), ([1], [1]), ([8, 1], [1, 8]), ([1], [1]), ([10, 1], [1, 10]), ([9, 11, 5, 1], [1, 9, 11]), ([1], [1]), ([13, 1], [1, 13]), ([7, 12, 14, 12, 1], [1, 7, 12, 14]), ([5, 15, 1], [1, 5, 15]), ([1, 16], [1, 16]), ([17, 15], [17]), ([18], [18]), ([18], [18]), ([20, 18], [18, 20]), ([19, 21, 18, 18], [18, 19, 21]), ([18, 22], [18, 22]), ([23, 22, 0, 1, 2, 3, 4, 5, 6, 7, 8, 9, 10, 11, 12, 13, 14, 15, 16, 17, 18, 19, 20, 21, 22, 23], [23])])
def privitylaw10_BivariatePerfectSecrecy.B13 : List Nat := [0, 1, 3, 7, 3, 31, 3, 67, 3, 259, 3, 1027, 3903, 3, 8195, 32767, 65535, 131071, 262143, 524287, 524287, 1572863, 4194303, 8388607, 16777215]
theorem privitylaw10_BivariatePerfectSecrecy.tab13 : rtab .any (opsOf Try.f6 13) = privitylaw10_BivariatePerfectSecrecy.T13 := by kernel_rfl
theorem privitylaw10_BivariatePerfectSecrecy.bits13 : waitsOk privitylaw10_BivariatePerfectSecrecy.T13.2 privitylaw10_BivariatePerfectSecrecy.B13 = true := by kernel_rfl
set_option maxHeartbeats 8000000 in
set_option maxRecDepth 100000 in
theorem privitylaw10_BivariatePerfectSecrecy.calls (k : Nat) (a0_0 : Int) (A0_1 : Option Addr) (c0_1 : Nat) (l0_1 : List (List Int)) (A0_2 : Option Addr) (c0_2 : Nat) (l0_2 : List Int) (a0_3 : Int) (a0_4 : Int) (r : Bool) (w : World) (hr0_1 : Kd.C (Kd.slice 31 (Kd.int .u64)) w A0_1 l0_1.length l0_1) (hc0_1 : l0_1.length ≤ c0_1) (hr0_2 : Kd.C (Kd.int .u64) w A0_2 l0_2.length l0_2) (hc0_2 : l0_2.length ≤ c0_2) (hr1_ : r = true) (h : privitylaw10_BivariatePerfectSecrecy.f k a0_0 l0_1 l0_2 a0_3 a0_4 = some r) :
  Calls Try.prog 6 #[.agg #[.int .u64 a0_0,.slice A0_1 l0_1.length c0_1,.slice A0_2 l0_2.length c0_2,.int .u64 a0_3,.int .u64 a0_4]] w fun e w' => e = .returned (.bool r) ∧ Below w.heap.size w w' := by
 have HRT_ := Aside0.mk hr1_
 clear hr1_
 have hu39 := Try.underlying39
 have HR0_1 := Aside0.mk hr0_1
 have HC0_1 := Aside0.mk hc0_1
 clear hr0_1 hc0_1
 have HR0_2 := Aside0.mk hr0_2
 have HC0_2 := Aside0.mk hc0_2
 clear hr0_2 hc0_2
 have HB := Aside0.mk (Below.refl w.heap.size w)
 have H : ((privitylaw10_validTranslation.f k a0_0 l0_1 l0_2 a0_3 a0_4).bind fun t440 => (if t440 = true then ((privityref10_Vanish.f k a0_0 l0_2).bind fun t442 => ((bivariate_Translate.f k a0_0 l0_1 a0_3 t442).bind fun t445 => ((privityref10_Translate.f k a0_0 l0_1 a0_3 t442).bind fun t448 => ((privityref06_Same.f k t445 t448).bind fun t451 => (if t451 = true then ((bivariate_IsSymmetric.f k t445).bind fun t452 => (privitylaw10_BivariatePerfectSecrecy.j0 k t442 t445 (!t452) a0_0 l0_1 l0_2 a0_3 a0_4)) else (privitylaw10_BivariatePerfectSecrecy.j0 k t442 t445 true a0_0 l0_1 l0_2 a0_3 a0_4)))))) else ((privitylaw10_awake.f k).bind fun t441 => (some t441)))) = some r := h
 clear h
 replace H := Option.bind_eq_some_iff.mp H
 obtain ⟨t440,A20,H⟩ := H
 replace H : (if t440 = true then ((privityref10_Vanish.f k a0_0 l0_2).bind fun t442 => ((bivariate_Translate.f k a0_0 l0_1 a0_3 t442).bind fun t445 => ((privityref10_Translate.f k a0_0 l0_1 a0_3 t442).bind fun t448 => ((privityref06_Same.f k t445 t448).bind fun t451 => (if t451 = true then ((bivariate_IsSymmetric.f k t445).bind fun t452 => (privitylaw10_BivariatePerfectSecrecy.j0 k t442 t445 (!t452) a0_0 l0_1 l0_2 a0_3 a0_4)) else (privitylaw10_BivariatePerfectSecrecy.j0 k t442 t445 true a0_0 l0_1 l0_2 a0_3 a0_4)))))) else ((privitylaw10_awake.f k).bind fun t441 => (some t441))) = some r := H
 have A2 := Aside0.mk A20
 clear A20
 by_cases c3 : t440 = true
 ·subst c3
  have H1 : ((privityref10_Vanish.f k a0_0 l0_2).bind fun t442 => ((bivariate_Translate.f k a0_0 l0_1 a0_3 t442).bind fun t445 => ((privityref10_Translate.f k a0_0 l0_1 a0_3 t442).bind fun t448 => ((privityref06_Same.f k t445 t448).bind fun t451 => (if t451 = true then ((bivariate_IsSymmetric.f k t445).bind fun t452 => (privitylaw10_BivariatePerfectSecrecy.j0 k t442 t445 (!t452) a0_0 l0_1 l0_2 a0_3 a0_4)) else (privitylaw10_BivariatePerfectSecrecy.j0 k t442 t445 true a0_0 l0_1 l0_2 a0_3 a0_4)))))) = some r := by rw [if_pos rfl] at H;exact H
  clear H
  have H := H1
  clear H1
  replace H := Option.bind_eq_some_iff.mp H
  obtain ⟨t442,A40,H⟩ := H
  replace H : ((bivariate_Translate.f k a0_0 l0_1 a0_3 t442).bind fun t445 => ((privityref10_Translate.f k a0_0 l0_1 a0_3 t442).bind fun t448 => ((privityref06_Same.f k t445 t448).bind fun t451 => (if t451 = true then ((bivariate_IsSymmetric.f k t445).bind fun t452 => (privitylaw10_BivariatePerfectSecrecy.j0 k t442 t445 (!t452) a0_0 l0_1 l0_2 a0_3 a0_4)) else (privitylaw10_BivariatePerfectSecrecy.j0 k t442 t445 true a0_0 l0_1 l0_2 a0_3 a0_4))))) = some r := H
  have A4 := Aside0.mk A40
  clear A40
  replace H := Option.bind_eq_some_iff.mp H
  obtain ⟨t445,A50,H⟩ := H
  replace H : ((privityref10_Translate.f k a0_0 l0_1 a0_3 t442).bind fun t448 => ((privityref06_Same.f k t445 t448).bind fun t451 => (if t451 = true then ((bivariate_IsSymmetric.f k t445).bind fun t452 => (privitylaw10_BivariatePerfectSecrecy.j0 k t442 t445 (!t452) a0_0 l0_1 l0_2 a0_3 a0_4)) else (privitylaw10_BivariatePerfectSecrecy.j0 k t442 t445 true a0_0 l0_1 l0_2 a0_3 a0_4)))) = some r := H
  have A5 := Aside0.mk A50
  clear A50
  have HC6 := Aside0.mk H
  clear H
  go_enter Try.func6,Try.ntmps6
  go_upto_region 5 with (first|((with_reducible refine gate_dst (N := 1) rfl ?_);refine box_event ?hg (N := 1) ?hd (cs := #[.int .u64 a0_0,.slice A0_1 l0_1.length c0_1,.slice A0_2 l0_2.length c0_2,.int .u64 a0_3,.int .u64 a0_4]) (t := 39) ?hr ?_;(case hd => rfl);(case hg => rfl);(case hr => first|(go_simp;done)|(go_simp;rfl));intro gb439 hg w7 hbox hb;have n0_ := Aside0.mk (below_step (by repeat (first|(with_reducible first|exact HB.out|apply below_alloc|apply pw_below_drewN|apply below_drew1)|exact HB.out)) hb);have n1_ := Aside0.mk (hbox);have n2_ := Aside0.mk ((by rw [hg];exact (below_size (by repeat (first|(with_reducible first|exact HB.out|apply below_alloc|apply pw_below_drewN|apply below_drew1)|exact HB.out))) : w.heap.size ≤ gb439));have n3_ := Aside0.mk ((by rw [hg];exact (below_size (by repeat (first|(with_reducible first|exact HB.out|apply below_alloc|apply pw_below_drewN|apply below_drew1)|exact HB.out))) : w.heap.size ≤ gb439));clear HB;have HB := n0_;have BK439 := n1_;have GW439 := n2_;have GE439 := n3_;clear n0_ n1_ n2_ n3_;clear hb hbox hg;have hcz8_0 : w7.cell? ⟨gb439,0,none⟩ = some (.int .u64 a0_0) := (blk_cell BK439.out 0).trans rfl;have hcz8_1 : w7.cell? ⟨gb439,1,none⟩ = some (.slice A0_1 l0_1.length c0_1) := (blk_cell BK439.out 1).trans rfl;have hcz8_2 : w7.cell? ⟨gb439,2,none⟩ = some (.slice A0_2 l0_2.length c0_2) := (blk_cell BK439.out 2).trans rfl;have hcz8_3 : w7.cell? ⟨gb439,3,none⟩ = some (.int .u64 a0_3) := (blk_cell BK439.out 3).trans rfl;have hcz8_4 : w7.cell? ⟨gb439,4,none⟩ = some (.int .u64 a0_4) := (blk_cell BK439.out 4).trans rfl;have hfz8_0 := blk_frozen BK439.out 0;have hfz8_1 := blk_frozen BK439.out 1;have hfz8_2 := blk_frozen BK439.out 2;have hfz8_3 := blk_frozen BK439.out 3;have hfz8_4 := blk_frozen BK439.out 4)|((with_reducible refine gate_callee (f := 24) rfl ?_);refine goesL_ (some 8) rfl rfl Try.func24 (by kernel_rfl) rfl #[.agg #[.int .u64 a0_0,.slice A0_1 l0_1.length c0_1,.slice A0_2 l0_2.length c0_2,.int .u64 a0_3,.int .u64 a0_4]] rfl (by (try simp only [List.map_toArray,List.map_cons,List.map_nil]);first|done|rfl|(simp only [List.length_drop,List.length_take];rfl)) ?_;(with_reducible refine (privitylaw10_validTranslation.calls k a0_0 _ _ l0_1 _ _ l0_2 a0_3 a0_4 true _ ?side1 ?side2 ?side3 ?side4 A2.out).mono ?_);(case side1 => repeat (first|exact (Kd.C_below HR0_1.out HB.out)|(with_reducible refine Kd.C_alloc ?_ _)|(with_reducible refine Kd.C_drewN ?_ _)|(with_reducible refine Kd.C_drew ?_)));(case side2 => exact HC0_1.out);(case side3 => repeat (first|exact (Kd.C_below HR0_2.out HB.out)|(with_reducible refine Kd.C_alloc ?_ _)|(with_reducible refine Kd.C_drewN ?_ _)|(with_reducible refine Kd.C_drew ?_)));(case side4 => exact HC0_2.out);rintro e w9 ⟨rfl,hb⟩;refine ⟨_,rfl,?_⟩;have n0_ := Aside0.mk (blk_below (g := gb439) (o := .cells #[.int .u64 a0_0,.slice A0_1 l0_1.length c0_1,.slice A0_2 l0_2.length c0_2,.int .u64 a0_3,.int .u64 a0_4] 39 (0,0)) (by (with_reducible repeat (first|refine blk_drewN ?_ _|refine blk_drew ?_|refine blk_alloc ?_ _));exact BK439.out) hb);have n1_ := Aside0.mk (below_step (by repeat (first|(with_reducible first|exact HB.out|apply below_alloc|apply pw_below_drewN|apply below_drew1|refine below_set ?_ GE439.out)|exact HB.out)) hb);clear BK439;clear HB;have BK439 := n0_;have HB := n1_;clear n0_ n1_;(try clear hb);(try clear hb2);(try clear hk);(try clear hi);have hcz10_0 : w9.cell? ⟨gb439,0,none⟩ = some (.int .u64 a0_0) := (blk_cell BK439.out 0).trans rfl;have hcz10_1 : w9.cell? ⟨gb439,1,none⟩ = some (.slice A0_1 l0_1.length c0_1) := (blk_cell BK439.out 1).trans rfl;have hcz10_2 : w9.cell? ⟨gb439,2,none⟩ = some (.slice A0_2 l0_2.length c0_2) := (blk_cell BK439.out 2).trans rfl;have hcz10_3 : w9.cell? ⟨gb439,3,none⟩ = some (.int .u64 a0_3) := (blk_cell BK439.out 3).trans rfl;have hcz10_4 : w9.cell? ⟨gb439,4,none⟩ = some (.int .u64 a0_4) := (blk_cell BK439.out 4).trans rfl;have hfz10_0 := blk_frozen BK439.out 0;have hfz10_1 := blk_frozen BK439.out 1;have hfz10_2 := blk_frozen BK439.out 2;have hfz10_3 := blk_frozen BK439.out 3;have hfz10_4 := blk_frozen BK439.out 4)|((with_reducible refine gate_callee (f := 25) rfl ?_);refine goesL_ (some 15) rfl rfl Try.func25 (by kernel_rfl) rfl #[.int .u64 a0_0,.slice A0_2 l0_2.length c0_2] rfl (by (try simp only [List.map_toArray,List.map_cons,List.map_nil]);first|done|rfl|(simp only [List.length_drop,List.length_take];rfl)) ?_;(with_reducible refine (privityref10_Vanish.calls k a0_0 _ _ l0_2 t442 _ ?side1 ?side2 A4.out).mono ?_);(case side1 => repeat (first|exact (Kd.C_below HR0_2.out HB.out)|(with_reducible refine Kd.C_alloc ?_ _)|(with_reducible refine Kd.C_drewN ?_ _)|(with_reducible refine Kd.C_drew ?_)));(case side2 => exact HC0_2.out);rintro e w11 ⟨v443,rfl,ho0,hb⟩;refine ⟨_,rfl,?_⟩;have n0_ := Aside0.mk (Kd.R_lower ho0 (below_size (by repeat (first|(with_reducible first|exact HB.out|apply below_alloc|apply pw_below_drewN|apply below_drew1|refine below_set ?_ GE439.out)|exact HB.out))));have n1_ := Aside0.mk (blk_below (g := gb439) (o := .cells #[.int .u64 a0_0,.slice A0_1 l0_1.length c0_1,.slice A0_2 l0_2.length c0_2,.int .u64 a0_3,.int .u64 a0_4] 39 (0,0)) (by (with_reducible repeat (first|refine blk_drewN ?_ _|refine blk_drew ?_|refine blk_alloc ?_ _));exact BK439.out) hb);have n2_ := Aside0.mk (below_step (by repeat (first|(with_reducible first|exact HB.out|apply below_alloc|apply pw_below_drewN|apply below_drew1|refine below_set ?_ GE439.out)|exact HB.out)) hb);clear BK439;clear HB;have HO444 := n0_;have BK439 := n1_;have HB := n2_;clear n0_ n1_ n2_;(try clear hb);(try clear hb2);(try clear hk);(try clear hi);(try clear ho0);have hcz12_0 : w11.cell? ⟨gb439,0,none⟩ = some (.int .u64 a0_0) := (blk_cell BK439.out 0).trans rfl;have hcz12_1 : w11.cell? ⟨gb439,1,none⟩ = some (.slice A0_1 l0_1.length c0_1) := (blk_cell BK439.out 1).trans rfl;have hcz12_2 : w11.cell? ⟨gb439,2,none⟩ = some (.slice A0_2 l0_2.length c0_2) := (blk_cell BK439.out 2).trans rfl;have hcz12_3 : w11.cell? ⟨gb439,3,none⟩ = some (.int .u64 a0_3) := (blk_cell BK439.out 3).trans rfl;have hcz12_4 : w11.cell? ⟨gb439,4,none⟩ = some (.int .u64 a0_4) := (blk_cell BK439.out 4).trans rfl;have hfz12_0 := blk_frozen BK439.out 0;have hfz12_1 := blk_frozen BK439.out 1;have hfz12_2 := blk_frozen BK439.out 2;have hfz12_3 := blk_frozen BK439.out 3;have hfz12_4 := blk_frozen BK439.out 4;obtain ⟨Ao13,co13,eo13⟩ := Kd.R_slice HO444.out;subst eo13)|((with_reducible refine gate_callee (f := 26) rfl ?_);refine goesL_ (some 23) rfl rfl Try.func26 (by kernel_rfl) rfl #[.int .u64 a0_0,.slice A0_1 l0_1.length c0_1,.int .u64 a0_3,.slice Ao13 t442.length co13] rfl (by (try simp only [List.map_toArray,List.map_cons,List.map_nil]);first|done|rfl|(simp only [List.length_drop,List.length_take];rfl)) ?_;(with_reducible refine (bivariate_Translate.calls k a0_0 _ _ l0_1 a0_3 _ _ t442 t445 _ ?side1 ?side2 ?side3 ?side4 A5.out).mono ?_);(case side1 => repeat (first|exact (Kd.C_below HR0_1.out HB.out)|(with_reducible refine Kd.C_alloc ?_ _)|(with_reducible refine Kd.C_drewN ?_ _)|(with_reducible refine Kd.C_drew ?_)));(case side2 => exact HC0_1.out);(case side3 => repeat (first|exact (Kd.R_reads' HO444.out).2.2|(with_reducible refine Kd.C_alloc ?_ _)|(with_reducible refine Kd.C_drewN ?_ _)|(with_reducible refine Kd.C_drew ?_)));(case side4 => exact (Kd.R_reads' HO444.out).2.1);rintro e w14 ⟨v446,rfl,ho0,hb⟩;refine ⟨_,rfl,?_⟩;have n0_ := Aside0.mk (Kd.R_below (by (with_reducible repeat (first|apply Kd.R_alloc|apply Kd.R_drewN|apply Kd.R_drew));exact HO444.out) hb);have n1_ := Aside0.mk (Kd.S_lower (Kd.S_new' ho0 (Kd.R_lt (by (with_reducible repeat (first|apply Kd.R_alloc|apply Kd.R_drewN|apply Kd.R_drew));exact HO444.out))) (below_size (by repeat (first|(with_reducible first|exact HB.out|apply below_alloc|apply pw_below_drewN|apply below_drew1|refine below_set ?_ GE439.out)|exact HB.out))));have n2_ := Aside0.mk (blk_below (g := gb439) (o := .cells #[.int .u64 a0_0,.slice A0_1 l0_1.length c0_1,.slice A0_2 l0_2.length c0_2,.int .u64 a0_3,.int .u64 a0_4] 39 (0,0)) (by (with_reducible repeat (first|refine blk_drewN ?_ _|refine blk_drew ?_|refine blk_alloc ?_ _));exact BK439.out) hb);have n3_ := Aside0.mk (below_step (by repeat (first|(with_reducible first|exact HB.out|apply below_alloc|apply pw_below_drewN|apply below_drew1|refine below_set ?_ GE439.out)|exact HB.out)) hb);clear HO444;clear BK439;clear HB;have HO444 := n0_;have HO447 := n1_;have BK439 := n2_;have HB := n3_;clear n0_ n1_ n2_ n3_;(try clear hb);(try clear hb2);(try clear hk);(try clear hi);(try clear ho0)))
  (try simp only [Act.put,List.setIfInBounds_toArray,List.set_cons_zero,List.set_cons_succ])
  go_cut [39] (fun v39 wc => ∃ (kq : Nat) (x39_5 : Bool),v39 = .bool x39_5 ∧ Aside0 (privitylaw10_BivariatePerfectSecrecy.j0 kq t442 t445 x39_5 a0_0 l0_1 l0_2 a0_3 a0_4 = some r) ∧ Aside0 (kq ≤ k) ∧ Aside0 (Kd.R (Kd.int .u64) 31 wc w.heap.size (fun _ => True) (.slice Ao13 t442.length co13) t442) ∧ Aside0 (Kd.S (Kd.slice 31 (Kd.int .u64)) 22 wc w.heap.size (fun k_ => some k_ ≠ ((.slice Ao13 t442.length co13) : Value).ownBlock) v446 t445) ∧ Aside0 (wc.heap[gb439]? = some (.cells #[.int .u64 a0_0,(.slice A0_1 l0_1.length c0_1),(.slice A0_2 l0_2.length c0_2),.int .u64 a0_3,.int .u64 a0_4] 39 (0,0))) ∧ Aside0 (Below w.heap.size w wc))
  case first =>
   have H := HC6.out
   clear HC6
   replace H := Option.bind_eq_some_iff.mp H
   obtain ⟨t448,A150,H⟩ := H
   replace H : ((privityref06_Same.f k t445 t448).bind fun t451 => (if t451 = true then ((bivariate_IsSymmetric.f k t445).bind fun t452 => (privitylaw10_BivariatePerfectSecrecy.j0 k t442 t445 (!t452) a0_0 l0_1 l0_2 a0_3 a0_4)) else (privitylaw10_BivariatePerfectSecrecy.j0 k t442 t445 true a0_0 l0_1 l0_2 a0_3 a0_4))) = some r := H
   have A15 := Aside0.mk A150
   clear A150
   replace H := Option.bind_eq_some_iff.mp H
   obtain ⟨t451,A160,H⟩ := H
   replace H : (if t451 = true then ((bivariate_IsSymmetric.f k t445).bind fun t452 => (privitylaw10_BivariatePerfectSecrecy.j0 k t442 t445 (!t452) a0_0 l0_1 l0_2 a0_3 a0_4)) else (privitylaw10_BivariatePerfectSecrecy.j0 k t442 t445 true a0_0 l0_1 l0_2 a0_3 a0_4)) = some r := H
   have A16 := Aside0.mk A160
   clear A160
   by_cases c17 : t451 = true
   ·subst c17
    have H1 : ((bivariate_IsSymmetric.f k t445).bind fun t452 => (privitylaw10_BivariatePerfectSecrecy.j0 k t442 t445 (!t452) a0_0 l0_1 l0_2 a0_3 a0_4)) = some r := by rw [if_pos rfl] at H;exact H
    clear H
    have H := H1
    clear H1
    replace H := Option.bind_eq_some_iff.mp H
    obtain ⟨t452,A180,H⟩ := H
    replace H : (privitylaw10_BivariatePerfectSecrecy.j0 k t442 t445 (!t452) a0_0 l0_1 l0_2 a0_3 a0_4) = some r := H
    have A18 := Aside0.mk A180
    clear A180
    have H' := Aside0.mk H
    clear H
    have hcz19_0 : w14.cell? ⟨gb439,0,none⟩ = some (.int .u64 a0_0) := (blk_cell BK439.out 0).trans rfl
    have hcz19_1 : w14.cell? ⟨gb439,1,none⟩ = some (.slice A0_1 l0_1.length c0_1) := (blk_cell BK439.out 1).trans rfl
    have hcz19_2 : w14.cell? ⟨gb439,2,none⟩ = some (.slice A0_2 l0_2.length c0_2) := (blk_cell BK439.out 2).trans rfl
    have hcz19_3 : w14.cell? ⟨gb439,3,none⟩ = some (.int .u64 a0_3) := (blk_cell BK439.out 3).trans rfl
    have hcz19_4 : w14.cell? ⟨gb439,4,none⟩ = some (.int .u64 a0_4) := (blk_cell BK439.out 4).trans rfl
    have hfz19_0 := blk_frozen BK439.out 0
    have hfz19_1 := blk_frozen BK439.out 1
    have hfz19_2 := blk_frozen BK439.out 2
    have hfz19_3 := blk_frozen BK439.out 3
    have hfz19_4 := blk_frozen BK439.out 4
    go_wp2_with (first|((with_reducible refine gate_callee (f := 27) rfl ?_);refine goesL_ (some 32) rfl rfl Try.func27 (by kernel_rfl) rfl #[.int .u64 a0_0,.slice A0_1 l0_1.length c0_1,.int .u64 a0_3,.slice Ao13 t442.length co13] rfl (by (try simp only [List.map_toArray,List.map_cons,List.map_nil]);first|done|rfl|(simp only [List.length_drop,List.length_take];rfl)) ?_;(with_reducible refine (privityref10_Translate.calls k a0_0 _ _ l0_1 a0_3 _ _ t442 t448 _ ?side1 ?side2 ?side3 ?side4 A15.out).mono ?_);(case side1 => repeat (first|exact (Kd.C_below HR0_1.out HB.out)|(with_reducible refine Kd.C_alloc ?_ _)|(with_reducible refine Kd.C_drewN ?_ _)|(with_reducible refine Kd.C_drew ?_)));(case side2 => exact HC0_1.out);(case side3 => repeat (first|exact (Kd.R_reads' HO444.out).2.2|(with_reducible refine Kd.C_alloc ?_ _)|(with_reducible refine Kd.C_drewN ?_ _)|(with_reducible refine Kd.C_drew ?_)));(case side4 => exact (Kd.R_reads' HO444.out).2.1);rintro e w20 ⟨v449,rfl,ho0,hb⟩;refine ⟨_,rfl,?_⟩;have n0_ := Aside0.mk (Kd.R_below (by (with_reducible repeat (first|apply Kd.R_alloc|apply Kd.R_drewN|apply Kd.R_drew));exact HO444.out) hb);have n1_ := Aside0.mk (Kd.S_elder' (by (with_reducible repeat (first|apply Kd.S_alloc|apply Kd.S_drewN|apply Kd.S_drew));exact HO447.out) (Kd.S_base ho0) hb);have n2_ := Aside0.mk (Kd.S_lower (Kd.S_new' (Kd.S_new' ho0 (Kd.R_lt (by (with_reducible repeat (first|apply Kd.R_alloc|apply Kd.R_drewN|apply Kd.R_drew));exact HO444.out))) (Kd.S_lt (by (with_reducible repeat (first|apply Kd.S_alloc|apply Kd.S_drewN|apply Kd.S_drew));exact HO447.out))) (below_size (by repeat (first|(with_reducible first|exact HB.out|apply below_alloc|apply pw_below_drewN|apply below_drew1|refine below_set ?_ GE439.out)|exact HB.out))));have n3_ := Aside0.mk (blk_below (g := gb439) (o := .cells #[.int .u64 a0_0,.slice A0_1 l0_1.length c0_1,.slice A0_2 l0_2.length c0_2,.int .u64 a0_3,.int .u64 a0_4] 39 (0,0)) (by (with_reducible repeat (first|refine blk_drewN ?_ _|refine blk_drew ?_|refine blk_alloc ?_ _));exact BK439.out) hb);have n4_ := Aside0.mk (below_step (by repeat (first|(with_reducible first|exact HB.out|apply below_alloc|apply pw_below_drewN|apply below_drew1|refine below_set ?_ GE439.out)|exact HB.out)) hb);clear HO444;clear HO447;clear BK439;clear HB;have HO444 := n0_;have HO447 := n1_;have HO450 := n2_;have BK439 := n3_;have HB := n4_;clear n0_ n1_ n2_ n3_ n4_;(try clear hb);(try clear hb2);(try clear hk);(try clear hi);(try clear ho0);obtain ⟨Ao21,co21,eo21⟩ := Kd.S_slice HO447.out;subst eo21;obtain ⟨Ao22,co22,eo22⟩ := Kd.S_slice HO450.out;subst eo22)|((with_reducible refine gate_callee (f := 16) rfl ?_);refine goesL_ (some 33) rfl rfl Try.func16 (by kernel_rfl) rfl #[.slice Ao21 t445.length co21,.slice Ao22 t448.length co22] rfl (by (try simp only [List.map_toArray,List.map_cons,List.map_nil]);first|done|rfl|(simp only [List.length_drop,List.length_take];rfl)) ?_;(with_reducible refine (privityref06_Same.calls k _ _ t445 _ _ t448 true _ ?side1 ?side2 ?side3 ?side4 A16.out).mono ?_);(case side1 => repeat (first|exact (Kd.S_reads' HO447.out).2.2|(with_reducible refine Kd.C_alloc ?_ _)|(with_reducible refine Kd.C_drewN ?_ _)|(with_reducible refine Kd.C_drew ?_)));(case side2 => exact (Kd.S_reads' HO447.out).2.1);(case side3 => repeat (first|exact (Kd.S_reads' HO450.out).2.2|(with_reducible refine Kd.C_alloc ?_ _)|(with_reducible refine Kd.C_drewN ?_ _)|(with_reducible refine Kd.C_drew ?_)));(case side4 => exact (Kd.S_reads' HO450.out).2.1);rintro e w' ⟨rfl,⟨nd,rfl⟩⟩;refine ⟨_,rfl,?_⟩)|(go_at_call 17;(with_reducible refine (bivariate_IsSymmetric.calls k _ _ t445 t452 _ ?side1 ?side2 A18.out).mono ?_);(case side1 => repeat (first|exact (Kd.S_reads' HO447.out).2.2|(with_reducible refine Kd.C_alloc ?_ _)|(with_reducible refine Kd.C_drewN ?_ _)|(with_reducible refine Kd.C_drew ?_)));(case side2 => exact (Kd.S_reads' HO447.out).2.1);rintro e w' ⟨rfl,⟨nd,rfl⟩⟩))
    go_meet
    case rel => exact ⟨_,(!t452),(by first|rfl|(simp;done)|(simp [*];done)),H',⟨by first|omega|exact Nat.le_refl _⟩,⟨by (with_reducible repeat (first|apply Kd.R_alloc|apply Kd.R_drewN|apply Kd.R_drew));exact HO444.out⟩,⟨by (with_reducible repeat (first|apply Kd.S_alloc|apply Kd.S_drewN|apply Kd.S_drew));exact Kd.S_mono HO447.out (fun _ hk => hk.1.2)⟩,⟨by (with_reducible repeat (first|refine blk_drewN ?_ _|refine blk_drew ?_|refine blk_alloc ?_ _));exact BK439.out⟩,⟨by repeat (first|(with_reducible first|exact HB.out|apply below_alloc|apply pw_below_drewN|apply below_drew1|refine below_set ?_ GE439.out)|exact HB.out)⟩⟩
   ·replace c17 := Bool.eq_false_iff.mpr c17
    subst c17
    have H1 : (privitylaw10_BivariatePerfectSecrecy.j0 k t442 t445 true a0_0 l0_1 l0_2 a0_3 a0_4) = some r := by rw [if_neg (show ¬ (false = true) by decide)] at H;exact H
    clear H
    have H := H1
    clear H1
    have H' := Aside0.mk H
    clear H
    have hcz23_0 : w14.cell? ⟨gb439,0,none⟩ = some (.int .u64 a0_0) := (blk_cell BK439.out 0).trans rfl
    have hcz23_1 : w14.cell? ⟨gb439,1,none⟩ = some (.slice A0_1 l0_1.length c0_1) := (blk_cell BK439.out 1).trans rfl
    have hcz23_2 : w14.cell? ⟨gb439,2,none⟩ = some (.slice A0_2 l0_2.length c0_2) := (blk_cell BK439.out 2).trans rfl
    have hcz23_3 : w14.cell? ⟨gb439,3,none⟩ = some (.int .u64 a0_3) := (blk_cell BK439.out 3).trans rfl
    have hcz23_4 : w14.cell? ⟨gb439,4,none⟩ = some (.int .u64 a0_4) := (blk_cell BK439.out 4).trans rfl
    have hfz23_0 := blk_frozen BK439.out 0
    have hfz23_1 := blk_frozen BK439.out 1
    have hfz23_2 := blk_frozen BK439.out 2
    have hfz23_3 := blk_frozen BK439.out 3
    have hfz23_4 := blk_frozen BK439.out 4
    go_wp2_with (first|((with_reducible refine gate_callee (f := 27) rfl ?_);refine goesL_ (some 32) rfl rfl Try.func27 (by kernel_rfl) rfl #[.int .u64 a0_0,.slice A0_1 l0_1.length c0_1,.int .u64 a0_3,.slice Ao13 t442.length co13] rfl (by (try simp only [List.map_toArray,List.map_cons,List.map_nil]);first|done|rfl|(simp only [List.length_drop,List.length_take];rfl)) ?_;(with_reducible refine (privityref10_Translate.calls k a0_0 _ _ l0_1 a0_3 _ _ t442 t448 _ ?side1 ?side2 ?side3 ?side4 A15.out).mono ?_);(case side1 => repeat (first|exact (Kd.C_below HR0_1.out HB.out)|(with_reducible refine Kd.C_alloc ?_ _)|(with_reducible refine Kd.C_drewN ?_ _)|(with_reducible refine Kd.C_drew ?_)));(case side2 => exact HC0_1.out);(case side3 => repeat (first|exact (Kd.R_reads' HO444.out).2.2|(with_reducible refine Kd.C_alloc ?_ _)|(with_reducible refine Kd.C_drewN ?_ _)|(with_reducible refine Kd.C_drew ?_)));(case side4 => exact (Kd.R_reads' HO444.out).2.1);rintro e w24 ⟨v449,rfl,ho0,hb⟩;refine ⟨_,rfl,?_⟩;have n0_ := Aside0.mk (Kd.R_below (by (with_reducible repeat (first|apply Kd.R_alloc|apply Kd.R_drewN|apply Kd.R_drew));exact HO444.out) hb);have n1_ := Aside0.mk (Kd.S_elder' (by (with_reducible repeat (first|apply Kd.S_alloc|apply Kd.S_drewN|apply Kd.S_drew));exact HO447.out) (Kd.S_base ho0) hb);have n2_ := Aside0.mk (Kd.S_lower (Kd.S_new' (Kd.S_new' ho0 (Kd.R_lt (by (with_reducible repeat (first|apply Kd.R_alloc|apply Kd.R_drewN|apply Kd.R_drew));exact HO444.out))) (Kd.S_lt (by (with_reducible repeat (first|apply Kd.S_alloc|apply Kd.S_drewN|apply Kd.S_drew));exact HO447.out))) (below_size (by repeat (first|(with_reducible first|exact HB.out|apply below_alloc|apply pw_below_drewN|apply below_drew1|refine below_set ?_ GE439.out)|exact HB.out))));have n3_ := Aside0.mk (blk_below (g := gb439) (o := .cells #[.int .u64 a0_0,.slice A0_1 l0_1.length c0_1,.slice A0_2 l0_2.length c0_2,.int .u64 a0_3,.int .u64 a0_4] 39 (0,0)) (by (with_reducible repeat (first|refine blk_drewN ?_ _|refine blk_drew ?_|refine blk_alloc ?_ _));exact BK439.out) hb);have n4_ := Aside0.mk (below_step (by repeat (first|(with_reducible first|exact HB.out|apply below_alloc|apply pw_below_drewN|apply below_drew1|refine below_set ?_ GE439.out)|exact HB.out)) hb);clear HO444;clear HO447;clear BK439;clear HB;have HO444 := n0_;have HO447 := n1_;have HO450 := n2_;have BK439 := n3_;have HB := n4_;clear n0_ n1_ n2_ n3_ n4_;(try clear hb);(try clear hb2);(try clear hk);(try clear hi);(try clear ho0);obtain ⟨Ao25,co25,eo25⟩ := Kd.S_slice HO447.out;subst eo25;obtain ⟨Ao26,co26,eo26⟩ := Kd.S_slice HO450.out;subst eo26)|((with_reducible refine gate_callee (f := 16) rfl ?_);refine goesL_ (some 33) rfl rfl Try.func16 (by kernel_rfl) rfl #[.slice Ao25 t445.length co25,.slice Ao26 t448.length co26] rfl (by (try simp only [List.map_toArray,List.map_cons,List.map_nil]);first|done|rfl|(simp only [List.length_drop,List.length_take];rfl)) ?_;(with_reducible refine (privityref06_Same.calls k _ _ t445 _ _ t448 false _ ?side1 ?side2 ?side3 ?side4 A16.out).mono ?_);(case side1 => repeat (first|exact (Kd.S_reads' HO447.out).2.2|(with_reducible refine Kd.C_alloc ?_ _)|(with_reducible refine Kd.C_drewN ?_ _)|(with_reducible refine Kd.C_drew ?_)));(case side2 => exact (Kd.S_reads' HO447.out).2.1);(case side3 => repeat (first|exact (Kd.S_reads' HO450.out).2.2|(with_reducible refine Kd.C_alloc ?_ _)|(with_reducible refine Kd.C_drewN ?_ _)|(with_reducible refine Kd.C_drew ?_)));(case side4 => exact (Kd.S_reads' HO450.out).2.1);rintro e w' ⟨rfl,⟨nd,rfl⟩⟩;refine ⟨_,rfl,?_⟩))
    go_meet
    case rel => exact ⟨_,(true),(by first|rfl|(simp;done)|(simp [*];done)),H',⟨by first|omega|exact Nat.le_refl _⟩,⟨by (with_reducible repeat (first|apply Kd.R_alloc|apply Kd.R_drewN|apply Kd.R_drew));exact HO444.out⟩,⟨by (with_reducible repeat (first|apply Kd.S_alloc|apply Kd.S_drewN|apply Kd.S_drew));exact Kd.S_mono HO447.out (fun _ hk => hk.1.2)⟩,⟨by (with_reducible repeat (first|refine blk_drewN ?_ _|refine blk_drew ?_|refine blk_alloc ?_ _));exact BK439.out⟩,⟨by repeat (first|(with_reducible first|exact HB.out|apply below_alloc|apply pw_below_drewN|apply below_drew1|refine below_set ?_ GE439.out)|exact HB.out)⟩⟩
  case rest =>
   clear HC6
   try clear c1
   try clear c2
   try clear p2
   try clear c3
   try clear c6
   try clear c16
   try clear c17
   try clear c24
   try clear c25
   try clear c26
   try clear hcz10_0
   try clear hcz10_1
   try clear hcz10_2
   try clear hcz10_3
   try clear hcz10_4
   try clear hcz12_0
   try clear hcz12_1
   try clear hcz12_2
   try clear hcz12_3
   try clear hcz12_4
   try clear hcz19_0
   try clear hcz19_1
   try clear hcz19_2
   try clear hcz19_3
   try clear hcz19_4
   try clear hcz23_0
   try clear hcz23_1
   try clear hcz23_2
   try clear hcz23_3
   try clear hcz23_4
   try clear hcz8_0
   try clear hcz8_1
   try clear hcz8_2
   try clear hcz8_3
   try clear hcz8_4
   try clear hfz10_0
   try clear hfz10_1
   try clear hfz10_2
   try clear hfz10_3
   try clear hfz10_4
   try clear hfz12_0
   try clear hfz12_1
   try clear hfz12_2
   try clear hfz12_3
   try clear hfz12_4
   try clear hfz19_0
   try clear hfz19_1
   try clear hfz19_2
   try clear hfz19_3
   try clear hfz19_4
   try clear hfz23_0
   try clear hfz23_1
   try clear hfz23_2
   try clear hfz23_3
   try clear hfz23_4
   try clear hfz8_0
   try clear hfz8_1
   try clear hfz8_2
   try clear hfz8_3
   try clear hfz8_4
   obtain ⟨kq,x39_5,rfl,HA,HJ5,HO_3,HO_4,BK439,HB⟩ := hcut
   cases kq with
   | zero => exact absurd HA.out (by simp [privitylaw10_BivariatePerfectSecrecy.j0])
   | succ kj5 =>
    have H := HA.out
    clear HA
    simp only [privitylaw10_BivariatePerfectSecrecy.j0] at H
    by_cases c27 : x39_5 = true
    ·subst c27
     have H1 : (some false) = some r := by rw [if_pos rfl] at H;exact H
     clear H
     have H := H1
     clear H1
     exact absurd (Option.some.inj H) (by rw [HRT_.out];simp)
    ·replace c27 := Bool.eq_false_iff.mpr c27
     subst c27
     have H1 : (privitylaw10_BivariatePerfectSecrecy.l0 kj5 t442 t445 0 a0_0 l0_1 l0_2 a0_3 a0_4) = some r := by rw [if_neg (show ¬ (false = true) by decide)] at H;exact H
     clear H
     have H := H1
     clear H1
     have H' := Aside0.mk H
     clear H
     go_wp2
     go_loopg [5] kj5 (fun kq v5 w' => ∃ (x5_2 : Int),v5 = .int .i64 x5_2 ∧ Aside0 (privitylaw10_BivariatePerfectSecrecy.l0 kq t442 t445 x5_2 a0_0 l0_1 l0_2 a0_3 a0_4 = some r) ∧ Aside0 (kq ≤ kj5) ∧ Aside0 (Kd.R (Kd.int .u64) 31 w' w.heap.size (fun _ => True) (.slice Ao13 t442.length co13) t442) ∧ Aside0 (Kd.S (Kd.slice 31 (Kd.int .u64)) 22 w' w.heap.size (fun k_ => some k_ ≠ ((.slice Ao13 t442.length co13) : Value).ownBlock) v446 t445) ∧ Aside0 (w'.heap[gb439]? = some (.cells #[.int .u64 a0_0,(.slice A0_1 l0_1.length c0_1),(.slice A0_2 l0_2.length c0_2),.int .u64 a0_3,.int .u64 a0_4] 39 (0,0))) ∧ Aside0 (Below w.heap.size w w'))
     case atStart => exact ⟨(0),(by first|rfl|(simp;done)|(simp [*];done)),H',⟨Nat.le_refl _⟩,⟨by (with_reducible repeat (first|apply Kd.R_alloc|apply Kd.R_drewN|apply Kd.R_drew));exact HO_3.out⟩,⟨by (with_reducible repeat (first|apply Kd.S_alloc|apply Kd.S_drewN|apply Kd.S_drew));exact HO_4.out⟩,⟨by (with_reducible repeat (first|refine blk_drewN ?_ _|refine blk_drew ?_|refine blk_alloc ?_ _));exact BK439.out⟩,⟨by repeat (first|(with_reducible first|exact HB.out|apply below_alloc|apply pw_below_drewN|apply below_drew1|refine below_set ?_ GE439.out)|exact HB.out)⟩⟩
     case round =>
      clear H'
      try clear c1
      try clear c2
      try clear p2
      try clear c3
      try clear c6
      try clear c16
      try clear c17
      try clear c24
      try clear c25
      try clear c26
      try clear c27
      try clear hcz10_0
      try clear hcz10_1
      try clear hcz10_2
      try clear hcz10_3
      try clear hcz10_4
      try clear hcz12_0
      try clear hcz12_1
      try clear hcz12_2
      try clear hcz12_3
      try clear hcz12_4
      try clear hcz19_0
      try clear hcz19_1
      try clear hcz19_2
      try clear hcz19_3
      try clear hcz19_4
      try clear hcz23_0
      try clear hcz23_1
      try clear hcz23_2
      try clear hcz23_3
      try clear hcz23_4
      try clear hcz8_0
      try clear hcz8_1
      try clear hcz8_2
      try clear hcz8_3
      try clear hcz8_4
      try clear hfz10_0
      try clear hfz10_1
      try clear hfz10_2
      try clear hfz10_3
      try clear hfz10_4
      try clear hfz12_0
      try clear hfz12_1
      try clear hfz12_2
      try clear hfz12_3
      try clear hfz12_4
      try clear hfz19_0
      try clear hfz19_1
      try clear hfz19_2
      try clear hfz19_3
      try clear hfz19_4
      try clear hfz23_0
      try clear hfz23_1
      try clear hfz23_2
      try clear hfz23_3
      try clear hfz23_4
      try clear hfz8_0
      try clear hfz8_1
      try clear hfz8_2
      try clear hfz8_3
      try clear hfz8_4
      try clear p2
      obtain ⟨x5_2,rfl,HA,HK2,HO_3,HO_4,BK439,HB⟩ := hrel
      cases gk with
      | zero => exact absurd HA.out (by simp [privitylaw10_BivariatePerfectSecrecy.l0])
      | succ k2 =>
       have H := HA.out
       clear HA
       simp only [privitylaw10_BivariatePerfectSecrecy.l0] at H
       by_cases c28 : x5_2 < (l0_2.length : Int)
       ·rw [if_pos c28] at H
        have c28b0 : decide (x5_2 < (l0_2.length : Int)) = true := decide_eq_true c28
        clear c28
        by_cases c29 : 0 ≤ x5_2
        ·rw [if_pos c29] at H
         have c29b0 : decide (0 ≤ x5_2) = true := decide_eq_true c29
         clear c29
         replace H := Option.bind_eq_some_iff.mp H
         obtain ⟨t454,A300,H⟩ := H
         replace H : ((bivariate_Row.f k2 a0_0 l0_1 (rd l0_2 x5_2)).bind fun t458 => ((privityref06_SameList.f k2 t454 t458).bind fun t461 => (if t461 = true then (privitylaw10_BivariatePerfectSecrecy.l0 k2 t442 t445 (wrap64 (x5_2 + 1)) a0_0 l0_1 l0_2 a0_3 a0_4) else (some false)))) = some r := H
         have A30 := Aside0.mk A300
         clear A300
         replace H := Option.bind_eq_some_iff.mp H
         obtain ⟨t458,A310,H⟩ := H
         replace H : ((privityref06_SameList.f k2 t454 t458).bind fun t461 => (if t461 = true then (privitylaw10_BivariatePerfectSecrecy.l0 k2 t442 t445 (wrap64 (x5_2 + 1)) a0_0 l0_1 l0_2 a0_3 a0_4) else (some false))) = some r := H
         have A31 := Aside0.mk A310
         clear A310
         replace H := Option.bind_eq_some_iff.mp H
         obtain ⟨t461,A320,H⟩ := H
         replace H : (if t461 = true then (privitylaw10_BivariatePerfectSecrecy.l0 k2 t442 t445 (wrap64 (x5_2 + 1)) a0_0 l0_1 l0_2 a0_3 a0_4) else (some false)) = some r := H
         have A32 := Aside0.mk A320
         clear A320
         by_cases c33 : t461 = true
         ·subst c33
          have H1 : (privitylaw10_BivariatePerfectSecrecy.l0 k2 t442 t445 (wrap64 (x5_2 + 1)) a0_0 l0_1 l0_2 a0_3 a0_4) = some r := by rw [if_pos rfl] at H;exact H
          clear H
          have H := H1
          clear H1
          have H' := Aside0.mk H
          clear H
          have hcz34_0 : wr.cell? ⟨gb439,0,none⟩ = some (.int .u64 a0_0) := (blk_cell BK439.out 0).trans rfl
          have hcz34_1 : wr.cell? ⟨gb439,1,none⟩ = some (.slice A0_1 l0_1.length c0_1) := (blk_cell BK439.out 1).trans rfl
          have hcz34_2 : wr.cell? ⟨gb439,2,none⟩ = some (.slice A0_2 l0_2.length c0_2) := (blk_cell BK439.out 2).trans rfl
          have hcz34_3 : wr.cell? ⟨gb439,3,none⟩ = some (.int .u64 a0_3) := (blk_cell BK439.out 3).trans rfl
          have hcz34_4 : wr.cell? ⟨gb439,4,none⟩ = some (.int .u64 a0_4) := (blk_cell BK439.out 4).trans rfl
          have hfz34_0 := blk_frozen BK439.out 0
          have hfz34_1 := blk_frozen BK439.out 1
          have hfz34_2 := blk_frozen BK439.out 2
          have hfz34_3 := blk_frozen BK439.out 3
          have hfz34_4 := blk_frozen BK439.out 4
          try go_wp2
          have n0_ := Aside0.mk (Kd.R_drew HO_3.out)
          have n1_ := Aside0.mk (Kd.S_drew HO_4.out)
          have n2_ := Aside0.mk (blk_drew BK439.out)
          have n3_ := Aside0.mk (below_drew1 HB.out)
          clear HO_3
          clear HO_4
          clear BK439
          clear HB
          have HO_3 := n0_
          have HO_4 := n1_
          have BK439 := n2_
          have HB := n3_
          clear n0_ n1_ n2_ n3_
          have p453 : 0 ≤ (x5_2 : Int) := of_decide_eq_true (by first|(with_reducible assumption)|assumption)
          have q453 : x5_2 < (l0_2.length : Int) := of_decide_eq_true (by first|(with_reducible assumption)|assumption)
          obtain ⟨ad453,e453,hx453_0⟩ := Kd.at_int HR0_2.out x5_2 p453 q453
          have hw453_0 := hx453_0
          cases e453
          replace hx453_0 := (HB.out.cell (World.block_lt_of_cell? w _ hx453_0)).trans hx453_0
          replace p453 := eq_true p453
          replace q453 := eq_true q453
          have p457 : 0 ≤ (x5_2 : Int) := of_decide_eq_true (by first|(with_reducible assumption)|assumption)
          have q457 : x5_2 < (l0_2.length : Int) := of_decide_eq_true (by first|(with_reducible assumption)|assumption)
          obtain ⟨ad457,e457,hx457_0⟩ := Kd.at_int HR0_2.out x5_2 p457 q457
          have hw457_0 := hx457_0
          obtain rfl : ad453 = ad457 := (by injection e457)
          replace hx457_0 := (HB.out.cell (World.block_lt_of_cell? w _ hx457_0)).trans hx457_0
          replace p457 := eq_true p457
          replace q457 := eq_true q457
          obtain ⟨Ao36,co36,eo36⟩ := Kd.S_slice HO_4.out
          (first|subst eo36|(injection eo36 with f1_ f2_ f3_;have f4_ := f1_.symm;have f5_ := f3_.symm;clear f1_ f2_ f3_;subst f4_;subst f5_))
          refine start_ (n := 21) (S := fun w' => w'.cell? ⟨gb439,0,none⟩ = some (.int .u64 a0_0) ∧ w'.cell? ⟨gb439,1,none⟩ = some (.slice A0_1 l0_1.length c0_1) ∧ w'.cell? ⟨gb439,2,none⟩ = some (.slice (some ad453) l0_2.length c0_2) ∧ w'.cell? ⟨gb439,3,none⟩ = some (.int .u64 a0_3) ∧ w'.cell? ⟨gb439,4,none⟩ = some (.int .u64 a0_4) ∧ w'.cell? (ad453.add (x5_2).toNat) = some (.int .u64 (rd l0_2 x5_2)) ∧ w'.cell? (ad453.add (x5_2).toNat) = some (.int .u64 (rd l0_2 x5_2))) (ds := []) #[false,false,false,false,false,false,false,false,false,false,false,false,false,false,false,false,false,false,false,false,false] (by kernel_rfl) rfl rfl ⟨(blk_cell BK439.out 0).trans rfl,(blk_cell BK439.out 1).trans rfl,(blk_cell BK439.out 2).trans rfl,(blk_cell BK439.out 3).trans rfl,(blk_cell BK439.out 4).trans rfl,((HB.out.cell (World.block_lt_of_cell? w _ hw453_0)).trans hw453_0),((HB.out.cell (World.block_lt_of_cell? w _ hw457_0)).trans hw457_0)⟩ (fun hHeld => ?_);refine with_tabW privitylaw10_BivariatePerfectSecrecy.tab10 privitylaw10_BivariatePerfectSecrecy.bits10 (fun HT_ HW_ => ?_)
          generalize wr.drew = w35 at HO_3 HO_4 BK439 HB hx453_0 hx457_0 hHeld ⊢
          refine pure_ (i := 0) (N := some 47) (v := ?_) (a' := ?_) #[true,false,false,false,false,false,false,false,false,false,false,false,false,false,false,false,false,false,false,false,false] rfl rfl (any_of HT_.out (by kernel_rfl)) (fun _ _ _ h => h) (Or.inl ⟨by rfl,?_⟩) ?_ ?_
          rotate_left
          ·intro w'
           go_simp
           with_reducible rfl
          rotate_left
          ·simp only [Act.put,List.setIfInBounds_toArray,List.set_cons_zero,List.set_cons_succ,i64_w,i32_w]
           rfl
          refine pure_ (i := 2) (N := some 49) (v := ?_) (a' := ?_) #[true,false,true,false,false,false,false,false,false,false,false,false,false,false,false,false,false,false,false,false,false] rfl rfl (any_of HT_.out (by kernel_rfl)) (fun _ _ _ h => h) (Or.inl ⟨by rfl,?_⟩) ?_ ?_
          rotate_left
          ·intro w'
           go_simp
           with_reducible rfl
          rotate_left
          ·simp only [Act.put,List.setIfInBounds_toArray,List.set_cons_zero,List.set_cons_succ,i64_w,i32_w]
           rfl
          refine pure_ (i := 3) (N := some 50) (v := ?_) (a' := ?_) #[true,false,true,true,false,false,false,false,false,false,false,false,false,false,false,false,false,false,false,false,false] rfl rfl (any_of HT_.out (by kernel_rfl)) (fun _ _ _ h => h) (Or.inl ⟨by rfl,?_⟩) ?_ ?_
          rotate_left
          ·intro w'
           go_simp
           with_reducible rfl
          rotate_left
          ·simp only [Act.put,List.setIfInBounds_toArray,List.set_cons_zero,List.set_cons_succ,i64_w,i32_w]
           rfl
          refine pure_ (i := 5) (N := some 52) (v := ?_) (a' := ?_) #[true,false,true,true,false,true,false,false,false,false,false,false,false,false,false,false,false,false,false,false,false] rfl rfl (any_of HT_.out (by kernel_rfl)) (fun _ _ _ h => h) (Or.inl ⟨by rfl,?_⟩) ?_ ?_
          rotate_left
          ·intro w'
           go_simp
           with_reducible rfl
          rotate_left
          ·simp only [Act.put,List.setIfInBounds_toArray,List.set_cons_zero,List.set_cons_succ,i64_w,i32_w]
           rfl
          refine pure_ (i := 9) (N := some 56) (v := ?_) (a' := ?_) #[true,false,true,true,false,true,false,false,false,true,false,false,false,false,false,false,false,false,false,false,false] rfl rfl (any_of HT_.out (by kernel_rfl)) (fun _ _ _ h => h) (Or.inl ⟨by rfl,?_⟩) ?_ ?_
          rotate_left
          ·intro w'
           go_simp
           with_reducible rfl
          rotate_left
          ·simp only [Act.put,List.setIfInBounds_toArray,List.set_cons_zero,List.set_cons_succ,i64_w,i32_w]
           rfl
          refine pure_ (i := 11) (N := some 58) (v := ?_) (a' := ?_) #[true,false,true,true,false,true,false,false,false,true,false,true,false,false,false,false,false,false,false,false,false] rfl rfl (any_of HT_.out (by kernel_rfl)) (fun _ _ _ h => h) (Or.inl ⟨by rfl,?_⟩) ?_ ?_
          rotate_left
          ·intro w'
           go_simp
           with_reducible rfl
          rotate_left
          ·simp only [Act.put,List.setIfInBounds_toArray,List.set_cons_zero,List.set_cons_succ,i64_w,i32_w]
           rfl
          refine pure_ (i := 13) (N := some 60) (v := ?_) (a' := ?_) #[true,false,true,true,false,true,false,false,false,true,false,true,false,true,false,false,false,false,false,false,false] rfl rfl (any_of HT_.out (by kernel_rfl)) (fun _ _ _ h => h) (Or.inl ⟨by rfl,?_⟩) ?_ ?_
          rotate_left
          ·intro w'
           go_simp
           with_reducible rfl
          rotate_left
          ·simp only [Act.put,List.setIfInBounds_toArray,List.set_cons_zero,List.set_cons_succ,i64_w,i32_w]
           rfl
          refine pure_ (i := 15) (N := some 62) (v := ?_) (a' := ?_) #[true,false,true,true,false,true,false,false,false,true,false,true,false,true,false,true,false,false,false,false,false] rfl rfl (any_of HT_.out (by kernel_rfl)) (fun _ _ _ h => h) (Or.inl ⟨by rfl,?_⟩) ?_ ?_
          rotate_left
          ·intro w'
           go_simp
           with_reducible rfl
          rotate_left
          ·simp only [Act.put,List.setIfInBounds_toArray,List.set_cons_zero,List.set_cons_succ,i64_w,i32_w]
           rfl
          refine take_ (i := 1) (N := some 48) (v := ?_) (a' := ?_) #[true,true,true,true,false,true,false,false,false,true,false,true,false,true,false,true,false,false,false,false,false] rfl rfl (take_ofW HT_.out HW_.out (by kernel_rfl)) (fun _ _ _ h => h) (Or.inl ⟨by rfl,?_⟩) hHeld ?_ ?_
          rotate_left
          ·rintro w' ⟨s0,s1,s2,s3,s4,s5,s6⟩
           go_simp
           with_reducible rfl
          rotate_left
          ·simp only [Act.put,List.setIfInBounds_toArray,List.set_cons_zero,List.set_cons_succ,i64_w,i32_w]
           rfl
          refine take_ (i := 4) (N := some 51) (v := ?_) (a' := ?_) #[true,true,true,true,true,true,false,false,false,true,false,true,false,true,false,true,false,false,false,false,false] rfl rfl (take_ofW HT_.out HW_.out (by kernel_rfl)) (fun _ _ _ h => h) (Or.inl ⟨by rfl,?_⟩) hHeld ?_ ?_
          rotate_left
          ·rintro w' ⟨s0,s1,s2,s3,s4,s5,s6⟩
           go_simp
           with_reducible rfl
          rotate_left
          ·simp only [Act.put,List.setIfInBounds_toArray,List.set_cons_zero,List.set_cons_succ,i64_w,i32_w]
           rfl
          refine pure_ (i := 6) (N := some 53) (v := ?_) (a' := ?_) #[true,true,true,true,true,true,true,false,false,true,false,true,false,true,false,true,false,false,false,false,false] rfl rfl (any_of HT_.out (by kernel_rfl)) (fun _ _ _ h => h) (Or.inl ⟨by rfl,?_⟩) ?_ ?_
          rotate_left
          ·intro w'
           go_simp
           with_reducible rfl
          rotate_left
          ·simp only [Act.put,List.setIfInBounds_toArray,List.set_cons_zero,List.set_cons_succ,i64_w,i32_w]
           rfl
          refine take_ (i := 7) (N := some 54) (v := ?_) (a' := ?_) #[true,true,true,true,true,true,true,true,false,true,false,true,false,true,false,true,false,false,false,false,false] rfl rfl (take_ofW HT_.out HW_.out (by kernel_rfl)) (fun _ _ _ h => h) (Or.inl ⟨by rfl,?_⟩) hHeld ?_ ?_
          rotate_left
          ·rintro w' ⟨s0,s1,s2,s3,s4,s5,s6⟩
           go_simp
           with_reducible rfl
          rotate_left
          ·simp only [Act.put,List.setIfInBounds_toArray,List.set_cons_zero,List.set_cons_succ,i64_w,i32_w]
           rfl
          refine take_ (i := 10) (N := some 57) (v := ?_) (a' := ?_) #[true,true,true,true,true,true,true,true,false,true,true,true,false,true,false,true,false,false,false,false,false] rfl rfl (take_ofW HT_.out HW_.out (by kernel_rfl)) (fun _ _ _ h => h) (Or.inl ⟨by rfl,?_⟩) hHeld ?_ ?_
          rotate_left
          ·rintro w' ⟨s0,s1,s2,s3,s4,s5,s6⟩
           go_simp
           with_reducible rfl
          rotate_left
          ·simp only [Act.put,List.setIfInBounds_toArray,List.set_cons_zero,List.set_cons_succ,i64_w,i32_w]
           rfl
          refine take_ (i := 12) (N := some 59) (v := ?_) (a' := ?_) #[true,true,true,true,true,true,true,true,false,true,true,true,true,true,false,true,false,false,false,false,false] rfl rfl (take_ofW HT_.out HW_.out (by kernel_rfl)) (fun _ _ _ h => h) (Or.inl ⟨by rfl,?_⟩) hHeld ?_ ?_
          rotate_left
          ·rintro w' ⟨s0,s1,s2,s3,s4,s5,s6⟩
           go_simp
           with_reducible rfl
          rotate_left
          ·simp only [Act.put,List.setIfInBounds_toArray,List.set_cons_zero,List.set_cons_succ,i64_w,i32_w]
           rfl
          refine take_ (i := 14) (N := some 61) (v := ?_) (a' := ?_) #[true,true,true,true,true,true,true,true,false,true,true,true,true,true,true,true,false,false,false,false,false] rfl rfl (take_ofW HT_.out HW_.out (by kernel_rfl)) (fun _ _ _ h => h) (Or.inl ⟨by rfl,?_⟩) hHeld ?_ ?_
          rotate_left
          ·rintro w' ⟨s0,s1,s2,s3,s4,s5,s6⟩
           go_simp
           with_reducible rfl
          rotate_left
          ·simp only [Act.put,List.setIfInBounds_toArray,List.set_cons_zero,List.set_cons_succ,i64_w,i32_w]
           rfl
          refine pure_ (i := 16) (N := some 63) (v := ?_) (a' := ?_) #[true,true,true,true,true,true,true,true,false,true,true,true,true,true,true,true,true,false,false,false,false] rfl rfl (any_of HT_.out (by kernel_rfl)) (fun _ _ _ h => h) (Or.inl ⟨by rfl,?_⟩) ?_ ?_
          rotate_left
          ·intro w'
           go_simp
           with_reducible rfl
          rotate_left
          ·simp only [Act.put,List.setIfInBounds_toArray,List.set_cons_zero,List.set_cons_succ,i64_w,i32_w]
           rfl
          refine take_ (i := 17) (N := some 64) (v := ?_) (a' := ?_) #[true,true,true,true,true,true,true,true,false,true,true,true,true,true,true,true,true,true,false,false,false] rfl rfl (take_ofW HT_.out HW_.out (by kernel_rfl)) (fun _ _ _ h => h) (Or.inl ⟨by rfl,?_⟩) hHeld ?_ ?_
          rotate_left
          ·rintro w' ⟨s0,s1,s2,s3,s4,s5,s6⟩
           go_simp
           with_reducible rfl
          rotate_left
          ·simp only [Act.put,List.setIfInBounds_toArray,List.set_cons_zero,List.set_cons_succ,i64_w,i32_w]
           rfl
          refine one_ (i := 8) (N := some 55) #[true,true,true,true,true,true,true,true,true,true,true,true,true,true,true,true,true,true,false,false,false] rfl rfl (one_of HT_.out (by kernel_rfl)) (by decide) (fun K hK => ?_)
          refine goes_ Try.func23 (by kernel_rfl) rfl #[.int .u64 a0_0,.slice Ao36 t445.length co36,.int .u64 (rd l0_2 x5_2)] (by rfl) rfl rfl (by (try simp only [List.map_toArray,List.map_cons,List.map_nil]);first|done|rfl|(simp only [List.length_drop,List.length_take];rfl)) ?_
          with_reducible refine (bivariate_Row.calls k2 a0_0 _ _ t445 (rd l0_2 x5_2) t454 _ ?side1 ?side2 A30.out).mono ?_
          (case side1 => repeat (first|exact (Kd.S_reads' HO_4.out).2.2|(with_reducible refine Kd.C_alloc ?_ _)|(with_reducible refine Kd.C_drewN ?_ _)|(with_reducible refine Kd.C_drew ?_)))
          (case side2 => exact (Kd.S_reads' HO_4.out).2.1)
          rintro e w37 ⟨v455,rfl,ho0,hb⟩
          refine ⟨_,rfl,?_⟩
          have n0_ := Aside0.mk (Kd.R_elder' (by (with_reducible repeat (first|apply Kd.R_alloc|apply Kd.R_drewN|apply Kd.R_drew));exact HO_3.out) (Kd.R_base ho0) hb)
          have n1_ := Aside0.mk (Kd.S_elder' (by (with_reducible repeat (first|apply Kd.S_alloc|apply Kd.S_drewN|apply Kd.S_drew));exact HO_4.out) (Kd.R_base ho0) hb)
          have n2_ := Aside0.mk (Kd.R_lower (Kd.R_new' ho0 (Kd.R_lt (by (with_reducible repeat (first|apply Kd.R_alloc|apply Kd.R_drewN|apply Kd.R_drew));exact HO_3.out))) (below_size (by repeat (first|(with_reducible first|exact HB.out|apply below_alloc|apply pw_below_drewN|apply below_drew1|refine below_set ?_ GE439.out)|exact HB.out))))
          have n3_ := Aside0.mk (blk_below (g := gb439) (o := .cells #[.int .u64 a0_0,.slice A0_1 l0_1.length c0_1,.slice (some ad453) l0_2.length c0_2,.int .u64 a0_3,.int .u64 a0_4] 39 (0,0)) (by (with_reducible repeat (first|refine blk_drewN ?_ _|refine blk_drew ?_|refine blk_alloc ?_ _));exact BK439.out) hb)
          have n4_ := Aside0.mk (below_step (by repeat (first|(with_reducible first|exact HB.out|apply below_alloc|apply pw_below_drewN|apply below_drew1|refine below_set ?_ GE439.out)|exact HB.out)) hb)
          clear HO_3
          clear HO_4
          clear BK439
          clear HB
          have HO_3 := n0_
          have HO_4 := n1_
          have HO456 := n2_
          have BK439 := n3_
          have HB := n4_
          clear n0_ n1_ n2_ n3_ n4_
          (try clear hb)
          (try clear hb2)
          (try clear hk)
          (try clear hi)
          (try clear ho0)
          refine hK.out _ _ ⟨(blk_cell BK439.out 0).trans rfl,(blk_cell BK439.out 1).trans rfl,(blk_cell BK439.out 2).trans rfl,(blk_cell BK439.out 3).trans rfl,(blk_cell BK439.out 4).trans rfl,((HB.out.cell (World.block_lt_of_cell? w _ hw453_0)).trans hw453_0),((HB.out.cell (World.block_lt_of_cell? w _ hw457_0)).trans hw457_0)⟩ (fun hHeld => ?_)
          clear hK K
          refine norm_ (a' := ?_) ?_ ?_
          rotate_left
          ·show Act.put _ (some 55) _ = _
           simp only [Act.put,List.setIfInBounds_toArray,List.set_cons_zero,List.set_cons_succ,i64_w,i32_w]
           rfl
          refine one_ (i := 18) (N := some 65) #[true,true,true,true,true,true,true,true,true,true,true,true,true,true,true,true,true,true,true,false,false] rfl rfl (one_of HT_.out (by kernel_rfl)) (by decide) (fun K hK => ?_)
          refine goes_ Try.func23 (by kernel_rfl) rfl #[.int .u64 a0_0,.slice A0_1 l0_1.length c0_1,.int .u64 (rd l0_2 x5_2)] (by rfl) rfl rfl (by (try simp only [List.map_toArray,List.map_cons,List.map_nil]);first|done|rfl|(simp only [List.length_drop,List.length_take];rfl)) ?_
          with_reducible refine (bivariate_Row.calls k2 a0_0 _ _ l0_1 (rd l0_2 x5_2) t458 _ ?side1 ?side2 A31.out).mono ?_
          (case side1 => repeat (first|exact (Kd.C_below HR0_1.out HB.out)|(with_reducible refine Kd.C_alloc ?_ _)|(with_reducible refine Kd.C_drewN ?_ _)|(with_reducible refine Kd.C_drew ?_)))
          (case side2 => exact HC0_1.out)
          rintro e w38 ⟨v459,rfl,ho0,hb⟩
          refine ⟨_,rfl,?_⟩
          have n0_ := Aside0.mk (Kd.R_elder' (by (with_reducible repeat (first|apply Kd.R_alloc|apply Kd.R_drewN|apply Kd.R_drew));exact HO_3.out) (Kd.R_base ho0) hb)
          have n1_ := Aside0.mk (Kd.S_elder' (by (with_reducible repeat (first|apply Kd.S_alloc|apply Kd.S_drewN|apply Kd.S_drew));exact HO_4.out) (Kd.R_base ho0) hb)
          have n2_ := Aside0.mk (Kd.R_elder' (by (with_reducible repeat (first|apply Kd.R_alloc|apply Kd.R_drewN|apply Kd.R_drew));exact HO456.out) (Kd.R_base ho0) hb)
          have n3_ := Aside0.mk (Kd.R_lower (Kd.R_new' (Kd.R_new' ho0 (Kd.R_lt (by (with_reducible repeat (first|apply Kd.R_alloc|apply Kd.R_drewN|apply Kd.R_drew));exact HO_3.out))) (Kd.R_lt (by (with_reducible repeat (first|apply Kd.R_alloc|apply Kd.R_drewN|apply Kd.R_drew));exact HO456.out))) (below_size (by repeat (first|(with_reducible first|exact HB.out|apply below_alloc|apply pw_below_drewN|apply below_drew1|refine below_set ?_ GE439.out)|exact HB.out))))
          have n4_ := Aside0.mk (blk_below (g := gb439) (o := .cells #[.int .u64 a0_0,.slice A0_1 l0_1.length c0_1,.slice (some ad453) l0_2.length c0_2,.int .u64 a0_3,.int .u64 a0_4] 39 (0,0)) (by (with_reducible repeat (first|refine blk_drewN ?_ _|refine blk_drew ?_|refine blk_alloc ?_ _));exact BK439.out) hb)
          have n5_ := Aside0.mk (below_step (by repeat (first|(with_reducible first|exact HB.out|apply below_alloc|apply pw_below_drewN|apply below_drew1|refine below_set ?_ GE439.out)|exact HB.out)) hb)
          clear HO_3
          clear HO_4
          clear HO456
          clear BK439
          clear HB
          have HO_3 := n0_
          have HO_4 := n1_
          have HO456 := n2_
          have HO460 := n3_
          have BK439 := n4_
          have HB := n5_
          clear n0_ n1_ n2_ n3_ n4_ n5_
          (try clear hb)
          (try clear hb2)
          (try clear hk)
          (try clear hi)
          (try clear ho0)
          obtain ⟨Ao39,co39,eo39⟩ := Kd.R_slice HO456.out
          (first|subst eo39|(injection eo39 with f1_ f2_ f3_;have f4_ := f1_.symm;have f5_ := f3_.symm;clear f1_ f2_ f3_;subst f4_;subst f5_))
          obtain ⟨Ao40,co40,eo40⟩ := Kd.R_slice HO460.out
          (first|subst eo40|(injection eo40 with f1_ f2_ f3_;have f4_ := f1_.symm;have f5_ := f3_.symm;clear f1_ f2_ f3_;subst f4_;subst f5_))
          refine hK.out _ _ ⟨(blk_cell BK439.out 0).trans rfl,(blk_cell BK439.out 1).trans rfl,(blk_cell BK439.out 2).trans rfl,(blk_cell BK439.out 3).trans rfl,(blk_cell BK439.out 4).trans rfl,((HB.out.cell (World.block_lt_of_cell? w _ hw453_0)).trans hw453_0),((HB.out.cell (World.block_lt_of_cell? w _ hw457_0)).trans hw457_0)⟩ (fun hHeld => ?_)
          clear hK K
          refine norm_ (a' := ?_) ?_ ?_
          rotate_left
          ·show Act.put _ (some 65) _ = _
           simp only [Act.put,List.setIfInBounds_toArray,List.set_cons_zero,List.set_cons_succ,i64_w,i32_w]
           rfl
          refine one_ (i := 19) (N := some 66) #[true,true,true,true,true,true,true,true,true,true,true,true,true,true,true,true,true,true,true,true,false] rfl rfl (one_of HT_.out (by kernel_rfl)) (by decide) (fun K hK => ?_)
          refine goes_ Try.func22 (by kernel_rfl) rfl #[.slice Ao39 t454.length co39,.slice Ao40 t458.length co40] (by rfl) rfl rfl (by (try simp only [List.map_toArray,List.map_cons,List.map_nil]);first|done|rfl|(simp only [List.length_drop,List.length_take];rfl)) ?_
          with_reducible refine (privityref06_SameList.calls k2 _ _ t454 _ _ t458 true _ ?side1 ?side2 ?side3 ?side4 A32.out).mono ?_
          (case side1 => repeat (first|exact (Kd.R_reads' HO456.out).2.2|(with_reducible refine Kd.C_alloc ?_ _)|(with_reducible refine Kd.C_drewN ?_ _)|(with_reducible refine Kd.C_drew ?_)))
          (case side2 => exact (Kd.R_reads' HO456.out).2.1)
          (case side3 => repeat (first|exact (Kd.R_reads' HO460.out).2.2|(with_reducible refine Kd.C_alloc ?_ _)|(with_reducible refine Kd.C_drewN ?_ _)|(with_reducible refine Kd.C_drew ?_)))
          (case side4 => exact (Kd.R_reads' HO460.out).2.1)
          rintro e w' ⟨rfl,⟨nd,rfl⟩⟩
          refine ⟨_,rfl,?_⟩
          refine hK.out _ _ ⟨(blk_cell BK439.out 0).trans rfl,(blk_cell BK439.out 1).trans rfl,(blk_cell BK439.out 2).trans rfl,(blk_cell BK439.out 3).trans rfl,(blk_cell BK439.out 4).trans rfl,((HB.out.cell (World.block_lt_of_cell? w _ hw453_0)).trans hw453_0),((HB.out.cell (World.block_lt_of_cell? w _ hw457_0)).trans hw457_0)⟩ (fun hHeld => ?_)
          clear hK K
          refine norm_ (a' := ?_) ?_ ?_
          rotate_left
          ·show Act.put _ (some 66) _ = _
           simp only [Act.put,List.setIfInBounds_toArray,List.set_cons_zero,List.set_cons_succ,i64_w,i32_w]
           rfl
          refine pure_ (i := 20) (N := some 67) (v := ?_) (a' := ?_) #[true,true,true,true,true,true,true,true,true,true,true,true,true,true,true,true,true,true,true,true,true] rfl rfl (any_of HT_.out (by kernel_rfl)) (fun _ _ _ h => h) (Or.inl ⟨by rfl,?_⟩) ?_ ?_
          rotate_left
          ·intro w'
           go_simp
           with_reducible rfl
          rotate_left
          ·simp only [Act.put,List.setIfInBounds_toArray,List.set_cons_zero,List.set_cons_succ,i64_w,i32_w]
           rfl
          refine done_ (done_of HT_.out (by kernel_rfl)) ?_
          try go_wp2
          go_roundg k2
          case measure => have := HJ5.out;have := HK2.out;omega
          case rel => exact ⟨(wrap64 (x5_2 + 1)),(by first|rfl|(simp;done)|(simp [*];done)),H',⟨by have := HJ5.out;have := HK2.out;omega⟩,⟨by (with_reducible repeat (first|apply Kd.R_alloc|apply Kd.R_drewN|apply Kd.R_drew));exact Kd.R_mono HO_3.out (fun _ hk => trivial)⟩,⟨by (with_reducible repeat (first|apply Kd.S_alloc|apply Kd.S_drewN|apply Kd.S_drew));exact Kd.S_mono HO_4.out (fun _ hk => hk.1.1)⟩,⟨by (with_reducible repeat (first|refine blk_drewN ?_ _|refine blk_drew ?_|refine blk_alloc ?_ _));exact BK439.out⟩,⟨by repeat (first|(with_reducible first|exact HB.out|apply below_alloc|apply pw_below_drewN|apply below_drew1|refine below_set ?_ GE439.out)|exact HB.out)⟩⟩
         ·replace c33 := Bool.eq_false_iff.mpr c33
          subst c33
          have H1 : (some false) = some r := by rw [if_neg (show ¬ (false = true) by decide)] at H;exact H
          clear H
          have H := H1
          clear H1
          exact absurd (Option.some.inj H) (by rw [HRT_.out];simp)
        ·rw [if_neg c29] at H
         exact absurd H (by simp)
       ·rw [if_neg c28] at H
        have c28b0 : decide (x5_2 < (l0_2.length : Int)) = false := decide_eq_false c28
        clear c28
        replace H := Option.bind_eq_some_iff.mp H
        obtain ⟨t462,A480,H⟩ := H
        replace H : ((bivariate_Translate.f k2 a0_0 t445 t462 t442).bind fun t463 => ((privitylaw10_awake.f k2).bind fun t466 => (if t466 = true then ((bivariate_Eval.f k2 a0_0 t445 0 0).bind fun t467 => ((bivariate_Eval.f k2 a0_0 l0_1 0 0).bind fun t468 => ((field_Add.f k2 a0_0 t468 a0_3).bind fun t469 => (if t467 = t469 then ((privityref06_Same.f k2 t463 l0_1).bind fun t470 => (some t470)) else (some false))))) else (some false)))) = some r := H
        have A48 := Aside0.mk A480
        clear A480
        replace H := Option.bind_eq_some_iff.mp H
        obtain ⟨t463,A490,H⟩ := H
        replace H : ((privitylaw10_awake.f k2).bind fun t466 => (if t466 = true then ((bivariate_Eval.f k2 a0_0 t445 0 0).bind fun t467 => ((bivariate_Eval.f k2 a0_0 l0_1 0 0).bind fun t468 => ((field_Add.f k2 a0_0 t468 a0_3).bind fun t469 => (if t467 = t469 then ((privityref06_Same.f k2 t463 l0_1).bind fun t470 => (some t470)) else (some false))))) else (some false))) = some r := H
        have A49 := Aside0.mk A490
        clear A490
        replace H := Option.bind_eq_some_iff.mp H
        obtain ⟨t466,A500,H⟩ := H
        replace H : (if t466 = true then ((bivariate_Eval.f k2 a0_0 t445 0 0).bind fun t467 => ((bivariate_Eval.f k2 a0_0 l0_1 0 0).bind fun t468 => ((field_Add.f k2 a0_0 t468 a0_3).bind fun t469 => (if t467 = t469 then ((privityref06_Same.f k2 t463 l0_1).bind fun t470 => (some t470)) else (some false))))) else (some false)) = some r := H
        have A50 := Aside0.mk A500
        clear A500
        by_cases c51 : t466 = true
        ·subst c51
         have H1 : ((bivariate_Eval.f k2 a0_0 t445 0 0).bind fun t467 => ((bivariate_Eval.f k2 a0_0 l0_1 0 0).bind fun t468 => ((field_Add.f k2 a0_0 t468 a0_3).bind fun t469 => (if t467 = t469 then ((privityref06_Same.f k2 t463 l0_1).bind fun t470 => (some t470)) else (some false))))) = some r := by rw [if_pos rfl] at H;exact H
         clear H
         have H := H1
         clear H1
         replace H := Option.bind_eq_some_iff.mp H
         obtain ⟨t467,A520,H⟩ := H
         replace H : ((bivariate_Eval.f k2 a0_0 l0_1 0 0).bind fun t468 => ((field_Add.f k2 a0_0 t468 a0_3).bind fun t469 => (if t467 = t469 then ((privityref06_Same.f k2 t463 l0_1).bind fun t470 => (some t470)) else (some false)))) = some r := H
         have A52 := Aside0.mk A520
         clear A520
         replace H := Option.bind_eq_some_iff.mp H
         obtain ⟨t468,A530,H⟩ := H
         replace H : ((field_Add.f k2 a0_0 t468 a0_3).bind fun t469 => (if t467 = t469 then ((privityref06_Same.f k2 t463 l0_1).bind fun t470 => (some t470)) else (some false))) = some r := H
         have A53 := Aside0.mk A530
         clear A530
         replace H := Option.bind_eq_some_iff.mp H
         obtain ⟨t469,A540,H⟩ := H
         replace H : (if t467 = t469 then ((privityref06_Same.f k2 t463 l0_1).bind fun t470 => (some t470)) else (some false)) = some r := H
         have A54 := Aside0.mk A540
         clear A540
         by_cases c55 : t467 = t469
         ·rw [if_pos c55] at H
          have c55b0 : (t467 == t469) = true := beq_iff_eq.mpr c55
          have c55b1 : (t467 != t469) = false := bne_eq_false_iff_eq.mpr c55
          clear c55
          replace H := Option.bind_eq_some_iff.mp H
          obtain ⟨t470,A560,H⟩ := H
          replace H : (some t470) = some r := H
          have A56 := Aside0.mk A560
          clear A560
          obtain rfl := Option.some.inj H
          have hcz57_0 : wr.cell? ⟨gb439,0,none⟩ = some (.int .u64 a0_0) := (blk_cell BK439.out 0).trans rfl
          have hcz57_1 : wr.cell? ⟨gb439,1,none⟩ = some (.slice A0_1 l0_1.length c0_1) := (blk_cell BK439.out 1).trans rfl
          have hcz57_2 : wr.cell? ⟨gb439,2,none⟩ = some (.slice A0_2 l0_2.length c0_2) := (blk_cell BK439.out 2).trans rfl
          have hcz57_3 : wr.cell? ⟨gb439,3,none⟩ = some (.int .u64 a0_3) := (blk_cell BK439.out 3).trans rfl
          have hcz57_4 : wr.cell? ⟨gb439,4,none⟩ = some (.int .u64 a0_4) := (blk_cell BK439.out 4).trans rfl
          have hfz57_0 := blk_frozen BK439.out 0
          have hfz57_1 := blk_frozen BK439.out 1
          have hfz57_2 := blk_frozen BK439.out 2
          have hfz57_3 := blk_frozen BK439.out 3
          have hfz57_4 := blk_frozen BK439.out 4
          try go_wp2
          have n0_ := Aside0.mk (Kd.R_drew HO_3.out)
          have n1_ := Aside0.mk (Kd.S_drew HO_4.out)
          have n2_ := Aside0.mk (blk_drew BK439.out)
          have n3_ := Aside0.mk (below_drew1 HB.out)
          clear HO_3
          clear HO_4
          clear BK439
          clear HB
          have HO_3 := n0_
          have HO_4 := n1_
          have BK439 := n2_
          have HB := n3_
          clear n0_ n1_ n2_ n3_
          refine start_ (n := 11) (S := fun w' => w'.cell? ⟨gb439,0,none⟩ = some (.int .u64 a0_0) ∧ w'.cell? ⟨gb439,1,none⟩ = some (.slice A0_1 l0_1.length c0_1) ∧ w'.cell? ⟨gb439,2,none⟩ = some (.slice A0_2 l0_2.length c0_2) ∧ w'.cell? ⟨gb439,3,none⟩ = some (.int .u64 a0_3) ∧ w'.cell? ⟨gb439,4,none⟩ = some (.int .u64 a0_4)) (ds := []) #[false,false,false,false,false,false,false,false,false,false,false] (by kernel_rfl) rfl rfl ⟨(blk_cell BK439.out 0).trans rfl,(blk_cell BK439.out 1).trans rfl,(blk_cell BK439.out 2).trans rfl,(blk_cell BK439.out 3).trans rfl,(blk_cell BK439.out 4).trans rfl⟩ (fun hHeld => ?_);refine with_tabW privitylaw10_BivariatePerfectSecrecy.tab12 privitylaw10_BivariatePerfectSecrecy.bits12 (fun HT_ HW_ => ?_)
          generalize wr.drew = w58 at HO_3 HO_4 BK439 HB hHeld ⊢
          refine pure_ (i := 0) (N := some 68) (v := ?_) (a' := ?_) #[true,false,false,false,false,false,false,false,false,false,false] rfl rfl (any_of HT_.out (by kernel_rfl)) (fun _ _ _ h => h) (Or.inl ⟨by rfl,?_⟩) ?_ ?_
          rotate_left
          ·intro w'
           go_simp
           with_reducible rfl
          rotate_left
          ·simp only [Act.put,List.setIfInBounds_toArray,List.set_cons_zero,List.set_cons_succ,i64_w,i32_w]
           rfl
          refine pure_ (i := 2) (N := some 70) (v := ?_) (a' := ?_) #[true,false,true,false,false,false,false,false,false,false,false] rfl rfl (any_of HT_.out (by kernel_rfl)) (fun _ _ _ h => h) (Or.inl ⟨by rfl,?_⟩) ?_ ?_
          rotate_left
          ·intro w'
           go_simp
           with_reducible rfl
          rotate_left
          ·simp only [Act.put,List.setIfInBounds_toArray,List.set_cons_zero,List.set_cons_succ,i64_w,i32_w]
           rfl
          refine pure_ (i := 3) (N := some 71) (v := ?_) (a' := ?_) #[true,false,true,true,false,false,false,false,false,false,false] rfl rfl (any_of HT_.out (by kernel_rfl)) (fun _ _ _ h => h) (Or.inl ⟨by rfl,?_⟩) ?_ ?_
          rotate_left
          ·intro w'
           go_simp
           with_reducible rfl
          rotate_left
          ·simp only [Act.put,List.setIfInBounds_toArray,List.set_cons_zero,List.set_cons_succ,i64_w,i32_w]
           rfl
          refine pure_ (i := 5) (N := some 73) (v := ?_) (a' := ?_) #[true,false,true,true,false,true,false,false,false,false,false] rfl rfl (any_of HT_.out (by kernel_rfl)) (fun _ _ _ h => h) (Or.inl ⟨by rfl,?_⟩) ?_ ?_
          rotate_left
          ·intro w'
           go_simp
           with_reducible rfl
          rotate_left
          ·simp only [Act.put,List.setIfInBounds_toArray,List.set_cons_zero,List.set_cons_succ,i64_w,i32_w]
           rfl
          refine pure_ (i := 8) (N := some 76) (v := ?_) (a' := ?_) #[true,false,true,true,false,true,false,false,true,false,false] rfl rfl (any_of HT_.out (by kernel_rfl)) (fun _ _ _ h => h) (Or.inl ⟨by rfl,?_⟩) ?_ ?_
          rotate_left
          ·intro w'
           go_simp
           with_reducible rfl
          rotate_left
          ·simp only [Act.put,List.setIfInBounds_toArray,List.set_cons_zero,List.set_cons_succ,i64_w,i32_w]
           rfl
          refine take_ (i := 1) (N := some 69) (v := ?_) (a' := ?_) #[true,true,true,true,false,true,false,false,true,false,false] rfl rfl (take_ofW HT_.out HW_.out (by kernel_rfl)) (fun _ _ _ h => h) (Or.inl ⟨by rfl,?_⟩) hHeld ?_ ?_
          rotate_left
          ·rintro w' ⟨s0,s1,s2,s3,s4⟩
           go_simp
           with_reducible rfl
          rotate_left
          ·simp only [Act.put,List.setIfInBounds_toArray,List.set_cons_zero,List.set_cons_succ,i64_w,i32_w]
           rfl
          refine take_ (i := 4) (N := some 72) (v := ?_) (a' := ?_) #[true,true,true,true,true,true,false,false,true,false,false] rfl rfl (take_ofW HT_.out HW_.out (by kernel_rfl)) (fun _ _ _ h => h) (Or.inl ⟨by rfl,?_⟩) hHeld ?_ ?_
          rotate_left
          ·rintro w' ⟨s0,s1,s2,s3,s4⟩
           go_simp
           with_reducible rfl
          rotate_left
          ·simp only [Act.put,List.setIfInBounds_toArray,List.set_cons_zero,List.set_cons_succ,i64_w,i32_w]
           rfl
          refine take_ (i := 6) (N := some 74) (v := ?_) (a' := ?_) #[true,true,true,true,true,true,true,false,true,false,false] rfl rfl (take_ofW HT_.out HW_.out (by kernel_rfl)) (fun _ _ _ h => h) (Or.inl ⟨by rfl,?_⟩) hHeld ?_ ?_
          rotate_left
          ·rintro w' ⟨s0,s1,s2,s3,s4⟩
           go_simp
           with_reducible rfl
          rotate_left
          ·simp only [Act.put,List.setIfInBounds_toArray,List.set_cons_zero,List.set_cons_succ,i64_w,i32_w]
           rfl
          refine one_ (i := 7) (N := some 75) #[true,true,true,true,true,true,true,true,true,false,false] rfl rfl (one_of HT_.out (by kernel_rfl)) (by decide) (fun K hK => ?_)
          refine goes_ Try.func28 (by kernel_rfl) rfl #[.int .u64 a0_0,.int .u64 a0_3] (by rfl) rfl rfl (by (try simp only [List.map_toArray,List.map_cons,List.map_nil]);first|done|rfl|(simp only [List.length_drop,List.length_take];rfl)) ?_
          with_reducible refine (field_Neg.calls a0_0 a0_3 t462 _ A48.out).mono ?_
          rintro e w' ⟨rfl,⟨nd,rfl⟩⟩
          refine ⟨_,rfl,?_⟩
          obtain ⟨Ao59,co59,eo59⟩ := Kd.S_slice HO_4.out
          (first|subst eo59|(injection eo59 with f1_ f2_ f3_;have f4_ := f1_.symm;have f5_ := f3_.symm;clear f1_ f2_ f3_;subst f4_;subst f5_))
          refine hK.out _ _ ⟨(blk_cell BK439.out 0).trans rfl,(blk_cell BK439.out 1).trans rfl,(blk_cell BK439.out 2).trans rfl,(blk_cell BK439.out 3).trans rfl,(blk_cell BK439.out 4).trans rfl⟩ (fun hHeld => ?_)
          clear hK K
          refine norm_ (a' := ?_) ?_ ?_
          rotate_left
          ·show Act.put _ (some 75) _ = _
           simp only [Act.put,List.setIfInBounds_toArray,List.set_cons_zero,List.set_cons_succ,i64_w,i32_w]
           rfl
          refine one_ (i := 9) (N := some 77) #[true,true,true,true,true,true,true,true,true,true,false] rfl rfl (one_of HT_.out (by kernel_rfl)) (by decide) (fun K hK => ?_)
          refine goes_ Try.func26 (by kernel_rfl) rfl #[.int .u64 a0_0,.slice Ao59 t445.length co59,.int .u64 t462,.slice Ao13 t442.length co13] (by rfl) rfl rfl (by (try simp only [List.map_toArray,List.map_cons,List.map_nil]);first|done|rfl|(simp only [List.length_drop,List.length_take];rfl)) ?_
          with_reducible refine (bivariate_Translate.calls k2 a0_0 _ _ t445 t462 _ _ t442 t463 _ ?side1 ?side2 ?side3 ?side4 A49.out).mono ?_
          (case side1 => repeat (first|exact (Kd.S_reads' HO_4.out).2.2|(with_reducible refine Kd.C_alloc ?_ _)|(with_reducible refine Kd.C_drewN ?_ _)|(with_reducible refine Kd.C_drew ?_)))
          (case side2 => exact (Kd.S_reads' HO_4.out).2.1)
          (case side3 => repeat (first|exact (Kd.R_reads' HO_3.out).2.2|(with_reducible refine Kd.C_alloc ?_ _)|(with_reducible refine Kd.C_drewN ?_ _)|(with_reducible refine Kd.C_drew ?_)))
          (case side4 => exact (Kd.R_reads' HO_3.out).2.1)
          rintro e w60 ⟨v464,rfl,ho0,hb⟩
          refine ⟨_,rfl,?_⟩
          have n0_ := Aside0.mk (Kd.R_below (by (with_reducible repeat (first|apply Kd.R_alloc|apply Kd.R_drewN|apply Kd.R_drew));exact HO_3.out) hb)
          have n1_ := Aside0.mk (Kd.S_elder' (by (with_reducible repeat (first|apply Kd.S_alloc|apply Kd.S_drewN|apply Kd.S_drew));exact HO_4.out) (Kd.S_base ho0) hb)
          have n2_ := Aside0.mk (Kd.S_lower (Kd.S_new' (Kd.S_new' ho0 (Kd.R_lt (by (with_reducible repeat (first|apply Kd.R_alloc|apply Kd.R_drewN|apply Kd.R_drew));exact HO_3.out))) (Kd.S_lt (by (with_reducible repeat (first|apply Kd.S_alloc|apply Kd.S_drewN|apply Kd.S_drew));exact HO_4.out))) (below_size (by repeat (first|(with_reducible first|exact HB.out|apply below_alloc|apply pw_below_drewN|apply below_drew1|refine below_set ?_ GE439.out)|exact HB.out))))
          have n3_ := Aside0.mk (blk_below (g := gb439) (o := .cells #[.int .u64 a0_0,.slice A0_1 l0_1.length c0_1,.slice A0_2 l0_2.length c0_2,.int .u64 a0_3,.int .u64 a0_4] 39 (0,0)) (by (with_reducible repeat (first|refine blk_drewN ?_ _|refine blk_drew ?_|refine blk_alloc ?_ _));exact BK439.out) hb)
          have n4_ := Aside0.mk (below_step (by repeat (first|(with_reducible first|exact HB.out|apply below_alloc|apply pw_below_drewN|apply below_drew1|refine below_set ?_ GE439.out)|exact HB.out)) hb)
          clear HO_3
          clear HO_4
          clear BK439
          clear HB
          have HO_3 := n0_
          have HO_4 := n1_
          have HO465 := n2_
          have BK439 := n3_
          have HB := n4_
          clear n0_ n1_ n2_ n3_ n4_
          (try clear hb)
          (try clear hb2)
          (try clear hk)
          (try clear hi)
          (try clear ho0)
          refine hK.out _ _ ⟨(blk_cell BK439.out 0).trans rfl,(blk_cell BK439.out 1).trans rfl,(blk_cell BK439.out 2).trans rfl,(blk_cell BK439.out 3).trans rfl,(blk_cell BK439.out 4).trans rfl⟩ (fun hHeld => ?_)
          clear hK K
          refine norm_ (a' := ?_) ?_ ?_
          rotate_left
          ·show Act.put _ (some 77) _ = _
           simp only [Act.put,List.setIfInBounds_toArray,List.set_cons_zero,List.set_cons_succ,i64_w,i32_w]
           rfl
          refine pure_ (i := 10) (N := some 6) (v := ?_) (a' := ?_) #[true,true,true,true,true,true,true,true,true,true,true] rfl rfl (any_of HT_.out (by kernel_rfl)) (fun _ _ _ h => h) (Or.inl ⟨by rfl,?_⟩) ?_ ?_
          rotate_left
          ·intro w'
           go_simp
           with_reducible rfl
          rotate_left
          ·simp only [Act.put,List.setIfInBounds_toArray,List.set_cons_zero,List.set_cons_succ,i64_w,i32_w]
           rfl
          refine done_ (done_of HT_.out (by kernel_rfl)) ?_
          try go_wp2
          have n0_ := Aside0.mk (Kd.R_drew HO_3.out)
          have n1_ := Aside0.mk (Kd.S_drew HO_4.out)
          have n2_ := Aside0.mk (Kd.S_drew HO465.out)
          have n3_ := Aside0.mk (blk_drew BK439.out)
          have n4_ := Aside0.mk (below_drew1 HB.out)
          clear HO_3
          clear HO_4
          clear HO465
          clear BK439
          clear HB
          have HO_3 := n0_
          have HO_4 := n1_
          have HO465 := n2_
          have BK439 := n3_
          have HB := n4_
          clear n0_ n1_ n2_ n3_ n4_
          refine start_ (n := 25) (S := fun w' => w'.cell? ⟨gb439,0,none⟩ = some (.int .u64 a0_0) ∧ w'.cell? ⟨gb439,1,none⟩ = some (.slice A0_1 l0_1.length c0_1) ∧ w'.cell? ⟨gb439,2,none⟩ = some (.slice A0_2 l0_2.length c0_2) ∧ w'.cell? ⟨gb439,3,none⟩ = some (.int .u64 a0_3) ∧ w'.cell? ⟨gb439,4,none⟩ = some (.int .u64 a0_4)) (ds := []) #[false,false,false,false,false,false,false,false,false,false,false,false,false,false,false,false,false,false,false,false,false,false,false,false,false] (by kernel_rfl) rfl rfl ⟨(blk_cell BK439.out 0).trans rfl,(blk_cell BK439.out 1).trans rfl,(blk_cell BK439.out 2).trans rfl,(blk_cell BK439.out 3).trans rfl,(blk_cell BK439.out 4).trans rfl⟩ (fun hHeld => ?_);refine with_tabW privitylaw10_BivariatePerfectSecrecy.tab13 privitylaw10_BivariatePerfectSecrecy.bits13 (fun HT_ HW_ => ?_)
          generalize w60.drew = w61 at HO_3 HO_4 HO465 BK439 HB hHeld ⊢
          refine one_ (i := 0) (N := some 78) #[true,false,false,false,false,false,false,false,false,false,false,false,false,false,false,false,false,false,false,false,false,false,false,false,false] rfl rfl (one_of HT_.out (by kernel_rfl)) (by decide) (fun K hK => ?_)
          refine goes_ Try.func13 (by kernel_rfl) rfl #[] (by rfl) rfl rfl (by (try simp only [List.map_toArray,List.map_cons,List.map_nil]);first|done|rfl|(simp only [List.length_drop,List.length_take];rfl)) ?_
          with_reducible refine (privitylaw10_awake.calls k2  true _ A50.out).mono ?_
          rintro e w62 ⟨rfl,hb⟩
          refine ⟨_,rfl,?_⟩
          have n0_ := Aside0.mk (Kd.R_below (by (with_reducible repeat (first|apply Kd.R_alloc|apply Kd.R_drewN|apply Kd.R_drew));exact HO_3.out) hb)
          have n1_ := Aside0.mk (Kd.S_below (by (with_reducible repeat (first|apply Kd.S_alloc|apply Kd.S_drewN|apply Kd.S_drew));exact HO_4.out) hb)
          have n2_ := Aside0.mk (Kd.S_below (by (with_reducible repeat (first|apply Kd.S_alloc|apply Kd.S_drewN|apply Kd.S_drew));exact HO465.out) hb)
          have n3_ := Aside0.mk (blk_below (g := gb439) (o := .cells #[.int .u64 a0_0,.slice A0_1 l0_1.length c0_1,.slice A0_2 l0_2.length c0_2,.int .u64 a0_3,.int .u64 a0_4] 39 (0,0)) (by (with_reducible repeat (first|refine blk_drewN ?_ _|refine blk_drew ?_|refine blk_alloc ?_ _));exact BK439.out) hb)
          have n4_ := Aside0.mk (below_step (by repeat (first|(with_reducible first|exact HB.out|apply below_alloc|apply pw_below_drewN|apply below_drew1|refine below_set ?_ GE439.out)|exact HB.out)) hb)
          clear HO_3
          clear HO_4
          clear HO465
          clear BK439
          clear HB
          have HO_3 := n0_
          have HO_4 := n1_
          have HO465 := n2_
          have BK439 := n3_
          have HB := n4_
          clear n0_ n1_ n2_ n3_ n4_
          (try clear hb)
          (try clear hb2)
          (try clear hk)
          (try clear hi)
          refine hK.out _ _ ⟨(blk_cell BK439.out 0).trans rfl,(blk_cell BK439.out 1).trans rfl,(blk_cell BK439.out 2).trans rfl,(blk_cell BK439.out 3).trans rfl,(blk_cell BK439.out 4).trans rfl⟩ (fun hHeld => ?_)
          clear hK K
          refine norm_ (a' := ?_) ?_ ?_
          rotate_left
          ·show Act.put _ (some 78) _ = _
           simp only [Act.put,List.setIfInBounds_toArray,List.set_cons_zero,List.set_cons_succ,i64_w,i32_w]
           rfl
          refine pure_ (i := 1) (N := some 79) (v := ?_) (a' := ?_) #[true,true,false,false,false,false,false,false,false,false,false,false,false,false,false,false,false,false,false,false,false,false,false,false,false] rfl rfl (any_of HT_.out (by kernel_rfl)) (fun _ _ _ h => h) (Or.inl ⟨by rfl,?_⟩) ?_ ?_
          rotate_left
          ·intro w'
           go_simp
           with_reducible rfl
          rotate_left
          ·simp only [Act.put,List.setIfInBounds_toArray,List.set_cons_zero,List.set_cons_succ,i64_w,i32_w]
           rfl
          refine pure_ (i := 2) (N := some 80) (v := ?_) (a' := ?_) #[true,true,true,false,false,false,false,false,false,false,false,false,false,false,false,false,false,false,false,false,false,false,false,false,false] rfl rfl (any_of HT_.out (by kernel_rfl)) (fun _ _ _ h => h) (Or.inl ⟨by rfl,?_⟩) ?_ ?_
          rotate_left
          ·intro w'
           go_simp
           with_reducible rfl
          rotate_left
          ·simp only [Act.put,List.setIfInBounds_toArray,List.set_cons_zero,List.set_cons_succ,i64_w,i32_w]
           rfl
          refine pure_ (i := 4) (N := some 82) (v := ?_) (a' := ?_) #[true,true,true,false,true,false,false,false,false,false,false,false,false,false,false,false,false,false,false,false,false,false,false,false,false] rfl rfl (any_of HT_.out (by kernel_rfl)) (fun _ _ _ h => h) (Or.inl ⟨by rfl,?_⟩) ?_ ?_
          rotate_left
          ·intro w'
           go_simp
           with_reducible rfl
          rotate_left
          ·simp only [Act.put,List.setIfInBounds_toArray,List.set_cons_zero,List.set_cons_succ,i64_w,i32_w]
           rfl
          refine pure_ (i := 6) (N := some 84) (v := ?_) (a' := ?_) #[true,true,true,false,true,false,true,false,false,false,false,false,false,false,false,false,false,false,false,false,false,false,false,false,false] rfl rfl (any_of HT_.out (by kernel_rfl)) (fun _ _ _ h => h) (Or.inl ⟨by rfl,?_⟩) ?_ ?_
          rotate_left
          ·intro w'
           go_simp
           with_reducible rfl
          rotate_left
          ·simp only [Act.put,List.setIfInBounds_toArray,List.set_cons_zero,List.set_cons_succ,i64_w,i32_w]
           rfl
          refine pure_ (i := 8) (N := some 86) (v := ?_) (a' := ?_) #[true,true,true,false,true,false,true,false,true,false,false,false,false,false,false,false,false,false,false,false,false,false,false,false,false] rfl rfl (any_of HT_.out (by kernel_rfl)) (fun _ _ _ h => h) (Or.inl ⟨by rfl,?_⟩) ?_ ?_
          rotate_left
          ·intro w'
           go_simp
           with_reducible rfl
          rotate_left
          ·simp only [Act.put,List.setIfInBounds_toArray,List.set_cons_zero,List.set_cons_succ,i64_w,i32_w]
           rfl
          refine pure_ (i := 10) (N := some 88) (v := ?_) (a' := ?_) #[true,true,true,false,true,false,true,false,true,false,true,false,false,false,false,false,false,false,false,false,false,false,false,false,false] rfl rfl (any_of HT_.out (by kernel_rfl)) (fun _ _ _ h => h) (Or.inl ⟨by rfl,?_⟩) ?_ ?_
          rotate_left
          ·intro w'
           go_simp
           with_reducible rfl
          rotate_left
          ·simp only [Act.put,List.setIfInBounds_toArray,List.set_cons_zero,List.set_cons_succ,i64_w,i32_w]
           rfl
          refine pure_ (i := 13) (N := some 91) (v := ?_) (a' := ?_) #[true,true,true,false,true,false,true,false,true,false,true,false,false,true,false,false,false,false,false,false,false,false,false,false,false] rfl rfl (any_of HT_.out (by kernel_rfl)) (fun _ _ _ h => h) (Or.inl ⟨by rfl,?_⟩) ?_ ?_
          rotate_left
          ·intro w'
           go_simp
           with_reducible rfl
          rotate_left
          ·simp only [Act.put,List.setIfInBounds_toArray,List.set_cons_zero,List.set_cons_succ,i64_w,i32_w]
           rfl
          refine take_ (i := 3) (N := some 81) (v := ?_) (a' := ?_) #[true,true,true,true,true,false,true,false,true,false,true,false,false,true,false,false,false,false,false,false,false,false,false,false,false] rfl rfl (take_ofW HT_.out HW_.out (by kernel_rfl)) (fun _ _ _ h => h) (Or.inl ⟨by rfl,?_⟩) hHeld ?_ ?_
          rotate_left
          ·rintro w' ⟨s0,s1,s2,s3,s4⟩
           go_simp
           with_reducible rfl
          rotate_left
          ·simp only [Act.put,List.setIfInBounds_toArray,List.set_cons_zero,List.set_cons_succ,i64_w,i32_w]
           rfl
          refine take_ (i := 7) (N := some 85) (v := ?_) (a' := ?_) #[true,true,true,true,true,false,true,true,true,false,true,false,false,true,false,false,false,false,false,false,false,false,false,false,false] rfl rfl (take_ofW HT_.out HW_.out (by kernel_rfl)) (fun _ _ _ h => h) (Or.inl ⟨by rfl,?_⟩) hHeld ?_ ?_
          rotate_left
          ·rintro w' ⟨s0,s1,s2,s3,s4⟩
           go_simp
           with_reducible rfl
          rotate_left
          ·simp only [Act.put,List.setIfInBounds_toArray,List.set_cons_zero,List.set_cons_succ,i64_w,i32_w]
           rfl
          refine take_ (i := 9) (N := some 87) (v := ?_) (a' := ?_) #[true,true,true,true,true,false,true,true,true,true,true,false,false,true,false,false,false,false,false,false,false,false,false,false,false] rfl rfl (take_ofW HT_.out HW_.out (by kernel_rfl)) (fun _ _ _ h => h) (Or.inl ⟨by rfl,?_⟩) hHeld ?_ ?_
          rotate_left
          ·rintro w' ⟨s0,s1,s2,s3,s4⟩
           go_simp
           with_reducible rfl
          rotate_left
          ·simp only [Act.put,List.setIfInBounds_toArray,List.set_cons_zero,List.set_cons_succ,i64_w,i32_w]
           rfl
          refine take_ (i := 11) (N := some 89) (v := ?_) (a' := ?_) #[true,true,true,true,true,false,true,true,true,true,true,true,false,true,false,false,false,false,false,false,false,false,false,false,false] rfl rfl (take_ofW HT_.out HW_.out (by kernel_rfl)) (fun _ _ _ h => h) (Or.inl ⟨by rfl,?_⟩) hHeld ?_ ?_
          rotate_left
          ·rintro w' ⟨s0,s1,s2,s3,s4⟩
           go_simp
           with_reducible rfl
          rotate_left
          ·simp only [Act.put,List.setIfInBounds_toArray,List.set_cons_zero,List.set_cons_succ,i64_w,i32_w]
           rfl
          refine take_ (i := 14) (N := some 92) (v := ?_) (a' := ?_) #[true,true,true,true,true,false,true,true,true,true,true,true,false,true,true,false,false,false,false,false,false,false,false,false,false] rfl rfl (take_ofW HT_.out HW_.out (by kernel_rfl)) (fun _ _ _ h => h) (Or.inl ⟨by rfl,?_⟩) hHeld ?_ ?_
          rotate_left
          ·rintro w' ⟨s0,s1,s2,s3,s4⟩
           go_simp
           with_reducible rfl
          rotate_left
          ·simp only [Act.put,List.setIfInBounds_toArray,List.set_cons_zero,List.set_cons_succ,i64_w,i32_w]
           rfl
          refine one_ (i := 5) (N := some 83) #[true,true,true,true,true,true,true,true,true,true,true,true,false,true,true,false,false,false,false,false,false,false,false,false,false] rfl rfl (one_of HT_.out (by kernel_rfl)) (by decide) (fun K hK => ?_)
          refine goes_ Try.func29 (by kernel_rfl) rfl #[.int .u64 a0_0,.slice Ao59 t445.length co59,.int .u64 0,.int .u64 0] (by rfl) rfl rfl (by (try simp only [List.map_toArray,List.map_cons,List.map_nil]);first|done|rfl|(simp only [List.length_drop,List.length_take];rfl)) ?_
          with_reducible refine (bivariate_Eval.calls k2 a0_0 _ _ t445 0 0 t467 _ ?side1 ?side2 A52.out).mono ?_
          (case side1 => repeat (first|exact (Kd.S_reads' HO_4.out).2.2|(with_reducible refine Kd.C_alloc ?_ _)|(with_reducible refine Kd.C_drewN ?_ _)|(with_reducible refine Kd.C_drew ?_)))
          (case side2 => exact (Kd.S_reads' HO_4.out).2.1)
          rintro e w63 ⟨rfl,hb⟩
          refine ⟨_,rfl,?_⟩
          have n0_ := Aside0.mk (Kd.R_below (by (with_reducible repeat (first|apply Kd.R_alloc|apply Kd.R_drewN|apply Kd.R_drew));exact HO_3.out) hb)
          have n1_ := Aside0.mk (Kd.S_below (by (with_reducible repeat (first|apply Kd.S_alloc|apply Kd.S_drewN|apply Kd.S_drew));exact HO_4.out) hb)
          have n2_ := Aside0.mk (Kd.S_below (by (with_reducible repeat (first|apply Kd.S_alloc|apply Kd.S_drewN|apply Kd.S_drew));exact HO465.out) hb)
          have n3_ := Aside0.mk (blk_below (g := gb439) (o := .cells #[.int .u64 a0_0,.slice A0_1 l0_1.length c0_1,.slice A0_2 l0_2.length c0_2,.int .u64 a0_3,.int .u64 a0_4] 39 (0,0)) (by (with_reducible repeat (first|refine blk_drewN ?_ _|refine blk_drew ?_|refine blk_alloc ?_ _));exact BK439.out) hb)
          have n4_ := Aside0.mk (below_step (by repeat (first|(with_reducible first|exact HB.out|apply below_alloc|apply pw_below_drewN|apply below_drew1|refine below_set ?_ GE439.out)|exact HB.out)) hb)
          clear HO_3
          clear HO_4
          clear HO465
          clear BK439
          clear HB
          have HO_3 := n0_
          have HO_4 := n1_
          have HO465 := n2_
          have BK439 := n3_
          have HB := n4_
          clear n0_ n1_ n2_ n3_ n4_
          (try clear hb)
          (try clear hb2)
          (try clear hk)
          (try clear hi)
          refine hK.out _ _ ⟨(blk_cell BK439.out 0).trans rfl,(blk_cell BK439.out 1).trans rfl,(blk_cell BK439.out 2).trans rfl,(blk_cell BK439.out 3).trans rfl,(blk_cell BK439.out 4).trans rfl⟩ (fun hHeld => ?_)
          clear hK K
          refine norm_ (a' := ?_) ?_ ?_
          rotate_left
          ·show Act.put _ (some 83) _ = _
           simp only [Act.put,List.setIfInBounds_toArray,List.set_cons_zero,List.set_cons_succ,i64_w,i32_w]
           rfl
          refine one_ (i := 12) (N := some 90) #[true,true,true,true,true,true,true,true,true,true,true,true,true,true,true,false,false,false,false,false,false,false,false,false,false] rfl rfl (one_of HT_.out (by kernel_rfl)) (by decide) (fun K hK => ?_)
          refine goes_ Try.func29 (by kernel_rfl) rfl #[.int .u64 a0_0,.slice A0_1 l0_1.length c0_1,.int .u64 0,.int .u64 0] (by rfl) rfl rfl (by (try simp only [List.map_toArray,List.map_cons,List.map_nil]);first|done|rfl|(simp only [List.length_drop,List.length_take];rfl)) ?_
          with_reducible refine (bivariate_Eval.calls k2 a0_0 _ _ l0_1 0 0 t468 _ ?side1 ?side2 A53.out).mono ?_
          (case side1 => repeat (first|exact (Kd.C_below HR0_1.out HB.out)|(with_reducible refine Kd.C_alloc ?_ _)|(with_reducible refine Kd.C_drewN ?_ _)|(with_reducible refine Kd.C_drew ?_)))
          (case side2 => exact HC0_1.out)
          rintro e w64 ⟨rfl,hb⟩
          refine ⟨_,rfl,?_⟩
          have n0_ := Aside0.mk (Kd.R_below (by (with_reducible repeat (first|apply Kd.R_alloc|apply Kd.R_drewN|apply Kd.R_drew));exact HO_3.out) hb)
          have n1_ := Aside0.mk (Kd.S_below (by (with_reducible repeat (first|apply Kd.S_alloc|apply Kd.S_drewN|apply Kd.S_drew));exact HO_4.out) hb)
          have n2_ := Aside0.mk (Kd.S_below (by (with_reducible repeat (first|apply Kd.S_alloc|apply Kd.S_drewN|apply Kd.S_drew));exact HO465.out) hb)
          have n3_ := Aside0.mk (blk_below (g := gb439) (o := .cells #[.int .u64 a0_0,.slice A0_1 l0_1.length c0_1,.slice A0_2 l0_2.length c0_2,.int .u64 a0_3,.int .u64 a0_4] 39 (0,0)) (by (with_reducible repeat (first|refine blk_drewN ?_ _|refine blk_drew ?_|refine blk_alloc ?_ _));exact BK439.out) hb)
          have n4_ := Aside0.mk (below_step (by repeat (first|(with_reducible first|exact HB.out|apply below_alloc|apply pw_below_drewN|apply below_drew1|refine below_set ?_ GE439.out)|exact HB.out)) hb)
          clear HO_3
          clear HO_4
          clear HO465
          clear BK439
          clear HB
          have HO_3 := n0_
          have HO_4 := n1_
          have HO465 := n2_
          have BK439 := n3_
          have HB := n4_
          clear n0_ n1_ n2_ n3_ n4_
          (try clear hb)
          (try clear hb2)
          (try clear hk)
          (try clear hi)
          refine hK.out _ _ ⟨(blk_cell BK439.out 0).trans rfl,(blk_cell BK439.out 1).trans rfl,(blk_cell BK439.out 2).trans rfl,(blk_cell BK439.out 3).trans rfl,(blk_cell BK439.out 4).trans rfl⟩ (fun hHeld => ?_)
          clear hK K
          refine norm_ (a' := ?_) ?_ ?_
          rotate_left
          ·show Act.put _ (some 90) _ = _
           simp only [Act.put,List.setIfInBounds_toArray,List.set_cons_zero,List.set_cons_succ,i64_w,i32_w]
           rfl
          refine one_ (i := 15) (N := some 93) #[true,true,true,true,true,true,true,true,true,true,true,true,true,true,true,true,false,false,false,false,false,false,false,false,false] rfl rfl (one_of HT_.out (by kernel_rfl)) (by decide) (fun K hK => ?_)
          refine goes_ Try.func30 (by kernel_rfl) rfl #[.int .u64 a0_0,.int .u64 t468,.int .u64 a0_3] (by rfl) rfl rfl (by (try simp only [List.map_toArray,List.map_cons,List.map_nil]);first|done|rfl|(simp only [List.length_drop,List.length_take];rfl)) ?_
          with_reducible refine (field_Add.calls k2 a0_0 t468 a0_3 t469 _ A54.out).mono ?_
          rintro e w' ⟨rfl,⟨nd,rfl⟩⟩
          refine ⟨_,rfl,?_⟩
          obtain ⟨Ao65,co65,eo65⟩ := Kd.S_slice HO465.out
          (first|subst eo65|(injection eo65 with f1_ f2_ f3_;have f4_ := f1_.symm;have f5_ := f3_.symm;clear f1_ f2_ f3_;subst f4_;subst f5_))
          refine hK.out _ _ ⟨(blk_cell BK439.out 0).trans rfl,(blk_cell BK439.out 1).trans rfl,(blk_cell BK439.out 2).trans rfl,(blk_cell BK439.out 3).trans rfl,(blk_cell BK439.out 4).trans rfl⟩ (fun hHeld => ?_)
          clear hK K
          refine norm_ (a' := ?_) ?_ ?_
          rotate_left
          ·show Act.put _ (some 93) _ = _
           simp only [Act.put,List.setIfInBounds_toArray,List.set_cons_zero,List.set_cons_succ,i64_w,i32_w]
           rfl
          refine pure_ (i := 16) (N := some 94) (v := ?_) (a' := ?_) #[true,true,true,true,true,true,true,true,true,true,true,true,true,true,true,true,true,false,false,false,false,false,false,false,false] rfl rfl (any_of HT_.out (by kernel_rfl)) (fun _ _ _ h => h) (Or.inl ⟨by rfl,?_⟩) ?_ ?_
          rotate_left
          ·intro w'
           go_simp
           with_reducible rfl
          rotate_left
          ·simp only [Act.put,List.setIfInBounds_toArray,List.set_cons_zero,List.set_cons_succ,i64_w,i32_w]
           rfl
          refine pure_ (i := 17) (N := some 95) (v := ?_) (a' := ?_) #[true,true,true,true,true,true,true,true,true,true,true,true,true,true,true,true,true,true,false,false,false,false,false,false,false] rfl rfl (any_of HT_.out (by kernel_rfl)) (fun _ _ _ h => h) (Or.inl ⟨by rfl,?_⟩) ?_ ?_
          rotate_left
          ·intro w'
           go_simp
           with_reducible rfl
          rotate_left
          ·simp only [Act.put,List.setIfInBounds_toArray,List.set_cons_zero,List.set_cons_succ,i64_w,i32_w]
           rfl
          refine pure_ (i := 18) (N := some 96) (v := ?_) (a' := ?_) #[true,true,true,true,true,true,true,true,true,true,true,true,true,true,true,true,true,true,true,false,false,false,false,false,false] rfl rfl (any_of HT_.out (by kernel_rfl)) (fun _ _ _ h => h) (Or.inl ⟨by rfl,?_⟩) ?_ ?_
          rotate_left
          ·intro w'
           go_simp
           with_reducible rfl
          rotate_left
          ·simp only [Act.put,List.setIfInBounds_toArray,List.set_cons_zero,List.set_cons_succ,i64_w,i32_w]
           rfl
          refine pure_ (i := 19) (N := some 97) (v := ?_) (a' := ?_) #[true,true,true,true,true,true,true,true,true,true,true,true,true,true,true,true,true,true,true,true,false,false,false,false,false] rfl rfl (any_of HT_.out (by kernel_rfl)) (fun _ _ _ h => h) (Or.inl ⟨by rfl,?_⟩) ?_ ?_
          rotate_left
          ·intro w'
           go_simp
           with_reducible rfl
          rotate_left
          ·simp only [Act.put,List.setIfInBounds_toArray,List.set_cons_zero,List.set_cons_succ,i64_w,i32_w]
           rfl
          refine pure_ (i := 20) (N := some 98) (v := ?_) (a' := ?_) #[true,true,true,true,true,true,true,true,true,true,true,true,true,true,true,true,true,true,true,true,true,false,false,false,false] rfl rfl (any_of HT_.out (by kernel_rfl)) (fun _ _ _ h => h) (Or.inl ⟨by rfl,?_⟩) ?_ ?_
          rotate_left
          ·intro w'
           go_simp
           with_reducible rfl
          rotate_left
          ·simp only [Act.put,List.setIfInBounds_toArray,List.set_cons_zero,List.set_cons_succ,i64_w,i32_w]
           rfl
          refine take_ (i := 21) (N := some 99) (v := ?_) (a' := ?_) #[true,true,true,true,true,true,true,true,true,true,true,true,true,true,true,true,true,true,true,true,true,true,false,false,false] rfl rfl (take_ofW HT_.out HW_.out (by kernel_rfl)) (fun _ _ _ h => h) (Or.inl ⟨by rfl,?_⟩) hHeld ?_ ?_
          rotate_left
          ·rintro w' ⟨s0,s1,s2,s3,s4⟩
           go_simp
           with_reducible rfl
          rotate_left
          ·simp only [Act.put,List.setIfInBounds_toArray,List.set_cons_zero,List.set_cons_succ,i64_w,i32_w]
           rfl
          refine one_ (i := 22) (N := some 100) #[true,true,true,true,true,true,true,true,true,true,true,true,true,true,true,true,true,true,true,true,true,true,true,false,false] rfl rfl (one_of HT_.out (by kernel_rfl)) (by decide) (fun K hK => ?_)
          refine goes_ Try.func16 (by kernel_rfl) rfl #[.slice Ao65 t463.length co65,.slice A0_1 l0_1.length c0_1] (by rfl) rfl rfl (by (try simp only [List.map_toArray,List.map_cons,List.map_nil]);first|done|rfl|(simp only [List.length_drop,List.length_take];rfl)) ?_
          with_reducible refine (privityref06_Same.calls k2 _ _ t463 _ _ l0_1 t470 _ ?side1 ?side2 ?side3 ?side4 A56.out).mono ?_
          (case side1 => repeat (first|exact (Kd.S_reads' HO465.out).2.2|(with_reducible refine Kd.C_alloc ?_ _)|(with_reducible refine Kd.C_drewN ?_ _)|(with_reducible refine Kd.C_drew ?_)))
          (case side2 => exact (Kd.S_reads' HO465.out).2.1)
          (case side3 => repeat (first|exact (Kd.C_below HR0_1.out (by repeat (first|(with_reducible first|exact HB.out|apply below_alloc|apply pw_below_drewN|apply below_drew1|refine below_set ?_ GE439.out)|exact HB.out)))|(with_reducible refine Kd.C_alloc ?_ _)|(with_reducible refine Kd.C_drewN ?_ _)|(with_reducible refine Kd.C_drew ?_)))
          (case side4 => exact HC0_1.out)
          rintro e w' ⟨rfl,⟨nd,rfl⟩⟩
          refine ⟨_,rfl,?_⟩
          refine hK.out _ _ ⟨(blk_cell BK439.out 0).trans rfl,(blk_cell BK439.out 1).trans rfl,(blk_cell BK439.out 2).trans rfl,(blk_cell BK439.out 3).trans rfl,(blk_cell BK439.out 4).trans rfl⟩ (fun hHeld => ?_)
          clear hK K
          refine norm_ (a' := ?_) ?_ ?_
          rotate_left
          ·show Act.put _ (some 100) _ = _
           simp only [Act.put,List.setIfInBounds_toArray,List.set_cons_zero,List.set_cons_succ,i64_w,i32_w]
           rfl
          refine pure_ (i := 23) (N := some 101) (v := ?_) (a' := ?_) #[true,true,true,true,true,true,true,true,true,true,true,true,true,true,true,true,true,true,true,true,true,true,true,true,false] rfl rfl (any_of HT_.out (by kernel_rfl)) (fun _ _ _ h => h) (Or.inl ⟨by rfl,?_⟩) ?_ ?_
          rotate_left
          ·intro w'
           go_simp
           with_reducible rfl
          rotate_left
          ·simp only [Act.put,List.setIfInBounds_toArray,List.set_cons_zero,List.set_cons_succ,i64_w,i32_w]
           rfl
          refine pure_ (i := 24) (N := some 2) (v := ?_) (a' := ?_) #[true,true,true,true,true,true,true,true,true,true,true,true,true,true,true,true,true,true,true,true,true,true,true,true,true] rfl rfl (any_of HT_.out (by kernel_rfl)) (fun _ _ _ h => h) (Or.inl ⟨by rfl,?_⟩) ?_ ?_
          rotate_left
          ·intro w'
           go_simp
           with_reducible rfl
          rotate_left
          ·simp only [Act.put,List.setIfInBounds_toArray,List.set_cons_zero,List.set_cons_succ,i64_w,i32_w]
           rfl
          refine done_ (done_of HT_.out (by kernel_rfl)) ?_
          try go_wp2
          go_ret
          exact ⟨by first|rfl|(simp [errW_none,errW_some] <;> rfl)|(simp [*,errW_none,errW_some] <;> rfl),by repeat (first|(with_reducible first|exact HB.out|apply below_alloc|apply pw_below_drewN|apply below_drew1|refine below_set ?_ GE439.out)|exact HB.out)⟩
         ·rw [if_neg c55] at H
          have c55b0 : (t467 == t469) = false := beq_eq_false_iff_ne.mpr c55
          have c55b1 : (t467 != t469) = true := bne_iff_ne.mpr c55
          exact absurd (Option.some.inj H) (by rw [HRT_.out];simp)
        ·replace c51 := Bool.eq_false_iff.mpr c51
         subst c51
         have H1 : (some false) = some r := by rw [if_neg (show ¬ (false = true) by decide)] at H;exact H
         clear H
         have H := H1
         clear H1
         exact absurd (Option.some.inj H) (by rw [HRT_.out];simp)
 ·replace c3 := Bool.eq_false_iff.mpr c3
  subst c3
  have H1 : ((privitylaw10_awake.f k).bind fun t441 => (some t441)) = some r := by rw [if_neg (show ¬ (false = true) by decide)] at H;exact H
  clear H
  have H := H1
  clear H1
  replace H := Option.bind_eq_some_iff.mp H
  obtain ⟨t441,A800,H⟩ := H
  replace H : (some t441) = some r := H
  have A80 := Aside0.mk A800
  clear A800
  obtain rfl := Option.some.inj H
  go_enter Try.func6,Try.ntmps6
  go_wp2_with (first|((with_reducible refine gate_dst (N := 1) rfl ?_);refine box_event ?hg (N := 1) ?hd (cs := #[.int .u64 a0_0,.slice A0_1 l0_1.length c0_1,.slice A0_2 l0_2.length c0_2,.int .u64 a0_3,.int .u64 a0_4]) (t := 39) ?hr ?_;(case hd => rfl);(case hg => rfl);(case hr => first|(go_simp;done)|(go_simp;rfl));intro gb439 hg w81 hbox hb;have n0_ := Aside0.mk (below_step (by repeat (first|(with_reducible first|exact HB.out|apply below_alloc|apply pw_below_drewN|apply below_drew1)|exact HB.out)) hb);have n1_ := Aside0.mk (hbox);have n2_ := Aside0.mk ((by rw [hg];exact (below_size (by repeat (first|(with_reducible first|exact HB.out|apply below_alloc|apply pw_below_drewN|apply below_drew1)|exact HB.out))) : w.heap.size ≤ gb439));have n3_ := Aside0.mk ((by rw [hg];exact (below_size (by repeat (first|(with_reducible first|exact HB.out|apply below_alloc|apply pw_below_drewN|apply below_drew1)|exact HB.out))) : w.heap.size ≤ gb439));clear HB;have HB := n0_;have BK439 := n1_;have GW439 := n2_;have GE439 := n3_;clear n0_ n1_ n2_ n3_;clear hb hbox hg;have hcz82_0 : w81.cell? ⟨gb439,0,none⟩ = some (.int .u64 a0_0) := (blk_cell BK439.out 0).trans rfl;have hcz82_1 : w81.cell? ⟨gb439,1,none⟩ = some (.slice A0_1 l0_1.length c0_1) := (blk_cell BK439.out 1).trans rfl;have hcz82_2 : w81.cell? ⟨gb439,2,none⟩ = some (.slice A0_2 l0_2.length c0_2) := (blk_cell BK439.out 2).trans rfl;have hcz82_3 : w81.cell? ⟨gb439,3,none⟩ = some (.int .u64 a0_3) := (blk_cell BK439.out 3).trans rfl;have hcz82_4 : w81.cell? ⟨gb439,4,none⟩ = some (.int .u64 a0_4) := (blk_cell BK439.out 4).trans rfl;have hfz82_0 := blk_frozen BK439.out 0;have hfz82_1 := blk_frozen BK439.out 1;have hfz82_2 := blk_frozen BK439.out 2;have hfz82_3 := blk_frozen BK439.out 3;have hfz82_4 := blk_frozen BK439.out 4)|((with_reducible refine gate_callee (f := 24) rfl ?_);refine goesL_ (some 8) rfl rfl Try.func24 (by kernel_rfl) rfl #[.agg #[.int .u64 a0_0,.slice A0_1 l0_1.length c0_1,.slice A0_2 l0_2.length c0_2,.int .u64 a0_3,.int .u64 a0_4]] rfl (by (try simp only [List.map_toArray,List.map_cons,List.map_nil]);first|done|rfl|(simp only [List.length_drop,List.length_take];rfl)) ?_;(with_reducible refine (privitylaw10_validTranslation.calls k a0_0 _ _ l0_1 _ _ l0_2 a0_3 a0_4 false _ ?side1 ?side2 ?side3 ?side4 A2.out).mono ?_);(case side1 => repeat (first|exact (Kd.C_below HR0_1.out HB.out)|(with_reducible refine Kd.C_alloc ?_ _)|(with_reducible refine Kd.C_drewN ?_ _)|(with_reducible refine Kd.C_drew ?_)));(case side2 => exact HC0_1.out);(case side3 => repeat (first|exact (Kd.C_below HR0_2.out HB.out)|(with_reducible refine Kd.C_alloc ?_ _)|(with_reducible refine Kd.C_drewN ?_ _)|(with_reducible refine Kd.C_drew ?_)));(case side4 => exact HC0_2.out);rintro e w83 ⟨rfl,hb⟩;refine ⟨_,rfl,?_⟩;have n0_ := Aside0.mk (blk_below (g := gb439) (o := .cells #[.int .u64 a0_0,.slice A0_1 l0_1.length c0_1,.slice A0_2 l0_2.length c0_2,.int .u64 a0_3,.int .u64 a0_4] 39 (0,0)) (by (with_reducible repeat (first|refine blk_drewN ?_ _|refine blk_drew ?_|refine blk_alloc ?_ _));exact BK439.out) hb);have n1_ := Aside0.mk (below_step (by repeat (first|(with_reducible first|exact HB.out|apply below_alloc|apply pw_below_drewN|apply below_drew1|refine below_set ?_ GE439.out)|exact HB.out)) hb);clear BK439;clear HB;have BK439 := n0_;have HB := n1_;clear n0_ n1_;(try clear hb);(try clear hb2);(try clear hk);(try clear hi))|((with_reducible refine gate_callee (f := 13) rfl ?_);refine goesL_ (some 10) rfl rfl Try.func13 (by kernel_rfl) rfl #[] rfl (by (try simp only [List.map_toArray,List.map_cons,List.map_nil]);first|done|rfl|(simp only [List.length_drop,List.length_take];rfl)) ?_;(with_reducible refine (privitylaw10_awake.calls k  t441 _ A80.out).mono ?_);rintro e w84 ⟨rfl,hb⟩;refine ⟨_,rfl,?_⟩;have n0_ := Aside0.mk (blk_below (g := gb439) (o := .cells #[.int .u64 a0_0,.slice A0_1 l0_1.length c0_1,.slice A0_2 l0_2.length c0_2,.int .u64 a0_3,.int .u64 a0_4] 39 (0,0)) (by (with_reducible repeat (first|refine blk_drewN ?_ _|refine blk_drew ?_|refine blk_alloc ?_ _));exact BK439.out) hb);have n1_ := Aside0.mk (below_step (by repeat (first|(with_reducible first|exact HB.out|apply below_alloc|apply pw_below_drewN|apply below_drew1|refine below_set ?_ GE439.out)|exact HB.out)) hb);clear BK439;clear HB;have BK439 := n0_;have HB := n1_;clear n0_ n1_;(try clear hb);(try clear hb2);(try clear hk);(try clear hi)))
  go_ret
  exact ⟨by first|rfl|(simp [errW_none,errW_some] <;> rfl)|(simp [*,errW_none,errW_some] <;> rfl),by repeat (first|(with_reducible first|exact HB.out|apply below_alloc|apply pw_below_drewN|apply below_drew1|refine below_set ?_ GE439.out)|exact HB.out)⟩
end Go.Proofs.Ytkhdocabgmemiaa.Pr
end
section
/-
  The reference of layer 1: what its printed functions answer.
-/
namespace Go.Proofs.Ytkhdocabgmemiaa.E
open Go.RowKit Go.Proofs.Ytkhdocabgmemiaa.Pr Go.Proofs.Ytkhdocabgmemiaa.Hw Go.Proofs.YtkhdocabgmemiaaW.PrintWords Go.Proofs.YtkhdocabgmemiaaW.PrintLast Go.Proofs.YtkhdocabgmemiaaW.PrintMore
set_option linter.unusedVariables false
set_option linter.unusedSimpArgs false

theorem wcap {n : Int} (h : 0 ≤ n) (h2 : n < 9223372036854775808) : wrap64 n = n := by unfold wrap64; omega
theorem wnat {n : Nat} (h : n < 1099511627776) : wrap64 ((n : Int) + 1) = ((n + 1 : Nat) : Int) := by rw [wcap (by omega) (by omega)]; omega
/-- From the end back to the start. -/
theorem up {Q : Nat → Prop} {n : Nat} (hn : Q n) (hs : ∀ i, i < n → Q (i + 1) → Q i) : Q 0 := by
  have : ∀ d, d ≤ n → Q (n - d) := by
    intro d
    induction d with
    | zero => intro _; exact hn
    | succ d ih =>
      intro h
      have h1 := ih (by omega)
      refine hs (n - (d + 1)) (by omega) ?_
      rwa [show n - (d + 1) + 1 = n - d from by omega]
  have := this n (Nat.le_refl _)
  rwa [Nat.sub_self] at this
theorem exponent_eq (p : Int) : privityref01_Exponent.f 10 p = if p = 31 then some 5 else if p = 127 then some 7 else if p = 8191 then some 13 else if p = 131071 then some 17 else if p = 524287 then some 19 else if p = 2147483647 then some 31 else if p = 2305843009213693951 then some 61 else some 0 := by kernel_rfl
theorem supported_ev (p : Int) : Ev (fun k => privityref01_Supported.f k p) (supB p) := by
  refine Ev.of (fun k => privityref01_Supported.mono _ _) (k := 10) ?_
  show (privityref01_Exponent.f 10 p).bind _ = _
  rw [exponent_eq]
  unfold supB
  by_cases h1 : p = 31
  · subst h1; rfl
  by_cases h2 : p = 127
  · subst h2; rfl
  by_cases h3 : p = 8191
  · subst h3; rfl
  by_cases h4 : p = 131071
  · subst h4; rfl
  by_cases h5 : p = 524287
  · subst h5; rfl
  by_cases h6 : p = 2147483647
  · subst h6; rfl
  by_cases h7 : p = 2305843009213693951
  · subst h7; rfl
  rw [if_neg h1, if_neg h2, if_neg h3, if_neg h4, if_neg h5, if_neg h6, if_neg h7]
  simp [h1, h2, h3, h4, h5, h6, h7]
theorem tmod_pos {a p : Int} (h : 0 ≤ a) : Int.tmod a p = a % p := Int.tmod_eq_emod_of_nonneg h
theorem radd_eq {p : Int} (hp : Supp p) {a b : Int} (ha : Res p a) (hb : Res p b) : privityref01_Add.f p a b = some ((a + b) % p) := by
  have := hp.bd
  obtain ⟨a0, a1⟩ := ha
  obtain ⟨b0, b1⟩ := hb
  unfold privityref01_Add.f
  rw [if_neg (by omega), wrapU_id (by omega) (by omega), tmod_pos (by omega)]
theorem rsub_eq {p : Int} (hp : Supp p) {a b : Int} (ha : Res p a) (hb : Res p b) : privityref01_Sub.f p a b = some ((a - b) % p) := by
  have := hp.bd
  obtain ⟨a0, a1⟩ := ha
  obtain ⟨b0, b1⟩ := hb
  unfold privityref01_Sub.f
  rw [if_neg (by omega), wrapU_id (n := a + p) (by omega) (by omega), wrapU_id (by omega) (by omega), tmod_pos (by omega), show a + p - b = a - b + p * 1 from by omega, Int.add_mul_emod_self_left]
theorem rmul_l0 {p : Int} (hp : Supp p) : ∀ (n : Nat) (a out : Int), n < 18446744073709551616 → Res p a → Res p out → Ev (fun k => privityref01_Mul.l0 k p a n out) ((out + a * n) % p) := by
  intro n
  induction n using Nat.strongRecOn with
  | _ n ih =>
    intro a out hn ha ho
    have hb := hp.bd
    obtain ⟨a0, a1⟩ := ha
    obtain ⟨o0, o1⟩ := ho
    by_cases h0 : n = 0
    · subst h0
      refine Ev.of (fun k => (privityref01_Mul.mono_l k) _ _ _ _) (k := 1) ?_
      simp only [privityref01_Mul.l0]
      rw [if_neg (by omega), Int.natCast_zero, Int.mul_zero, Int.add_zero, Int.emod_eq_of_lt o0 o1]
    · have e1 : Int.tmod (n : Int) 2 = n % 2 := tmod_pos (by omega)
      have e2 : IntKind.u64.wrap (Int.tdiv (n : Int) 2) = ((n / 2 : Nat) : Int) := by
        rw [Int.tdiv_eq_ediv_of_nonneg (by omega), wrapU_id (by omega) (by omega)]; omega
      have e3 : IntKind.u64.wrap (a + a) = a + a := wrapU_id (by omega) (by omega)
      have e4 : IntKind.u64.wrap (out + a) = out + a := wrapU_id (by omega) (by omega)
      have hN : (n : Int) = 2 * ((n / 2 : Nat) : Int) + n % 2 := by omega
      by_cases hodd : n % 2 = 1
      · have h := ih (n / 2) (by omega) ((a + a) % p) ((out + a) % p) (by omega) (Res.mod hp _) (Res.mod hp _)
        refine Ev.step (fun k => ?_) (f := fun k => privityref01_Mul.l0 k p ((a + a) % p) ((n / 2 : Nat) : Int) ((out + a) % p)) ?_
        · simp only [privityref01_Mul.l0]
          rw [if_pos (by omega), if_pos (by omega), if_neg (by omega), e2, e3, e4, tmod_pos (by omega), tmod_pos (by omega)]
        · rw [show (out + a * n) % p = ((out + a) % p + (a + a) % p * ((n / 2 : Nat) : Int)) % p from ?_]
          · exact h
          · rw [addm (modm p (out + a)) (mulm (modm p (a + a)) rfl)]
            congr 1
            have : (n : Int) = 2 * ((n / 2 : Nat) : Int) + 1 := by omega
            generalize ((n / 2 : Nat) : Int) = m at *
            rw [this]; grind
      · have h := ih (n / 2) (by omega) ((a + a) % p) out (by omega) (Res.mod hp _) ⟨o0, o1⟩
        refine Ev.step (fun k => ?_) (f := fun k => privityref01_Mul.l0 k p ((a + a) % p) ((n / 2 : Nat) : Int) out) ?_
        · simp only [privityref01_Mul.l0]
          rw [if_pos (by omega), if_neg (by omega), if_neg (by omega), e2, e3, tmod_pos (by omega)]
        · rw [show (out + a * n) % p = (out + (a + a) % p * ((n / 2 : Nat) : Int)) % p from ?_]
          · exact h
          · rw [addm (a := out) rfl (mulm (modm p (a + a)) rfl)]
            congr 1
            have : (n : Int) = 2 * ((n / 2 : Nat) : Int) := by omega
            generalize ((n / 2 : Nat) : Int) = m at *
            rw [this]; grind
theorem rmul_ev {p : Int} (hp : Supp p) {a b : Int} (ha : Res p a) (hb : Res p b) : Ev (fun k => privityref01_Mul.f k p a b) (a * b % p) := by
  have h := hp.bd
  have := rmul_l0 hp b.toNat a 0 (by have := hb.1; have := hb.2; omega) ha ⟨by omega, by omega⟩
  rw [Int.toNat_of_nonneg hb.1, Int.zero_add] at this
  exact this
theorem rpow_l0 {p : Int} (h : Supp p) : ∀ (n : Nat) (a out : Int), n < 18446744073709551616 → Res p a → Res p out → Ev (fun k => privityref01_Pow.l0 k p a n out) (out * a ^ n % p) := by
  intro n
  induction n using Nat.strongRecOn with
  | _ n ih =>
    intro a out hn ha ho
    by_cases h0 : n = 0
    · subst h0
      refine Ev.of (fun k => (privityref01_Pow.mono_l k) _ _ _ _) (k := 1) ?_
      simp only [privityref01_Pow.l0]
      rw [if_neg (by omega), Int.pow_zero, Int.mul_one, ho.eq]
    · have hsq := rmul_ev h ha ha
      have hrec := fun out' ho' => ih (n / 2) (by omega) (a * a % p) out' (by omega) (Res.mod h _) ho'
      have eh := pow_two_half a n
      have e1 := pow_mod_base (a * a) p (n / 2)
      have t1 : Int.tmod (n : Int) 2 = n % 2 := tmod_pos (by omega)
      have t2 : IntKind.u64.wrap (Int.tdiv (n : Int) 2) = ((n / 2 : Nat) : Int) := by
        rw [Int.tdiv_eq_ediv_of_nonneg (by omega), wrapU_id (by omega) (by omega)]; omega
      by_cases hodd : n % 2 = 1
      · refine Ev.step (f := fun k => (privityref01_Mul.f k p out a).bind fun t244 => ((privityref01_Mul.f k p a a).bind fun t245 => (privityref01_Pow.l0 k p t245 ((n / 2 : Nat) : Int) t244))) (fun k => ?_) ?_
        · simp only [privityref01_Pow.l0]
          rw [if_pos (by omega), if_pos (by omega), t2]
        · refine Ev.bind (rmul_ev h ho ha) (Ev.bind hsq ?_)
          have := hrec (out * a % p) (Res.mod h _)
          rw [show out * a ^ n % p = out * a % p * (a * a % p) ^ (n / 2) % p from ?_]
          · exact this
          · rw [mulm (Int.emod_emod_of_dvd (out * a) (Int.dvd_refl p)) e1, eh, hodd, Int.pow_one, Int.mul_assoc, Int.mul_comm a ((a * a) ^ (n / 2))]
      · refine Ev.step (f := fun k => (privityref01_Mul.f k p a a).bind fun t246 => (privityref01_Pow.l0 k p t246 ((n / 2 : Nat) : Int) out)) (fun k => ?_) ?_
        · simp only [privityref01_Pow.l0]
          rw [if_pos (by omega), if_neg (by omega), t2]
        · refine Ev.bind hsq ?_
          have := hrec out ho
          rw [show out * a ^ n % p = out * (a * a % p) ^ (n / 2) % p from ?_]
          · exact this
          · rw [mulm (a := out) rfl e1, eh, show n % 2 = 0 from by omega, Int.pow_zero, Int.mul_one]
theorem rinv_ev {p : Int} (h : Supp p) {a : Int} (ha : Res p a) (h0 : a ≠ 0) : Ev (fun k => privityref01_Inverse.f k p a) (invp p a, 0) := by
  have := h.bd
  have e := rpow_l0 h (p - 2).toNat a 1 (by omega) ha ⟨by omega, by omega⟩
  rw [Int.one_mul, show ((p - 2).toNat : Int) = p - 2 from Int.toNat_of_nonneg (by omega)] at e
  refine (Ev.bind (f := fun k t => some (t, 0)) e (Ev.now _)).congr fun k => ?_
  show (if a = 0 then _ else (privityref01_Pow.f k p a (IntKind.u64.wrap (p - 2))).bind _) = _
  rw [if_neg h0, wrapU_id (by omega) (by omega)]
  rfl
end Go.Proofs.Ytkhdocabgmemiaa.E
end
section
/-
  Guards, sums, and the hand-proved functions' answers, for the statements.
-/
namespace Go.Proofs.Ytkhdocabgmemiaa.E
open Go.RowKit Go.Proofs.Ytkhdocabgmemiaa.Pr Go.Proofs.Ytkhdocabgmemiaa.Hw Go.Proofs.Ytkhdocabgmemiaa.Pl Go.Proofs.YtkhdocabgmemiaaW.PrintWords Go.Proofs.YtkhdocabgmemiaaW.PrintLast Go.Proofs.YtkhdocabgmemiaaW.PrintMore
set_option linter.unusedVariables false
set_option linter.unusedSimpArgs false

theorem wf64 {x : Int} (h : (Lit.int .u64 x).wf = true) : 0 ≤ x ∧ x < 18446744073709551616 := by
  have h1 : IntKind.u64.min ≤ x ∧ x ≤ IntKind.u64.max := by simpa [Lit.wf] using h
  have e1 : IntKind.u64.min = 0 := by decide
  have e2 : IntKind.u64.max = 18446744073709551615 := by decide
  omega
/-- A check, and both ways on. -/
theorem ev_if {α : Type} {A : Nat → Option Bool} {b : Bool} (hA : Ev A b) {X Y : Nat → Option α} {r : α} (hx : b = true → Ev X r) (hy : b = false → Ev Y r) : Ev (fun k => (A k).bind fun t => if t = true then X k else Y k) r := by
  refine Ev.bind (f := fun k t => if t = true then X k else Y k) hA ?_
  cases b with
  | true => exact (hx rfl).congr fun k => if_pos rfl
  | false => exact (hy rfl).congr fun k => if_neg (by simp)
theorem ev_ite {α : Type} {c : Prop} [Decidable c] {X Y : Nat → Option α} {r : α} (hx : c → Ev X r) (hy : ¬ c → Ev Y r) : Ev (fun k => if c then X k else Y k) r := by
  by_cases h : c
  · exact (hx h).congr fun k => if_pos h
  · exact (hy h).congr fun k => if_neg h
/-- A check whose negation is handed on. -/
theorem ev_now_bind {α β : Type} {x : Option α} {a : α} (hx : x = some a) {f : Nat → α → Option β} {r : β} (h : Ev (fun k => f k a) r) : Ev (fun k => x.bind (f k)) r := by subst hx; exact h
end Go.Proofs.Ytkhdocabgmemiaa.E
end
section
/-
  Chapter 10: what the printed functions on matrices answer.
-/
namespace Go.Proofs.Ytkhdocabgmemiaa.E
open Go.RowKit Go.Proofs.Ytkhdocabgmemiaa.Pr Go.Proofs.Ytkhdocabgmemiaa.Hw Go.Proofs.Ytkhdocabgmemiaa.Pl Go.Proofs.YtkhdocabgmemiaaW.PrintWords Go.Proofs.YtkhdocabgmemiaaW.PrintLast Go.Proofs.YtkhdocabgmemiaaW.PrintMore
set_option linter.unusedVariables false
set_option linter.unusedSimpArgs false

theorem rdM_nat (l : List (List Int)) (i : Nat) : rd_L1 l (i : Int) = l.getD i [] := by unfold rd_L1; rw [Int.toNat_natCast]
theorem rd_at2 (s : List (List Int)) (i j : Nat) : rd (rd_L1 s (i : Int)) (j : Int) = at2 s i j := by rw [rdM_nat]; exact rd_nat _ j
/-- A loop that answers false at the first i that Q does not hold of, and goes on with e behind it. -/
theorem allL {F : Nat → Int → Option Bool} {n : Nat} {Q : Nat → Prop} [DecidablePred Q] {e : Bool} (hend : Ev (fun k => F k (n : Int)) e) (hyes : ∀ i, i < n → Q i → ∀ r, Ev (fun k => F k ((i + 1 : Nat) : Int)) r → Ev (fun k => F k (i : Int)) r)
    (hno : ∀ i, i < n → ¬ Q i → Ev (fun k => F k (i : Int)) false) (r : Bool) (hr : r = true ↔ ((∀ i, i < n → Q i) ∧ e = true)) : Ev (fun k => F k ((0 : Nat) : Int)) r := by
  by_cases hall : ∀ i, i < n → Q i
  · have : r = e := by
      cases e with
      | true => exact hr.2 ⟨hall, rfl⟩
      | false => exact Bool.eq_false_iff.mpr fun h => by have := (hr.1 h).2; cases this
    rw [this]
    exact up (Q := fun i => Ev (fun k => F k (i : Int)) e) (n := n) hend fun i hi h => hyes i hi (hall i hi) e h
  · have hf : r = false := Bool.eq_false_iff.mpr fun h => hall (hr.1 h).1
    rw [hf]
    obtain ⟨i, hi, hq⟩ : ∃ i, i < n ∧ ¬ Q i := Classical.byContradiction fun h => hall fun i hi => Classical.byContradiction fun hq => h ⟨i, hi, hq⟩
    refine up (Q := fun i => Ev (fun k => F k (i : Int)) false) (n := i) (hno i hi hq) fun j hj h => ?_
    by_cases hqj : Q j
    · exact hyes j (by omega) hqj false h
    · exact hno j (by omega) hqj
theorem samel_ev (a b : List Int) (ha : a.length ≤ 1000000000) : Ev (fun k => privityref06_SameList.f k a b) (decide (a = b)) := by
  by_cases hl : a.length = b.length
  · have h := allL (F := fun k i => privityref06_SameList.l0 k a b i) (n := a.length) (Q := fun i => a.getD i 0 = b.getD i 0) (e := true) ?_ (fun i hi hq r h => ?_) (fun i hi hq => ?_) (decide (a = b)) ?_
    · refine h.congr fun k => ?_
      unfold privityref06_SameList.f
      rw [if_pos (by omega)]; rfl
    · refine Ev.step (fun k => ?_) (Ev.now _)
      simp only [privityref06_SameList.l0]
      rw [if_neg (by omega)]
    · refine Ev.step (fun k => ?_) h
      simp only [privityref06_SameList.l0]
      rw [if_pos (by omega), if_pos (by omega), if_pos (by omega), rd_nat, rd_nat, if_pos hq, wnat (by omega)]
    · refine Ev.step (fun k => ?_) (Ev.now _)
      simp only [privityref06_SameList.l0]
      rw [if_pos (by omega), if_pos (by omega), if_pos (by omega), rd_nat, rd_nat, if_neg hq]
    · rw [decide_eq_true_iff]
      refine ⟨fun e => ⟨fun i _ => by rw [e], rfl⟩, fun h => list_ext_getD hl fun i => ?_⟩
      by_cases hi : i < a.length
      · exact h.1 i hi
      · rw [getD_out a i (by omega), getD_out b i (by omega)]
  · have : decide (a = b) = false := decide_eq_false fun e => hl (by rw [e])
    rw [this]
    refine Ev.congr (fun k => ?_) (Ev.now _)
    unfold privityref06_SameList.f
    rw [if_neg (by omega)]
theorem getD_mem {a : List (List Int)} {i : Nat} (hi : i < a.length) : a.getD i [] ∈ a := by
  rw [List.getD_eq_getElem?_getD, List.getElem?_eq_getElem hi]; exact List.getElem_mem hi
theorem samem_ev (a b : List (List Int)) (ha : a.length ≤ 1000000000) (hr : ∀ x ∈ a, x.length ≤ 1000000000) : Ev (fun k => privityref06_Same.f k a b) (decide (a = b)) := by
  by_cases hl : a.length = b.length
  · have hs : ∀ i, i < a.length → Ev (fun k => privityref06_SameList.f k (rd_L1 a (i : Int)) (rd_L1 b (i : Int))) (decide (a.getD i [] = b.getD i [])) := fun i hi => by
      rw [rdM_nat, rdM_nat]; exact samel_ev _ _ (hr _ (getD_mem hi))
    have hst : ∀ i, i < a.length → ∀ k, privityref06_Same.l0 (k + 1) a b (i : Int) = (privityref06_SameList.f k (rd_L1 a (i : Int)) (rd_L1 b (i : Int))).bind fun t => (if t = true then (privityref06_Same.l0 k a b ((i + 1 : Nat) : Int)) else (some false)) := fun i hi k => by
      simp only [privityref06_Same.l0]
      rw [if_pos (by omega), if_pos (by omega), if_pos (by omega), wnat (by omega)]
    have h := allL (F := fun k i => privityref06_Same.l0 k a b i) (n := a.length) (Q := fun i => a.getD i [] = b.getD i []) (e := true) ?_ (fun i hi hq r h => ?_) (fun i hi hq => ?_) (decide (a = b)) ?_
    · refine h.congr fun k => ?_
      unfold privityref06_Same.f
      rw [if_pos (by omega)]; rfl
    · refine Ev.step (fun k => ?_) (Ev.now _)
      simp only [privityref06_Same.l0]
      rw [if_neg (by omega)]
    · have h1 := hs i hi
      rw [decide_eq_true hq] at h1
      exact Ev.step (hst i hi) (ev_if h1 (fun _ => h) fun e => by cases e)
    · have h1 := hs i hi
      rw [decide_eq_false hq] at h1
      exact Ev.step (hst i hi) (ev_if h1 (fun e => by cases e) fun _ => Ev.now _)
    · rw [decide_eq_true_iff]
      refine ⟨fun e => ⟨fun i _ => by rw [e], rfl⟩, fun h => List.ext_getElem hl fun i h1 h2 => ?_⟩
      have := h.1 i h1
      rw [List.getD_eq_getElem?_getD, List.getD_eq_getElem?_getD, List.getElem?_eq_getElem h1, List.getElem?_eq_getElem h2] at this
      exact this
  · have : decide (a = b) = false := decide_eq_false fun e => hl (by rw [e])
    rw [this]
    refine Ev.congr (fun k => ?_) (Ev.now _)
    unfold privityref06_Same.f
    rw [if_neg (by omega)]
/-- At most m words, all below p. -/
def belB (p : Int) (l : List Int) (m : Nat) : Bool := decide (l.length ≤ m) && l.all fun x => decide (x < p)
theorem bel_ev (p : Int) (l : List Int) (m : Nat) (hm : m ≤ 1000) : Ev (fun k => privityref06_Below.f k p l (m : Int)) (belB p l m) := by
  have hend : ∀ i : Nat, Ev (fun k => privityref06_Below.j1 k p l (m : Int) (i : Int) false) (decide (l.length ≤ m)) := fun i => by
    refine Ev.step (fun k => ?_) (Ev.now _)
    simp only [privityref06_Below.j1]
    rw [if_neg (by simp)]
    exact congrArg some (decide_eq_decide.2 (by omega))
  have hin : ∀ i : Nat, i < l.length → i ≤ m → ∀ k, privityref06_Below.l0 (k + 1) p l (m : Int) (i : Int) = privityref06_Below.j1 k p l (m : Int) (i : Int) true := fun i h1 h2 k => by
    simp only [privityref06_Below.l0]
    rw [if_pos (by omega), decide_eq_true (by omega)]
  have hj : ∀ i : Nat, i < l.length → i ≤ m → ∀ k, privityref06_Below.j1 (k + 1) p l (m : Int) (i : Int) true = if l.getD i 0 ≥ p then some false else privityref06_Below.l0 k p l (m : Int) ((i + 1 : Nat) : Int) := fun i h1 h2 k => by
    simp only [privityref06_Below.j1]
    rw [if_pos trivial, if_pos (by omega), if_pos (by omega), rd_nat, wnat (by omega)]
  have h := allL (F := fun k i => privityref06_Below.l0 k p l (m : Int) i) (n := min l.length (m + 1)) (Q := fun i => l.getD i 0 < p) (e := decide (l.length ≤ m)) ?_ (fun i hi hq r h => ?_) (fun i hi hq => ?_) (belB p l m) ?_
  · exact h.congr fun k => rfl
  · by_cases hlm : l.length ≤ m
    · rw [show min l.length (m + 1) = l.length from by omega]
      refine Ev.step (f := fun k => privityref06_Below.j1 k p l (m : Int) (l.length : Int) false) (fun k => ?_) (hend _)
      simp only [privityref06_Below.l0]
      rw [if_neg (by omega)]
    · rw [show min l.length (m + 1) = m + 1 from by omega]
      refine Ev.step (f := fun k => privityref06_Below.j1 k p l (m : Int) ((m + 1 : Nat) : Int) false) (fun k => ?_) (hend _)
      simp only [privityref06_Below.l0]
      by_cases h2 : ((m + 1 : Nat) : Int) < (l.length : Int)
      · rw [if_pos h2, decide_eq_false (by omega)]
      · rw [if_neg h2]
  · exact Ev.step (hin i (by omega) (by omega)) (Ev.step (hj i (by omega) (by omega)) (h.congr fun k => if_neg (by omega)))
  · exact Ev.step (hin i (by omega) (by omega)) (Ev.step (hj i (by omega) (by omega)) ((Ev.now false).congr fun k => if_pos (by omega)))
  · unfold belB
    rw [Bool.and_eq_true, decide_eq_true_iff, List.all_eq_true]
    constructor
    · rintro ⟨h1, h2⟩
      refine ⟨fun i hi => ?_, h1⟩
      rw [Hw.getD_in _ _ (show i < l.length by omega)]
      exact of_decide_eq_true (h2 _ (List.getElem_mem _))
    · rintro ⟨h1, h2⟩
      refine ⟨h2, fun x hx => ?_⟩
      obtain ⟨i, hi, rfl⟩ := List.getElem_of_mem hx
      have := h1 i (by omega)
      rw [Hw.getD_in _ _ hi] at this
      exact decide_eq_true this
theorem bel_res {p : Int} {l : List Int} {m : Nat} (h : belB p l m = true) (hw : ∀ x ∈ l, 0 ≤ x) : l.length ≤ m ∧ ∀ x ∈ l, Res p x := by
  unfold belB at h
  rw [Bool.and_eq_true, decide_eq_true_iff, List.all_eq_true] at h
  exact ⟨h.1, fun x hx => ⟨hw x hx, of_decide_eq_true (h.2 x hx)⟩⟩
def fairB (p : Int) (s : List (List Int)) (m : Nat) : Bool := supB p && (decide (s.length ≤ m) && s.all fun r => belB p r m)
theorem fair_ev (p : Int) (s : List (List Int)) (m : Nat) (hm0 : m ≤ 1000) : Ev (fun k => privityref06_Fair.f k p s (m : Int)) (fairB p s m) := by
  have hno : Ev (fun k => privityref06_Fair.j0 k p s (m : Int) true) false := Ev.step (f := fun _ => some false) (fun k => by simp only [privityref06_Fair.j0]; rw [if_pos trivial]) (Ev.now _)
  unfold fairB
  refine ev_if (supported_ev p) (fun hs => ?_) (fun hs => by rw [hs]; exact hno)
  rw [hs, Bool.true_and]
  by_cases hm : s.length ≤ m
  · rw [decide_eq_true hm, Bool.true_and, decide_eq_false (by omega)]
    have hst : ∀ i, i < s.length → ∀ k, privityref06_Fair.l0 (k + 1) p s (m : Int) (i : Int) = (privityref06_Below.f k p (s.getD i []) (m : Int)).bind fun t => (if t = true then (privityref06_Fair.l0 k p s (m : Int) ((i + 1 : Nat) : Int)) else (some false)) := fun i hi k => by
      simp only [privityref06_Fair.l0]
      rw [if_pos (by omega), if_pos (by omega), rdM_nat, wnat (by omega)]
    have hb := fun i (hi : i < s.length) => bel_ev p (s.getD i []) m hm0
    have h := allL (F := fun k i => privityref06_Fair.l0 k p s (m : Int) i) (n := s.length) (Q := fun i => belB p (s.getD i []) m = true) (e := true) ?_ (fun i hi hq r h => ?_) (fun i hi hq => ?_) (s.all fun r => belB p r m) ?_
    · refine Ev.step (fun k => ?_) h
      simp only [privityref06_Fair.j0]
      rw [if_neg (by simp)]; rfl
    · refine Ev.step (fun k => ?_) (Ev.now _)
      simp only [privityref06_Fair.l0]
      rw [if_neg (by omega)]
    · have h1 := hb i hi
      rw [hq] at h1
      exact Ev.step (hst i hi) (ev_if h1 (fun _ => h) fun e => by cases e)
    · have h1 := hb i hi
      rw [Bool.eq_false_iff.mpr hq] at h1
      exact Ev.step (hst i hi) (ev_if h1 (fun e => by cases e) fun _ => Ev.now _)
    · rw [List.all_eq_true]
      refine ⟨fun h => ⟨fun i hi => h _ (getD_mem hi), rfl⟩, fun h x hx => ?_⟩
      obtain ⟨i, hi, rfl⟩ := List.getElem_of_mem hx
      have := h.1 i hi
      rwa [List.getD_eq_getElem?_getD, List.getElem?_eq_getElem hi] at this
  · rw [decide_eq_false hm, Bool.false_and, decide_eq_true (by omega)]
    exact hno
theorem fair_res {p : Int} {s : List (List Int)} {m : Nat} (h : fairB p s m = true) (hw : ∀ r ∈ s, ∀ x ∈ r, 0 ≤ x) : Supp p ∧ s.length ≤ m ∧ (∀ r ∈ s, r.length ≤ m) ∧ ResM p s := by
  unfold fairB at h
  rw [Bool.and_eq_true, Bool.and_eq_true, decide_eq_true_iff, List.all_eq_true] at h
  exact ⟨supB_of h.1, h.2.1, fun r hr => (bel_res (h.2.2 r hr) (hw r hr)).1, fun r hr => (bel_res (h.2.2 r hr) (hw r hr)).2⟩
def sqB (s : List (List Int)) : Bool := (s.all fun r => decide (r.length = s.length)) && decide (0 < s.length)
theorem sqB_iff {s : List (List Int)} : sqB s = true ↔ (Sq s.length s ∧ 0 < s.length) := by
  unfold sqB
  rw [Bool.and_eq_true, decide_eq_true_iff, List.all_eq_true]
  exact ⟨fun h => ⟨⟨rfl, fun r hr => of_decide_eq_true (h.1 r hr)⟩, h.2⟩, fun h => ⟨fun r hr => decide_eq_true (h.1.row r hr), h.2⟩⟩
theorem sq_iff {s : List (List Int)} : (∀ i, i < s.length → (s.getD i []).length = s.length) ↔ Sq s.length s := by
  refine ⟨fun h => ⟨rfl, fun r hr => ?_⟩, fun h i hi => h.getD i hi⟩
  obtain ⟨i, hi, rfl⟩ := List.getElem_of_mem hr
  have := h i hi
  rwa [List.getD_eq_getElem?_getD, List.getElem?_eq_getElem hi] at this
theorem square_ev (s : List (List Int)) (hl : s.length ≤ 1000000000) : Ev (fun k => privityref10_Square.f k s) (sqB s) := by
  have h := allL (F := fun k i => privityref10_Square.l0 k s i) (n := s.length) (Q := fun i => (s.getD i []).length = s.length) (e := decide (0 < s.length)) ?_ (fun i hi hq r h => ?_) (fun i hi hq => ?_) (sqB s) ?_
  · exact h.congr fun k => rfl
  · refine Ev.step (fun k => ?_) (Ev.now _)
    simp only [privityref10_Square.l0]
    rw [if_neg (by omega)]
    exact congrArg some (decide_eq_decide.2 (by omega))
  · refine Ev.step (fun k => ?_) h
    simp only [privityref10_Square.l0]
    rw [if_pos (by omega), if_pos (by omega), rdM_nat, if_pos (by omega), wnat (by omega)]
  · refine Ev.step (fun k => ?_) (Ev.now _)
    simp only [privityref10_Square.l0]
    rw [if_pos (by omega), if_pos (by omega), rdM_nat, if_neg (by omega)]
  · rw [sqB_iff, sq_iff, decide_eq_true_iff]
/-- Square, not empty, symmetric. -/
def SymP (s : List (List Int)) (i : Nat) : Prop := ∀ a, i ≤ a → a < s.length → ∀ b, b < a → at2 s a b = at2 s b a
def symPB (s : List (List Int)) (i : Nat) : Bool := (List.range s.length).all fun a => decide (a < i) || (List.range a).all fun b => decide (at2 s a b = at2 s b a)
theorem symPB_iff {s : List (List Int)} {i : Nat} : symPB s i = true ↔ SymP s i := by
  unfold symPB SymP
  simp only [List.all_eq_true, List.mem_range, Bool.or_eq_true, decide_eq_true_eq]
  exact ⟨fun h a h1 h2 b hb => (h a h2).elim (fun h3 => by omega) fun h3 => h3 b hb, fun h a h2 => (Nat.lt_or_ge a i).elim Or.inl fun h1 => Or.inr fun b hb => h a h1 h2 b hb⟩
def symB (s : List (List Int)) : Bool := sqB s && symPB s 0
theorem symB_iff {s : List (List Int)} : symB s = true ↔ (Sq s.length s ∧ 0 < s.length ∧ ∀ i, i < s.length → ∀ j, j < s.length → at2 s i j = at2 s j i) := by
  unfold symB
  rw [Bool.and_eq_true, symPB_iff, sqB_iff]
  constructor
  · rintro ⟨⟨h1, h2⟩, h3⟩
    refine ⟨h1, h2, fun i hi j hj => ?_⟩
    rcases Nat.lt_trichotomy i j with h | h | h
    · exact (h3 j (Nat.zero_le _) hj i h).symm
    · rw [h]
    · exact h3 i (Nat.zero_le _) hi j h
  · rintro ⟨h1, h2, h3⟩
    exact ⟨⟨h1, h2⟩, fun a _ ha b hb => h3 a ha b (by omega)⟩
theorem SymP.next {s : List (List Int)} {i : Nat} (hi : i < s.length) : SymP s i ↔ ((∀ j, j < i → at2 s i j = at2 s j i) ∧ SymP s (i + 1)) := by
  constructor
  · exact fun h => ⟨fun j hj => h i (Nat.le_refl _) hi j hj, fun a h1 h2 b hb => h a (by omega) h2 b hb⟩
  · rintro ⟨h1, h2⟩ a ha hl b hb
    by_cases e : a = i
    · subst e; exact h1 b hb
    · exact h2 a (by omega) hl b hb
theorem SymP.last (s : List (List Int)) : SymP s s.length := fun a h1 h2 => by omega
theorem rsym_ev (s : List (List Int)) (hl : s.length ≤ 1000000000) : Ev (fun k => privityref10_IsSymmetric.f k s) (symB s) := by
  unfold symB
  refine ev_if (square_ev s hl) (fun hs => ?_) (fun hs => by rw [hs]; exact Ev.now _)
  rw [hs, Bool.true_and]
  have hq := (sqB_iff.1 hs).1
  refine up (Q := fun i => Ev (fun k => privityref10_IsSymmetric.l0 k s (i : Int)) (symPB s i)) (n := s.length) ?_ (fun i hi h => ?_)
  · rw [symPB_iff.2 (SymP.last s)]
    refine Ev.step (fun k => ?_) (Ev.now _)
    simp only [privityref10_IsSymmetric.l0]
    rw [if_neg (by omega)]
  · have h2 := allL (F := fun k j => privityref10_IsSymmetric.l1 k s (i : Int) j) (n := i) (Q := fun j => at2 s i j = at2 s j i) (e := symPB s (i + 1)) ?_ (fun j hj hqj r h => ?_) (fun j hj hqj => ?_) (symPB s i) (by rw [symPB_iff, symPB_iff]; exact SymP.next hi)
    · refine Ev.step (fun k => ?_) h2
      simp only [privityref10_IsSymmetric.l0]
      rw [if_pos (by omega)]; rfl
    · refine Ev.step (fun k => ?_) h
      simp only [privityref10_IsSymmetric.l1]
      rw [if_neg (by omega), wnat (by omega)]
    · refine Ev.step (fun k => ?_) h
      simp only [privityref10_IsSymmetric.l1]
      have l1 := hq.getD i hi
      have l2 := hq.getD j (by omega)
      rw [if_pos (by omega), if_pos (by omega), if_pos (by omega), if_pos (by omega), if_pos (by rw [rdM_nat, l1]; omega), if_pos (by omega), if_pos (by rw [rdM_nat, l2]; omega), rd_at2, rd_at2, if_pos hqj, wnat (by omega)]
    · refine Ev.step (fun k => ?_) (Ev.now _)
      simp only [privityref10_IsSymmetric.l1]
      have l1 := hq.getD i hi
      have l2 := hq.getD j (by omega)
      rw [if_pos (by omega), if_pos (by omega), if_pos (by omega), if_pos (by omega), if_pos (by rw [rdM_nat, l1]; omega), if_pos (by omega), if_pos (by rw [rdM_nat, l2]; omega), rd_at2, rd_at2, if_neg hqj]
theorem bsym_ev (s : List (List Int)) (hl : s.length ≤ 1000000000) : Ev (fun k => bivariate_IsSymmetric.f k s) (symB s) := by
  by_cases hsq : Sq s.length s
  · have htri : Ev (fun k => bivariate_IsSymmetric.l1 k s s (s.length : Int) ((0 : Nat) : Int)) (symB s) := by
      by_cases hz : 0 < s.length
      · have hsb : sqB s = true := sqB_iff.2 ⟨hsq, hz⟩
        unfold symB
        rw [hsb, Bool.true_and]
        refine up (Q := fun i => Ev (fun k => bivariate_IsSymmetric.l1 k s s (s.length : Int) (i : Int)) (symPB s i)) (n := s.length) ?_ (fun i hi h => ?_)
        · rw [symPB_iff.2 (SymP.last s)]
          refine Ev.step (fun k => ?_) (Ev.now _)
          simp only [bivariate_IsSymmetric.l1]
          rw [if_neg (by omega), decide_eq_true (by omega)]
        · have l1 := hsq.getD i hi
          have h2 := allL (F := fun k j => bivariate_IsSymmetric.l2 k s (i : Int) (rd_L1 s (i : Int)) s (s.length : Int) (i : Int) (i : Int) j) (n := i) (Q := fun j => at2 s i j = at2 s j i) (e := symPB s (i + 1)) ?_ (fun j hj hqj r h => ?_) (fun j hj hqj => ?_) (symPB s i) (by rw [symPB_iff, symPB_iff]; exact SymP.next hi)
          · refine Ev.step (fun k => ?_) h2
            simp only [bivariate_IsSymmetric.l1]
            rw [if_pos (by omega), if_pos (by omega), if_pos (by omega)]; rfl
          · refine Ev.step (fun k => ?_) h
            simp only [bivariate_IsSymmetric.l2]
            rw [if_neg (by omega), wnat (by omega)]
          · refine Ev.step (fun k => ?_) h
            simp only [bivariate_IsSymmetric.l2]
            have l2 := hsq.getD j (by omega)
            rw [if_pos (by omega), if_pos (by omega), if_pos (by rw [rdM_nat, l1]; omega), if_pos (by omega), if_pos (by omega), if_pos (by rw [rdM_nat, l2]; omega), rd_at2, rd_at2, if_pos hqj, wnat (by omega)]
          · refine Ev.step (fun k => ?_) (Ev.now _)
            simp only [bivariate_IsSymmetric.l2]
            have l2 := hsq.getD j (by omega)
            rw [if_pos (by omega), if_pos (by omega), if_pos (by rw [rdM_nat, l1]; omega), if_pos (by omega), if_pos (by omega), if_pos (by rw [rdM_nat, l2]; omega), rd_at2, rd_at2, if_neg hqj]
      · have hsb : symB s = false := Bool.eq_false_iff.mpr fun h => hz (symB_iff.1 h).2.1
        rw [hsb]
        refine Ev.step (fun k => ?_) (Ev.now _)
        simp only [bivariate_IsSymmetric.l1]
        rw [if_neg (by omega), decide_eq_false (by omega)]
    have h := allL (F := fun k i => bivariate_IsSymmetric.l0 k s s (s.length : Int) i) (n := s.length) (Q := fun i => (s.getD i []).length = s.length) (e := symB s) ?_ (fun i hi hq r h => ?_) (fun i hi hq => ?_) (symB s) ?_
    · exact h.congr fun k => rfl
    · refine Ev.step (fun k => ?_) htri
      simp only [bivariate_IsSymmetric.l0]
      rw [if_neg (by omega)]; rfl
    · refine Ev.step (fun k => ?_) h
      simp only [bivariate_IsSymmetric.l0]
      rw [if_pos (by omega), if_pos (by omega), if_pos (by omega), rdM_nat, if_pos (by omega), wnat (by omega)]
    · exact absurd (sq_iff.2 hsq i hi) hq
    · exact ⟨fun h => ⟨sq_iff.2 hsq, h⟩, fun h => h.2⟩
  · have hsb : symB s = false := Bool.eq_false_iff.mpr fun h => hsq (symB_iff.1 h).1
    rw [hsb]
    obtain ⟨i, hi, hq⟩ : ∃ i, i < s.length ∧ ¬ (s.getD i []).length = s.length := Classical.byContradiction fun h => hsq (sq_iff.1 fun i hi => Classical.byContradiction fun hq => h ⟨i, hi, hq⟩)
    have hno : ∀ j, j < s.length → ¬ (s.getD j []).length = s.length → Ev (fun k => bivariate_IsSymmetric.l0 k s s (s.length : Int) (j : Int)) false := fun j hj hq => by
      refine Ev.step (fun k => ?_) (Ev.now _)
      simp only [bivariate_IsSymmetric.l0]
      rw [if_pos (by omega), if_pos (by omega), if_pos (by omega), rdM_nat, if_neg (by omega)]
    refine (up (Q := fun j => Ev (fun k => bivariate_IsSymmetric.l0 k s s (s.length : Int) (j : Int)) false) (n := i) (hno i hi hq) fun j hj h => ?_).congr fun k => rfl
    by_cases hqj : (s.getD j []).length = s.length
    · refine Ev.step (fun k => ?_) h
      simp only [bivariate_IsSymmetric.l0]
      rw [if_pos (by omega), if_pos (by omega), if_pos (by omega), rdM_nat, if_pos (by omega), wnat (by omega)]
    · exact hno j (by omega) hqj
end Go.Proofs.Ytkhdocabgmemiaa.E
end
section
/-
  Chapter 10: rows, values, translations, vanishing polynomials.
-/
namespace Go.Proofs.Ytkhdocabgmemiaa.E
open Go.RowKit Go.Proofs.Ytkhdocabgmemiaa.Pr Go.Proofs.Ytkhdocabgmemiaa.Hw Go.Proofs.Ytkhdocabgmemiaa.Pl Go.Proofs.YtkhdocabgmemiaaW.PrintWords Go.Proofs.YtkhdocabgmemiaaW.PrintLast Go.Proofs.YtkhdocabgmemiaaW.PrintMore
set_option linter.unusedVariables false
set_option linter.unusedSimpArgs false

theorem evI_tab_next {p : Int} (hp : Supp p) [NeZero p.toNat] (x pw : Int) (h : Nat → Int) (i : Nat) (hpw : T p pw = mono (T p x) i) : (evI p x (tabL i h) + h i * pw % p) % p = evI p x (tabL (i + 1) h) := by
  refine T_inj hp (Res.mod hp _) (evI_res hp _ _) ?_
  rw [T_mod hp, T_add, T_mod hp, T_mul, T_tab hp, T_tab hp, hpw]
  rfl
theorem tabL_set (n : Nat) (h : Nat → Int) (j : Nat) (v : Int) : (tabL n h).set j v = tabL n fun i => if i = j then v else h i := by
  refine list_ext_getD (by rw [List.length_set, tabL_length, tabL_length]) fun i => ?_
  rw [tabL_getD, List.getD_eq_getElem?_getD]
  by_cases hi : i < n
  · rw [if_pos hi]
    by_cases e : i = j
    · subst e
      rw [List.getElem?_set_self (by rw [tabL_length]; exact hi), if_pos rfl]; rfl
    · rw [List.getElem?_set_ne (Ne.symm e), if_neg e, ← List.getD_eq_getElem?_getD, tabL_getD, if_pos hi]
  · rw [if_neg hi, List.getElem?_eq_none (by rw [List.length_set, tabL_length]; omega)]; rfl
def rowAcc (p : Int) (n : Nat) (g : Nat → Nat → Int) (x : Int) (i j : Nat) : List Int := tabL n fun b => if b < j then evI p x (tabL (i + 1) fun a => g a b) else evI p x (tabL i fun a => g a b)
theorem rowAcc_length (p : Int) (n : Nat) (g : Nat → Nat → Int) (x : Int) (i j : Nat) : (rowAcc p n g x i j).length = n := tabL_length _ _
theorem rowAcc_next {p : Int} (n : Nat) (g : Nat → Nat → Int) (x : Int) (i j : Nat) (hj : j < n) : (rowAcc p n g x i j).set j (evI p x (tabL (i + 1) fun a => g a j)) = rowAcc p n g x i (j + 1) := by
  unfold rowAcc
  rw [tabL_set]
  refine tabL_congr fun b hb => ?_
  by_cases e : b = j
  · subst e; rw [if_pos rfl, if_pos (by omega)]
  · rw [if_neg e]
    by_cases h : b < j
    · rw [if_pos h, if_pos (by omega)]
    · rw [if_neg h, if_neg (by omega)]
theorem rowAcc_row (p : Int) (n : Nat) (g : Nat → Nat → Int) (x : Int) (i : Nat) : rowAcc p n g x i n = rowAcc p n g x (i + 1) 0 := tabL_congr fun b hb => by rw [if_pos hb, if_neg (by omega)]
theorem brow_ev {p : Int} (hp : Supp p) {n : Nat} {s : List (List Int)} (hq : Sq n s) (hr : ResM p s) (hn : n ≤ 1000) {x : Int} (hx : Res p x) : Ev (fun k => bivariate_Row.f k p s x) (rowX p n (at2 s) x) := by
  haveI := nz hp
  have hb := hp.bd
  have hl := hq.len
  have main : Ev (fun k => bivariate_Row.l0 k p x (rowAcc p n (at2 s) x 0 0) 1 s (s.length : Int) ((0 : Nat) : Int)) (rowX p n (at2 s) x) := by
    refine up (Q := fun i => ∀ pw, Res p pw → T p pw = mono (T p x) i → Ev (fun k => bivariate_Row.l0 k p x (rowAcc p n (at2 s) x i 0) pw s (s.length : Int) (i : Int)) (rowX p n (at2 s) x)) (n := n) ?_ (fun i hi h => ?_) 1 ⟨by omega, by omega⟩ T_one
    · intro pw _ _
      have e : rowAcc p n (at2 s) x n 0 = rowX p n (at2 s) x := tabL_congr fun b hb => by rw [if_neg (by omega)]
      refine Ev.step (f := fun _ => some (rowX p n (at2 s) x)) (fun k => ?_) (Ev.now _)
      simp only [bivariate_Row.l0]
      rw [if_neg (by omega), e]
    · intro pw hpw hT
      have hri := hq.getD i hi
      have hrl : (rd_L1 s (i : Int)).length = n := by rw [rdM_nat]; exact hri
      have hin : Ev (fun k => bivariate_Row.l1 k p x (rowAcc p n (at2 s) x i 0) pw s (s.length : Int) (i : Int) (rd_L1 s (i : Int)) ((rd_L1 s (i : Int)).length : Int) ((0 : Nat) : Int)) (rowX p n (at2 s) x) := by
        refine up (Q := fun j => Ev (fun k => bivariate_Row.l1 k p x (rowAcc p n (at2 s) x i j) pw s (s.length : Int) (i : Int) (rd_L1 s (i : Int)) ((rd_L1 s (i : Int)).length : Int) (j : Int)) (rowX p n (at2 s) x)) (n := n) ?_ (fun j hj h2 => ?_)
        · rw [rowAcc_row]
          refine Ev.step (f := fun k => (field_Mul.f k p pw x).bind fun t => bivariate_Row.l0 k p x (rowAcc p n (at2 s) x (i + 1) 0) t s (s.length : Int) ((i + 1 : Nat) : Int)) (fun k => ?_) (Ev.bind (mul_ev hp hpw hx) (h _ (Res.mod hp _) ?_))
          · simp only [bivariate_Row.l1]
            rw [if_neg (by omega), wnat (by omega)]
          · rw [T_mod hp, T_mul, hT]
            show _ = T p x * mono (T p x) i
            grind
        · have hal := rowAcc_length p n (at2 s) x i j
          have hacc : rd (rowAcc p n (at2 s) x i j) (j : Int) = evI p x (tabL i fun a => at2 s a j) := by
            rw [rd_nat]
            unfold rowAcc
            rw [tabL_getD, if_pos hj, if_neg (by omega)]
          rw [← rowAcc_next n (at2 s) x i j hj, ← evI_tab_next hp x pw (fun a => at2 s a j) i hT] at h2
          refine Ev.step (f := fun k => (field_Mul.f k p (at2 s i j) pw).bind fun t => ((field_Add.f k p (evI p x (tabL i fun a => at2 s a j)) t).bind fun t2 => bivariate_Row.l1 k p x ((rowAcc p n (at2 s) x i j).set j t2) pw s (s.length : Int) (i : Int) (rd_L1 s (i : Int)) ((rd_L1 s (i : Int)).length : Int) ((j + 1 : Nat) : Int))) (fun k => ?_) (Ev.bind (mul_ev hp (hr.at2 hp i j) hpw) (Ev.bind (add_ev hp (evI_res hp _ _) (Res.mod hp _)) h2))
          simp only [bivariate_Row.l1]
          rw [if_pos (by omega), if_pos (by omega), if_pos (by omega), if_pos (by omega), rd_at2, hacc, wnat (by omega), Int.toNat_natCast]
      refine Ev.step (fun k => ?_) hin
      simp only [bivariate_Row.l0]
      rw [if_pos (by omega), if_pos (by omega), if_pos (by omega)]; rfl
  have e0 : List.replicate s.length (0 : Int) = rowAcc p n (at2 s) x 0 0 := by
    refine list_ext_getD (by rw [List.length_replicate, rowAcc_length, hl]) fun i => ?_
    unfold rowAcc
    rw [tabL_getD, List.getD_eq_getElem?_getD, List.getElem?_replicate, hl]
    by_cases hi : i < n
    · rw [if_pos hi, if_pos hi, if_neg (by omega)]; rfl
    · rw [if_neg hi, if_neg hi]; rfl
  refine main.congr fun k => ?_
  unfold bivariate_Row.f
  rw [if_pos (by omega), Int.toNat_natCast, if_pos (by omega), e0]; rfl
theorem beval_ev {p : Int} (hp : Supp p) {n : Nat} {s : List (List Int)} (hq : Sq n s) (hr : ResM p s) (hn : n ≤ 1000) {x y : Int} (hx : Res p x) (hy : Res p y) : Ev (fun k => bivariate_Eval.f k p s x y) (evI p y (rowX p n (at2 s) x)) := by
  refine Ev.congr (fun k => ?_) (Ev.bind (f := fun k t => (poly_Eval.f k p t y).bind fun r => some r) (brow_ev hp hq hr hn hx) (Ev.bind (eval_ev hp hy _ (rowX_res hp n (at2 s) x) (by rw [rowX_length]; omega)) (Ev.now _)))
  unfold bivariate_Eval.f; rfl
theorem unlike_l1 (l : List Int) (hl : l.length ≤ 1000000) (i : Nat) (hi : i < l.length) {r : Bool} (h : Ev (fun k => privityref10_Unlike.l0 k l ((i + 1 : Nat) : Int)) r) : Ev (fun k => privityref10_Unlike.l1 k l (i : Int) ((0 : Nat) : Int)) (decide (∀ j, j < i → l.getD i 0 ≠ l.getD j 0) && r) := by
  refine allL (F := fun k j => privityref10_Unlike.l1 k l (i : Int) j) (n := i) (Q := fun j => l.getD i 0 ≠ l.getD j 0) (e := r) ?_ (fun j hj hq r h => ?_) (fun j hj hq => ?_) _ (by rw [Bool.and_eq_true, decide_eq_true_iff])
  · refine Ev.step (fun k => ?_) h
    simp only [privityref10_Unlike.l1]
    rw [if_neg (by omega), wnat (by omega)]
  · refine Ev.step (fun k => ?_) h
    simp only [privityref10_Unlike.l1]
    rw [if_pos (by omega), if_pos (by omega), if_pos (by omega), if_pos (by omega), if_pos (by omega), rd_nat, rd_nat, if_neg hq, wnat (by omega)]
  · refine Ev.step (fun k => ?_) (Ev.now _)
    simp only [privityref10_Unlike.l1]
    rw [if_pos (by omega), if_pos (by omega), if_pos (by omega), if_pos (by omega), if_pos (by omega), rd_nat, rd_nat, if_pos (Classical.byContradiction hq)]
theorem take_nodup {l : List Int} {i : Nat} (hi : i < l.length) : (l.take (i + 1)).Nodup ↔ ((l.take i).Nodup ∧ ∀ j, j < i → l.getD i 0 ≠ l.getD j 0) := by
  rw [List.take_succ_eq_append_getElem hi, List.nodup_append]
  constructor
  · rintro ⟨h1, _, h3⟩
    refine ⟨h1, fun j hj e => ?_⟩
    rw [Hw.getD_in _ _ hi, Hw.getD_in _ _ (show j < l.length by omega)] at e
    refine h3 l[j] (List.mem_take_iff_getElem.2 ⟨j, by omega, rfl⟩) l[i] (by simp) e.symm
  · rintro ⟨h1, h2⟩
    refine ⟨h1, by simp, fun a ha b hb e => ?_⟩
    obtain ⟨j, hj, rfl⟩ := List.mem_take_iff_getElem.1 ha
    simp only [List.mem_cons, List.not_mem_nil, or_false] at hb
    have := h2 j (by omega)
    rw [Hw.getD_in _ _ hi, Hw.getD_in _ _ (show j < l.length by omega)] at this
    exact this (by rw [← hb, e])
theorem unlike10_ev (l : List Int) (hl : l.length ≤ 1000000) : Ev (fun k => privityref10_Unlike.f k l) (decide l.Nodup) := by
  have main : Ev (fun k => privityref10_Unlike.l0 k l ((0 : Nat) : Int)) (decide l.Nodup) := by
    by_cases hn : l.Nodup
    · rw [decide_eq_true hn]
      refine up (Q := fun i => Ev (fun k => privityref10_Unlike.l0 k l (i : Int)) true) (n := l.length) ?_ (fun i hi h => ?_)
      · refine Ev.step (fun k => ?_) (Ev.now _)
        simp only [privityref10_Unlike.l0]
        rw [if_neg (by omega)]
      · have h1 := unlike_l1 l hl i hi h
        have h2 : (∀ j, j < i → l.getD i 0 ≠ l.getD j 0) := (take_nodup hi).1 (hn.sublist (List.take_sublist _ _)) |>.2
        rw [decide_eq_true h2, Bool.true_and] at h1
        refine Ev.step (fun k => ?_) h1
        simp only [privityref10_Unlike.l0]
        rw [if_pos (by omega)]; rfl
    · rw [decide_eq_false hn]
      have hex : ∃ i, i < l.length ∧ ¬ (∀ j, j < i → l.getD i 0 ≠ l.getD j 0) := Classical.byContradiction fun h => hn (by
        have hall : ∀ m, m ≤ l.length → (l.take m).Nodup := by
          intro m
          induction m with
          | zero => intro _; simp
          | succ m ih => intro hm; exact (take_nodup (by omega)).2 ⟨ih (by omega), Classical.byContradiction fun hq => h ⟨m, by omega, hq⟩⟩
        have := hall l.length (Nat.le_refl _)
        rwa [List.take_length] at this)
      have hend : Ev (fun k => privityref10_Unlike.l0 k l (l.length : Int)) true := by
        refine Ev.step (fun k => ?_) (Ev.now _)
        simp only [privityref10_Unlike.l0]
        rw [if_neg (by omega)]
      obtain ⟨i, hi, hq⟩ := hex
      have hany : ∀ d j, j + d = l.length → ∃ r, Ev (fun k => privityref10_Unlike.l0 k l (j : Int)) r := by
        intro d
        induction d with
        | zero => intro j hj; exact ⟨true, by rw [show j = l.length from by omega]; exact hend⟩
        | succ d ih =>
          intro j hj
          obtain ⟨r, h⟩ := ih (j + 1) (by omega)
          refine ⟨_, Ev.step (fun k => ?_) (unlike_l1 l hl j (by omega) h)⟩
          simp only [privityref10_Unlike.l0]
          rw [if_pos (by omega)]; rfl
      refine up (Q := fun j => Ev (fun k => privityref10_Unlike.l0 k l (j : Int)) false) (n := i) ?_ (fun j hj h => ?_)
      · obtain ⟨r, h⟩ := hany (l.length - (i + 1)) (i + 1) (by omega)
        have h1 := unlike_l1 l hl i hi h
        rw [decide_eq_false hq, Bool.false_and] at h1
        refine Ev.step (fun k => ?_) h1
        simp only [privityref10_Unlike.l0]
        rw [if_pos (by omega)]; rfl
      · have h1 := unlike_l1 l hl j (by omega) h
        rw [Bool.and_false] at h1
        refine Ev.step (fun k => ?_) h1
        simp only [privityref10_Unlike.l0]
        rw [if_pos (by omega)]; rfl
  exact main.congr fun k => rfl
theorem btrans_ev {p : Int} (hp : Supp p) {n : Nat} {s : List (List Int)} (hq : Sq n s) (hr : ResM p s) (hn : n ≤ 1000) {d : Int} (hd : Res p d) {z : List Int} (hz : ∀ x ∈ z, Res p x) (hzl : z.length = n) :
    Ev (fun k => bivariate_Translate.f k p s d z) (matL n (trG p d (fun a => z.getD a 0) (at2 s))) := by
  have hl := hq.len
  obtain ⟨G, hG⟩ : ∃ G, G = trG p d (fun a => z.getD a 0) (at2 s) := ⟨_, rfl⟩
  rw [← hG]
  have main : Ev (fun k => bivariate_Translate.l0 k p d z (matP n G 0) s (s.length : Int) ((0 : Nat) : Int)) (matL n G) := by
    refine up (Q := fun i => Ev (fun k => bivariate_Translate.l0 k p d z (matP n G i) s (s.length : Int) (i : Int)) (matL n G)) (n := n) ?_ (fun i hi h => ?_)
    · refine Ev.step (f := fun _ => some (matL n G)) (fun k => ?_) (Ev.now _)
      simp only [bivariate_Translate.l0]
      rw [if_neg (by omega)]; rfl
    · have hrl : (rd_L1 s (i : Int)).length = n := by rw [rdM_nat]; exact hq.getD i hi
      have hin : Ev (fun k => bivariate_Translate.l1 k p d z (matP n G i) (i : Int) (tabL 0 (G i)) s (s.length : Int) (i : Int) (rd_L1 s (i : Int)) ((rd_L1 s (i : Int)).length : Int) ((0 : Nat) : Int)) (matL n G) := by
        refine up (Q := fun j => Ev (fun k => bivariate_Translate.l1 k p d z (matP n G i) (i : Int) (tabL j (G i)) s (s.length : Int) (i : Int) (rd_L1 s (i : Int)) ((rd_L1 s (i : Int)).length : Int) (j : Int)) (matL n G)) (n := n) ?_ (fun j hj h2 => ?_)
        · rw [matP_succ] at h
          refine Ev.step (fun k => ?_) h
          simp only [bivariate_Translate.l1]
          rw [if_neg (by omega), if_pos (by rw [matP_length]; omega), wnat (by omega)]
        · rw [tabL_succ] at h2
          have hv : G i j = (at2 s i j + d * (z.getD i 0 * z.getD j 0 % p) % p) % p := by rw [hG]; rfl
          rw [hv] at h2
          refine Ev.step (f := fun k => (field_Mul.f k p (z.getD i 0) (z.getD j 0)).bind fun t => ((field_Mul.f k p d t).bind fun t2 => ((field_Add.f k p (at2 s i j) t2).bind fun t3 => (if (tabL j (G i)).length < 17592186044416 then bivariate_Translate.l1 k p d z (matP n G i) (i : Int) (tabL j (G i) ++ [t3]) s (s.length : Int) (i : Int) (rd_L1 s (i : Int)) ((rd_L1 s (i : Int)).length : Int) ((j + 1 : Nat) : Int) else none)))) (fun k => ?_)
            (Ev.bind (mul_ev hp (res_getD hp hz i) (res_getD hp hz j)) (Ev.bind (mul_ev hp hd (Res.mod hp _)) (Ev.bind (add_ev hp (hr.at2 hp i j) (Res.mod hp _)) (h2.congr fun k => if_pos (by rw [tabL_length]; omega)))))
          simp only [bivariate_Translate.l1]
          rw [if_pos (by omega), if_pos (by omega), if_pos (by omega), if_pos (by omega), if_pos (by omega), if_pos (by omega), rd_at2, rd_nat, rd_nat, wnat (by omega)]
      refine Ev.step (fun k => ?_) hin
      simp only [bivariate_Translate.l0]
      rw [if_pos (by omega), if_pos (by omega), if_pos (by omega)]; rfl
  exact main.congr fun k => rfl
theorem rtrans_ev {p : Int} (hp : Supp p) {n : Nat} {s : List (List Int)} (hq : Sq n s) (hr : ResM p s) (hn : n ≤ 1000) {d : Int} (hd : Res p d) {z : List Int} (hz : ∀ x ∈ z, Res p x) (hzl : z.length = n) :
    Ev (fun k => privityref10_Translate.f k p s d z) (matL n (trG p d (fun a => z.getD a 0) (at2 s))) := by
  have hl := hq.len
  obtain ⟨G, hG⟩ : ∃ G, G = trG p d (fun a => z.getD a 0) (at2 s) := ⟨_, rfl⟩
  rw [← hG]
  have main : Ev (fun k => privityref10_Translate.l0 k p s d z (matP n G 0) ((0 : Nat) : Int)) (matL n G) := by
    refine up (Q := fun i => Ev (fun k => privityref10_Translate.l0 k p s d z (matP n G i) (i : Int)) (matL n G)) (n := n) ?_ (fun i hi h => ?_)
    · refine Ev.step (f := fun _ => some (matL n G)) (fun k => ?_) (Ev.now _)
      simp only [privityref10_Translate.l0]
      rw [if_neg (by omega)]; rfl
    · have hrl : (rd_L1 s (i : Int)).length = n := by rw [rdM_nat]; exact hq.getD i hi
      have hin : Ev (fun k => privityref10_Translate.l1 k p s d z (matP n G i) (i : Int) (tabL 0 (G i)) ((0 : Nat) : Int)) (matL n G) := by
        refine up (Q := fun j => Ev (fun k => privityref10_Translate.l1 k p s d z (matP n G i) (i : Int) (tabL j (G i)) (j : Int)) (matL n G)) (n := n) ?_ (fun j hj h2 => ?_)
        · rw [matP_succ] at h
          refine Ev.step (fun k => ?_) h
          simp only [privityref10_Translate.l1]
          rw [if_neg (by omega), if_pos (by rw [matP_length]; omega), wnat (by omega)]
        · rw [tabL_succ] at h2
          have hv : G i j = (at2 s i j + d * (z.getD i 0 * z.getD j 0 % p) % p) % p := by rw [hG]; rfl
          rw [hv] at h2
          refine Ev.step (f := fun k => (privityref01_Mul.f k p (z.getD i 0) (z.getD j 0)).bind fun t => ((privityref01_Mul.f k p d t).bind fun t2 => ((privityref01_Add.f p (at2 s i j) t2).bind fun t3 => (if (tabL j (G i)).length < 17592186044416 then privityref10_Translate.l1 k p s d z (matP n G i) (i : Int) (tabL j (G i) ++ [t3]) ((j + 1 : Nat) : Int) else none)))) (fun k => ?_)
            (Ev.bind (rmul_ev hp (res_getD hp hz i) (res_getD hp hz j)) (Ev.bind (rmul_ev hp hd (Res.mod hp _)) (ev_now_bind (radd_eq hp (hr.at2 hp i j) (Res.mod hp _)) (h2.congr fun k => if_pos (by rw [tabL_length]; omega)))))
          simp only [privityref10_Translate.l1]
          rw [if_pos (by omega), if_pos (by omega), if_pos (by omega), if_pos (by omega), if_pos (by omega), if_pos (by omega), if_pos (by omega), rd_at2, rd_nat, rd_nat, wnat (by omega)]
      refine Ev.step (fun k => ?_) hin
      simp only [privityref10_Translate.l0]
      rw [if_pos (by omega)]; rfl
  exact main.congr fun k => rfl
def vOut (p n : Int) (z : List Int) (k : Nat) : List Int := tabL (z.length + 1) fun i => if i = 0 ∨ k < i then z.getD i 0 else (z.getD i 0 + n * z.getD (i - 1) 0 % p) % p
theorem vOut_length (p n : Int) (z : List Int) (k : Nat) : (vOut p n z k).length = z.length + 1 := tabL_length _ _
theorem vOut_next (p n : Int) (z : List Int) (k : Nat) (hk : k < z.length) : (vOut p n z k).set (k + 1) ((z.getD (k + 1) 0 + n * z.getD k 0 % p) % p) = vOut p n z (k + 1) := by
  unfold vOut
  rw [tabL_set]
  refine tabL_congr fun i hi => ?_
  by_cases e : i = k + 1
  · subst e; rw [if_pos rfl, if_neg (by omega), Nat.add_sub_cancel]
  · rw [if_neg e]
    by_cases h : i = 0 ∨ k < i
    · rw [if_pos h, if_pos (by omega)]
    · rw [if_neg h, if_neg (by omega)]
theorem vanish_ev {p : Int} (hp : Supp p) {xs : List Int} (hx : ∀ x ∈ xs, Res p x) (h0 : ∀ x ∈ xs, x ≠ 0) (hl : xs.length ≤ 1000) : Ev (fun k => privityref10_Vanish.f k p xs) (vanL p [1] xs) := by
  have hb := hp.bd
  have h1 : ∀ x ∈ ([1] : List Int), Res p x := fun x hx => by
    simp only [List.mem_cons, List.not_mem_nil, or_false] at hx; subst hx; exact ⟨by omega, by omega⟩
  have main : Ev (fun k => privityref10_Vanish.l0 k p xs (vanL p [1] (xs.take 0)) ((0 : Nat) : Int)) (vanL p [1] xs) := by
    refine up (Q := fun i => Ev (fun k => privityref10_Vanish.l0 k p xs (vanL p [1] (xs.take i)) (i : Int)) (vanL p [1] xs)) (n := xs.length) ?_ (fun i hi h => ?_)
    · rw [List.take_length]
      refine Ev.step (f := fun _ => some (vanL p [1] xs)) (fun k => ?_) (Ev.now _)
      simp only [privityref10_Vanish.l0]
      rw [if_neg (by omega)]
    · obtain ⟨z, hz⟩ : ∃ z, z = vanL p [1] (xs.take i) := ⟨_, rfl⟩
      rw [← hz]
      obtain ⟨f1, f2, f3⟩ := vanL_facts hp (xs.take i) [1] h1
      rw [← hz] at f1 f2 f3
      rw [List.length_take] at f2
      simp only [List.length_cons, List.length_nil] at f2
      have hxi : xs.getD i 0 ∈ xs := by rw [Hw.getD_in _ _ hi]; exact List.getElem_mem _
      have hri := hx _ hxi
      have hnz := h0 _ hxi
      have hnext : vanL p [1] (xs.take (i + 1)) = vstep p z (xs.getD i 0) := by
        rw [List.take_succ_eq_append_getElem hi, ← Hw.getD_in _ _ hi, hz]
        unfold vanL
        rw [List.foldl_append]; rfl
      rw [hnext] at h
      have hvr : Res p (vinv p (xs.getD i 0)) := Res.mod hp _
      have hlast : vOut p (vinv p (xs.getD i 0)) z z.length = vstep p z (xs.getD i 0) := by
        refine tabL_congr fun j hj => ?_
        by_cases e : j = 0
        · subst e; rw [if_pos (Or.inl rfl), if_pos rfl]
        · rw [if_neg (by omega), if_neg e]
      have hin : Ev (fun k => privityref10_Vanish.l1 k p xs z (i : Int) (vinv p (xs.getD i 0)) (vOut p (vinv p (xs.getD i 0)) z 0) ((0 : Nat) : Int)) (vanL p [1] xs) := by
        refine up (Q := fun j => Ev (fun k => privityref10_Vanish.l1 k p xs z (i : Int) (vinv p (xs.getD i 0)) (vOut p (vinv p (xs.getD i 0)) z j) (j : Int)) (vanL p [1] xs)) (n := z.length) ?_ (fun j hj h2 => ?_)
        · rw [hlast]
          refine Ev.step (fun k => ?_) h
          simp only [privityref10_Vanish.l1]
          rw [if_neg (by omega), wnat (by omega)]
        · have hol := vOut_length p (vinv p (xs.getD i 0)) z j
          have hrd : rd (vOut p (vinv p (xs.getD i 0)) z j) ((j + 1 : Nat) : Int) = z.getD (j + 1) 0 := by
            rw [rd_nat]
            unfold vOut
            rw [tabL_getD, if_pos (by omega), if_pos (by omega)]
          rw [← vOut_next p _ z j hj] at h2
          refine Ev.step (f := fun k => (privityref01_Mul.f k p (vinv p (xs.getD i 0)) (z.getD j 0)).bind fun t => ((privityref01_Add.f p (z.getD (j + 1) 0) t).bind fun t2 => privityref10_Vanish.l1 k p xs z (i : Int) (vinv p (xs.getD i 0)) ((vOut p (vinv p (xs.getD i 0)) z j).set (j + 1) t2) ((j + 1 : Nat) : Int))) (fun k => ?_) (Ev.bind (rmul_ev hp hvr (res_getD hp f1 j)) (ev_now_bind (radd_eq hp (res_getD hp f1 (j + 1)) (Res.mod hp _)) h2))
          simp only [privityref10_Vanish.l1]
          rw [wnat (by omega), if_pos (by omega), if_pos (by omega), if_pos (by omega), if_pos (by omega), hrd, rd_nat, Int.toNat_natCast]
      have hstart : z ++ [0] = vOut p (vinv p (xs.getD i 0)) z 0 := by
        refine list_ext_getD (by rw [vOut_length, List.length_append]; rfl) fun j => ?_
        unfold vOut
        rw [tabL_getD]
        by_cases hj : j < z.length
        · rw [if_pos (by omega), if_pos (by omega), List.getD_eq_getElem?_getD, List.getElem?_append_left hj, ← List.getD_eq_getElem?_getD]
        · rw [List.getD_eq_getElem?_getD, List.getElem?_append_right (by omega)]
          by_cases e : j = z.length
          · subst e
            rw [if_pos (by omega), if_pos (by omega), Nat.sub_self, getD_out z z.length (Nat.le_refl _)]; rfl
          · rw [if_neg (by omega), List.getElem?_eq_none (by simp; omega)]; rfl
      rw [← hstart] at hin
      refine Ev.step (f := fun k => (privityref01_Inverse.f k p (xs.getD i 0)).bind fun bt => ((privityref01_Sub.f p 0 bt.1).bind fun t => (if ([] : List Int).length + z.length < 17592186044416 then (if ([] ++ z).length < 17592186044416 then privityref10_Vanish.l1 k p xs z (i : Int) t (([] ++ z) ++ [0]) 0 else none) else none))) (fun k => ?_) ?_
      · simp only [privityref10_Vanish.l0]
        rw [if_pos (by omega), if_pos (by omega), rd_nat]
        refine congrArg (Option.bind _) (funext fun bt => congrArg (Option.bind _) (funext fun t => ?_))
        simp only [Option.bind_some]
      · refine Ev.bind (rinv_ev hp hri hnz) (ev_now_bind (rsub_eq hp ⟨Int.le_refl 0, by omega⟩ (inv_res hp _)) (Ev.congr (fun k => if_pos (by simp; omega)) (Ev.congr (fun k => if_pos (by simp; omega)) ?_)))
        exact hin.congr fun k => rfl
  exact main.congr fun k => rfl
/-! A check that leads to facts. -/
theorem ex_if {P : Prop} {A : Nat → Option Bool} {b : Bool} (hA : Ev A b) {X Y : Nat → Option Bool} (hx : b = true → ∃ r, Ev X r ∧ (r = true → P)) (hy : b = false → Ev Y false) : ∃ r, Ev (fun k => (A k).bind fun t => if t = true then X k else Y k) r ∧ (r = true → P) := by
  cases b with
  | true => obtain ⟨r, h1, h2⟩ := hx rfl; exact ⟨r, ev_if hA (fun _ => h1) (fun e => by cases e), h2⟩
  | false => exact ⟨false, ev_if hA (fun e => by cases e) (fun _ => hy rfl), fun e => by cases e⟩
theorem ex_ite {P c : Prop} [Decidable c] {X Y : Nat → Option Bool} (hx : c → ∃ r, Ev X r ∧ (r = true → P)) (hy : ¬ c → Ev Y false) : ∃ r, Ev (fun k => if c then X k else Y k) r ∧ (r = true → P) := by
  by_cases h : c
  · obtain ⟨r, h1, h2⟩ := hx h; exact ⟨r, ev_ite (fun _ => h1) (fun e => absurd h e), h2⟩
  · exact ⟨false, ev_ite (fun e => absurd e h) (fun _ => hy h), fun e => by cases e⟩
def fairS (p : Int) (s : List (List Int)) (m : Nat) : Bool := fairB p s m && sqB s
theorem fairS_ev (p : Int) (s : List (List Int)) (m : Nat) (hm0 : m ≤ 1000) : Ev (fun k => privityref10_Fair.f k p s (m : Int)) (fairS p s m) := by
  unfold fairS
  refine ev_if (fair_ev p s m hm0) (fun hf => ?_) (fun hf => by rw [hf]; exact Ev.now _)
  rw [hf, Bool.true_and]
  refine Ev.congr (fun k => ?_) (square_ev s ?_)
  · cases privityref10_Square.f k s <;> rfl
  · unfold fairB at hf
    rw [Bool.and_eq_true, Bool.and_eq_true, decide_eq_true_iff] at hf
    omega
structure Fs (p : Int) (s : List (List Int)) : Prop where
  hp : Supp p
  n0 : 0 < s.length
  n6 : s.length ≤ 6
  sq : Sq s.length s
  res : ResM p s
theorem fairS_fs {p : Int} {s : List (List Int)} (h : fairS p s 6 = true) (hw : ∀ r ∈ s, ∀ x ∈ r, 0 ≤ x) : Fs p s := by
  unfold fairS at h
  rw [Bool.and_eq_true] at h
  have h1 := fair_res h.1 hw
  have h2 := sqB_iff.1 h.2
  exact ⟨h1.1, h2.2, h1.2.1, h2.1, h1.2.2.2⟩
structure Vt (p : Int) (s : List (List Int)) (xs : List Int) (d x : Int) : Prop where
  fs : Fs p s
  sym : ∀ i, i < s.length → ∀ j, j < s.length → at2 s i j = at2 s j i
  xr : ∀ x ∈ xs, Res p x
  xl : xs.length + 1 = s.length
  nd : (0 :: xs).Nodup
  dr : Res p d
  rx : Res p x
theorem valid_ev (p : Int) (s : List (List Int)) (xs : List Int) (d x : Int) (ws : ∀ r ∈ s, ∀ x ∈ r, 0 ≤ x) (wx : ∀ x ∈ xs, 0 ≤ x) (wd : 0 ≤ d) (wx2 : 0 ≤ x) : ∃ r, Ev (fun k => privitylaw10_validTranslation.f k p s xs d x) r ∧ (r = true → Vt p s xs d x) := by
  have hno : Ev (fun k => privitylaw10_validTranslation.j0 k true p s xs d x) false := Ev.step (f := fun _ => some false) (fun k => by simp only [privitylaw10_validTranslation.j0]; rw [if_pos trivial]) (Ev.now _)
  unfold privitylaw10_validTranslation.f
  refine ex_if (fairS_ev p s 6 (by omega)) (fun h1 => ?_) (fun _ => hno)
  have hf := fairS_fs h1 ws
  have hn6 := hf.n6
  have hn0 := hf.n0
  refine ex_if (rsym_ev s (by omega)) (fun h2 => ex_if (bel_ev p xs 6 (by omega)) (fun h3 => ex_ite (fun h4 => ?_) (fun _ => hno)) (fun _ => hno)) (fun _ => hno)
  rw [w64' (by omega) (by omega)] at h4
  refine ex_if (unlike10_ev xs (by omega)) (fun h5 => ?_) (fun _ => hno)
  by_cases hd : d ≥ p
  · exact ⟨false, hno.congr fun k => if_pos hd, fun e => by cases e⟩
  · by_cases hx : x ≥ p
    · exact ⟨false, hno.congr fun k => by rw [if_neg hd, decide_eq_true hx], fun e => by cases e⟩
    · have hl := allL (F := fun k i => privitylaw10_validTranslation.l0 k i p s xs d x) (n := xs.length) (Q := fun i => xs.getD i 0 ≠ 0) (e := true) ?_ (fun i hi hq r h => ?_) (fun i hi hq => ?_) (decide (∀ i, i < xs.length → xs.getD i 0 ≠ 0)) (by rw [decide_eq_true_iff]; exact ⟨fun h => ⟨h, rfl⟩, fun h => h.1⟩)
      · refine ⟨_, Ev.congr (fun k => by rw [if_neg hd, decide_eq_false hx]) (Ev.step (f := fun k => privitylaw10_validTranslation.l0 k ((0 : Nat) : Int) p s xs d x) (fun k => ?_) hl), fun h6 => ?_⟩
        · simp only [privitylaw10_validTranslation.j0]
          rw [if_neg (by simp)]; rfl
        · rw [decide_eq_true_iff] at h6
          refine ⟨hf, (symB_iff.1 h2).2.2, (bel_res h3 wx).2, by omega, List.nodup_cons.2 ⟨fun hm => ?_, of_decide_eq_true h5⟩, ⟨wd, by omega⟩, ⟨wx2, by omega⟩⟩
          obtain ⟨i, hi, e⟩ := List.getElem_of_mem hm
          exact h6 i hi (by rw [Hw.getD_in _ _ hi]; exact e)
      · refine Ev.step (fun k => ?_) (Ev.now _)
        simp only [privitylaw10_validTranslation.l0]
        rw [if_neg (by omega)]
      · refine Ev.step (fun k => ?_) h
        simp only [privitylaw10_validTranslation.l0]
        rw [if_pos (by omega), if_pos (by omega), rd_nat, if_neg hq, wnat (by omega)]
      · refine Ev.step (fun k => ?_) (Ev.now _)
        simp only [privitylaw10_validTranslation.l0]
        rw [if_pos (by omega), if_pos (by omega), rd_nat, if_pos (Classical.byContradiction hq)]
end Go.Proofs.Ytkhdocabgmemiaa.E
end
section
/-
  What the statements of chapter 10 share: the first check.
-/
namespace Go.Proofs.Ytkhdocabgmemiaa.E
open Go.RowKit Go.Proofs.Ytkhdocabgmemiaa.Pr Go.Proofs.Ytkhdocabgmemiaa.Hw Go.Proofs.Ytkhdocabgmemiaa.Pl Go.Proofs.YtkhdocabgmemiaaW.PrintWords Go.Proofs.YtkhdocabgmemiaaW.PrintLast Go.Proofs.YtkhdocabgmemiaaW.PrintMore
set_option linter.unusedVariables false
set_option linter.unusedSimpArgs false

theorem awake10 : Ev (fun k => privitylaw10_awake.f k) true := Ev.of (fun k => privitylaw10_awake.mono _) (k := 60) privitylaw10_awake.is
theorem awake10' : Ev (fun k => (privitylaw10_awake.f k).bind fun t => some t) true := Ev.bind awake10 (Ev.now _)
end Go.Proofs.Ytkhdocabgmemiaa.E
end
section
/-
  A translated matrix has the same rows at the given points and another secret; translating back restores it.
-/
namespace Go.Proofs.Ytkhdocabgmemiaa.Pure
open Go.RowKit Go.Proofs.Ytkhdocabgmemiaa.Pr Go.Proofs.Ytkhdocabgmemiaa.Hw Go.Proofs.Ytkhdocabgmemiaa.E Go.Proofs.YtkhdocabgmemiaaW.PrintWords Go.Proofs.YtkhdocabgmemiaaW.PrintLast Go.Proofs.YtkhdocabgmemiaaW.PrintMore
set_option linter.unusedVariables false
set_option linter.unusedSimpArgs false

theorem bps_main {p : Int} {s : List (List Int)} {xs : List Int} {d x : Int} (h : Vt p s xs d x) : Ev (fun k => (privityref10_Vanish.f k p xs).bind fun t442 => ((bivariate_Translate.f k p s d t442).bind fun t445 => ((privityref10_Translate.f k p s d t442).bind fun t448 => ((privityref06_Same.f k t445 t448).bind fun t451 => (if t451 = true then ((bivariate_IsSymmetric.f k t445).bind fun t452 => (privitylaw10_BivariatePerfectSecrecy.j0 k t442 t445 (!t452) p s xs d x)) else (privitylaw10_BivariatePerfectSecrecy.j0 k t442 t445 true p s xs d x)))))) true := by
  have hp := h.fs.hp
  have hb := hp.bd
  have n6 := h.fs.n6
  have n0 := h.fs.n0
  have hxl := h.xl
  have hxs := List.nodup_cons.1 h.nd
  have h1 : ∀ x ∈ ([1] : List Int), Res p x := fun x hx => by
    simp only [List.mem_cons, List.not_mem_nil, or_false] at hx; subst hx; exact ⟨by omega, by omega⟩
  have hnz : ∀ y ∈ xs, y ≠ 0 := fun y hy e => hxs.1 (by rw [← e]; exact hy)
  obtain ⟨f1, f2, f3⟩ := vanL_facts hp xs [1] h1
  have hv := vanish_ev hp h.xr hnz (by omega)
  have hroot : ∀ y ∈ xs, evI p y (vanL p [1] xs) = 0 := fun y hy => vanL_root hp y (h.xr y hy) (hnz y hy) xs [1] hy
  obtain ⟨v, hvv⟩ : ∃ v, v = vanL p [1] xs := ⟨_, rfl⟩
  rw [← hvv] at f1 f2 f3 hv hroot
  simp only [List.length_cons, List.length_nil, List.getD_cons_zero] at f2 f3
  have hvl : v.length = s.length := by omega
  have hb1 := btrans_ev hp h.fs.sq h.fs.res (by omega) h.dr f1 hvl
  have hb2 := rtrans_ev hp h.fs.sq h.fs.res (by omega) h.dr f1 hvl
  obtain ⟨G, hG⟩ : ∃ G, G = trG p d (fun a => v.getD a 0) (at2 s) := ⟨_, rfl⟩
  rw [← hG] at hb1 hb2
  obtain ⟨m, hm⟩ : ∃ m, m = matL s.length G := ⟨_, rfl⟩
  rw [← hm] at hb1 hb2
  have hmq : Sq s.length m := by rw [hm]; exact matL_sq _ _
  have hml : m.length = s.length := hmq.len
  have hmr : ResM p m := by
    rw [hm]
    intro r hr
    obtain ⟨i, _, rfl⟩ := List.mem_map.1 hr
    exact tabL_res fun j _ => by rw [hG]; exact trG_res hp _ _ _ _ _
  have hat : ∀ i, i < s.length → ∀ j, j < s.length → at2 m i j = G i j := fun i hi j hj => by rw [hm]; exact at2_matL hi hj
  have htab : tabL s.length (fun a => v.getD a 0) = v := by rw [← hvl]; exact tabL_of v
  have hsym : symB m = true := symB_iff.2 ⟨by rw [hml]; exact hmq, by omega, fun i hi j hj => by
    rw [hat i (by omega) j (by omega), hat j (by omega) i (by omega), hG]
    exact trG_sym h.sym i (by omega) j (by omega)⟩
  have hrow : ∀ y ∈ xs, rowX p s.length (at2 m) y = rowX p s.length (at2 s) y := fun y hy => by
    rw [rowX_congr hat, hG]
    exact rowX_tr hp s.length d _ y (by rw [htab]; exact hroot y hy)
  have hneg : Res p (-d % p) := Res.mod hp _
  have hback := btrans_ev hp hmq hmr (by omega) hneg f1 hvl
  have hbe : matL s.length (trG p (-d % p) (fun a => v.getD a 0) (at2 m)) = s := by
    refine matL_ext (matL_sq _ _) h.fs.sq fun i hi j hj => ?_
    rw [at2_matL hi hj]
    have e1 : trG p (-d % p) (fun a => v.getD a 0) (at2 m) i j = trG p (-d % p) (fun a => v.getD a 0) G i j := by unfold trG; rw [hat i hi j hj]
    have e2 : (d + -d % p) % p = 0 := by rw [Int.add_emod_emod, Int.add_right_neg]; exact Int.zero_emod p
    rw [e1, hG, trG_twice hp, e2]
    exact trG_zero hp _ (h.fs.res.at2 hp i j)
  rw [hbe] at hback
  have hz : Res p 0 := ⟨Int.le_refl 0, by omega⟩
  have hev : ∀ g : Nat → Nat → Int, (∀ i, i < s.length → ∀ j, j < s.length → Res p (g i j)) → evI p 0 (rowX p s.length g 0) = g 0 0 := fun g hg => by
    rw [evI_zero' hp (rowX_res hp _ _ _)]
    unfold rowX
    rw [tabL_getD, if_pos n0, evI_zero' hp (tabL_res fun i hi => hg i hi 0 n0), tabL_getD, if_pos n0]
  have e00 : evI p 0 (rowX p s.length (at2 m) 0) = (evI p 0 (rowX p s.length (at2 s) 0) + d) % p := by
    rw [hev _ (fun i hi j hj => hmr.at2 hp i j), hev _ (fun i hi j hj => h.fs.res.at2 hp i j), hat 0 n0 0 n0, hG]
    unfold trG
    simp only
    rw [f3, Int.one_mul]
    have : (1 : Int) % p = 1 := Int.emod_eq_of_lt (by omega) (by omega)
    rw [this, Int.mul_one, h.dr.eq]
  have hend : Ev (fun k => privitylaw10_BivariatePerfectSecrecy.l0 k v m (xs.length : Int) p s xs d x) true := by
    refine Ev.step (f := fun k => (field_Neg.f p d).bind fun t462 => ((bivariate_Translate.f k p m t462 v).bind fun t463 => ((privitylaw10_awake.f k).bind fun t466 => (if t466 = true then ((bivariate_Eval.f k p m 0 0).bind fun t467 => ((bivariate_Eval.f k p s 0 0).bind fun t468 => ((field_Add.f k p t468 d).bind fun t469 => (if t467 = t469 then ((privityref06_Same.f k t463 s).bind fun t470 => (some t470)) else (some false))))) else (some false))))) (fun k => ?_) ?_
    · simp only [privitylaw10_BivariatePerfectSecrecy.l0]
      rw [if_neg (by omega)]
    · refine ev_now_bind (neg_eq hp h.dr) (Ev.bind hback (ev_if awake10 (fun _ => Ev.bind (beval_ev hp hmq hmr (by omega) hz hz) (Ev.bind (beval_ev hp h.fs.sq h.fs.res (by omega) hz hz) (Ev.bind (add_ev hp (evI_res hp _ _) h.dr) (Ev.congr (fun k => if_pos e00) (Ev.bind (samem_ev s s (by omega) (fun r hr => by rw [h.fs.sq.row r hr]; omega)) ?_))))) (fun e => by cases e)))
      rw [decide_eq_true rfl]; exact Ev.now _
  have hl0 : Ev (fun k => privitylaw10_BivariatePerfectSecrecy.l0 k v m ((0 : Nat) : Int) p s xs d x) true := by
    refine up (Q := fun i => Ev (fun k => privitylaw10_BivariatePerfectSecrecy.l0 k v m (i : Int) p s xs d x) true) (n := xs.length) hend fun i hi hn => ?_
    have hxi : xs.getD i 0 ∈ xs := by rw [Hw.getD_in _ _ hi]; exact List.getElem_mem _
    have hs := samel_ev (rowX p s.length (at2 m) (xs.getD i 0)) (rowX p s.length (at2 s) (xs.getD i 0)) (by rw [rowX_length]; omega)
    rw [decide_eq_true (hrow _ hxi)] at hs
    refine Ev.step (f := fun k => (bivariate_Row.f k p m (xs.getD i 0)).bind fun t454 => ((bivariate_Row.f k p s (xs.getD i 0)).bind fun t458 => ((privityref06_SameList.f k t454 t458).bind fun t461 => (if t461 = true then (privitylaw10_BivariatePerfectSecrecy.l0 k v m ((i + 1 : Nat) : Int) p s xs d x) else (some false))))) (fun k => ?_) (Ev.bind (brow_ev hp hmq hmr (by omega) (h.xr _ hxi)) (Ev.bind (brow_ev hp h.fs.sq h.fs.res (by omega) (h.xr _ hxi)) (ev_if hs (fun _ => hn) fun e => by cases e)))
    simp only [privitylaw10_BivariatePerfectSecrecy.l0]
    rw [if_pos (by omega), if_pos (by omega), rd_nat, wnat (by omega)]
  have hsame := samem_ev m m (by omega) (fun r hr => by rw [hmq.row r hr]; omega)
  rw [decide_eq_true rfl] at hsame
  have hsm := bsym_ev m (by omega)
  rw [hsym] at hsm
  refine Ev.bind hv (Ev.bind hb1 (Ev.bind hb2 (ev_if hsame (fun _ => Ev.bind hsm (Ev.step (fun k => ?_) hl0)) fun e => by cases e)))
  simp only [privitylaw10_BivariatePerfectSecrecy.j0]
  rw [if_neg (by simp)]; rfl
theorem BivariatePerfectSecrecy (p : Int) (s : List (List Int)) (xs : List Int) (d x : Int) (wp : (Lit.int .u64 p).wf = true) (ws : ∀ x_ ∈ s, ∀ y_ ∈ x_, (Lit.int .u64 y_).wf = true) (wx : ∀ x_ ∈ xs, (Lit.int .u64 x_).wf = true) (wd : (Lit.int .u64 d).wf = true) (wx2 : (Lit.int .u64 x).wf = true) : ∃ k, privitylaw10_BivariatePerfectSecrecy.f k p s xs d x = some true := by
  refine Ev.rounds (r := true) ?_
  obtain ⟨r, h1, h2⟩ := valid_ev p s xs d x (fun r hr y hy => (wf64 (ws r hr y hy)).1) (fun y hy => (wf64 (wx y hy)).1) (wf64 wd).1 (wf64 wx2).1
  exact ev_if h1 (fun e => bps_main (h2 e)) (fun _ => awake10')
end Go.Proofs.Ytkhdocabgmemiaa.Pure
end
section
/-
  What came in, opened: numbers, bools, rows and structs of them, to any depth.
-/
namespace Go.Proofs.Ytkhdocabgmemiaa.Op
open Go.RowKit Go.Proofs.YtkhdocabgmemiaaW.PrintWords
set_option linter.unusedVariables false

/-- What is read of a type's value is a value of d, and Q holds of it. -/
def OpenK {α : Type} (P : Program) (t : TypeId) (d : Kd α) (Q : α → Prop) : Prop :=
  ∀ {H : Type} {enc : TypeId × Value → H} {w : World} {base : Nat} {sp : Nat → Bool} {hd : Bool} {fuel : Nat} {cs : List Value} {x : DataW H × List MemPlace}, DataW.trod enc P w base sp hd fuel t cs = some x → ∃ v : α, d.K w v cs ∧ Q v
theorem openInt {P : Program} {t : TypeId} {k : IntKind} (ht : P.underlying t = some (.int k)) : OpenK P t (Kd.int k) (fun n => (Lit.int k n).wf = true) := by
  intro H enc w base sp hd fuel cs x h
  obtain ⟨n, rfl, _, hw⟩ := DataW.trod_int ht h
  exact ⟨n, rfl, hw⟩
theorem exists_list {α : Type} {R : Nat → α → Prop} : ∀ (n : Nat), (∀ i, i < n → ∃ v, R i v) → ∃ l : List α, l.length = n ∧ ∀ i v, l[i]? = some v → R i v
  | 0, _ => ⟨[], rfl, fun i v h => by simp at h⟩
  | n + 1, h => by
    obtain ⟨l, hl, hr⟩ := exists_list n (fun i hi => h i (by omega))
    obtain ⟨v, hv⟩ := h n (by omega)
    refine ⟨l ++ [v], by simp [hl], fun i u hu => ?_⟩
    by_cases hi : i < n
    · rw [List.getElem?_append_left (by omega)] at hu
      exact hr i u hu
    · rw [List.getElem?_append_right (by omega)] at hu
      by_cases h0 : i - l.length = 0
      · rw [h0] at hu
        simp only [List.getElem?_cons_zero, Option.some.injEq] at hu
        rw [← hu, show i = n from by omega]; exact hv
      · rw [List.getElem?_eq_none (by simp; omega)] at hu; cases hu
theorem openSlice {α : Type} {P : Program} {t e : TypeId} {d : Kd α} {Q : α → Prop} (ht : P.underlying t = some (.slice e)) (hc : P.cellsOf e = d.sz) (he : OpenK P e d Q) : OpenK P t (Kd.slice e d) (fun l => ∀ x ∈ l, Q x) := by
  intro H enc w base sp hd fuel cs x h
  rcases DataW.trod_slice ht h with ⟨rfl, _⟩ | ⟨a, len, cap, elems, rest, n, _, rfl, _, _, hlc, hm, hlen, hel, _, _⟩
  · exact ⟨[], ⟨none, 0, rfl, Nat.le_refl _, rfl, Nat.zero_le _, fun h => absurd h (Nat.lt_irrefl 0)⟩, fun x hx => by cases hx⟩
  · have each : ∀ i, i < len → ∃ v, (∃ c, c.length = d.sz ∧ d.K w v c ∧ ∀ j u, c[j]? = some u → w.cell? (a.add (i * d.sz + j)) = some u) ∧ Q v := by
      intro i hi
      have h1 := hel i hi
      rw [List.getElem?_eq_getElem (by omega), hc] at h1
      obtain ⟨c, hcs, htr⟩ := Option.bind_eq_some_iff.1 h1
      obtain ⟨v, hk, hq⟩ := he htr
      refine ⟨v, ⟨c, d.K_len hk, hk, fun j u hu => ?_⟩, hq⟩
      have h2 := World.cells?_some hcs
      have hj := (List.getElem?_eq_some_iff.1 hu).1
      have h3 := h2.2.2 j (by rw [← d.K_len hk]; exact hj)
      rw [hu] at h3
      rw [← h3, ← Addr.add_add]
    obtain ⟨l, hl, hr⟩ := exists_list len each
    refine ⟨l, ⟨some a, cap, by rw [hl], by omega, rfl, by rw [hl]; simp only [maxLen] at hm; omega, fun _ => ⟨a, rfl, fun j p hj => (hr j p hj).1⟩⟩, fun x hx => ?_⟩
    obtain ⟨i, hi, rfl⟩ := List.getElem_of_mem hx
    exact (hr i _ (List.getElem?_eq_getElem hi)).2
/-- A struct's fields. -/
theorem openFields {P : Program} {H : Type} {enc : TypeId × Value → H} {w : World} {base : Nat} {sp : Nat → Bool} {hd : Bool} {fuel : Nat} {t : TypeId} {cs : List Value} {x : DataW H × List MemPlace} {fs : Array Field} (ht : P.underlying t = some (.struct fs))
    (h : DataW.trod enc P w base sp hd fuel t cs = some x) : cs.length = P.cellsOf t ∧ ∀ (i : Nat) (f : Field), fs[i]? = some f → ∃ n y, DataW.trod enc P w base sp hd n f.type ((cs.drop f.offset).take (P.cellsOf f.type)) = some y := by
  obtain ⟨xs, n, _, _, hl, hlen, hf⟩ := DataW.trod_struct ht h
  refine ⟨hl, fun i f hi => ?_⟩
  have h1 := hf i f hi
  have h2 : i < fs.size := (Array.getElem?_eq_some_iff.1 hi).1
  rw [List.getElem?_eq_getElem (by omega)] at h1
  exact ⟨n, _, h1⟩
end Go.Proofs.Ytkhdocabgmemiaa.Op
end
section
/- The row of the law BivariatePerfectSecrecy, out of its plain law and the walk. -/
namespace Go.Proofs.Ytkhdocabgmemiaa.bivariatePerfectSecrecy
open Go.ChangeShapes Go.WideShapes Go.ChangeAt Go.RowKit Go.Proofs.Ytkhdocabgmemiaa.Pr Go.Proofs.YtkhdocabgmemiaaW.PrintWords
set_option linter.unusedVariables false
theorem own : ownKnob Try.prog.godebug = none := by kernel_rfl
theorem laidOut : laidOutB Try.prog = true := by kernel_rfl
theorem arr5 (cs : Array Value) (h : cs.size = 5) : ∃ c0_ c1_ c2_ c3_ c4_, cs = #[c0_, c1_, c2_, c3_, c4_] := by
  obtain ⟨l_⟩ := cs
  match l_, h with
  | [c0_, c1_, c2_, c3_, c4_], _ => exact ⟨_, _, _, _, _, rfl⟩
set_option maxHeartbeats 4000000 in
set_option maxRecDepth 100000 in
theorem lifted (os : Os) (started : os.Started) (H : Type) (enc : TypeId × Value → H) :
    ReturnsInHanded {} Try.checked os 6 .any (Rows.bivariatePerfectSecrecySpec.pre6 enc Try.prog Try.f6 Rows.bivariatePerfectSecrecyRow.domain false) (Rows.bivariatePerfectSecrecySpec.post enc Try.prog Try.f6 false true false false) := by
  refine returnsInHanded_of_change_sized (C := Try.checked) own started (by kernel_rfl) Try.func6
    (ChangeSpec.witness6 (enc := enc) (C := Try.checked) false ⟨#[], #[.agg #[.int .u64 0, .slice none 0 0, .slice none 0 0, .int .u64 0, .int .u64 0]], []⟩ 8 (by kernel_rfl) (by kernel_rfl) (by kernel_rfl) (by kernel_rfl)) ?_
  intro W base args ds gs before hval0 hW hcnd hsz0 _
  have hval : ∀ (j : Nat) t v, Try.f6.params[j]? = some t → args[j]? = some v → Value.okWide Try.prog W .any base t v := hval0
  have hW' := hW
  obtain ⟨p, q, hA0, hV, rfl, hfz, hnd⟩ := hW
  have hA : DataW.TrodAll enc Try.prog W 0 (fun _ => true) true Try.f6.params.toList args.toList ds p := hA0
  rw [Try.params6] at hA hval
  obtain ⟨v0, vs0, d0, ds0, p0, q0, hargs, rfl, rfl, h0, r0⟩ := trodAll_cons hA
  obtain ⟨rfl, rfl, rfl⟩ := trodAll_nil r0
  obtain rfl : args = #[v0] := by cases args; simp_all
  obtain ⟨rfl, rfl⟩ := trodVars_none hV
  have k0 := h0
  have lt0 : ∀ x ∈ p0, x.block < W.heap.size := by obtain ⟨m, hm⟩ := k0; exact DataW.trod_lt m _ _ _ hm
  obtain ⟨cs0, rfl, hs0⟩ := okWide_struct Try.underlying39 (hval 0 39 v0 rfl rfl)
  have hN0 : Try.prog.cellsOf 39 = 5 := by kernel_rfl
  rw [hN0] at hs0
  obtain ⟨x0_0, x0_1, x0_2, x0_3, x0_4, rfl⟩ := arr5 cs0 hs0
  obtain ⟨fu0, hf0⟩ := h0
  have hg0 : DataW.trod enc Try.prog W 0 (fun _ => true) true fu0 39 [x0_0, x0_1, x0_2, x0_3, x0_4] = some (d0, p0) := hf0
  have f0 := (Op.openFields Try.underlying39 hg0).2
  obtain ⟨n0_0, y0_0, e0_0⟩ := f0 0 _ rfl
  have b0_0 : DataW.trod enc Try.prog W 0 (fun _ => true) true n0_0 31 [x0_0] = some y0_0 := e0_0
  obtain ⟨a0_0, e0_0, w0_0⟩ := (Op.openInt (k := .u64) Try.underlying31) b0_0
  cases e0_0
  obtain ⟨n0_1, y0_1, e0_1⟩ := f0 1 _ rfl
  have b0_1 : DataW.trod enc Try.prog W 0 (fun _ => true) true n0_1 24 [x0_1] = some y0_1 := e0_1
  obtain ⟨z0_1, ⟨A0_1, c0_1, e0_1, hc0_1, g0_1⟩, w0_1⟩ := (Op.openSlice (d := (Kd.slice 31 (Kd.int .u64))) Try.underlying24 (by kernel_rfl) (Op.openSlice (d := (Kd.int .u64)) Try.underlying22 (by kernel_rfl) (Op.openInt (k := .u64) Try.underlying31))) b0_1
  cases e0_1
  obtain ⟨n0_2, y0_2, e0_2⟩ := f0 2 _ rfl
  have b0_2 : DataW.trod enc Try.prog W 0 (fun _ => true) true n0_2 22 [x0_2] = some y0_2 := e0_2
  obtain ⟨z0_2, ⟨A0_2, c0_2, e0_2, hc0_2, g0_2⟩, w0_2⟩ := (Op.openSlice (d := (Kd.int .u64)) Try.underlying22 (by kernel_rfl) (Op.openInt (k := .u64) Try.underlying31)) b0_2
  cases e0_2
  obtain ⟨n0_3, y0_3, e0_3⟩ := f0 3 _ rfl
  have b0_3 : DataW.trod enc Try.prog W 0 (fun _ => true) true n0_3 31 [x0_3] = some y0_3 := e0_3
  obtain ⟨a0_3, e0_3, w0_3⟩ := (Op.openInt (k := .u64) Try.underlying31) b0_3
  cases e0_3
  obtain ⟨n0_4, y0_4, e0_4⟩ := f0 4 _ rfl
  have b0_4 : DataW.trod enc Try.prog W 0 (fun _ => true) true n0_4 31 [x0_4] = some y0_4 := e0_4
  obtain ⟨a0_4, e0_4, w0_4⟩ := (Op.openInt (k := .u64) Try.underlying31) b0_4
  cases e0_4
  clear hA0 hval0 hsz0
  obtain ⟨kk, hk⟩ := Pure.BivariatePerfectSecrecy a0_0 z0_1 z0_2 a0_3 a0_4 w0_0 w0_1 w0_2 w0_3 w0_4
  refine (privitylaw10_BivariatePerfectSecrecy.calls kk a0_0 _ _ z0_1 _ _ z0_2 a0_3 a0_4 true W g0_1 hc0_1 g0_2 hc0_2 rfl hk).mono fun e W' ⟨he, bel⟩ => ?_
  subst he
  exact ⟨_, rfl, _, _, _, [], _, [], hW', trodAll_mk1 (shut_bool Try.underlying4 _), (trodAll_cons_mk (Below.trod laidOut (by kernel_rfl) (of_decide_eq_true (by kernel_rfl)) k0 bel lt0) trodAll_mk0), rfl, bel.frame _, fun h => by cases h⟩
theorem over : Rows.bivariatePerfectSecrecyRow.holds Try.pinned (OpenSpec.ofChange Rows.bivariatePerfectSecrecySpec) :=
  OpenClaim.holds_of_wide 6 Try.f6 rfl rfl rfl rfl rfl rfl rfl ⟨rfl, rfl, rfl, rfl, rfl⟩ rfl rfl rfl rfl rfl (by kernel_rfl) Try.func6 (by kernel_rfl)
    (of_decide_eq_true (by kernel_rfl)) (by unfold Func.isWrapper; first | (rw [if_pos (by decide +kernel)]; kernel_rfl) | (rw [if_neg (by decide +kernel)]; exact ⟨rfl, rfl⟩))
    (fun os started H enc _ => lifted os started H enc)
theorem proved : Rows.BivariatePerfectSecrecySaid := over
#print axioms proved
end Go.Proofs.Ytkhdocabgmemiaa.bivariatePerfectSecrecy
namespace Go.Proofs.Ytkhdocabgmemiaa
/-- The row, under a short name, for the claim. -/
theorem bivariatePerfectSecrecy_holds : Rows.BivariatePerfectSecrecySaid := bivariatePerfectSecrecy.proved
end Go.Proofs.Ytkhdocabgmemiaa
end
