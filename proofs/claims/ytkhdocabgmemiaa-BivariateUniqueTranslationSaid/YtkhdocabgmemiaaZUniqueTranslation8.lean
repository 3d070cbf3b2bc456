/- The row of the law BivariateUniqueTranslation, out of its plain law and the walk. -/
import Derived.Test.YtkhdocabgmemiaaZUniqueTranslation2
import Derived.Test.YtkhdocabgmemiaaZUniqueTranslation6
import Derived.Test.YtkhdocabgmemiaaZUniqueTranslation7
import Derived.Test.YtkhdocabgmemiaaZUniqueTranslation3
import Derived.Test.YtkhdocabgmemiaaZUniqueTranslation4
import Derived.Test.YtkhdocabgmemiaaProg
import Derived.ChangeArms
import Derived.DataReads
import Derived.DataElems
import Derived.ShutString
import Derived.ChangeSame
import Derived.Test.YtkhdocabgmemiaaZUniqueTranslation0
import Derived.Test.YtkhdocabgmemiaaRows
import Derived.WalkKit
import Derived.ProofKit
import Derived.OpenShut
import Derived.ChangeOld
import Derived.Below
import Derived.SizedLaws
section
/- Printed by a program of this seat (the kit's printer, with the functions that were proved by hand given to it). What stands here: the functions that the statements reach, as plain functions, and that the Go code computes them. -/
namespace Go.Proofs.Ytkhdocabgmemiaa.Pr
open Go.RowKit Go.Proofs.YtkhdocabgmemiaaW.PrintWords Go.Proofs.YtkhdocabgmemiaaW.PrintLast Go.Proofs.YtkhdocabgmemiaaW.PrintMore
attribute [local go_sem] max2_int min2_int max_two min_two max_three min_three max_four min_four   -- for this text's walks alone
set_option linter.unusedVariables false
set_option linter.unusedSimpArgs false

open Go.Proofs.Ytkhdocabgmemiaa.Hw
/-! ### privitylaw10_BivariateUniqueTranslation: function 7 -/
mutual
def privitylaw10_BivariateUniqueTranslation.j0 : Nat → List (List Int) → Bool → Int → List (List Int) → List Int → Int → Int → Option (Bool)
 | 0,_,_,_,_,_,_,_ => none
 | k + 1,x1,x29,x472000,x472001,x472002,x472003,x472004 => if x29 = true then ((privitylaw10_awake.f k).bind fun t475 => (some t475)) else (privitylaw10_BivariateUniqueTranslation.l0 k x1 0 x472000 x472001 x472002 x472003 x472004)
def privitylaw10_BivariateUniqueTranslation.l0 : Nat → List (List Int) → Int → Int → List (List Int) → List Int → Int → Int → Option (Bool)
 | 0,_,_,_,_,_,_,_ => none
 | k + 1,x1,x5,x472000,x472001,x472002,x472003,x472004 => if x5 < (x472002.length : Int) then (if 0 ≤ x5 then ((bivariate_Row.f k x472000 x1 (rd x472002 x5)).bind fun t477 => ((bivariate_Row.f k x472000 x472001 (rd x472002 x5)).bind fun t481 => ((privityref06_SameList.f k t477 t481).bind fun t484 => (if t484 = true then (privitylaw10_BivariateUniqueTranslation.l0 k x1 (wrap64 (x5 + 1)) x472000 x472001 x472002 x472003 x472004) else ((privitylaw10_awake.f k).bind fun t485 => (some t485)))))) else (none)) else ((bivariate_Eval.f k x472000 x1 0 0).bind fun t486 => ((bivariate_Eval.f k x472000 x472001 0 0).bind fun t487 => ((field_Sub.f k x472000 t486 t487).bind fun t488 => ((privitylaw10_awake.f k).bind fun t489 => (if t489 = true then ((privityref10_Vanish.f k x472000 x472002).bind fun t490 => ((bivariate_Translate.f k x472000 x472001 t488 t490).bind fun t493 => ((privityref06_Same.f k t493 x1).bind fun t496 => (some t496)))) else (some false))))))
end
def privitylaw10_BivariateUniqueTranslation.f (k : Nat) (a0_0 : Int) (l0_1 : List (List Int)) (l0_2 : List Int) (a0_3 : Int) (a0_4 : Int) (l1 : List (List Int)) : Option (Bool) := (privitylaw10_validTranslation.f k a0_0 l0_1 l0_2 a0_3 a0_4).bind fun t472 => (if t472 = true then ((privityref10_Fair.f k a0_0 l1 6).bind fun t473 => (if t473 = true then (if (l1.length : Int) = (l0_1.length : Int) then ((privityref10_IsSymmetric.f k l1).bind fun t474 => (privitylaw10_BivariateUniqueTranslation.j0 k l1 (!t474) a0_0 l0_1 l0_2 a0_3 a0_4)) else (privitylaw10_BivariateUniqueTranslation.j0 k l1 true a0_0 l0_1 l0_2 a0_3 a0_4)) else (privitylaw10_BivariateUniqueTranslation.j0 k l1 true a0_0 l0_1 l0_2 a0_3 a0_4))) else (privitylaw10_BivariateUniqueTranslation.j0 k l1 true a0_0 l0_1 l0_2 a0_3 a0_4))
def privitylaw10_BivariateUniqueTranslation.T6 : Bool × List (List Nat × List Nat) := (true, [([], []), ([0], [0]), ([], []), ([], []), ([3], [3]), ([], []), ([4, 5], [4, 5]), ([6], [6]), ([1, 2, 7], [1, 2, 7]), ([], []), ([9], [9]), ([], []), ([11], [11]), ([], []), ([13], [13]), ([], []), ([14, 15], [14, 15]), ([16], [16]), ([10, 12, 17, 8], [10, 12, 17]), ([8, 18, 18], [8, 18]), ([19], [19])])
def privitylaw10_BivariateUniqueTranslation.B6 : List Nat := [0, 1, 0, 0, 8, 0, 56, 120, 255, 0, 512, 0, 2048, 0, 8192, 0, 57344, 122880, 262143, 524287, 1048575]
theorem privitylaw10_BivariateUniqueTranslation.tab6 : rtab .any (opsOf Try.f7 6) = privitylaw10_BivariateUniqueTranslation.T6 := by kernel_rfl
theorem privitylaw10_BivariateUniqueTranslation.bits6 : waitsOk privitylaw10_BivariateUniqueTranslation.T6.2 privitylaw10_BivariateUniqueTranslation.B6 = true := by kernel_rfl
def privitylaw10_BivariateUniqueTranslation.T8 : Bool × List (List Nat × List Nat) := (true, [([], []), ([0], [0]), ([], []), ([2], [2]), ([], []), ([3, 4], [3, 4]), ([], []), ([6], [6]), ([], []), ([8], [8]), ([7, 9, 5], [7, 9]), ([1, 5, 10, 10], [1, 5, 10]), ([11, 11, 0, 1, 2, 3, 4, 5, 6, 7, 8, 9, 10, 11], [11])])
def privitylaw10_BivariateUniqueTranslation.B8 : List Nat := [0, 1, 0, 4, 0, 28, 0, 64, 0, 256, 1020, 2047, 4095]
theorem privitylaw10_BivariateUniqueTranslation.tab8 : rtab .any (opsOf Try.f7 8) = privitylaw10_BivariateUniqueTranslation.T8 := by kernel_rfl
theorem privitylaw10_BivariateUniqueTranslation.bits8 : waitsOk privitylaw10_BivariateUniqueTranslation.T8.2 privitylaw10_BivariateUniqueTranslation.B8 = true := by kernel_rfl
def privitylaw10_BivariateUniqueTranslation.T9 : Bool × List (List Nat × List Nat) := (true, [([], []), ([0, 0], [0]), ([1], [1]), ([2, 1], [1, 2]), ([1], [1]), ([4, 1], [1, 4]), ([1], [1]), ([1], [1]), ([7, 1], [1, 7]), ([1], [1]), ([9, 1], [1, 9]), ([8, 10, 1, 1], [1, 8, 10]), ([3, 5, 6, 11, 11, 1], [1, 3, 5, 6, 11]), ([1], [1]), ([12, 13, 12, 1], [1, 12, 13]), ([1, 14], [1, 14]), ([15, 14, 0, 1, 2, 3, 4, 5, 6, 7, 8, 9, 10, 11, 12, 13, 14, 15], [15])])
def privitylaw10_BivariateUniqueTranslation.B9 : List Nat := [0, 1, 3, 7, 3, 19, 3, 3, 131, 3, 515, 1923, 4095, 3, 16383, 32767, 65535]
theorem privitylaw10_BivariateUniqueTranslation.tab9 : rtab .any (opsOf Try.f7 9) = privitylaw10_BivariateUniqueTranslation.T9 := by kernel_rfl
theorem privitylaw10_BivariateUniqueTranslation.bits9 : waitsOk privitylaw10_BivariateUniqueTranslation.T9.2 privitylaw10_BivariateUniqueTranslation.B9 = true := by kernel_rfl
set_option maxHeartbeats 8000000 in
set_option maxRecDepth 100000 in
theorem privitylaw10_BivariateUniqueTranslation.calls (k : Nat) (a0_0 : Int) (A0_1 : Option Addr) (c0_1 : Nat) (l0_1 : List (List Int)) (A0_2 : Option Addr) (c0_2 : Nat) (l0_2 : List Int) (a0_3 : Int) (a0_4 : Int) (A1 : Option Addr) (c1 : Nat) (l1 : List (List Int)) (r : Bool) (w : World) (hr0_1 : Kd.C (Kd.slice 31 (Kd.int .u64)) w A0_1 l0_1.length l0_1) (hc0_1 : l0_1.length ≤ c0_1) (hr0_2 : Kd.C (Kd.int .u64) w A0_2 l0_2.length l0_2) (hc0_2 : l0_2.length ≤ c0_2) (hr1 : Kd.C (Kd.slice 31 (Kd.int .u64)) w A1 l1.length l1) (hc1 : l1.length ≤ c1) (hr1_ : r = true) (h : privitylaw10_BivariateUniqueTranslation.f k a0_0 l0_1 l0_2 a0_3 a0_4 l1 = some r) :
  Calls Try.prog 7 #[.agg #[.int .u64 a0_0,.slice A0_1 l0_1.length c0_1,.slice A0_2 l0_2.length c0_2,.int .u64 a0_3,.int .u64 a0_4],.slice A1 l1.length c1] w fun e w' => e = .returned (.bool r) ∧ Below w.heap.size w w' := by
 have HRT_ := Aside0.mk hr1_
 clear hr1_
 have hu39 := Try.underlying39
 have HR0_1 := Aside0.mk hr0_1
 have HC0_1 := Aside0.mk hc0_1
 clear hr0_1 hc0_1
 have HR0_2 := Aside0.mk hr0_2
 have HC0_2 := Aside0.mk hc0_2
 clear hr0_2 hc0_2
 have HR1 := Aside0.mk hr1
 have HC1 := Aside0.mk hc1
 clear hr1 hc1
 have HB := Aside0.mk (Below.refl w.heap.size w)
 have H : ((privitylaw10_validTranslation.f k a0_0 l0_1 l0_2 a0_3 a0_4).bind fun t472 => (if t472 = true then ((privityref10_Fair.f k a0_0 l1 6).bind fun t473 => (if t473 = true then (if (l1.length : Int) = (l0_1.length : Int) then ((privityref10_IsSymmetric.f k l1).bind fun t474 => (privitylaw10_BivariateUniqueTranslation.j0 k l1 (!t474) a0_0 l0_1 l0_2 a0_3 a0_4)) else (privitylaw10_BivariateUniqueTranslation.j0 k l1 true a0_0 l0_1 l0_2 a0_3 a0_4)) else (privitylaw10_BivariateUniqueTranslation.j0 k l1 true a0_0 l0_1 l0_2 a0_3 a0_4))) else (privitylaw10_BivariateUniqueTranslation.j0 k l1 true a0_0 l0_1 l0_2 a0_3 a0_4))) = some r := h
 clear h
 have HC3 := Aside0.mk H
 clear H
 go_enter Try.func7,Try.ntmps7
 go_upto_region 1 with (first|((with_reducible refine gate_dst (N := 2) rfl ?_);(try (refine gate_guard (by rfl) ?_;dsimp only));refine box_event ?hg (N := 2) ?hd (cs := #[.int .u64 a0_0,.slice A0_1 l0_1.length c0_1,.slice A0_2 l0_2.length c0_2,.int .u64 a0_3,.int .u64 a0_4]) (t := 39) ?hr ?_;(case hd => rfl);(case hg => rfl);(case hr => first|(go_simp;done)|(go_simp;rfl));intro gb471 hg w4 hbox hb;have n0_ := Aside0.mk (below_step (by repeat (first|(with_reducible first|exact HB.out|apply below_alloc|apply pw_below_drewN|apply below_drew1)|exact HB.out)) hb);have n1_ := Aside0.mk (hbox);have n2_ := Aside0.mk ((by rw [hg];exact (below_size (by repeat (first|(with_reducible first|exact HB.out|apply below_alloc|apply pw_below_drewN|apply below_drew1)|exact HB.out))) : w.heap.size ≤ gb471));have n3_ := Aside0.mk ((by rw [hg];exact (below_size (by repeat (first|(with_reducible first|exact HB.out|apply below_alloc|apply pw_below_drewN|apply below_drew1)|exact HB.out))) : w.heap.size ≤ gb471));clear HB;have HB := n0_;have BK471 := n1_;have GW471 := n2_;have GE471 := n3_;clear n0_ n1_ n2_ n3_;clear hb hbox hg))
 (try simp only [Act.put,List.setIfInBounds_toArray,List.set_cons_zero,List.set_cons_succ])
 go_cut [29] (fun v29 wc => ∃ (kq : Nat) (x29_2 : Bool),v29 = .bool x29_2 ∧ Aside0 (privitylaw10_BivariateUniqueTranslation.j0 kq l1 x29_2 a0_0 l0_1 l0_2 a0_3 a0_4 = some r) ∧ Aside0 (kq ≤ k) ∧ Aside0 (wc.heap[gb471]? = some (.cells #[.int .u64 a0_0,(.slice A0_1 l0_1.length c0_1),(.slice A0_2 l0_2.length c0_2),.int .u64 a0_3,.int .u64 a0_4] 39 (0,0))) ∧ Aside0 (Below w.heap.size w wc))
 case first =>
  have H := HC3.out
  clear HC3
  replace H := Option.bind_eq_some_iff.mp H
  obtain ⟨t472,A50,H⟩ := H
  replace H : (if t472 = true then ((privityref10_Fair.f k a0_0 l1 6).bind fun t473 => (if t473 = true then (if (l1.length : Int) = (l0_1.length : Int) then ((privityref10_IsSymmetric.f k l1).bind fun t474 => (privitylaw10_BivariateUniqueTranslation.j0 k l1 (!t474) a0_0 l0_1 l0_2 a0_3 a0_4)) else (privitylaw10_BivariateUniqueTranslation.j0 k l1 true a0_0 l0_1 l0_2 a0_3 a0_4)) else (privitylaw10_BivariateUniqueTranslation.j0 k l1 true a0_0 l0_1 l0_2 a0_3 a0_4))) else (privitylaw10_BivariateUniqueTranslation.j0 k l1 true a0_0 l0_1 l0_2 a0_3 a0_4)) = some r := H
  have A5 := Aside0.mk A50
  clear A50
  by_cases c6 : t472 = true
  ·subst c6
   have H1 : ((privityref10_Fair.f k a0_0 l1 6).bind fun t473 => (if t473 = true then (if (l1.length : Int) = (l0_1.length : Int) then ((privityref10_IsSymmetric.f k l1).bind fun t474 => (privitylaw10_BivariateUniqueTranslation.j0 k l1 (!t474) a0_0 l0_1 l0_2 a0_3 a0_4)) else (privitylaw10_BivariateUniqueTranslation.j0 k l1 true a0_0 l0_1 l0_2 a0_3 a0_4)) else (privitylaw10_BivariateUniqueTranslation.j0 k l1 true a0_0 l0_1 l0_2 a0_3 a0_4))) = some r := by rw [if_pos rfl] at H;exact H
   clear H
   have H := H1
   clear H1
   replace H := Option.bind_eq_some_iff.mp H
   obtain ⟨t473,A70,H⟩ := H
   replace H : (if t473 = true then (if (l1.length : Int) = (l0_1.length : Int) then ((privityref10_IsSymmetric.f k l1).bind fun t474 => (privitylaw10_BivariateUniqueTranslation.j0 k l1 (!t474) a0_0 l0_1 l0_2 a0_3 a0_4)) else (privitylaw10_BivariateUniqueTranslation.j0 k l1 true a0_0 l0_1 l0_2 a0_3 a0_4)) else (privitylaw10_BivariateUniqueTranslation.j0 k l1 true a0_0 l0_1 l0_2 a0_3 a0_4)) = some r := H
   have A7 := Aside0.mk A70
   clear A70
   by_cases c8 : t473 = true
   ·subst c8
    have H1 : (if (l1.length : Int) = (l0_1.length : Int) then ((privityref10_IsSymmetric.f k l1).bind fun t474 => (privitylaw10_BivariateUniqueTranslation.j0 k l1 (!t474) a0_0 l0_1 l0_2 a0_3 a0_4)) else (privitylaw10_BivariateUniqueTranslation.j0 k l1 true a0_0 l0_1 l0_2 a0_3 a0_4)) = some r := by rw [if_pos rfl] at H;exact H
    clear H
    have H := H1
    clear H1
    by_cases c9 : (l1.length : Int) = (l0_1.length : Int)
    ·rw [if_pos c9] at H
     have c9b0 : ((l1.length : Int) == (l0_1.length : Int)) = true := beq_iff_eq.mpr c9
     have c9b1 : ((l1.length : Int) != (l0_1.length : Int)) = false := bne_eq_false_iff_eq.mpr c9
     have c9b2 : (l1.length == l0_1.length) = true := by first|simpa using c9|(simp at c9 ⊢;omega)
     clear c9
     (first|rw [c9b0]|(simp only [i64_w,i32_w];rw [c9b0])|skip)
     replace H := Option.bind_eq_some_iff.mp H
     obtain ⟨t474,A100,H⟩ := H
     replace H : (privitylaw10_BivariateUniqueTranslation.j0 k l1 (!t474) a0_0 l0_1 l0_2 a0_3 a0_4) = some r := H
     have A10 := Aside0.mk A100
     clear A100
     have H' := Aside0.mk H
     clear H
     have hcz11_0 : w4.cell? ⟨gb471,0,none⟩ = some (.int .u64 a0_0) := (blk_cell BK471.out 0).trans rfl
     have hcz11_1 : w4.cell? ⟨gb471,1,none⟩ = some (.slice A0_1 l0_1.length c0_1) := (blk_cell BK471.out 1).trans rfl
     have hcz11_2 : w4.cell? ⟨gb471,2,none⟩ = some (.slice A0_2 l0_2.length c0_2) := (blk_cell BK471.out 2).trans rfl
     have hcz11_3 : w4.cell? ⟨gb471,3,none⟩ = some (.int .u64 a0_3) := (blk_cell BK471.out 3).trans rfl
     have hcz11_4 : w4.cell? ⟨gb471,4,none⟩ = some (.int .u64 a0_4) := (blk_cell BK471.out 4).trans rfl
     have hfz11_0 := blk_frozen BK471.out 0
     have hfz11_1 := blk_frozen BK471.out 1
     have hfz11_2 := blk_frozen BK471.out 2
     have hfz11_3 := blk_frozen BK471.out 3
     have hfz11_4 := blk_frozen BK471.out 4
     go_wp2_with (first|((with_reducible refine gate_callee (f := 24) rfl ?_);refine goesL_ (some 8) rfl rfl Try.func24 (by kernel_rfl) rfl #[.agg #[.int .u64 a0_0,.slice A0_1 l0_1.length c0_1,.slice A0_2 l0_2.length c0_2,.int .u64 a0_3,.int .u64 a0_4]] rfl (by (try simp only [List.map_toArray,List.map_cons,List.map_nil]);first|done|rfl|(simp only [List.length_drop,List.length_take];rfl)) ?_;(with_reducible refine (privitylaw10_validTranslation.calls k a0_0 _ _ l0_1 _ _ l0_2 a0_3 a0_4 true _ ?side1 ?side2 ?side3 ?side4 A5.out).mono ?_);(case side1 => repeat (first|exact (Kd.C_below HR0_1.out HB.out)|(with_reducible refine Kd.C_alloc ?_ _)|(with_reducible refine Kd.C_drewN ?_ _)|(with_reducible refine Kd.C_drew ?_)));(case side2 => exact HC0_1.out);(case side3 => repeat (first|exact (Kd.C_below HR0_2.out HB.out)|(with_reducible refine Kd.C_alloc ?_ _)|(with_reducible refine Kd.C_drewN ?_ _)|(with_reducible refine Kd.C_drew ?_)));(case side4 => exact HC0_2.out);rintro e w12 ⟨rfl,hb⟩;refine ⟨_,rfl,?_⟩;have n0_ := Aside0.mk (blk_below (g := gb471) (o := .cells #[.int .u64 a0_0,.slice A0_1 l0_1.length c0_1,.slice A0_2 l0_2.length c0_2,.int .u64 a0_3,.int .u64 a0_4] 39 (0,0)) (by (with_reducible repeat (first|refine blk_drewN ?_ _|refine blk_drew ?_|refine blk_alloc ?_ _));exact BK471.out) hb);have n1_ := Aside0.mk (below_step (by repeat (first|(with_reducible first|exact HB.out|apply below_alloc|apply pw_below_drewN|apply below_drew1|refine below_set ?_ GE471.out)|exact HB.out)) hb);clear BK471;clear HB;have BK471 := n0_;have HB := n1_;clear n0_ n1_;(try clear hb);(try clear hb2);(try clear hk);(try clear hi);have hcz13_0 : w12.cell? ⟨gb471,0,none⟩ = some (.int .u64 a0_0) := (blk_cell BK471.out 0).trans rfl;have hcz13_1 : w12.cell? ⟨gb471,1,none⟩ = some (.slice A0_1 l0_1.length c0_1) := (blk_cell BK471.out 1).trans rfl;have hcz13_2 : w12.cell? ⟨gb471,2,none⟩ = some (.slice A0_2 l0_2.length c0_2) := (blk_cell BK471.out 2).trans rfl;have hcz13_3 : w12.cell? ⟨gb471,3,none⟩ = some (.int .u64 a0_3) := (blk_cell BK471.out 3).trans rfl;have hcz13_4 : w12.cell? ⟨gb471,4,none⟩ = some (.int .u64 a0_4) := (blk_cell BK471.out 4).trans rfl;have hfz13_0 := blk_frozen BK471.out 0;have hfz13_1 := blk_frozen BK471.out 1;have hfz13_2 := blk_frozen BK471.out 2;have hfz13_3 := blk_frozen BK471.out 3;have hfz13_4 := blk_frozen BK471.out 4)|(go_at_call 31;(with_reducible refine (privityref10_Fair.calls k a0_0 _ _ l1 6 true _ ?side1 ?side2 A7.out).mono ?_);(case side1 => repeat (first|exact (Kd.C_below HR1.out HB.out)|(with_reducible refine Kd.C_alloc ?_ _)|(with_reducible refine Kd.C_drewN ?_ _)|(with_reducible refine Kd.C_drew ?_)));(case side2 => exact HC1.out);rintro e w14 ⟨rfl,hb⟩;have n0_ := Aside0.mk (blk_below (g := gb471) (o := .cells #[.int .u64 a0_0,.slice A0_1 l0_1.length c0_1,.slice A0_2 l0_2.length c0_2,.int .u64 a0_3,.int .u64 a0_4] 39 (0,0)) (by (with_reducible repeat (first|refine blk_drewN ?_ _|refine blk_drew ?_|refine blk_alloc ?_ _));exact BK471.out) hb);have n1_ := Aside0.mk (below_step (by repeat (first|(with_reducible first|exact HB.out|apply below_alloc|apply pw_below_drewN|apply below_drew1|refine below_set ?_ GE471.out)|exact HB.out)) hb);clear BK471;clear HB;have BK471 := n0_;have HB := n1_;clear n0_ n1_;(try clear hb);(try clear hb2);(try clear hk);(try clear hi);have hcz15_0 : w14.cell? ⟨gb471,0,none⟩ = some (.int .u64 a0_0) := (blk_cell BK471.out 0).trans rfl;have hcz15_1 : w14.cell? ⟨gb471,1,none⟩ = some (.slice A0_1 l0_1.length c0_1) := (blk_cell BK471.out 1).trans rfl;have hcz15_2 : w14.cell? ⟨gb471,2,none⟩ = some (.slice A0_2 l0_2.length c0_2) := (blk_cell BK471.out 2).trans rfl;have hcz15_3 : w14.cell? ⟨gb471,3,none⟩ = some (.int .u64 a0_3) := (blk_cell BK471.out 3).trans rfl;have hcz15_4 : w14.cell? ⟨gb471,4,none⟩ = some (.int .u64 a0_4) := (blk_cell BK471.out 4).trans rfl;have hfz15_0 := blk_frozen BK471.out 0;have hfz15_1 := blk_frozen BK471.out 1;have hfz15_2 := blk_frozen BK471.out 2;have hfz15_3 := blk_frozen BK471.out 3;have hfz15_4 := blk_frozen BK471.out 4)|(go_at_call 18;(with_reducible refine (privityref10_IsSymmetric.calls k _ _ l1 t474 _ ?side1 ?side2 A10.out).mono ?_);(case side1 => repeat (first|exact (Kd.C_below HR1.out HB.out)|(with_reducible refine Kd.C_alloc ?_ _)|(with_reducible refine Kd.C_drewN ?_ _)|(with_reducible refine Kd.C_drew ?_)));(case side2 => exact HC1.out);rintro e w' ⟨rfl,⟨nd,rfl⟩⟩))
     go_meet
     case rel => exact ⟨_,(!t474),(by first|rfl|(simp;done)|(simp [*];done)),H',⟨by first|omega|exact Nat.le_refl _⟩,⟨by (with_reducible repeat (first|refine blk_drewN ?_ _|refine blk_drew ?_|refine blk_alloc ?_ _));exact BK471.out⟩,⟨by repeat (first|(with_reducible first|exact HB.out|apply below_alloc|apply pw_below_drewN|apply below_drew1|refine below_set ?_ GE471.out)|exact HB.out)⟩⟩
    ·rw [if_neg c9] at H
     have c9b0 : ((l1.length : Int) == (l0_1.length : Int)) = false := beq_eq_false_iff_ne.mpr c9
     have c9b1 : ((l1.length : Int) != (l0_1.length : Int)) = true := bne_iff_ne.mpr c9
     have c9b2 : (l1.length == l0_1.length) = false := by first|simpa using c9|(simp at c9 ⊢;omega)
     (first|rw [c9b0]|(simp only [i64_w,i32_w];rw [c9b0])|skip)
     have H' := Aside0.mk H
     clear H
     have hcz16_0 : w4.cell? ⟨gb471,0,none⟩ = some (.int .u64 a0_0) := (blk_cell BK471.out 0).trans rfl
     have hcz16_1 : w4.cell? ⟨gb471,1,none⟩ = some (.slice A0_1 l0_1.length c0_1) := (blk_cell BK471.out 1).trans rfl
     have hcz16_2 : w4.cell? ⟨gb471,2,none⟩ = some (.slice A0_2 l0_2.length c0_2) := (blk_cell BK471.out 2).trans rfl
     have hcz16_3 : w4.cell? ⟨gb471,3,none⟩ = some (.int .u64 a0_3) := (blk_cell BK471.out 3).trans rfl
     have hcz16_4 : w4.cell? ⟨gb471,4,none⟩ = some (.int .u64 a0_4) := (blk_cell BK471.out 4).trans rfl
     have hfz16_0 := blk_frozen BK471.out 0
     have hfz16_1 := blk_frozen BK471.out 1
     have hfz16_2 := blk_frozen BK471.out 2
     have hfz16_3 := blk_frozen BK471.out 3
     have hfz16_4 := blk_frozen BK471.out 4
     go_wp2_with (first|((with_reducible refine gate_callee (f := 24) rfl ?_);refine goesL_ (some 8) rfl rfl Try.func24 (by kernel_rfl) rfl #[.agg #[.int .u64 a0_0,.slice A0_1 l0_1.length c0_1,.slice A0_2 l0_2.length c0_2,.int .u64 a0_3,.int .u64 a0_4]] rfl (by (try simp only [List.map_toArray,List.map_cons,List.map_nil]);first|done|rfl|(simp only [List.length_drop,List.length_take];rfl)) ?_;(with_reducible refine (privitylaw10_validTranslation.calls k a0_0 _ _ l0_1 _ _ l0_2 a0_3 a0_4 true _ ?side1 ?side2 ?side3 ?side4 A5.out).mono ?_);(case side1 => repeat (first|exact (Kd.C_below HR0_1.out HB.out)|(with_reducible refine Kd.C_alloc ?_ _)|(with_reducible refine Kd.C_drewN ?_ _)|(with_reducible refine Kd.C_drew ?_)));(case side2 => exact HC0_1.out);(case side3 => repeat (first|exact (Kd.C_below HR0_2.out HB.out)|(with_reducible refine Kd.C_alloc ?_ _)|(with_reducible refine Kd.C_drewN ?_ _)|(with_reducible refine Kd.C_drew ?_)));(case side4 => exact HC0_2.out);rintro e w17 ⟨rfl,hb⟩;refine ⟨_,rfl,?_⟩;have n0_ := Aside0.mk (blk_below (g := gb471) (o := .cells #[.int .u64 a0_0,.slice A0_1 l0_1.length c0_1,.slice A0_2 l0_2.length c0_2,.int .u64 a0_3,.int .u64 a0_4] 39 (0,0)) (by (with_reducible repeat (first|refine blk_drewN ?_ _|refine blk_drew ?_|refine blk_alloc ?_ _));exact BK471.out) hb);have n1_ := Aside0.mk (below_step (by repeat (first|(with_reducible first|exact HB.out|apply below_alloc|apply pw_below_drewN|apply below_drew1|refine below_set ?_ GE471.out)|exact HB.out)) hb);clear BK471;clear HB;have BK471 := n0_;have HB := n1_;clear n0_ n1_;(try clear hb);(try clear hb2);(try clear hk);(try clear hi);have hcz18_0 : w17.cell? ⟨gb471,0,none⟩ = some (.int .u64 a0_0) := (blk_cell BK471.out 0).trans rfl;have hcz18_1 : w17.cell? ⟨gb471,1,none⟩ = some (.slice A0_1 l0_1.length c0_1) := (blk_cell BK471.out 1).trans rfl;have hcz18_2 : w17.cell? ⟨gb471,2,none⟩ = some (.slice A0_2 l0_2.length c0_2) := (blk_cell BK471.out 2).trans rfl;have hcz18_3 : w17.cell? ⟨gb471,3,none⟩ = some (.int .u64 a0_3) := (blk_cell BK471.out 3).trans rfl;have hcz18_4 : w17.cell? ⟨gb471,4,none⟩ = some (.int .u64 a0_4) := (blk_cell BK471.out 4).trans rfl;have hfz18_0 := blk_frozen BK471.out 0;have hfz18_1 := blk_frozen BK471.out 1;have hfz18_2 := blk_frozen BK471.out 2;have hfz18_3 := blk_frozen BK471.out 3;have hfz18_4 := blk_frozen BK471.out 4)|(go_at_call 31;(with_reducible refine (privityref10_Fair.calls k a0_0 _ _ l1 6 true _ ?side1 ?side2 A7.out).mono ?_);(case side1 => repeat (first|exact (Kd.C_below HR1.out HB.out)|(with_reducible refine Kd.C_alloc ?_ _)|(with_reducible refine Kd.C_drewN ?_ _)|(with_reducible refine Kd.C_drew ?_)));(case side2 => exact HC1.out);rintro e w19 ⟨rfl,hb⟩;have n0_ := Aside0.mk (blk_below (g := gb471) (o := .cells #[.int .u64 a0_0,.slice A0_1 l0_1.length c0_1,.slice A0_2 l0_2.length c0_2,.int .u64 a0_3,.int .u64 a0_4] 39 (0,0)) (by (with_reducible repeat (first|refine blk_drewN ?_ _|refine blk_drew ?_|refine blk_alloc ?_ _));exact BK471.out) hb);have n1_ := Aside0.mk (below_step (by repeat (first|(with_reducible first|exact HB.out|apply below_alloc|apply pw_below_drewN|apply below_drew1|refine below_set ?_ GE471.out)|exact HB.out)) hb);clear BK471;clear HB;have BK471 := n0_;have HB := n1_;clear n0_ n1_;(try clear hb);(try clear hb2);(try clear hk);(try clear hi);have hcz20_0 : w19.cell? ⟨gb471,0,none⟩ = some (.int .u64 a0_0) := (blk_cell BK471.out 0).trans rfl;have hcz20_1 : w19.cell? ⟨gb471,1,none⟩ = some (.slice A0_1 l0_1.length c0_1) := (blk_cell BK471.out 1).trans rfl;have hcz20_2 : w19.cell? ⟨gb471,2,none⟩ = some (.slice A0_2 l0_2.length c0_2) := (blk_cell BK471.out 2).trans rfl;have hcz20_3 : w19.cell? ⟨gb471,3,none⟩ = some (.int .u64 a0_3) := (blk_cell BK471.out 3).trans rfl;have hcz20_4 : w19.cell? ⟨gb471,4,none⟩ = some (.int .u64 a0_4) := (blk_cell BK471.out 4).trans rfl;have hfz20_0 := blk_frozen BK471.out 0;have hfz20_1 := blk_frozen BK471.out 1;have hfz20_2 := blk_frozen BK471.out 2;have hfz20_3 := blk_frozen BK471.out 3;have hfz20_4 := blk_frozen BK471.out 4))
     go_meet
     case rel => exact ⟨_,(true),(by first|rfl|(simp;done)|(simp [*];done)),H',⟨by first|omega|exact Nat.le_refl _⟩,⟨by (with_reducible repeat (first|refine blk_drewN ?_ _|refine blk_drew ?_|refine blk_alloc ?_ _));exact BK471.out⟩,⟨by repeat (first|(with_reducible first|exact HB.out|apply below_alloc|apply pw_below_drewN|apply below_drew1|refine below_set ?_ GE471.out)|exact HB.out)⟩⟩
   ·replace c8 := Bool.eq_false_iff.mpr c8
    subst c8
    have H1 : (privitylaw10_BivariateUniqueTranslation.j0 k l1 true a0_0 l0_1 l0_2 a0_3 a0_4) = some r := by rw [if_neg (show ¬ (false = true) by decide)] at H;exact H
    clear H
    have H := H1
    clear H1
    have H' := Aside0.mk H
    clear H
    have hcz21_0 : w4.cell? ⟨gb471,0,none⟩ = some (.int .u64 a0_0) := (blk_cell BK471.out 0).trans rfl
    have hcz21_1 : w4.cell? ⟨gb471,1,none⟩ = some (.slice A0_1 l0_1.length c0_1) := (blk_cell BK471.out 1).trans rfl
    have hcz21_2 : w4.cell? ⟨gb471,2,none⟩ = some (.slice A0_2 l0_2.length c0_2) := (blk_cell BK471.out 2).trans rfl
    have hcz21_3 : w4.cell? ⟨gb471,3,none⟩ = some (.int .u64 a0_3) := (blk_cell BK471.out 3).trans rfl
    have hcz21_4 : w4.cell? ⟨gb471,4,none⟩ = some (.int .u64 a0_4) := (blk_cell BK471.out 4).trans rfl
    have hfz21_0 := blk_frozen BK471.out 0
    have hfz21_1 := blk_frozen BK471.out 1
    have hfz21_2 := blk_frozen BK471.out 2
    have hfz21_3 := blk_frozen BK471.out 3
    have hfz21_4 := blk_frozen BK471.out 4
    go_wp2_with (first|((with_reducible refine gate_callee (f := 24) rfl ?_);refine goesL_ (some 8) rfl rfl Try.func24 (by kernel_rfl) rfl #[.agg #[.int .u64 a0_0,.slice A0_1 l0_1.length c0_1,.slice A0_2 l0_2.length c0_2,.int .u64 a0_3,.int .u64 a0_4]] rfl (by (try simp only [List.map_toArray,List.map_cons,List.map_nil]);first|done|rfl|(simp only [List.length_drop,List.length_take];rfl)) ?_;(with_reducible refine (privitylaw10_validTranslation.calls k a0_0 _ _ l0_1 _ _ l0_2 a0_3 a0_4 true _ ?side1 ?side2 ?side3 ?side4 A5.out).mono ?_);(case side1 => repeat (first|exact (Kd.C_below HR0_1.out HB.out)|(with_reducible refine Kd.C_alloc ?_ _)|(with_reducible refine Kd.C_drewN ?_ _)|(with_reducible refine Kd.C_drew ?_)));(case side2 => exact HC0_1.out);(case side3 => repeat (first|exact (Kd.C_below HR0_2.out HB.out)|(with_reducible refine Kd.C_alloc ?_ _)|(with_reducible refine Kd.C_drewN ?_ _)|(with_reducible refine Kd.C_drew ?_)));(case side4 => exact HC0_2.out);rintro e w22 ⟨rfl,hb⟩;refine ⟨_,rfl,?_⟩;have n0_ := Aside0.mk (blk_below (g := gb471) (o := .cells #[.int .u64 a0_0,.slice A0_1 l0_1.length c0_1,.slice A0_2 l0_2.length c0_2,.int .u64 a0_3,.int .u64 a0_4] 39 (0,0)) (by (with_reducible repeat (first|refine blk_drewN ?_ _|refine blk_drew ?_|refine blk_alloc ?_ _));exact BK471.out) hb);have n1_ := Aside0.mk (below_step (by repeat (first|(with_reducible first|exact HB.out|apply below_alloc|apply pw_below_drewN|apply below_drew1|refine below_set ?_ GE471.out)|exact HB.out)) hb);clear BK471;clear HB;have BK471 := n0_;have HB := n1_;clear n0_ n1_;(try clear hb);(try clear hb2);(try clear hk);(try clear hi);have hcz23_0 : w22.cell? ⟨gb471,0,none⟩ = some (.int .u64 a0_0) := (blk_cell BK471.out 0).trans rfl;have hcz23_1 : w22.cell? ⟨gb471,1,none⟩ = some (.slice A0_1 l0_1.length c0_1) := (blk_cell BK471.out 1).trans rfl;have hcz23_2 : w22.cell? ⟨gb471,2,none⟩ = some (.slice A0_2 l0_2.length c0_2) := (blk_cell BK471.out 2).trans rfl;have hcz23_3 : w22.cell? ⟨gb471,3,none⟩ = some (.int .u64 a0_3) := (blk_cell BK471.out 3).trans rfl;have hcz23_4 : w22.cell? ⟨gb471,4,none⟩ = some (.int .u64 a0_4) := (blk_cell BK471.out 4).trans rfl;have hfz23_0 := blk_frozen BK471.out 0;have hfz23_1 := blk_frozen BK471.out 1;have hfz23_2 := blk_frozen BK471.out 2;have hfz23_3 := blk_frozen BK471.out 3;have hfz23_4 := blk_frozen BK471.out 4)|(go_at_call 31;(with_reducible refine (privityref10_Fair.calls k a0_0 _ _ l1 6 false _ ?side1 ?side2 A7.out).mono ?_);(case side1 => repeat (first|exact (Kd.C_below HR1.out HB.out)|(with_reducible refine Kd.C_alloc ?_ _)|(with_reducible refine Kd.C_drewN ?_ _)|(with_reducible refine Kd.C_drew ?_)));(case side2 => exact HC1.out);rintro e w24 ⟨rfl,hb⟩;have n0_ := Aside0.mk (blk_below (g := gb471) (o := .cells #[.int .u64 a0_0,.slice A0_1 l0_1.length c0_1,.slice A0_2 l0_2.length c0_2,.int .u64 a0_3,.int .u64 a0_4] 39 (0,0)) (by (with_reducible repeat (first|refine blk_drewN ?_ _|refine blk_drew ?_|refine blk_alloc ?_ _));exact BK471.out) hb);have n1_ := Aside0.mk (below_step (by repeat (first|(with_reducible first|exact HB.out|apply below_alloc|apply pw_below_drewN|apply below_drew1|refine below_set ?_ GE471.out)|exact HB.out)) hb);clear BK471;clear HB;have BK471 := n0_;have HB := n1_;clear n0_ n1_;(try clear hb);(try clear hb2);(try clear hk);(try clear hi)))
    go_meet
    case rel => exact ⟨_,(true),(by first|rfl|(simp;done)|(simp [*];done)),H',⟨by first|omega|exact Nat.le_refl _⟩,⟨by (with_reducible repeat (first|refine blk_drewN ?_ _|refine blk_drew ?_|refine blk_alloc ?_ _));exact BK471.out⟩,⟨by repeat (first|(with_reducible first|exact HB.out|apply below_alloc|apply pw_below_drewN|apply below_drew1|refine below_set ?_ GE471.out)|exact HB.out)⟩⟩
  ·replace c6 := Bool.eq_false_iff.mpr c6
   subst c6
   have H1 : (privitylaw10_BivariateUniqueTranslation.j0 k l1 true a0_0 l0_1 l0_2 a0_3 a0_4) = some r := by rw [if_neg (show ¬ (false = true) by decide)] at H;exact H
   clear H
   have H := H1
   clear H1
   have H' := Aside0.mk H
   clear H
   have hcz25_0 : w4.cell? ⟨gb471,0,none⟩ = some (.int .u64 a0_0) := (blk_cell BK471.out 0).trans rfl
   have hcz25_1 : w4.cell? ⟨gb471,1,none⟩ = some (.slice A0_1 l0_1.length c0_1) := (blk_cell BK471.out 1).trans rfl
   have hcz25_2 : w4.cell? ⟨gb471,2,none⟩ = some (.slice A0_2 l0_2.length c0_2) := (blk_cell BK471.out 2).trans rfl
   have hcz25_3 : w4.cell? ⟨gb471,3,none⟩ = some (.int .u64 a0_3) := (blk_cell BK471.out 3).trans rfl
   have hcz25_4 : w4.cell? ⟨gb471,4,none⟩ = some (.int .u64 a0_4) := (blk_cell BK471.out 4).trans rfl
   have hfz25_0 := blk_frozen BK471.out 0
   have hfz25_1 := blk_frozen BK471.out 1
   have hfz25_2 := blk_frozen BK471.out 2
   have hfz25_3 := blk_frozen BK471.out 3
   have hfz25_4 := blk_frozen BK471.out 4
   go_wp2_with (first|((with_reducible refine gate_callee (f := 24) rfl ?_);refine goesL_ (some 8) rfl rfl Try.func24 (by kernel_rfl) rfl #[.agg #[.int .u64 a0_0,.slice A0_1 l0_1.length c0_1,.slice A0_2 l0_2.length c0_2,.int .u64 a0_3,.int .u64 a0_4]] rfl (by (try simp only [List.map_toArray,List.map_cons,List.map_nil]);first|done|rfl|(simp only [List.length_drop,List.length_take];rfl)) ?_;(with_reducible refine (privitylaw10_validTranslation.calls k a0_0 _ _ l0_1 _ _ l0_2 a0_3 a0_4 false _ ?side1 ?side2 ?side3 ?side4 A5.out).mono ?_);(case side1 => repeat (first|exact (Kd.C_below HR0_1.out HB.out)|(with_reducible refine Kd.C_alloc ?_ _)|(with_reducible refine Kd.C_drewN ?_ _)|(with_reducible refine Kd.C_drew ?_)));(case side2 => exact HC0_1.out);(case side3 => repeat (first|exact (Kd.C_below HR0_2.out HB.out)|(with_reducible refine Kd.C_alloc ?_ _)|(with_reducible refine Kd.C_drewN ?_ _)|(with_reducible refine Kd.C_drew ?_)));(case side4 => exact HC0_2.out);rintro e w26 ⟨rfl,hb⟩;refine ⟨_,rfl,?_⟩;have n0_ := Aside0.mk (blk_below (g := gb471) (o := .cells #[.int .u64 a0_0,.slice A0_1 l0_1.length c0_1,.slice A0_2 l0_2.length c0_2,.int .u64 a0_3,.int .u64 a0_4] 39 (0,0)) (by (with_reducible repeat (first|refine blk_drewN ?_ _|refine blk_drew ?_|refine blk_alloc ?_ _));exact BK471.out) hb);have n1_ := Aside0.mk (below_step (by repeat (first|(with_reducible first|exact HB.out|apply below_alloc|apply pw_below_drewN|apply below_drew1|refine below_set ?_ GE471.out)|exact HB.out)) hb);clear BK471;clear HB;have BK471 := n0_;have HB := n1_;clear n0_ n1_;(try clear hb);(try clear hb2);(try clear hk);(try clear hi)))
   go_meet
   case rel => exact ⟨_,(true),(by first|rfl|(simp;done)|(simp [*];done)),H',⟨by first|omega|exact Nat.le_refl _⟩,⟨by (with_reducible repeat (first|refine blk_drewN ?_ _|refine blk_drew ?_|refine blk_alloc ?_ _));exact BK471.out⟩,⟨by repeat (first|(with_reducible first|exact HB.out|apply below_alloc|apply pw_below_drewN|apply below_drew1|refine below_set ?_ GE471.out)|exact HB.out)⟩⟩
 case rest =>
  clear HC3
  try clear c1
  try clear c2
  try clear p2
  try clear c6
  try clear c7
  try clear c8
  try clear c9
  try clear c9b0
  try clear c9b1
  try clear c9b2
  try clear c24
  try clear hcz11_0
  try clear hcz11_1
  try clear hcz11_2
  try clear hcz11_3
  try clear hcz11_4
  try clear hcz13_0
  try clear hcz13_1
  try clear hcz13_2
  try clear hcz13_3
  try clear hcz13_4
  try clear hcz15_0
  try clear hcz15_1
  try clear hcz15_2
  try clear hcz15_3
  try clear hcz15_4
  try clear hcz16_0
  try clear hcz16_1
  try clear hcz16_2
  try clear hcz16_3
  try clear hcz16_4
  try clear hcz18_0
  try clear hcz18_1
  try clear hcz18_2
  try clear hcz18_3
  try clear hcz18_4
  try clear hcz20_0
  try clear hcz20_1
  try clear hcz20_2
  try clear hcz20_3
  try clear hcz20_4
  try clear hcz21_0
  try clear hcz21_1
  try clear hcz21_2
  try clear hcz21_3
  try clear hcz21_4
  try clear hcz23_0
  try clear hcz23_1
  try clear hcz23_2
  try clear hcz23_3
  try clear hcz23_4
  try clear hcz25_0
  try clear hcz25_1
  try clear hcz25_2
  try clear hcz25_3
  try clear hcz25_4
  try clear hfz11_0
  try clear hfz11_1
  try clear hfz11_2
  try clear hfz11_3
  try clear hfz11_4
  try clear hfz13_0
  try clear hfz13_1
  try clear hfz13_2
  try clear hfz13_3
  try clear hfz13_4
  try clear hfz15_0
  try clear hfz15_1
  try clear hfz15_2
  try clear hfz15_3
  try clear hfz15_4
  try clear hfz16_0
  try clear hfz16_1
  try clear hfz16_2
  try clear hfz16_3
  try clear hfz16_4
  try clear hfz18_0
  try clear hfz18_1
  try clear hfz18_2
  try clear hfz18_3
  try clear hfz18_4
  try clear hfz20_0
  try clear hfz20_1
  try clear hfz20_2
  try clear hfz20_3
  try clear hfz20_4
  try clear hfz21_0
  try clear hfz21_1
  try clear hfz21_2
  try clear hfz21_3
  try clear hfz21_4
  try clear hfz23_0
  try clear hfz23_1
  try clear hfz23_2
  try clear hfz23_3
  try clear hfz23_4
  try clear hfz25_0
  try clear hfz25_1
  try clear hfz25_2
  try clear hfz25_3
  try clear hfz25_4
  obtain ⟨kq,x29_2,rfl,HA,HJ2,BK471,HB⟩ := hcut
  cases kq with
  | zero => exact absurd HA.out (by simp [privitylaw10_BivariateUniqueTranslation.j0])
  | succ kj2 =>
   have H := HA.out
   clear HA
   simp only [privitylaw10_BivariateUniqueTranslation.j0] at H
   by_cases c27 : x29_2 = true
   ·subst c27
    have H1 : ((privitylaw10_awake.f kj2).bind fun t475 => (some t475)) = some r := by rw [if_pos rfl] at H;exact H
    clear H
    have H := H1
    clear H1
    replace H := Option.bind_eq_some_iff.mp H
    obtain ⟨t475,A280,H⟩ := H
    replace H : (some t475) = some r := H
    have A28 := Aside0.mk A280
    clear A280
    obtain rfl := Option.some.inj H
    go_wp2_with (first|((with_reducible refine gate_callee (f := 13) rfl ?_);refine goesL_ (some 30) rfl rfl Try.func13 (by kernel_rfl) rfl #[] rfl (by (try simp only [List.map_toArray,List.map_cons,List.map_nil]);first|done|rfl|(simp only [List.length_drop,List.length_take];rfl)) ?_;(with_reducible refine (privitylaw10_awake.calls kj2  t475 _ A28.out).mono ?_);rintro e w29 ⟨rfl,hb⟩;refine ⟨_,rfl,?_⟩;have n0_ := Aside0.mk (blk_below (g := gb471) (o := .cells #[.int .u64 a0_0,.slice A0_1 l0_1.length c0_1,.slice A0_2 l0_2.length c0_2,.int .u64 a0_3,.int .u64 a0_4] 39 (0,0)) (by (with_reducible repeat (first|refine blk_drewN ?_ _|refine blk_drew ?_|refine blk_alloc ?_ _));exact BK471.out) hb);have n1_ := Aside0.mk (below_step (by repeat (first|(with_reducible first|exact HB.out|apply below_alloc|apply pw_below_drewN|apply below_drew1|refine below_set ?_ GE471.out)|exact HB.out)) hb);clear BK471;clear HB;have BK471 := n0_;have HB := n1_;clear n0_ n1_;(try clear hb);(try clear hb2);(try clear hk);(try clear hi)))
    go_ret
    exact ⟨by first|rfl|(simp [errW_none,errW_some] <;> rfl)|(simp [*,errW_none,errW_some] <;> rfl),by repeat (first|(with_reducible first|exact HB.out|apply below_alloc|apply pw_below_drewN|apply below_drew1|refine below_set ?_ GE471.out)|exact HB.out)⟩
   ·replace c27 := Bool.eq_false_iff.mpr c27
    subst c27
    have H1 : (privitylaw10_BivariateUniqueTranslation.l0 kj2 l1 0 a0_0 l0_1 l0_2 a0_3 a0_4) = some r := by rw [if_neg (show ¬ (false = true) by decide)] at H;exact H
    clear H
    have H := H1
    clear H1
    have H' := Aside0.mk H
    clear H
    go_wp2
    go_loopg [5] kj2 (fun kq v5 w' => ∃ (x5_2 : Int),v5 = .int .i64 x5_2 ∧ Aside0 (privitylaw10_BivariateUniqueTranslation.l0 kq l1 x5_2 a0_0 l0_1 l0_2 a0_3 a0_4 = some r) ∧ Aside0 (kq ≤ kj2) ∧ Aside0 (w'.heap[gb471]? = some (.cells #[.int .u64 a0_0,(.slice A0_1 l0_1.length c0_1),(.slice A0_2 l0_2.length c0_2),.int .u64 a0_3,.int .u64 a0_4] 39 (0,0))) ∧ Aside0 (Below w.heap.size w w'))
    case atStart => exact ⟨(0),(by first|rfl|(simp;done)|(simp [*];done)),H',⟨Nat.le_refl _⟩,⟨by (with_reducible repeat (first|refine blk_drewN ?_ _|refine blk_drew ?_|refine blk_alloc ?_ _));exact BK471.out⟩,⟨by repeat (first|(with_reducible first|exact HB.out|apply below_alloc|apply pw_below_drewN|apply below_drew1|refine below_set ?_ GE471.out)|exact HB.out)⟩⟩
    case round =>
     clear H'
     try clear c1
     try clear c2
     try clear p2
     try clear c6
     try clear c7
     try clear c8
     try clear c9
     try clear c9b0
     try clear c9b1
     try clear c9b2
     try clear c13
     try clear c24
     try clear c27
     try clear hcz11_0
     try clear hcz11_1
     try clear hcz11_2
     try clear hcz11_3
     try clear hcz11_4
     try clear hcz13_0
     try clear hcz13_1
     try clear hcz13_2
     try clear hcz13_3
     try clear hcz13_4
     try clear hcz15_0
     try clear hcz15_1
     try clear hcz15_2
     try clear hcz15_3
     try clear hcz15_4
     try clear hcz16_0
     try clear hcz16_1
     try clear hcz16_2
     try clear hcz16_3
     try clear hcz16_4
     try clear hcz18_0
     try clear hcz18_1
     try clear hcz18_2
     try clear hcz18_3
     try clear hcz18_4
     try clear hcz20_0
     try clear hcz20_1
     try clear hcz20_2
     try clear hcz20_3
     try clear hcz20_4
     try clear hcz21_0
     try clear hcz21_1
     try clear hcz21_2
     try clear hcz21_3
     try clear hcz21_4
     try clear hcz23_0
     try clear hcz23_1
     try clear hcz23_2
     try clear hcz23_3
     try clear hcz23_4
     try clear hcz25_0
     try clear hcz25_1
     try clear hcz25_2
     try clear hcz25_3
     try clear hcz25_4
     try clear hfz11_0
     try clear hfz11_1
     try clear hfz11_2
     try clear hfz11_3
     try clear hfz11_4
     try clear hfz13_0
     try clear hfz13_1
     try clear hfz13_2
     try clear hfz13_3
     try clear hfz13_4
     try clear hfz15_0
     try clear hfz15_1
     try clear hfz15_2
     try clear hfz15_3
     try clear hfz15_4
     try clear hfz16_0
     try clear hfz16_1
     try clear hfz16_2
     try clear hfz16_3
     try clear hfz16_4
     try clear hfz18_0
     try clear hfz18_1
     try clear hfz18_2
     try clear hfz18_3
     try clear hfz18_4
     try clear hfz20_0
     try clear hfz20_1
     try clear hfz20_2
     try clear hfz20_3
     try clear hfz20_4
     try clear hfz21_0
     try clear hfz21_1
     try clear hfz21_2
     try clear hfz21_3
     try clear hfz21_4
     try clear hfz23_0
     try clear hfz23_1
     try clear hfz23_2
     try clear hfz23_3
     try clear hfz23_4
     try clear hfz25_0
     try clear hfz25_1
     try clear hfz25_2
     try clear hfz25_3
     try clear hfz25_4
     try clear p2
     obtain ⟨x5_2,rfl,HA,HK2,BK471,HB⟩ := hrel
     cases gk with
     | zero => exact absurd HA.out (by simp [privitylaw10_BivariateUniqueTranslation.l0])
     | succ k2 =>
      have H := HA.out
      clear HA
      simp only [privitylaw10_BivariateUniqueTranslation.l0] at H
      by_cases c30 : x5_2 < (l0_2.length : Int)
      ·rw [if_pos c30] at H
       have c30b0 : decide (x5_2 < (l0_2.length : Int)) = true := decide_eq_true c30
       clear c30
       by_cases c31 : 0 ≤ x5_2
       ·rw [if_pos c31] at H
        have c31b0 : decide (0 ≤ x5_2) = true := decide_eq_true c31
        clear c31
        replace H := Option.bind_eq_some_iff.mp H
        obtain ⟨t477,A320,H⟩ := H
        replace H : ((bivariate_Row.f k2 a0_0 l0_1 (rd l0_2 x5_2)).bind fun t481 => ((privityref06_SameList.f k2 t477 t481).bind fun t484 => (if t484 = true then (privitylaw10_BivariateUniqueTranslation.l0 k2 l1 (wrap64 (x5_2 + 1)) a0_0 l0_1 l0_2 a0_3 a0_4) else ((privitylaw10_awake.f k2).bind fun t485 => (some t485))))) = some r := H
        have A32 := Aside0.mk A320
        clear A320
        replace H := Option.bind_eq_some_iff.mp H
        obtain ⟨t481,A330,H⟩ := H
        replace H : ((privityref06_SameList.f k2 t477 t481).bind fun t484 => (if t484 = true then (privitylaw10_BivariateUniqueTranslation.l0 k2 l1 (wrap64 (x5_2 + 1)) a0_0 l0_1 l0_2 a0_3 a0_4) else ((privitylaw10_awake.f k2).bind fun t485 => (some t485)))) = some r := H
        have A33 := Aside0.mk A330
        clear A330
        replace H := Option.bind_eq_some_iff.mp H
        obtain ⟨t484,A340,H⟩ := H
        replace H : (if t484 = true then (privitylaw10_BivariateUniqueTranslation.l0 k2 l1 (wrap64 (x5_2 + 1)) a0_0 l0_1 l0_2 a0_3 a0_4) else ((privitylaw10_awake.f k2).bind fun t485 => (some t485))) = some r := H
        have A34 := Aside0.mk A340
        clear A340
        by_cases c35 : t484 = true
        ·subst c35
         have H1 : (privitylaw10_BivariateUniqueTranslation.l0 k2 l1 (wrap64 (x5_2 + 1)) a0_0 l0_1 l0_2 a0_3 a0_4) = some r := by rw [if_pos rfl] at H;exact H
         clear H
         have H := H1
         clear H1
         have H' := Aside0.mk H
         clear H
         have hcz36_0 : wr.cell? ⟨gb471,0,none⟩ = some (.int .u64 a0_0) := (blk_cell BK471.out 0).trans rfl
         have hcz36_1 : wr.cell? ⟨gb471,1,none⟩ = some (.slice A0_1 l0_1.length c0_1) := (blk_cell BK471.out 1).trans rfl
         have hcz36_2 : wr.cell? ⟨gb471,2,none⟩ = some (.slice A0_2 l0_2.length c0_2) := (blk_cell BK471.out 2).trans rfl
         have hcz36_3 : wr.cell? ⟨gb471,3,none⟩ = some (.int .u64 a0_3) := (blk_cell BK471.out 3).trans rfl
         have hcz36_4 : wr.cell? ⟨gb471,4,none⟩ = some (.int .u64 a0_4) := (blk_cell BK471.out 4).trans rfl
         have hfz36_0 := blk_frozen BK471.out 0
         have hfz36_1 := blk_frozen BK471.out 1
         have hfz36_2 := blk_frozen BK471.out 2
         have hfz36_3 := blk_frozen BK471.out 3
         have hfz36_4 := blk_frozen BK471.out 4
         try go_wp2
         have n0_ := Aside0.mk (blk_drew BK471.out)
         have n1_ := Aside0.mk (below_drew1 HB.out)
         clear BK471
         clear HB
         have BK471 := n0_
         have HB := n1_
         clear n0_ n1_
         have p476 : 0 ≤ (x5_2 : Int) := of_decide_eq_true (by first|(with_reducible assumption)|assumption)
         have q476 : x5_2 < (l0_2.length : Int) := of_decide_eq_true (by first|(with_reducible assumption)|assumption)
         obtain ⟨ad476,e476,hx476_0⟩ := Kd.at_int HR0_2.out x5_2 p476 q476
         have hw476_0 := hx476_0
         cases e476
         replace hx476_0 := (HB.out.cell (World.block_lt_of_cell? w _ hx476_0)).trans hx476_0
         replace p476 := eq_true p476
         replace q476 := eq_true q476
         have p480 : 0 ≤ (x5_2 : Int) := of_decide_eq_true (by first|(with_reducible assumption)|assumption)
         have q480 : x5_2 < (l0_2.length : Int) := of_decide_eq_true (by first|(with_reducible assumption)|assumption)
         obtain ⟨ad480,e480,hx480_0⟩ := Kd.at_int HR0_2.out x5_2 p480 q480
         have hw480_0 := hx480_0
         obtain rfl : ad476 = ad480 := (by injection e480)
         replace hx480_0 := (HB.out.cell (World.block_lt_of_cell? w _ hx480_0)).trans hx480_0
         replace p480 := eq_true p480
         replace q480 := eq_true q480
         refine start_ (n := 21) (S := fun w' => w'.cell? ⟨gb471,0,none⟩ = some (.int .u64 a0_0) ∧ w'.cell? ⟨gb471,1,none⟩ = some (.slice A0_1 l0_1.length c0_1) ∧ w'.cell? ⟨gb471,2,none⟩ = some (.slice (some ad476) l0_2.length c0_2) ∧ w'.cell? ⟨gb471,3,none⟩ = some (.int .u64 a0_3) ∧ w'.cell? ⟨gb471,4,none⟩ = some (.int .u64 a0_4) ∧ w'.cell? (ad476.add (x5_2).toNat) = some (.int .u64 (rd l0_2 x5_2)) ∧ w'.cell? (ad476.add (x5_2).toNat) = some (.int .u64 (rd l0_2 x5_2))) (ds := []) #[false,false,false,false,false,false,false,false,false,false,false,false,false,false,false,false,false,false,false,false,false] (by kernel_rfl) rfl rfl ⟨(blk_cell BK471.out 0).trans rfl,(blk_cell BK471.out 1).trans rfl,(blk_cell BK471.out 2).trans rfl,(blk_cell BK471.out 3).trans rfl,(blk_cell BK471.out 4).trans rfl,((HB.out.cell (World.block_lt_of_cell? w _ hw476_0)).trans hw476_0),((HB.out.cell (World.block_lt_of_cell? w _ hw480_0)).trans hw480_0)⟩ (fun hHeld => ?_);refine with_tabW privitylaw10_BivariateUniqueTranslation.tab6 privitylaw10_BivariateUniqueTranslation.bits6 (fun HT_ HW_ => ?_)
         generalize wr.drew = w37 at BK471 HB hx476_0 hx480_0 hHeld ⊢
         refine pure_ (i := 0) (N := some 38) (v := ?_) (a' := ?_) #[true,false,false,false,false,false,false,false,false,false,false,false,false,false,false,false,false,false,false,false,false] rfl rfl (any_of HT_.out (by kernel_rfl)) (fun _ _ _ h => h) (Or.inl ⟨by rfl,?_⟩) ?_ ?_
         rotate_left
         ·intro w'
          go_simp
          with_reducible rfl
         rotate_left
         ·simp only [Act.put,List.setIfInBounds_toArray,List.set_cons_zero,List.set_cons_succ,i64_w,i32_w]
          rfl
         refine pure_ (i := 2) (N := some 40) (v := ?_) (a' := ?_) #[true,false,true,false,false,false,false,false,false,false,false,false,false,false,false,false,false,false,false,false,false] rfl rfl (any_of HT_.out (by kernel_rfl)) (fun _ _ _ h => h) (Or.inl ⟨by rfl,?_⟩) ?_ ?_
         rotate_left
         ·intro w'
          go_simp
          with_reducible rfl
         rotate_left
         ·simp only [Act.put,List.setIfInBounds_toArray,List.set_cons_zero,List.set_cons_succ,i64_w,i32_w]
          rfl
         refine pure_ (i := 3) (N := some 41) (v := ?_) (a' := ?_) #[true,false,true,true,false,false,false,false,false,false,false,false,false,false,false,false,false,false,false,false,false] rfl rfl (any_of HT_.out (by kernel_rfl)) (fun _ _ _ h => h) (Or.inl ⟨by rfl,?_⟩) ?_ ?_
         rotate_left
         ·intro w'
          go_simp
          with_reducible rfl
         rotate_left
         ·simp only [Act.put,List.setIfInBounds_toArray,List.set_cons_zero,List.set_cons_succ,i64_w,i32_w]
          rfl
         refine pure_ (i := 5) (N := some 43) (v := ?_) (a' := ?_) #[true,false,true,true,false,true,false,false,false,false,false,false,false,false,false,false,false,false,false,false,false] rfl rfl (any_of HT_.out (by kernel_rfl)) (fun _ _ _ h => h) (Or.inl ⟨by rfl,?_⟩) ?_ ?_
         rotate_left
         ·intro w'
          go_simp
          with_reducible rfl
         rotate_left
         ·simp only [Act.put,List.setIfInBounds_toArray,List.set_cons_zero,List.set_cons_succ,i64_w,i32_w]
          rfl
         refine pure_ (i := 9) (N := some 47) (v := ?_) (a' := ?_) #[true,false,true,true,false,true,false,false,false,true,false,false,false,false,false,false,false,false,false,false,false] rfl rfl (any_of HT_.out (by kernel_rfl)) (fun _ _ _ h => h) (Or.inl ⟨by rfl,?_⟩) ?_ ?_
         rotate_left
         ·intro w'
          go_simp
          with_reducible rfl
         rotate_left
         ·simp only [Act.put,List.setIfInBounds_toArray,List.set_cons_zero,List.set_cons_succ,i64_w,i32_w]
          rfl
         refine pure_ (i := 11) (N := some 49) (v := ?_) (a' := ?_) #[true,false,true,true,false,true,false,false,false,true,false,true,false,false,false,false,false,false,false,false,false] rfl rfl (any_of HT_.out (by kernel_rfl)) (fun _ _ _ h => h) (Or.inl ⟨by rfl,?_⟩) ?_ ?_
         rotate_left
         ·intro w'
          go_simp
          with_reducible rfl
         rotate_left
         ·simp only [Act.put,List.setIfInBounds_toArray,List.set_cons_zero,List.set_cons_succ,i64_w,i32_w]
          rfl
         refine pure_ (i := 13) (N := some 51) (v := ?_) (a' := ?_) #[true,false,true,true,false,true,false,false,false,true,false,true,false,true,false,false,false,false,false,false,false] rfl rfl (any_of HT_.out (by kernel_rfl)) (fun _ _ _ h => h) (Or.inl ⟨by rfl,?_⟩) ?_ ?_
         rotate_left
         ·intro w'
          go_simp
          with_reducible rfl
         rotate_left
         ·simp only [Act.put,List.setIfInBounds_toArray,List.set_cons_zero,List.set_cons_succ,i64_w,i32_w]
          rfl
         refine pure_ (i := 15) (N := some 53) (v := ?_) (a' := ?_) #[true,false,true,true,false,true,false,false,false,true,false,true,false,true,false,true,false,false,false,false,false] rfl rfl (any_of HT_.out (by kernel_rfl)) (fun _ _ _ h => h) (Or.inl ⟨by rfl,?_⟩) ?_ ?_
         rotate_left
         ·intro w'
          go_simp
          with_reducible rfl
         rotate_left
         ·simp only [Act.put,List.setIfInBounds_toArray,List.set_cons_zero,List.set_cons_succ,i64_w,i32_w]
          rfl
         refine take_ (i := 1) (N := some 39) (v := ?_) (a' := ?_) #[true,true,true,true,false,true,false,false,false,true,false,true,false,true,false,true,false,false,false,false,false] rfl rfl (take_ofW HT_.out HW_.out (by kernel_rfl)) (fun _ _ _ h => h) (Or.inl ⟨by rfl,?_⟩) hHeld ?_ ?_
         rotate_left
         ·rintro w' ⟨s0,s1,s2,s3,s4,s5,s6⟩
          go_simp
          with_reducible rfl
         rotate_left
         ·simp only [Act.put,List.setIfInBounds_toArray,List.set_cons_zero,List.set_cons_succ,i64_w,i32_w]
          rfl
         refine take_ (i := 4) (N := some 42) (v := ?_) (a' := ?_) #[true,true,true,true,true,true,false,false,false,true,false,true,false,true,false,true,false,false,false,false,false] rfl rfl (take_ofW HT_.out HW_.out (by kernel_rfl)) (fun _ _ _ h => h) (Or.inl ⟨by rfl,?_⟩) hHeld ?_ ?_
         rotate_left
         ·rintro w' ⟨s0,s1,s2,s3,s4,s5,s6⟩
          go_simp
          with_reducible rfl
         rotate_left
         ·simp only [Act.put,List.setIfInBounds_toArray,List.set_cons_zero,List.set_cons_succ,i64_w,i32_w]
          rfl
         refine pure_ (i := 6) (N := some 44) (v := ?_) (a' := ?_) #[true,true,true,true,true,true,true,false,false,true,false,true,false,true,false,true,false,false,false,false,false] rfl rfl (any_of HT_.out (by kernel_rfl)) (fun _ _ _ h => h) (Or.inl ⟨by rfl,?_⟩) ?_ ?_
         rotate_left
         ·intro w'
          go_simp
          with_reducible rfl
         rotate_left
         ·simp only [Act.put,List.setIfInBounds_toArray,List.set_cons_zero,List.set_cons_succ,i64_w,i32_w]
          rfl
         refine take_ (i := 7) (N := some 45) (v := ?_) (a' := ?_) #[true,true,true,true,true,true,true,true,false,true,false,true,false,true,false,true,false,false,false,false,false] rfl rfl (take_ofW HT_.out HW_.out (by kernel_rfl)) (fun _ _ _ h => h) (Or.inl ⟨by rfl,?_⟩) hHeld ?_ ?_
         rotate_left
         ·rintro w' ⟨s0,s1,s2,s3,s4,s5,s6⟩
          go_simp
          with_reducible rfl
         rotate_left
         ·simp only [Act.put,List.setIfInBounds_toArray,List.set_cons_zero,List.set_cons_succ,i64_w,i32_w]
          rfl
         refine take_ (i := 10) (N := some 48) (v := ?_) (a' := ?_) #[true,true,true,true,true,true,true,true,false,true,true,true,false,true,false,true,false,false,false,false,false] rfl rfl (take_ofW HT_.out HW_.out (by kernel_rfl)) (fun _ _ _ h => h) (Or.inl ⟨by rfl,?_⟩) hHeld ?_ ?_
         rotate_left
         ·rintro w' ⟨s0,s1,s2,s3,s4,s5,s6⟩
          go_simp
          with_reducible rfl
         rotate_left
         ·simp only [Act.put,List.setIfInBounds_toArray,List.set_cons_zero,List.set_cons_succ,i64_w,i32_w]
          rfl
         refine take_ (i := 12) (N := some 50) (v := ?_) (a' := ?_) #[true,true,true,true,true,true,true,true,false,true,true,true,true,true,false,true,false,false,false,false,false] rfl rfl (take_ofW HT_.out HW_.out (by kernel_rfl)) (fun _ _ _ h => h) (Or.inl ⟨by rfl,?_⟩) hHeld ?_ ?_
         rotate_left
         ·rintro w' ⟨s0,s1,s2,s3,s4,s5,s6⟩
          go_simp
          with_reducible rfl
         rotate_left
         ·simp only [Act.put,List.setIfInBounds_toArray,List.set_cons_zero,List.set_cons_succ,i64_w,i32_w]
          rfl
         refine take_ (i := 14) (N := some 52) (v := ?_) (a' := ?_) #[true,true,true,true,true,true,true,true,false,true,true,true,true,true,true,true,false,false,false,false,false] rfl rfl (take_ofW HT_.out HW_.out (by kernel_rfl)) (fun _ _ _ h => h) (Or.inl ⟨by rfl,?_⟩) hHeld ?_ ?_
         rotate_left
         ·rintro w' ⟨s0,s1,s2,s3,s4,s5,s6⟩
          go_simp
          with_reducible rfl
         rotate_left
         ·simp only [Act.put,List.setIfInBounds_toArray,List.set_cons_zero,List.set_cons_succ,i64_w,i32_w]
          rfl
         refine pure_ (i := 16) (N := some 54) (v := ?_) (a' := ?_) #[true,true,true,true,true,true,true,true,false,true,true,true,true,true,true,true,true,false,false,false,false] rfl rfl (any_of HT_.out (by kernel_rfl)) (fun _ _ _ h => h) (Or.inl ⟨by rfl,?_⟩) ?_ ?_
         rotate_left
         ·intro w'
          go_simp
          with_reducible rfl
         rotate_left
         ·simp only [Act.put,List.setIfInBounds_toArray,List.set_cons_zero,List.set_cons_succ,i64_w,i32_w]
          rfl
         refine take_ (i := 17) (N := some 55) (v := ?_) (a' := ?_) #[true,true,true,true,true,true,true,true,false,true,true,true,true,true,true,true,true,true,false,false,false] rfl rfl (take_ofW HT_.out HW_.out (by kernel_rfl)) (fun _ _ _ h => h) (Or.inl ⟨by rfl,?_⟩) hHeld ?_ ?_
         rotate_left
         ·rintro w' ⟨s0,s1,s2,s3,s4,s5,s6⟩
          go_simp
          with_reducible rfl
         rotate_left
         ·simp only [Act.put,List.setIfInBounds_toArray,List.set_cons_zero,List.set_cons_succ,i64_w,i32_w]
          rfl
         refine one_ (i := 8) (N := some 46) #[true,true,true,true,true,true,true,true,true,true,true,true,true,true,true,true,true,true,false,false,false] rfl rfl (one_of HT_.out (by kernel_rfl)) (by decide) (fun K hK => ?_)
         refine goes_ Try.func23 (by kernel_rfl) rfl #[.int .u64 a0_0,.slice A1 l1.length c1,.int .u64 (rd l0_2 x5_2)] (by rfl) rfl rfl (by (try simp only [List.map_toArray,List.map_cons,List.map_nil]);first|done|rfl|(simp only [List.length_drop,List.length_take];rfl)) ?_
         with_reducible refine (bivariate_Row.calls k2 a0_0 _ _ l1 (rd l0_2 x5_2) t477 _ ?side1 ?side2 A32.out).mono ?_
         (case side1 => repeat (first|exact (Kd.C_below HR1.out HB.out)|(with_reducible refine Kd.C_alloc ?_ _)|(with_reducible refine Kd.C_drewN ?_ _)|(with_reducible refine Kd.C_drew ?_)))
         (case side2 => exact HC1.out)
         rintro e w38 ⟨v478,rfl,ho0,hb⟩
         refine ⟨_,rfl,?_⟩
         have n0_ := Aside0.mk (Kd.R_lower ho0 (below_size (by repeat (first|(with_reducible first|exact HB.out|apply below_alloc|apply pw_below_drewN|apply below_drew1|refine below_set ?_ GE471.out)|exact HB.out))))
         have n1_ := Aside0.mk (blk_below (g := gb471) (o := .cells #[.int .u64 a0_0,.slice A0_1 l0_1.length c0_1,.slice (some ad476) l0_2.length c0_2,.int .u64 a0_3,.int .u64 a0_4] 39 (0,0)) (by (with_reducible repeat (first|refine blk_drewN ?_ _|refine blk_drew ?_|refine blk_alloc ?_ _));exact BK471.out) hb)
         have n2_ := Aside0.mk (below_step (by repeat (first|(with_reducible first|exact HB.out|apply below_alloc|apply pw_below_drewN|apply below_drew1|refine below_set ?_ GE471.out)|exact HB.out)) hb)
         clear BK471
         clear HB
         have HO479 := n0_
         have BK471 := n1_
         have HB := n2_
         clear n0_ n1_ n2_
         (try clear hb)
         (try clear hb2)
         (try clear hk)
         (try clear hi)
         (try clear ho0)
         refine hK.out _ _ ⟨(blk_cell BK471.out 0).trans rfl,(blk_cell BK471.out 1).trans rfl,(blk_cell BK471.out 2).trans rfl,(blk_cell BK471.out 3).trans rfl,(blk_cell BK471.out 4).trans rfl,((HB.out.cell (World.block_lt_of_cell? w _ hw476_0)).trans hw476_0),((HB.out.cell (World.block_lt_of_cell? w _ hw480_0)).trans hw480_0)⟩ (fun hHeld => ?_)
         clear hK K
         refine norm_ (a' := ?_) ?_ ?_
         rotate_left
         ·show Act.put _ (some 46) _ = _
          simp only [Act.put,List.setIfInBounds_toArray,List.set_cons_zero,List.set_cons_succ,i64_w,i32_w]
          rfl
         refine one_ (i := 18) (N := some 56) #[true,true,true,true,true,true,true,true,true,true,true,true,true,true,true,true,true,true,true,false,false] rfl rfl (one_of HT_.out (by kernel_rfl)) (by decide) (fun K hK => ?_)
         refine goes_ Try.func23 (by kernel_rfl) rfl #[.int .u64 a0_0,.slice A0_1 l0_1.length c0_1,.int .u64 (rd l0_2 x5_2)] (by rfl) rfl rfl (by (try simp only [List.map_toArray,List.map_cons,List.map_nil]);first|done|rfl|(simp only [List.length_drop,List.length_take];rfl)) ?_
         with_reducible refine (bivariate_Row.calls k2 a0_0 _ _ l0_1 (rd l0_2 x5_2) t481 _ ?side1 ?side2 A33.out).mono ?_
         (case side1 => repeat (first|exact (Kd.C_below HR0_1.out HB.out)|(with_reducible refine Kd.C_alloc ?_ _)|(with_reducible refine Kd.C_drewN ?_ _)|(with_reducible refine Kd.C_drew ?_)))
         (case side2 => exact HC0_1.out)
         rintro e w39 ⟨v482,rfl,ho0,hb⟩
         refine ⟨_,rfl,?_⟩
         have n0_ := Aside0.mk (Kd.R_elder' (by (with_reducible repeat (first|apply Kd.R_alloc|apply Kd.R_drewN|apply Kd.R_drew));exact HO479.out) (Kd.R_base ho0) hb)
         have n1_ := Aside0.mk (Kd.R_lower (Kd.R_new' ho0 (Kd.R_lt (by (with_reducible repeat (first|apply Kd.R_alloc|apply Kd.R_drewN|apply Kd.R_drew));exact HO479.out))) (below_size (by repeat (first|(with_reducible first|exact HB.out|apply below_alloc|apply pw_below_drewN|apply below_drew1|refine below_set ?_ GE471.out)|exact HB.out))))
         have n2_ := Aside0.mk (blk_below (g := gb471) (o := .cells #[.int .u64 a0_0,.slice A0_1 l0_1.length c0_1,.slice (some ad476) l0_2.length c0_2,.int .u64 a0_3,.int .u64 a0_4] 39 (0,0)) (by (with_reducible repeat (first|refine blk_drewN ?_ _|refine blk_drew ?_|refine blk_alloc ?_ _));exact BK471.out) hb)
         have n3_ := Aside0.mk (below_step (by repeat (first|(with_reducible first|exact HB.out|apply below_alloc|apply pw_below_drewN|apply below_drew1|refine below_set ?_ GE471.out)|exact HB.out)) hb)
         clear HO479
         clear BK471
         clear HB
         have HO479 := n0_
         have HO483 := n1_
         have BK471 := n2_
         have HB := n3_
         clear n0_ n1_ n2_ n3_
         (try clear hb)
         (try clear hb2)
         (try clear hk)
         (try clear hi)
         (try clear ho0)
         obtain ⟨Ao40,co40,eo40⟩ := Kd.R_slice HO479.out
         (first|subst eo40|(injection eo40 with f1_ f2_ f3_;have f4_ := f1_.symm;have f5_ := f3_.symm;clear f1_ f2_ f3_;subst f4_;subst f5_))
         obtain ⟨Ao41,co41,eo41⟩ := Kd.R_slice HO483.out
         (first|subst eo41|(injection eo41 with f1_ f2_ f3_;have f4_ := f1_.symm;have f5_ := f3_.symm;clear f1_ f2_ f3_;subst f4_;subst f5_))
         refine hK.out _ _ ⟨(blk_cell BK471.out 0).trans rfl,(blk_cell BK471.out 1).trans rfl,(blk_cell BK471.out 2).trans rfl,(blk_cell BK471.out 3).trans rfl,(blk_cell BK471.out 4).trans rfl,((HB.out.cell (World.block_lt_of_cell? w _ hw476_0)).trans hw476_0),((HB.out.cell (World.block_lt_of_cell? w _ hw480_0)).trans hw480_0)⟩ (fun hHeld => ?_)
         clear hK K
         refine norm_ (a' := ?_) ?_ ?_
         rotate_left
         ·show Act.put _ (some 56) _ = _
          simp only [Act.put,List.setIfInBounds_toArray,List.set_cons_zero,List.set_cons_succ,i64_w,i32_w]
          rfl
         refine one_ (i := 19) (N := some 57) #[true,true,true,true,true,true,true,true,true,true,true,true,true,true,true,true,true,true,true,true,false] rfl rfl (one_of HT_.out (by kernel_rfl)) (by decide) (fun K hK => ?_)
         refine goes_ Try.func22 (by kernel_rfl) rfl #[.slice Ao40 t477.length co40,.slice Ao41 t481.length co41] (by rfl) rfl rfl (by (try simp only [List.map_toArray,List.map_cons,List.map_nil]);first|done|rfl|(simp only [List.length_drop,List.length_take];rfl)) ?_
         with_reducible refine (privityref06_SameList.calls k2 _ _ t477 _ _ t481 true _ ?side1 ?side2 ?side3 ?side4 A34.out).mono ?_
         (case side1 => repeat (first|exact (Kd.R_reads' HO479.out).2.2|(with_reducible refine Kd.C_alloc ?_ _)|(with_reducible refine Kd.C_drewN ?_ _)|(with_reducible refine Kd.C_drew ?_)))
         (case side2 => exact (Kd.R_reads' HO479.out).2.1)
         (case side3 => repeat (first|exact (Kd.R_reads' HO483.out).2.2|(with_reducible refine Kd.C_alloc ?_ _)|(with_reducible refine Kd.C_drewN ?_ _)|(with_reducible refine Kd.C_drew ?_)))
         (case side4 => exact (Kd.R_reads' HO483.out).2.1)
         rintro e w' ⟨rfl,⟨nd,rfl⟩⟩
         refine ⟨_,rfl,?_⟩
         refine hK.out _ _ ⟨(blk_cell BK471.out 0).trans rfl,(blk_cell BK471.out 1).trans rfl,(blk_cell BK471.out 2).trans rfl,(blk_cell BK471.out 3).trans rfl,(blk_cell BK471.out 4).trans rfl,((HB.out.cell (World.block_lt_of_cell? w _ hw476_0)).trans hw476_0),((HB.out.cell (World.block_lt_of_cell? w _ hw480_0)).trans hw480_0)⟩ (fun hHeld => ?_)
         clear hK K
         refine norm_ (a' := ?_) ?_ ?_
         rotate_left
         ·show Act.put _ (some 57) _ = _
          simp only [Act.put,List.setIfInBounds_toArray,List.set_cons_zero,List.set_cons_succ,i64_w,i32_w]
          rfl
         refine pure_ (i := 20) (N := some 58) (v := ?_) (a' := ?_) #[true,true,true,true,true,true,true,true,true,true,true,true,true,true,true,true,true,true,true,true,true] rfl rfl (any_of HT_.out (by kernel_rfl)) (fun _ _ _ h => h) (Or.inl ⟨by rfl,?_⟩) ?_ ?_
         rotate_left
         ·intro w'
          go_simp
          with_reducible rfl
         rotate_left
         ·simp only [Act.put,List.setIfInBounds_toArray,List.set_cons_zero,List.set_cons_succ,i64_w,i32_w]
          rfl
         refine done_ (done_of HT_.out (by kernel_rfl)) ?_
         try go_wp2
         go_roundg k2
         case measure => have := HJ2.out;have := HK2.out;omega
         case rel => exact ⟨(wrap64 (x5_2 + 1)),(by first|rfl|(simp;done)|(simp [*];done)),H',⟨by have := HJ2.out;have := HK2.out;omega⟩,⟨by (with_reducible repeat (first|refine blk_drewN ?_ _|refine blk_drew ?_|refine blk_alloc ?_ _));exact BK471.out⟩,⟨by repeat (first|(with_reducible first|exact HB.out|apply below_alloc|apply pw_below_drewN|apply below_drew1|refine below_set ?_ GE471.out)|exact HB.out)⟩⟩
        ·replace c35 := Bool.eq_false_iff.mpr c35
         subst c35
         have H1 : ((privitylaw10_awake.f k2).bind fun t485 => (some t485)) = some r := by rw [if_neg (show ¬ (false = true) by decide)] at H;exact H
         clear H
         have H := H1
         clear H1
         replace H := Option.bind_eq_some_iff.mp H
         obtain ⟨t485,A420,H⟩ := H
         replace H : (some t485) = some r := H
         have A42 := Aside0.mk A420
         clear A420
         obtain rfl := Option.some.inj H
         have hcz43_0 : wr.cell? ⟨gb471,0,none⟩ = some (.int .u64 a0_0) := (blk_cell BK471.out 0).trans rfl
         have hcz43_1 : wr.cell? ⟨gb471,1,none⟩ = some (.slice A0_1 l0_1.length c0_1) := (blk_cell BK471.out 1).trans rfl
         have hcz43_2 : wr.cell? ⟨gb471,2,none⟩ = some (.slice A0_2 l0_2.length c0_2) := (blk_cell BK471.out 2).trans rfl
         have hcz43_3 : wr.cell? ⟨gb471,3,none⟩ = some (.int .u64 a0_3) := (blk_cell BK471.out 3).trans rfl
         have hcz43_4 : wr.cell? ⟨gb471,4,none⟩ = some (.int .u64 a0_4) := (blk_cell BK471.out 4).trans rfl
         have hfz43_0 := blk_frozen BK471.out 0
         have hfz43_1 := blk_frozen BK471.out 1
         have hfz43_2 := blk_frozen BK471.out 2
         have hfz43_3 := blk_frozen BK471.out 3
         have hfz43_4 := blk_frozen BK471.out 4
         try go_wp2
         have n0_ := Aside0.mk (blk_drew BK471.out)
         have n1_ := Aside0.mk (below_drew1 HB.out)
         clear BK471
         clear HB
         have BK471 := n0_
         have HB := n1_
         clear n0_ n1_
         have p476 : 0 ≤ (x5_2 : Int) := of_decide_eq_true (by first|(with_reducible assumption)|assumption)
         have q476 : x5_2 < (l0_2.length : Int) := of_decide_eq_true (by first|(with_reducible assumption)|assumption)
         obtain ⟨ad476,e476,hx476_0⟩ := Kd.at_int HR0_2.out x5_2 p476 q476
         have hw476_0 := hx476_0
         cases e476
         replace hx476_0 := (HB.out.cell (World.block_lt_of_cell? w _ hx476_0)).trans hx476_0
         replace p476 := eq_true p476
         replace q476 := eq_true q476
         have p480 : 0 ≤ (x5_2 : Int) := of_decide_eq_true (by first|(with_reducible assumption)|assumption)
         have q480 : x5_2 < (l0_2.length : Int) := of_decide_eq_true (by first|(with_reducible assumption)|assumption)
         obtain ⟨ad480,e480,hx480_0⟩ := Kd.at_int HR0_2.out x5_2 p480 q480
         have hw480_0 := hx480_0
         obtain rfl : ad476 = ad480 := (by injection e480)
         replace hx480_0 := (HB.out.cell (World.block_lt_of_cell? w _ hx480_0)).trans hx480_0
         replace p480 := eq_true p480
         replace q480 := eq_true q480
         refine start_ (n := 21) (S := fun w' => w'.cell? ⟨gb471,0,none⟩ = some (.int .u64 a0_0) ∧ w'.cell? ⟨gb471,1,none⟩ = some (.slice A0_1 l0_1.length c0_1) ∧ w'.cell? ⟨gb471,2,none⟩ = some (.slice (some ad476) l0_2.length c0_2) ∧ w'.cell? ⟨gb471,3,none⟩ = some (.int .u64 a0_3) ∧ w'.cell? ⟨gb471,4,none⟩ = some (.int .u64 a0_4) ∧ w'.cell? (ad476.add (x5_2).toNat) = some (.int .u64 (rd l0_2 x5_2)) ∧ w'.cell? (ad476.add (x5_2).toNat) = some (.int .u64 (rd l0_2 x5_2))) (ds := []) #[false,false,false,false,false,false,false,false,false,false,false,false,false,false,false,false,false,false,false,false,false] (by kernel_rfl) rfl rfl ⟨(blk_cell BK471.out 0).trans rfl,(blk_cell BK471.out 1).trans rfl,(blk_cell BK471.out 2).trans rfl,(blk_cell BK471.out 3).trans rfl,(blk_cell BK471.out 4).trans rfl,((HB.out.cell (World.block_lt_of_cell? w _ hw476_0)).trans hw476_0),((HB.out.cell (World.block_lt_of_cell? w _ hw480_0)).trans hw480_0)⟩ (fun hHeld => ?_);refine with_tabW privitylaw10_BivariateUniqueTranslation.tab6 privitylaw10_BivariateUniqueTranslation.bits6 (fun HT_ HW_ => ?_)
         generalize wr.drew = w44 at BK471 HB hx476_0 hx480_0 hHeld ⊢
         refine pure_ (i := 0) (N := some 38) (v := ?_) (a' := ?_) #[true,false,false,false,false,false,false,false,false,false,false,false,false,false,false,false,false,false,false,false,false] rfl rfl (any_of HT_.out (by kernel_rfl)) (fun _ _ _ h => h) (Or.inl ⟨by rfl,?_⟩) ?_ ?_
         rotate_left
         ·intro w'
          go_simp
          with_reducible rfl
         rotate_left
         ·simp only [Act.put,List.setIfInBounds_toArray,List.set_cons_zero,List.set_cons_succ,i64_w,i32_w]
          rfl
         refine pure_ (i := 2) (N := some 40) (v := ?_) (a' := ?_) #[true,false,true,false,false,false,false,false,false,false,false,false,false,false,false,false,false,false,false,false,false] rfl rfl (any_of HT_.out (by kernel_rfl)) (fun _ _ _ h => h) (Or.inl ⟨by rfl,?_⟩) ?_ ?_
         rotate_left
         ·intro w'
          go_simp
          with_reducible rfl
         rotate_left
         ·simp only [Act.put,List.setIfInBounds_toArray,List.set_cons_zero,List.set_cons_succ,i64_w,i32_w]
          rfl
         refine pure_ (i := 3) (N := some 41) (v := ?_) (a' := ?_) #[true,false,true,true,false,false,false,false,false,false,false,false,false,false,false,false,false,false,false,false,false] rfl rfl (any_of HT_.out (by kernel_rfl)) (fun _ _ _ h => h) (Or.inl ⟨by rfl,?_⟩) ?_ ?_
         rotate_left
         ·intro w'
          go_simp
          with_reducible rfl
         rotate_left
         ·simp only [Act.put,List.setIfInBounds_toArray,List.set_cons_zero,List.set_cons_succ,i64_w,i32_w]
          rfl
         refine pure_ (i := 5) (N := some 43) (v := ?_) (a' := ?_) #[true,false,true,true,false,true,false,false,false,false,false,false,false,false,false,false,false,false,false,false,false] rfl rfl (any_of HT_.out (by kernel_rfl)) (fun _ _ _ h => h) (Or.inl ⟨by rfl,?_⟩) ?_ ?_
         rotate_left
         ·intro w'
          go_simp
          with_reducible rfl
         rotate_left
         ·simp only [Act.put,List.setIfInBounds_toArray,List.set_cons_zero,List.set_cons_succ,i64_w,i32_w]
          rfl
         refine pure_ (i := 9) (N := some 47) (v := ?_) (a' := ?_) #[true,false,true,true,false,true,false,false,false,true,false,false,false,false,false,false,false,false,false,false,false] rfl rfl (any_of HT_.out (by kernel_rfl)) (fun _ _ _ h => h) (Or.inl ⟨by rfl,?_⟩) ?_ ?_
         rotate_left
         ·intro w'
          go_simp
          with_reducible rfl
         rotate_left
         ·simp only [Act.put,List.setIfInBounds_toArray,List.set_cons_zero,List.set_cons_succ,i64_w,i32_w]
          rfl
         refine pure_ (i := 11) (N := some 49) (v := ?_) (a' := ?_) #[true,false,true,true,false,true,false,false,false,true,false,true,false,false,false,false,false,false,false,false,false] rfl rfl (any_of HT_.out (by kernel_rfl)) (fun _ _ _ h => h) (Or.inl ⟨by rfl,?_⟩) ?_ ?_
         rotate_left
         ·intro w'
          go_simp
          with_reducible rfl
         rotate_left
         ·simp only [Act.put,List.setIfInBounds_toArray,List.set_cons_zero,List.set_cons_succ,i64_w,i32_w]
          rfl
         refine pure_ (i := 13) (N := some 51) (v := ?_) (a' := ?_) #[true,false,true,true,false,true,false,false,false,true,false,true,false,true,false,false,false,false,false,false,false] rfl rfl (any_of HT_.out (by kernel_rfl)) (fun _ _ _ h => h) (Or.inl ⟨by rfl,?_⟩) ?_ ?_
         rotate_left
         ·intro w'
          go_simp
          with_reducible rfl
         rotate_left
         ·simp only [Act.put,List.setIfInBounds_toArray,List.set_cons_zero,List.set_cons_succ,i64_w,i32_w]
          rfl
         refine pure_ (i := 15) (N := some 53) (v := ?_) (a' := ?_) #[true,false,true,true,false,true,false,false,false,true,false,true,false,true,false,true,false,false,false,false,false] rfl rfl (any_of HT_.out (by kernel_rfl)) (fun _ _ _ h => h) (Or.inl ⟨by rfl,?_⟩) ?_ ?_
         rotate_left
         ·intro w'
          go_simp
          with_reducible rfl
         rotate_left
         ·simp only [Act.put,List.setIfInBounds_toArray,List.set_cons_zero,List.set_cons_succ,i64_w,i32_w]
          rfl
         refine take_ (i := 1) (N := some 39) (v := ?_) (a' := ?_) #[true,true,true,true,false,true,false,false,false,true,false,true,false,true,false,true,false,false,false,false,false] rfl rfl (take_ofW HT_.out HW_.out (by kernel_rfl)) (fun _ _ _ h => h) (Or.inl ⟨by rfl,?_⟩) hHeld ?_ ?_
         rotate_left
         ·rintro w' ⟨s0,s1,s2,s3,s4,s5,s6⟩
          go_simp
          with_reducible rfl
         rotate_left
         ·simp only [Act.put,List.setIfInBounds_toArray,List.set_cons_zero,List.set_cons_succ,i64_w,i32_w]
          rfl
         refine take_ (i := 4) (N := some 42) (v := ?_) (a' := ?_) #[true,true,true,true,true,true,false,false,false,true,false,true,false,true,false,true,false,false,false,false,false] rfl rfl (take_ofW HT_.out HW_.out (by kernel_rfl)) (fun _ _ _ h => h) (Or.inl ⟨by rfl,?_⟩) hHeld ?_ ?_
         rotate_left
         ·rintro w' ⟨s0,s1,s2,s3,s4,s5,s6⟩
          go_simp
          with_reducible rfl
         rotate_left
         ·simp only [Act.put,List.setIfInBounds_toArray,List.set_cons_zero,List.set_cons_succ,i64_w,i32_w]
          rfl
         refine pure_ (i := 6) (N := some 44) (v := ?_) (a' := ?_) #[true,true,true,true,true,true,true,false,false,true,false,true,false,true,false,true,false,false,false,false,false] rfl rfl (any_of HT_.out (by kernel_rfl)) (fun _ _ _ h => h) (Or.inl ⟨by rfl,?_⟩) ?_ ?_
         rotate_left
         ·intro w'
          go_simp
          with_reducible rfl
         rotate_left
         ·simp only [Act.put,List.setIfInBounds_toArray,List.set_cons_zero,List.set_cons_succ,i64_w,i32_w]
          rfl
         refine take_ (i := 7) (N := some 45) (v := ?_) (a' := ?_) #[true,true,true,true,true,true,true,true,false,true,false,true,false,true,false,true,false,false,false,false,false] rfl rfl (take_ofW HT_.out HW_.out (by kernel_rfl)) (fun _ _ _ h => h) (Or.inl ⟨by rfl,?_⟩) hHeld ?_ ?_
         rotate_left
         ·rintro w' ⟨s0,s1,s2,s3,s4,s5,s6⟩
          go_simp
          with_reducible rfl
         rotate_left
         ·simp only [Act.put,List.setIfInBounds_toArray,List.set_cons_zero,List.set_cons_succ,i64_w,i32_w]
          rfl
         refine take_ (i := 10) (N := some 48) (v := ?_) (a' := ?_) #[true,true,true,true,true,true,true,true,false,true,true,true,false,true,false,true,false,false,false,false,false] rfl rfl (take_ofW HT_.out HW_.out (by kernel_rfl)) (fun _ _ _ h => h) (Or.inl ⟨by rfl,?_⟩) hHeld ?_ ?_
         rotate_left
         ·rintro w' ⟨s0,s1,s2,s3,s4,s5,s6⟩
          go_simp
          with_reducible rfl
         rotate_left
         ·simp only [Act.put,List.setIfInBounds_toArray,List.set_cons_zero,List.set_cons_succ,i64_w,i32_w]
          rfl
         refine take_ (i := 12) (N := some 50) (v := ?_) (a' := ?_) #[true,true,true,true,true,true,true,true,false,true,true,true,true,true,false,true,false,false,false,false,false] rfl rfl (take_ofW HT_.out HW_.out (by kernel_rfl)) (fun _ _ _ h => h) (Or.inl ⟨by rfl,?_⟩) hHeld ?_ ?_
         rotate_left
         ·rintro w' ⟨s0,s1,s2,s3,s4,s5,s6⟩
          go_simp
          with_reducible rfl
         rotate_left
         ·simp only [Act.put,List.setIfInBounds_toArray,List.set_cons_zero,List.set_cons_succ,i64_w,i32_w]
          rfl
         refine take_ (i := 14) (N := some 52) (v := ?_) (a' := ?_) #[true,true,true,true,true,true,true,true,false,true,true,true,true,true,true,true,false,false,false,false,false] rfl rfl (take_ofW HT_.out HW_.out (by kernel_rfl)) (fun _ _ _ h => h) (Or.inl ⟨by rfl,?_⟩) hHeld ?_ ?_
         rotate_left
         ·rintro w' ⟨s0,s1,s2,s3,s4,s5,s6⟩
          go_simp
          with_reducible rfl
         rotate_left
         ·simp only [Act.put,List.setIfInBounds_toArray,List.set_cons_zero,List.set_cons_succ,i64_w,i32_w]
          rfl
         refine pure_ (i := 16) (N := some 54) (v := ?_) (a' := ?_) #[true,true,true,true,true,true,true,true,false,true,true,true,true,true,true,true,true,false,false,false,false] rfl rfl (any_of HT_.out (by kernel_rfl)) (fun _ _ _ h => h) (Or.inl ⟨by rfl,?_⟩) ?_ ?_
         rotate_left
         ·intro w'
          go_simp
          with_reducible rfl
         rotate_left
         ·simp only [Act.put,List.setIfInBounds_toArray,List.set_cons_zero,List.set_cons_succ,i64_w,i32_w]
          rfl
         refine take_ (i := 17) (N := some 55) (v := ?_) (a' := ?_) #[true,true,true,true,true,true,true,true,false,true,true,true,true,true,true,true,true,true,false,false,false] rfl rfl (take_ofW HT_.out HW_.out (by kernel_rfl)) (fun _ _ _ h => h) (Or.inl ⟨by rfl,?_⟩) hHeld ?_ ?_
         rotate_left
         ·rintro w' ⟨s0,s1,s2,s3,s4,s5,s6⟩
          go_simp
          with_reducible rfl
         rotate_left
         ·simp only [Act.put,List.setIfInBounds_toArray,List.set_cons_zero,List.set_cons_succ,i64_w,i32_w]
          rfl
         refine one_ (i := 8) (N := some 46) #[true,true,true,true,true,true,true,true,true,true,true,true,true,true,true,true,true,true,false,false,false] rfl rfl (one_of HT_.out (by kernel_rfl)) (by decide) (fun K hK => ?_)
         refine goes_ Try.func23 (by kernel_rfl) rfl #[.int .u64 a0_0,.slice A1 l1.length c1,.int .u64 (rd l0_2 x5_2)] (by rfl) rfl rfl (by (try simp only [List.map_toArray,List.map_cons,List.map_nil]);first|done|rfl|(simp only [List.length_drop,List.length_take];rfl)) ?_
         with_reducible refine (bivariate_Row.calls k2 a0_0 _ _ l1 (rd l0_2 x5_2) t477 _ ?side1 ?side2 A32.out).mono ?_
         (case side1 => repeat (first|exact (Kd.C_below HR1.out HB.out)|(with_reducible refine Kd.C_alloc ?_ _)|(with_reducible refine Kd.C_drewN ?_ _)|(with_reducible refine Kd.C_drew ?_)))
         (case side2 => exact HC1.out)
         rintro e w45 ⟨v478,rfl,ho0,hb⟩
         refine ⟨_,rfl,?_⟩
         have n0_ := Aside0.mk (Kd.R_lower ho0 (below_size (by repeat (first|(with_reducible first|exact HB.out|apply below_alloc|apply pw_below_drewN|apply below_drew1|refine below_set ?_ GE471.out)|exact HB.out))))
         have n1_ := Aside0.mk (blk_below (g := gb471) (o := .cells #[.int .u64 a0_0,.slice A0_1 l0_1.length c0_1,.slice (some ad476) l0_2.length c0_2,.int .u64 a0_3,.int .u64 a0_4] 39 (0,0)) (by (with_reducible repeat (first|refine blk_drewN ?_ _|refine blk_drew ?_|refine blk_alloc ?_ _));exact BK471.out) hb)
         have n2_ := Aside0.mk (below_step (by repeat (first|(with_reducible first|exact HB.out|apply below_alloc|apply pw_below_drewN|apply below_drew1|refine below_set ?_ GE471.out)|exact HB.out)) hb)
         clear BK471
         clear HB
         have HO479 := n0_
         have BK471 := n1_
         have HB := n2_
         clear n0_ n1_ n2_
         (try clear hb)
         (try clear hb2)
         (try clear hk)
         (try clear hi)
         (try clear ho0)
         refine hK.out _ _ ⟨(blk_cell BK471.out 0).trans rfl,(blk_cell BK471.out 1).trans rfl,(blk_cell BK471.out 2).trans rfl,(blk_cell BK471.out 3).trans rfl,(blk_cell BK471.out 4).trans rfl,((HB.out.cell (World.block_lt_of_cell? w _ hw476_0)).trans hw476_0),((HB.out.cell (World.block_lt_of_cell? w _ hw480_0)).trans hw480_0)⟩ (fun hHeld => ?_)
         clear hK K
         refine norm_ (a' := ?_) ?_ ?_
         rotate_left
         ·show Act.put _ (some 46) _ = _
          simp only [Act.put,List.setIfInBounds_toArray,List.set_cons_zero,List.set_cons_succ,i64_w,i32_w]
          rfl
         refine one_ (i := 18) (N := some 56) #[true,true,true,true,true,true,true,true,true,true,true,true,true,true,true,true,true,true,true,false,false] rfl rfl (one_of HT_.out (by kernel_rfl)) (by decide) (fun K hK => ?_)
         refine goes_ Try.func23 (by kernel_rfl) rfl #[.int .u64 a0_0,.slice A0_1 l0_1.length c0_1,.int .u64 (rd l0_2 x5_2)] (by rfl) rfl rfl (by (try simp only [List.map_toArray,List.map_cons,List.map_nil]);first|done|rfl|(simp only [List.length_drop,List.length_take];rfl)) ?_
         with_reducible refine (bivariate_Row.calls k2 a0_0 _ _ l0_1 (rd l0_2 x5_2) t481 _ ?side1 ?side2 A33.out).mono ?_
         (case side1 => repeat (first|exact (Kd.C_below HR0_1.out HB.out)|(with_reducible refine Kd.C_alloc ?_ _)|(with_reducible refine Kd.C_drewN ?_ _)|(with_reducible refine Kd.C_drew ?_)))
         (case side2 => exact HC0_1.out)
         rintro e w46 ⟨v482,rfl,ho0,hb⟩
         refine ⟨_,rfl,?_⟩
         have n0_ := Aside0.mk (Kd.R_elder' (by (with_reducible repeat (first|apply Kd.R_alloc|apply Kd.R_drewN|apply Kd.R_drew));exact HO479.out) (Kd.R_base ho0) hb)
         have n1_ := Aside0.mk (Kd.R_lower (Kd.R_new' ho0 (Kd.R_lt (by (with_reducible repeat (first|apply Kd.R_alloc|apply Kd.R_drewN|apply Kd.R_drew));exact HO479.out))) (below_size (by repeat (first|(with_reducible first|exact HB.out|apply below_alloc|apply pw_below_drewN|apply below_drew1|refine below_set ?_ GE471.out)|exact HB.out))))
         have n2_ := Aside0.mk (blk_below (g := gb471) (o := .cells #[.int .u64 a0_0,.slice A0_1 l0_1.length c0_1,.slice (some ad476) l0_2.length c0_2,.int .u64 a0_3,.int .u64 a0_4] 39 (0,0)) (by (with_reducible repeat (first|refine blk_drewN ?_ _|refine blk_drew ?_|refine blk_alloc ?_ _));exact BK471.out) hb)
         have n3_ := Aside0.mk (below_step (by repeat (first|(with_reducible first|exact HB.out|apply below_alloc|apply pw_below_drewN|apply below_drew1|refine below_set ?_ GE471.out)|exact HB.out)) hb)
         clear HO479
         clear BK471
         clear HB
         have HO479 := n0_
         have HO483 := n1_
         have BK471 := n2_
         have HB := n3_
         clear n0_ n1_ n2_ n3_
         (try clear hb)
         (try clear hb2)
         (try clear hk)
         (try clear hi)
         (try clear ho0)
         obtain ⟨Ao47,co47,eo47⟩ := Kd.R_slice HO479.out
         (first|subst eo47|(injection eo47 with f1_ f2_ f3_;have f4_ := f1_.symm;have f5_ := f3_.symm;clear f1_ f2_ f3_;subst f4_;subst f5_))
         obtain ⟨Ao48,co48,eo48⟩ := Kd.R_slice HO483.out
         (first|subst eo48|(injection eo48 with f1_ f2_ f3_;have f4_ := f1_.symm;have f5_ := f3_.symm;clear f1_ f2_ f3_;subst f4_;subst f5_))
         refine hK.out _ _ ⟨(blk_cell BK471.out 0).trans rfl,(blk_cell BK471.out 1).trans rfl,(blk_cell BK471.out 2).trans rfl,(blk_cell BK471.out 3).trans rfl,(blk_cell BK471.out 4).trans rfl,((HB.out.cell (World.block_lt_of_cell? w _ hw476_0)).trans hw476_0),((HB.out.cell (World.block_lt_of_cell? w _ hw480_0)).trans hw480_0)⟩ (fun hHeld => ?_)
         clear hK K
         refine norm_ (a' := ?_) ?_ ?_
         rotate_left
         ·show Act.put _ (some 56) _ = _
          simp only [Act.put,List.setIfInBounds_toArray,List.set_cons_zero,List.set_cons_succ,i64_w,i32_w]
          rfl
         refine one_ (i := 19) (N := some 57) #[true,true,true,true,true,true,true,true,true,true,true,true,true,true,true,true,true,true,true,true,false] rfl rfl (one_of HT_.out (by kernel_rfl)) (by decide) (fun K hK => ?_)
         refine goes_ Try.func22 (by kernel_rfl) rfl #[.slice Ao47 t477.length co47,.slice Ao48 t481.length co48] (by rfl) rfl rfl (by (try simp only [List.map_toArray,List.map_cons,List.map_nil]);first|done|rfl|(simp only [List.length_drop,List.length_take];rfl)) ?_
         with_reducible refine (privityref06_SameList.calls k2 _ _ t477 _ _ t481 false _ ?side1 ?side2 ?side3 ?side4 A34.out).mono ?_
         (case side1 => repeat (first|exact (Kd.R_reads' HO479.out).2.2|(with_reducible refine Kd.C_alloc ?_ _)|(with_reducible refine Kd.C_drewN ?_ _)|(with_reducible refine Kd.C_drew ?_)))
         (case side2 => exact (Kd.R_reads' HO479.out).2.1)
         (case side3 => repeat (first|exact (Kd.R_reads' HO483.out).2.2|(with_reducible refine Kd.C_alloc ?_ _)|(with_reducible refine Kd.C_drewN ?_ _)|(with_reducible refine Kd.C_drew ?_)))
         (case side4 => exact (Kd.R_reads' HO483.out).2.1)
         rintro e w' ⟨rfl,⟨nd,rfl⟩⟩
         refine ⟨_,rfl,?_⟩
         refine hK.out _ _ ⟨(blk_cell BK471.out 0).trans rfl,(blk_cell BK471.out 1).trans rfl,(blk_cell BK471.out 2).trans rfl,(blk_cell BK471.out 3).trans rfl,(blk_cell BK471.out 4).trans rfl,((HB.out.cell (World.block_lt_of_cell? w _ hw476_0)).trans hw476_0),((HB.out.cell (World.block_lt_of_cell? w _ hw480_0)).trans hw480_0)⟩ (fun hHeld => ?_)
         clear hK K
         refine norm_ (a' := ?_) ?_ ?_
         rotate_left
         ·show Act.put _ (some 57) _ = _
          simp only [Act.put,List.setIfInBounds_toArray,List.set_cons_zero,List.set_cons_succ,i64_w,i32_w]
          rfl
         refine pure_ (i := 20) (N := some 58) (v := ?_) (a' := ?_) #[true,true,true,true,true,true,true,true,true,true,true,true,true,true,true,true,true,true,true,true,true] rfl rfl (any_of HT_.out (by kernel_rfl)) (fun _ _ _ h => h) (Or.inl ⟨by rfl,?_⟩) ?_ ?_
         rotate_left
         ·intro w'
          go_simp
          with_reducible rfl
         rotate_left
         ·simp only [Act.put,List.setIfInBounds_toArray,List.set_cons_zero,List.set_cons_succ,i64_w,i32_w]
          rfl
         refine done_ (done_of HT_.out (by kernel_rfl)) ?_
         try go_wp2_with (first|((with_reducible refine gate_callee (f := 13) rfl ?_);refine goesL_ (some 59) rfl rfl Try.func13 (by kernel_rfl) rfl #[] rfl (by (try simp only [List.map_toArray,List.map_cons,List.map_nil]);first|done|rfl|(simp only [List.length_drop,List.length_take];rfl)) ?_;(with_reducible refine (privitylaw10_awake.calls k2  t485 _ A42.out).mono ?_);rintro e w49 ⟨rfl,hb⟩;refine ⟨_,rfl,?_⟩;have n0_ := Aside0.mk (Kd.R_below (by (with_reducible repeat (first|apply Kd.R_alloc|apply Kd.R_drewN|apply Kd.R_drew));exact HO479.out) hb);have n1_ := Aside0.mk (Kd.R_below (by (with_reducible repeat (first|apply Kd.R_alloc|apply Kd.R_drewN|apply Kd.R_drew));exact HO483.out) hb);have n2_ := Aside0.mk (blk_below (g := gb471) (o := .cells #[.int .u64 a0_0,.slice A0_1 l0_1.length c0_1,.slice (some ad476) l0_2.length c0_2,.int .u64 a0_3,.int .u64 a0_4] 39 (0,0)) (by (with_reducible repeat (first|refine blk_drewN ?_ _|refine blk_drew ?_|refine blk_alloc ?_ _));exact BK471.out) hb);have n3_ := Aside0.mk (below_step (by repeat (first|(with_reducible first|exact HB.out|apply below_alloc|apply pw_below_drewN|apply below_drew1|refine below_set ?_ GE471.out)|exact HB.out)) hb);clear HO479;clear HO483;clear BK471;clear HB;have HO479 := n0_;have HO483 := n1_;have BK471 := n2_;have HB := n3_;clear n0_ n1_ n2_ n3_;(try clear hb);(try clear hb2);(try clear hk);(try clear hi)))
         go_ret
         exact ⟨by first|rfl|(simp [errW_none,errW_some] <;> rfl)|(simp [*,errW_none,errW_some] <;> rfl),by repeat (first|(with_reducible first|exact HB.out|apply below_alloc|apply pw_below_drewN|apply below_drew1|refine below_set ?_ GE471.out)|exact HB.out)⟩
       ·rw [if_neg c31] at H
        exact absurd H (by simp)
      ·rw [if_neg c30] at H
       have c30b0 : decide (x5_2 < (l0_2.length : Int)) = false := decide_eq_false c30
       clear c30
       replace H := Option.bind_eq_some_iff.mp H
       obtain ⟨t486,A500,H⟩ := H
       replace H : ((bivariate_Eval.f k2 a0_0 l0_1 0 0).bind fun t487 => ((field_Sub.f k2 a0_0 t486 t487).bind fun t488 => ((privitylaw10_awake.f k2).bind fun t489 => (if t489 = true then ((privityref10_Vanish.f k2 a0_0 l0_2).bind fun t490 => ((bivariate_Translate.f k2 a0_0 l0_1 t488 t490).bind fun t493 => ((privityref06_Same.f k2 t493 l1).bind fun t496 => (some t496)))) else (some false))))) = some r := H
       have A50 := Aside0.mk A500
       clear A500
       replace H := Option.bind_eq_some_iff.mp H
       obtain ⟨t487,A510,H⟩ := H
       replace H : ((field_Sub.f k2 a0_0 t486 t487).bind fun t488 => ((privitylaw10_awake.f k2).bind fun t489 => (if t489 = true then ((privityref10_Vanish.f k2 a0_0 l0_2).bind fun t490 => ((bivariate_Translate.f k2 a0_0 l0_1 t488 t490).bind fun t493 => ((privityref06_Same.f k2 t493 l1).bind fun t496 => (some t496)))) else (some false)))) = some r := H
       have A51 := Aside0.mk A510
       clear A510
       replace H := Option.bind_eq_some_iff.mp H
       obtain ⟨t488,A520,H⟩ := H
       replace H : ((privitylaw10_awake.f k2).bind fun t489 => (if t489 = true then ((privityref10_Vanish.f k2 a0_0 l0_2).bind fun t490 => ((bivariate_Translate.f k2 a0_0 l0_1 t488 t490).bind fun t493 => ((privityref06_Same.f k2 t493 l1).bind fun t496 => (some t496)))) else (some false))) = some r := H
       have A52 := Aside0.mk A520
       clear A520
       replace H := Option.bind_eq_some_iff.mp H
       obtain ⟨t489,A530,H⟩ := H
       replace H : (if t489 = true then ((privityref10_Vanish.f k2 a0_0 l0_2).bind fun t490 => ((bivariate_Translate.f k2 a0_0 l0_1 t488 t490).bind fun t493 => ((privityref06_Same.f k2 t493 l1).bind fun t496 => (some t496)))) else (some false)) = some r := H
       have A53 := Aside0.mk A530
       clear A530
       by_cases c54 : t489 = true
       ·subst c54
        have H1 : ((privityref10_Vanish.f k2 a0_0 l0_2).bind fun t490 => ((bivariate_Translate.f k2 a0_0 l0_1 t488 t490).bind fun t493 => ((privityref06_Same.f k2 t493 l1).bind fun t496 => (some t496)))) = some r := by rw [if_pos rfl] at H;exact H
        clear H
        have H := H1
        clear H1
        replace H := Option.bind_eq_some_iff.mp H
        obtain ⟨t490,A550,H⟩ := H
        replace H : ((bivariate_Translate.f k2 a0_0 l0_1 t488 t490).bind fun t493 => ((privityref06_Same.f k2 t493 l1).bind fun t496 => (some t496))) = some r := H
        have A55 := Aside0.mk A550
        clear A550
        replace H := Option.bind_eq_some_iff.mp H
        obtain ⟨t493,A560,H⟩ := H
        replace H : ((privityref06_Same.f k2 t493 l1).bind fun t496 => (some t496)) = some r := H
        have A56 := Aside0.mk A560
        clear A560
        replace H := Option.bind_eq_some_iff.mp H
        obtain ⟨t496,A570,H⟩ := H
        replace H : (some t496) = some r := H
        have A57 := Aside0.mk A570
        clear A570
        obtain rfl := Option.some.inj H
        have hcz58_0 : wr.cell? ⟨gb471,0,none⟩ = some (.int .u64 a0_0) := (blk_cell BK471.out 0).trans rfl
        have hcz58_1 : wr.cell? ⟨gb471,1,none⟩ = some (.slice A0_1 l0_1.length c0_1) := (blk_cell BK471.out 1).trans rfl
        have hcz58_2 : wr.cell? ⟨gb471,2,none⟩ = some (.slice A0_2 l0_2.length c0_2) := (blk_cell BK471.out 2).trans rfl
        have hcz58_3 : wr.cell? ⟨gb471,3,none⟩ = some (.int .u64 a0_3) := (blk_cell BK471.out 3).trans rfl
        have hcz58_4 : wr.cell? ⟨gb471,4,none⟩ = some (.int .u64 a0_4) := (blk_cell BK471.out 4).trans rfl
        have hfz58_0 := blk_frozen BK471.out 0
        have hfz58_1 := blk_frozen BK471.out 1
        have hfz58_2 := blk_frozen BK471.out 2
        have hfz58_3 := blk_frozen BK471.out 3
        have hfz58_4 := blk_frozen BK471.out 4
        try go_wp2
        have n0_ := Aside0.mk (blk_drew BK471.out)
        have n1_ := Aside0.mk (below_drew1 HB.out)
        clear BK471
        clear HB
        have BK471 := n0_
        have HB := n1_
        clear n0_ n1_
        refine start_ (n := 13) (S := fun w' => w'.cell? ⟨gb471,0,none⟩ = some (.int .u64 a0_0) ∧ w'.cell? ⟨gb471,1,none⟩ = some (.slice A0_1 l0_1.length c0_1) ∧ w'.cell? ⟨gb471,2,none⟩ = some (.slice A0_2 l0_2.length c0_2) ∧ w'.cell? ⟨gb471,3,none⟩ = some (.int .u64 a0_3) ∧ w'.cell? ⟨gb471,4,none⟩ = some (.int .u64 a0_4)) (ds := []) #[false,false,false,false,false,false,false,false,false,false,false,false,false] (by kernel_rfl) rfl rfl ⟨(blk_cell BK471.out 0).trans rfl,(blk_cell BK471.out 1).trans rfl,(blk_cell BK471.out 2).trans rfl,(blk_cell BK471.out 3).trans rfl,(blk_cell BK471.out 4).trans rfl⟩ (fun hHeld => ?_);refine with_tabW privitylaw10_BivariateUniqueTranslation.tab8 privitylaw10_BivariateUniqueTranslation.bits8 (fun HT_ HW_ => ?_)
        generalize wr.drew = w59 at BK471 HB hHeld ⊢
        refine pure_ (i := 0) (N := some 60) (v := ?_) (a' := ?_) #[true,false,false,false,false,false,false,false,false,false,false,false,false] rfl rfl (any_of HT_.out (by kernel_rfl)) (fun _ _ _ h => h) (Or.inl ⟨by rfl,?_⟩) ?_ ?_
        rotate_left
        ·intro w'
         go_simp
         with_reducible rfl
        rotate_left
        ·simp only [Act.put,List.setIfInBounds_toArray,List.set_cons_zero,List.set_cons_succ,i64_w,i32_w]
         rfl
        refine pure_ (i := 2) (N := some 62) (v := ?_) (a' := ?_) #[true,false,true,false,false,false,false,false,false,false,false,false,false] rfl rfl (any_of HT_.out (by kernel_rfl)) (fun _ _ _ h => h) (Or.inl ⟨by rfl,?_⟩) ?_ ?_
        rotate_left
        ·intro w'
         go_simp
         with_reducible rfl
        rotate_left
        ·simp only [Act.put,List.setIfInBounds_toArray,List.set_cons_zero,List.set_cons_succ,i64_w,i32_w]
         rfl
        refine pure_ (i := 4) (N := some 64) (v := ?_) (a' := ?_) #[true,false,true,false,true,false,false,false,false,false,false,false,false] rfl rfl (any_of HT_.out (by kernel_rfl)) (fun _ _ _ h => h) (Or.inl ⟨by rfl,?_⟩) ?_ ?_
        rotate_left
        ·intro w'
         go_simp
         with_reducible rfl
        rotate_left
        ·simp only [Act.put,List.setIfInBounds_toArray,List.set_cons_zero,List.set_cons_succ,i64_w,i32_w]
         rfl
        refine pure_ (i := 6) (N := some 66) (v := ?_) (a' := ?_) #[true,false,true,false,true,false,true,false,false,false,false,false,false] rfl rfl (any_of HT_.out (by kernel_rfl)) (fun _ _ _ h => h) (Or.inl ⟨by rfl,?_⟩) ?_ ?_
        rotate_left
        ·intro w'
         go_simp
         with_reducible rfl
        rotate_left
        ·simp only [Act.put,List.setIfInBounds_toArray,List.set_cons_zero,List.set_cons_succ,i64_w,i32_w]
         rfl
        refine pure_ (i := 8) (N := some 68) (v := ?_) (a' := ?_) #[true,false,true,false,true,false,true,false,true,false,false,false,false] rfl rfl (any_of HT_.out (by kernel_rfl)) (fun _ _ _ h => h) (Or.inl ⟨by rfl,?_⟩) ?_ ?_
        rotate_left
        ·intro w'
         go_simp
         with_reducible rfl
        rotate_left
        ·simp only [Act.put,List.setIfInBounds_toArray,List.set_cons_zero,List.set_cons_succ,i64_w,i32_w]
         rfl
        refine take_ (i := 1) (N := some 61) (v := ?_) (a' := ?_) #[true,true,true,false,true,false,true,false,true,false,false,false,false] rfl rfl (take_ofW HT_.out HW_.out (by kernel_rfl)) (fun _ _ _ h => h) (Or.inl ⟨by rfl,?_⟩) hHeld ?_ ?_
        rotate_left
        ·rintro w' ⟨s0,s1,s2,s3,s4⟩
         go_simp
         with_reducible rfl
        rotate_left
        ·simp only [Act.put,List.setIfInBounds_toArray,List.set_cons_zero,List.set_cons_succ,i64_w,i32_w]
         rfl
        refine take_ (i := 3) (N := some 63) (v := ?_) (a' := ?_) #[true,true,true,true,true,false,true,false,true,false,false,false,false] rfl rfl (take_ofW HT_.out HW_.out (by kernel_rfl)) (fun _ _ _ h => h) (Or.inl ⟨by rfl,?_⟩) hHeld ?_ ?_
        rotate_left
        ·rintro w' ⟨s0,s1,s2,s3,s4⟩
         go_simp
         with_reducible rfl
        rotate_left
        ·simp only [Act.put,List.setIfInBounds_toArray,List.set_cons_zero,List.set_cons_succ,i64_w,i32_w]
         rfl
        refine take_ (i := 7) (N := some 67) (v := ?_) (a' := ?_) #[true,true,true,true,true,false,true,true,true,false,false,false,false] rfl rfl (take_ofW HT_.out HW_.out (by kernel_rfl)) (fun _ _ _ h => h) (Or.inl ⟨by rfl,?_⟩) hHeld ?_ ?_
        rotate_left
        ·rintro w' ⟨s0,s1,s2,s3,s4⟩
         go_simp
         with_reducible rfl
        rotate_left
        ·simp only [Act.put,List.setIfInBounds_toArray,List.set_cons_zero,List.set_cons_succ,i64_w,i32_w]
         rfl
        refine take_ (i := 9) (N := some 69) (v := ?_) (a' := ?_) #[true,true,true,true,true,false,true,true,true,true,false,false,false] rfl rfl (take_ofW HT_.out HW_.out (by kernel_rfl)) (fun _ _ _ h => h) (Or.inl ⟨by rfl,?_⟩) hHeld ?_ ?_
        rotate_left
        ·rintro w' ⟨s0,s1,s2,s3,s4⟩
         go_simp
         with_reducible rfl
        rotate_left
        ·simp only [Act.put,List.setIfInBounds_toArray,List.set_cons_zero,List.set_cons_succ,i64_w,i32_w]
         rfl
        refine one_ (i := 5) (N := some 65) #[true,true,true,true,true,true,true,true,true,true,false,false,false] rfl rfl (one_of HT_.out (by kernel_rfl)) (by decide) (fun K hK => ?_)
        refine goes_ Try.func29 (by kernel_rfl) rfl #[.int .u64 a0_0,.slice A1 l1.length c1,.int .u64 0,.int .u64 0] (by rfl) rfl rfl (by (try simp only [List.map_toArray,List.map_cons,List.map_nil]);first|done|rfl|(simp only [List.length_drop,List.length_take];rfl)) ?_
        with_reducible refine (bivariate_Eval.calls k2 a0_0 _ _ l1 0 0 t486 _ ?side1 ?side2 A50.out).mono ?_
        (case side1 => repeat (first|exact (Kd.C_below HR1.out HB.out)|(with_reducible refine Kd.C_alloc ?_ _)|(with_reducible refine Kd.C_drewN ?_ _)|(with_reducible refine Kd.C_drew ?_)))
        (case side2 => exact HC1.out)
        rintro e w60 ⟨rfl,hb⟩
        refine ⟨_,rfl,?_⟩
        have n0_ := Aside0.mk (blk_below (g := gb471) (o := .cells #[.int .u64 a0_0,.slice A0_1 l0_1.length c0_1,.slice A0_2 l0_2.length c0_2,.int .u64 a0_3,.int .u64 a0_4] 39 (0,0)) (by (with_reducible repeat (first|refine blk_drewN ?_ _|refine blk_drew ?_|refine blk_alloc ?_ _));exact BK471.out) hb)
        have n1_ := Aside0.mk (below_step (by repeat (first|(with_reducible first|exact HB.out|apply below_alloc|apply pw_below_drewN|apply below_drew1|refine below_set ?_ GE471.out)|exact HB.out)) hb)
        clear BK471
        clear HB
        have BK471 := n0_
        have HB := n1_
        clear n0_ n1_
        (try clear hb)
        (try clear hb2)
        (try clear hk)
        (try clear hi)
        refine hK.out _ _ ⟨(blk_cell BK471.out 0).trans rfl,(blk_cell BK471.out 1).trans rfl,(blk_cell BK471.out 2).trans rfl,(blk_cell BK471.out 3).trans rfl,(blk_cell BK471.out 4).trans rfl⟩ (fun hHeld => ?_)
        clear hK K
        refine norm_ (a' := ?_) ?_ ?_
        rotate_left
        ·show Act.put _ (some 65) _ = _
         simp only [Act.put,List.setIfInBounds_toArray,List.set_cons_zero,List.set_cons_succ,i64_w,i32_w]
         rfl
        refine one_ (i := 10) (N := some 70) #[true,true,true,true,true,true,true,true,true,true,true,false,false] rfl rfl (one_of HT_.out (by kernel_rfl)) (by decide) (fun K hK => ?_)
        refine goes_ Try.func29 (by kernel_rfl) rfl #[.int .u64 a0_0,.slice A0_1 l0_1.length c0_1,.int .u64 0,.int .u64 0] (by rfl) rfl rfl (by (try simp only [List.map_toArray,List.map_cons,List.map_nil]);first|done|rfl|(simp only [List.length_drop,List.length_take];rfl)) ?_
        with_reducible refine (bivariate_Eval.calls k2 a0_0 _ _ l0_1 0 0 t487 _ ?side1 ?side2 A51.out).mono ?_
        (case side1 => repeat (first|exact (Kd.C_below HR0_1.out HB.out)|(with_reducible refine Kd.C_alloc ?_ _)|(with_reducible refine Kd.C_drewN ?_ _)|(with_reducible refine Kd.C_drew ?_)))
        (case side2 => exact HC0_1.out)
        rintro e w61 ⟨rfl,hb⟩
        refine ⟨_,rfl,?_⟩
        have n0_ := Aside0.mk (blk_below (g := gb471) (o := .cells #[.int .u64 a0_0,.slice A0_1 l0_1.length c0_1,.slice A0_2 l0_2.length c0_2,.int .u64 a0_3,.int .u64 a0_4] 39 (0,0)) (by (with_reducible repeat (first|refine blk_drewN ?_ _|refine blk_drew ?_|refine blk_alloc ?_ _));exact BK471.out) hb)
        have n1_ := Aside0.mk (below_step (by repeat (first|(with_reducible first|exact HB.out|apply below_alloc|apply pw_below_drewN|apply below_drew1|refine below_set ?_ GE471.out)|exact HB.out)) hb)
        clear BK471
        clear HB
        have BK471 := n0_
        have HB := n1_
        clear n0_ n1_
        (try clear hb)
        (try clear hb2)
        (try clear hk)
        (try clear hi)
        refine hK.out _ _ ⟨(blk_cell BK471.out 0).trans rfl,(blk_cell BK471.out 1).trans rfl,(blk_cell BK471.out 2).trans rfl,(blk_cell BK471.out 3).trans rfl,(blk_cell BK471.out 4).trans rfl⟩ (fun hHeld => ?_)
        clear hK K
        refine norm_ (a' := ?_) ?_ ?_
        rotate_left
        ·show Act.put _ (some 70) _ = _
         simp only [Act.put,List.setIfInBounds_toArray,List.set_cons_zero,List.set_cons_succ,i64_w,i32_w]
         rfl
        refine one_ (i := 11) (N := some 71) #[true,true,true,true,true,true,true,true,true,true,true,true,false] rfl rfl (one_of HT_.out (by kernel_rfl)) (by decide) (fun K hK => ?_)
        refine goes_ Try.func32 (by kernel_rfl) rfl #[.int .u64 a0_0,.int .u64 t486,.int .u64 t487] (by rfl) rfl rfl (by (try simp only [List.map_toArray,List.map_cons,List.map_nil]);first|done|rfl|(simp only [List.length_drop,List.length_take];rfl)) ?_
        with_reducible refine (field_Sub.calls k2 a0_0 t486 t487 t488 _ A52.out).mono ?_
        rintro e w' ⟨rfl,⟨nd,rfl⟩⟩
        refine ⟨_,rfl,?_⟩
        refine hK.out _ _ ⟨(blk_cell BK471.out 0).trans rfl,(blk_cell BK471.out 1).trans rfl,(blk_cell BK471.out 2).trans rfl,(blk_cell BK471.out 3).trans rfl,(blk_cell BK471.out 4).trans rfl⟩ (fun hHeld => ?_)
        clear hK K
        refine norm_ (a' := ?_) ?_ ?_
        rotate_left
        ·show Act.put _ (some 71) _ = _
         simp only [Act.put,List.setIfInBounds_toArray,List.set_cons_zero,List.set_cons_succ,i64_w,i32_w]
         rfl
        refine pure_ (i := 12) (N := some 6) (v := ?_) (a' := ?_) #[true,true,true,true,true,true,true,true,true,true,true,true,true] rfl rfl (any_of HT_.out (by kernel_rfl)) (fun _ _ _ h => h) (Or.inl ⟨by rfl,?_⟩) ?_ ?_
        rotate_left
        ·intro w'
         go_simp
         with_reducible rfl
        rotate_left
        ·simp only [Act.put,List.setIfInBounds_toArray,List.set_cons_zero,List.set_cons_succ,i64_w,i32_w]
         rfl
        refine done_ (done_of HT_.out (by kernel_rfl)) ?_
        try go_wp2
        (try (rw [drewN_self w61];generalize hq_ : World.drewN w61 _ = w61;have n0_ : Aside0 (w61.heap[gb471]? = some (.cells #[.int .u64 a0_0,.slice A0_1 l0_1.length c0_1,.slice A0_2 l0_2.length c0_2,.int .u64 a0_3,.int .u64 a0_4] 39 (0,0))) := ⟨by rw [← hq_];exact (by (with_reducible repeat (first|refine blk_drewN ?_ _|refine blk_drew ?_|refine blk_alloc ?_ _));exact BK471.out)⟩;have n1_ : Aside0 (Below w.heap.size w w61) := ⟨by rw [← hq_];exact (by repeat (first|(with_reducible first|exact HB.out|apply below_alloc|apply pw_below_drewN|apply below_drew1|refine below_set ?_ GE471.out)|exact HB.out))⟩;clear BK471 HB hq_;have BK471 := n0_;have HB := n1_;clear n0_ n1_))
        have n0_ := Aside0.mk (blk_drew BK471.out)
        have n1_ := Aside0.mk (below_drew1 HB.out)
        clear BK471
        clear HB
        have BK471 := n0_
        have HB := n1_
        clear n0_ n1_
        refine start_ (n := 17) (S := fun w' => w'.cell? ⟨gb471,0,none⟩ = some (.int .u64 a0_0) ∧ w'.cell? ⟨gb471,1,none⟩ = some (.slice A0_1 l0_1.length c0_1) ∧ w'.cell? ⟨gb471,2,none⟩ = some (.slice A0_2 l0_2.length c0_2) ∧ w'.cell? ⟨gb471,3,none⟩ = some (.int .u64 a0_3) ∧ w'.cell? ⟨gb471,4,none⟩ = some (.int .u64 a0_4)) (ds := []) #[false,false,false,false,false,false,false,false,false,false,false,false,false,false,false,false,false] (by kernel_rfl) rfl rfl ⟨(blk_cell BK471.out 0).trans rfl,(blk_cell BK471.out 1).trans rfl,(blk_cell BK471.out 2).trans rfl,(blk_cell BK471.out 3).trans rfl,(blk_cell BK471.out 4).trans rfl⟩ (fun hHeld => ?_);refine with_tabW privitylaw10_BivariateUniqueTranslation.tab9 privitylaw10_BivariateUniqueTranslation.bits9 (fun HT_ HW_ => ?_)
        generalize w61.drew = w62 at BK471 HB hHeld ⊢
        refine one_ (i := 0) (N := some 72) #[true,false,false,false,false,false,false,false,false,false,false,false,false,false,false,false,false] rfl rfl (one_of HT_.out (by kernel_rfl)) (by decide) (fun K hK => ?_)
        refine goes_ Try.func13 (by kernel_rfl) rfl #[] (by rfl) rfl rfl (by (try simp only [List.map_toArray,List.map_cons,List.map_nil]);first|done|rfl|(simp only [List.length_drop,List.length_take];rfl)) ?_
        with_reducible refine (privitylaw10_awake.calls k2  true _ A53.out).mono ?_
        rintro e w63 ⟨rfl,hb⟩
        refine ⟨_,rfl,?_⟩
        have n0_ := Aside0.mk (blk_below (g := gb471) (o := .cells #[.int .u64 a0_0,.slice A0_1 l0_1.length c0_1,.slice A0_2 l0_2.length c0_2,.int .u64 a0_3,.int .u64 a0_4] 39 (0,0)) (by (with_reducible repeat (first|refine blk_drewN ?_ _|refine blk_drew ?_|refine blk_alloc ?_ _));exact BK471.out) hb)
        have n1_ := Aside0.mk (below_step (by repeat (first|(with_reducible first|exact HB.out|apply below_alloc|apply pw_below_drewN|apply below_drew1|refine below_set ?_ GE471.out)|exact HB.out)) hb)
        clear BK471
        clear HB
        have BK471 := n0_
        have HB := n1_
        clear n0_ n1_
        (try clear hb)
        (try clear hb2)
        (try clear hk)
        (try clear hi)
        refine hK.out _ _ ⟨(blk_cell BK471.out 0).trans rfl,(blk_cell BK471.out 1).trans rfl,(blk_cell BK471.out 2).trans rfl,(blk_cell BK471.out 3).trans rfl,(blk_cell BK471.out 4).trans rfl⟩ (fun hHeld => ?_)
        clear hK K
        refine norm_ (a' := ?_) ?_ ?_
        rotate_left
        ·show Act.put _ (some 72) _ = _
         simp only [Act.put,List.setIfInBounds_toArray,List.set_cons_zero,List.set_cons_succ,i64_w,i32_w]
         rfl
        refine pure_ (i := 1) (N := some 73) (v := ?_) (a' := ?_) #[true,true,false,false,false,false,false,false,false,false,false,false,false,false,false,false,false] rfl rfl (any_of HT_.out (by kernel_rfl)) (fun _ _ _ h => h) (Or.inl ⟨by rfl,?_⟩) ?_ ?_
        rotate_left
        ·intro w'
         go_simp
         with_reducible rfl
        rotate_left
        ·simp only [Act.put,List.setIfInBounds_toArray,List.set_cons_zero,List.set_cons_succ,i64_w,i32_w]
         rfl
        refine pure_ (i := 2) (N := some 74) (v := ?_) (a' := ?_) #[true,true,true,false,false,false,false,false,false,false,false,false,false,false,false,false,false] rfl rfl (any_of HT_.out (by kernel_rfl)) (fun _ _ _ h => h) (Or.inl ⟨by rfl,?_⟩) ?_ ?_
        rotate_left
        ·intro w'
         go_simp
         with_reducible rfl
        rotate_left
        ·simp only [Act.put,List.setIfInBounds_toArray,List.set_cons_zero,List.set_cons_succ,i64_w,i32_w]
         rfl
        refine pure_ (i := 4) (N := some 76) (v := ?_) (a' := ?_) #[true,true,true,false,true,false,false,false,false,false,false,false,false,false,false,false,false] rfl rfl (any_of HT_.out (by kernel_rfl)) (fun _ _ _ h => h) (Or.inl ⟨by rfl,?_⟩) ?_ ?_
        rotate_left
        ·intro w'
         go_simp
         with_reducible rfl
        rotate_left
        ·simp only [Act.put,List.setIfInBounds_toArray,List.set_cons_zero,List.set_cons_succ,i64_w,i32_w]
         rfl
        refine pure_ (i := 6) (N := some 78) (v := ?_) (a' := ?_) #[true,true,true,false,true,false,true,false,false,false,false,false,false,false,false,false,false] rfl rfl (any_of HT_.out (by kernel_rfl)) (fun _ _ _ h => h) (Or.inl ⟨by rfl,?_⟩) ?_ ?_
        rotate_left
        ·intro w'
         go_simp
         with_reducible rfl
        rotate_left
        ·simp only [Act.put,List.setIfInBounds_toArray,List.set_cons_zero,List.set_cons_succ,i64_w,i32_w]
         rfl
        refine pure_ (i := 7) (N := some 79) (v := ?_) (a' := ?_) #[true,true,true,false,true,false,true,true,false,false,false,false,false,false,false,false,false] rfl rfl (any_of HT_.out (by kernel_rfl)) (fun _ _ _ h => h) (Or.inl ⟨by rfl,?_⟩) ?_ ?_
        rotate_left
        ·intro w'
         go_simp
         with_reducible rfl
        rotate_left
        ·simp only [Act.put,List.setIfInBounds_toArray,List.set_cons_zero,List.set_cons_succ,i64_w,i32_w]
         rfl
        refine pure_ (i := 9) (N := some 81) (v := ?_) (a' := ?_) #[true,true,true,false,true,false,true,true,false,true,false,false,false,false,false,false,false] rfl rfl (any_of HT_.out (by kernel_rfl)) (fun _ _ _ h => h) (Or.inl ⟨by rfl,?_⟩) ?_ ?_
        rotate_left
        ·intro w'
         go_simp
         with_reducible rfl
        rotate_left
        ·simp only [Act.put,List.setIfInBounds_toArray,List.set_cons_zero,List.set_cons_succ,i64_w,i32_w]
         rfl
        refine pure_ (i := 13) (N := some 85) (v := ?_) (a' := ?_) #[true,true,true,false,true,false,true,true,false,true,false,false,false,true,false,false,false] rfl rfl (any_of HT_.out (by kernel_rfl)) (fun _ _ _ h => h) (Or.inl ⟨by rfl,?_⟩) ?_ ?_
        rotate_left
        ·intro w'
         go_simp
         with_reducible rfl
        rotate_left
        ·simp only [Act.put,List.setIfInBounds_toArray,List.set_cons_zero,List.set_cons_succ,i64_w,i32_w]
         rfl
        refine take_ (i := 3) (N := some 75) (v := ?_) (a' := ?_) #[true,true,true,true,true,false,true,true,false,true,false,false,false,true,false,false,false] rfl rfl (take_ofW HT_.out HW_.out (by kernel_rfl)) (fun _ _ _ h => h) (Or.inl ⟨by rfl,?_⟩) hHeld ?_ ?_
        rotate_left
        ·rintro w' ⟨s0,s1,s2,s3,s4⟩
         go_simp
         with_reducible rfl
        rotate_left
        ·simp only [Act.put,List.setIfInBounds_toArray,List.set_cons_zero,List.set_cons_succ,i64_w,i32_w]
         rfl
        refine take_ (i := 5) (N := some 77) (v := ?_) (a' := ?_) #[true,true,true,true,true,true,true,true,false,true,false,false,false,true,false,false,false] rfl rfl (take_ofW HT_.out HW_.out (by kernel_rfl)) (fun _ _ _ h => h) (Or.inl ⟨by rfl,?_⟩) hHeld ?_ ?_
        rotate_left
        ·rintro w' ⟨s0,s1,s2,s3,s4⟩
         go_simp
         with_reducible rfl
        rotate_left
        ·simp only [Act.put,List.setIfInBounds_toArray,List.set_cons_zero,List.set_cons_succ,i64_w,i32_w]
         rfl
        refine take_ (i := 8) (N := some 80) (v := ?_) (a' := ?_) #[true,true,true,true,true,true,true,true,true,true,false,false,false,true,false,false,false] rfl rfl (take_ofW HT_.out HW_.out (by kernel_rfl)) (fun _ _ _ h => h) (Or.inl ⟨by rfl,?_⟩) hHeld ?_ ?_
        rotate_left
        ·rintro w' ⟨s0,s1,s2,s3,s4⟩
         go_simp
         with_reducible rfl
        rotate_left
        ·simp only [Act.put,List.setIfInBounds_toArray,List.set_cons_zero,List.set_cons_succ,i64_w,i32_w]
         rfl
        refine take_ (i := 10) (N := some 82) (v := ?_) (a' := ?_) #[true,true,true,true,true,true,true,true,true,true,true,false,false,true,false,false,false] rfl rfl (take_ofW HT_.out HW_.out (by kernel_rfl)) (fun _ _ _ h => h) (Or.inl ⟨by rfl,?_⟩) hHeld ?_ ?_
        rotate_left
        ·rintro w' ⟨s0,s1,s2,s3,s4⟩
         go_simp
         with_reducible rfl
        rotate_left
        ·simp only [Act.put,List.setIfInBounds_toArray,List.set_cons_zero,List.set_cons_succ,i64_w,i32_w]
         rfl
        refine one_ (i := 11) (N := some 83) #[true,true,true,true,true,true,true,true,true,true,true,true,false,true,false,false,false] rfl rfl (one_of HT_.out (by kernel_rfl)) (by decide) (fun K hK => ?_)
        refine goes_ Try.func25 (by kernel_rfl) rfl #[.int .u64 a0_0,.slice A0_2 l0_2.length c0_2] (by rfl) rfl rfl (by (try simp only [List.map_toArray,List.map_cons,List.map_nil]);first|done|rfl|(simp only [List.length_drop,List.length_take];rfl)) ?_
        with_reducible refine (privityref10_Vanish.calls k2 a0_0 _ _ l0_2 t490 _ ?side1 ?side2 A55.out).mono ?_
        (case side1 => repeat (first|exact (Kd.C_below HR0_2.out HB.out)|(with_reducible refine Kd.C_alloc ?_ _)|(with_reducible refine Kd.C_drewN ?_ _)|(with_reducible refine Kd.C_drew ?_)))
        (case side2 => exact HC0_2.out)
        rintro e w64 ⟨v491,rfl,ho0,hb⟩
        refine ⟨_,rfl,?_⟩
        have n0_ := Aside0.mk (Kd.R_lower ho0 (below_size (by repeat (first|(with_reducible first|exact HB.out|apply below_alloc|apply pw_below_drewN|apply below_drew1|refine below_set ?_ GE471.out)|exact HB.out))))
        have n1_ := Aside0.mk (blk_below (g := gb471) (o := .cells #[.int .u64 a0_0,.slice A0_1 l0_1.length c0_1,.slice A0_2 l0_2.length c0_2,.int .u64 a0_3,.int .u64 a0_4] 39 (0,0)) (by (with_reducible repeat (first|refine blk_drewN ?_ _|refine blk_drew ?_|refine blk_alloc ?_ _));exact BK471.out) hb)
        have n2_ := Aside0.mk (below_step (by repeat (first|(with_reducible first|exact HB.out|apply below_alloc|apply pw_below_drewN|apply below_drew1|refine below_set ?_ GE471.out)|exact HB.out)) hb)
        clear BK471
        clear HB
        have HO492 := n0_
        have BK471 := n1_
        have HB := n2_
        clear n0_ n1_ n2_
        (try clear hb)
        (try clear hb2)
        (try clear hk)
        (try clear hi)
        (try clear ho0)
        obtain ⟨Ao65,co65,eo65⟩ := Kd.R_slice HO492.out
        (first|subst eo65|(injection eo65 with f1_ f2_ f3_;have f4_ := f1_.symm;have f5_ := f3_.symm;clear f1_ f2_ f3_;subst f4_;subst f5_))
        refine hK.out _ _ ⟨(blk_cell BK471.out 0).trans rfl,(blk_cell BK471.out 1).trans rfl,(blk_cell BK471.out 2).trans rfl,(blk_cell BK471.out 3).trans rfl,(blk_cell BK471.out 4).trans rfl⟩ (fun hHeld => ?_)
        clear hK K
        refine norm_ (a' := ?_) ?_ ?_
        rotate_left
        ·show Act.put _ (some 83) _ = _
         simp only [Act.put,List.setIfInBounds_toArray,List.set_cons_zero,List.set_cons_succ,i64_w,i32_w]
         rfl
        refine one_ (i := 12) (N := some 84) #[true,true,true,true,true,true,true,true,true,true,true,true,true,true,false,false,false] rfl rfl (one_of HT_.out (by kernel_rfl)) (by decide) (fun K hK => ?_)
        refine goes_ Try.func26 (by kernel_rfl) rfl #[.int .u64 a0_0,.slice A0_1 l0_1.length c0_1,.int .u64 t488,.slice Ao65 t490.length co65] (by rfl) rfl rfl (by (try simp only [List.map_toArray,List.map_cons,List.map_nil]);first|done|rfl|(simp only [List.length_drop,List.length_take];rfl)) ?_
        with_reducible refine (bivariate_Translate.calls k2 a0_0 _ _ l0_1 t488 _ _ t490 t493 _ ?side1 ?side2 ?side3 ?side4 A56.out).mono ?_
        (case side1 => repeat (first|exact (Kd.C_below HR0_1.out HB.out)|(with_reducible refine Kd.C_alloc ?_ _)|(with_reducible refine Kd.C_drewN ?_ _)|(with_reducible refine Kd.C_drew ?_)))
        (case side2 => exact HC0_1.out)
        (case side3 => repeat (first|exact (Kd.R_reads' HO492.out).2.2|(with_reducible refine Kd.C_alloc ?_ _)|(with_reducible refine Kd.C_drewN ?_ _)|(with_reducible refine Kd.C_drew ?_)))
        (case side4 => exact (Kd.R_reads' HO492.out).2.1)
        rintro e w66 ⟨v494,rfl,ho0,hb⟩
        refine ⟨_,rfl,?_⟩
        have n0_ := Aside0.mk (Kd.R_below (by (with_reducible repeat (first|apply Kd.R_alloc|apply Kd.R_drewN|apply Kd.R_drew));exact HO492.out) hb)
        have n1_ := Aside0.mk (Kd.S_lower (Kd.S_new' ho0 (Kd.R_lt (by (with_reducible repeat (first|apply Kd.R_alloc|apply Kd.R_drewN|apply Kd.R_drew));exact HO492.out))) (below_size (by repeat (first|(with_reducible first|exact HB.out|apply below_alloc|apply pw_below_drewN|apply below_drew1|refine below_set ?_ GE471.out)|exact HB.out))))
        have n2_ := Aside0.mk (blk_below (g := gb471) (o := .cells #[.int .u64 a0_0,.slice A0_1 l0_1.length c0_1,.slice A0_2 l0_2.length c0_2,.int .u64 a0_3,.int .u64 a0_4] 39 (0,0)) (by (with_reducible repeat (first|refine blk_drewN ?_ _|refine blk_drew ?_|refine blk_alloc ?_ _));exact BK471.out) hb)
        have n3_ := Aside0.mk (below_step (by repeat (first|(with_reducible first|exact HB.out|apply below_alloc|apply pw_below_drewN|apply below_drew1|refine below_set ?_ GE471.out)|exact HB.out)) hb)
        clear HO492
        clear BK471
        clear HB
        have HO492 := n0_
        have HO495 := n1_
        have BK471 := n2_
        have HB := n3_
        clear n0_ n1_ n2_ n3_
        (try clear hb)
        (try clear hb2)
        (try clear hk)
        (try clear hi)
        (try clear ho0)
        obtain ⟨Ao67,co67,eo67⟩ := Kd.S_slice HO495.out
        (first|subst eo67|(injection eo67 with f1_ f2_ f3_;have f4_ := f1_.symm;have f5_ := f3_.symm;clear f1_ f2_ f3_;subst f4_;subst f5_))
        refine hK.out _ _ ⟨(blk_cell BK471.out 0).trans rfl,(blk_cell BK471.out 1).trans rfl,(blk_cell BK471.out 2).trans rfl,(blk_cell BK471.out 3).trans rfl,(blk_cell BK471.out 4).trans rfl⟩ (fun hHeld => ?_)
        clear hK K
        refine norm_ (a' := ?_) ?_ ?_
        rotate_left
        ·show Act.put _ (some 84) _ = _
         simp only [Act.put,List.setIfInBounds_toArray,List.set_cons_zero,List.set_cons_succ,i64_w,i32_w]
         rfl
        refine one_ (i := 14) (N := some 86) #[true,true,true,true,true,true,true,true,true,true,true,true,true,true,true,false,false] rfl rfl (one_of HT_.out (by kernel_rfl)) (by decide) (fun K hK => ?_)
        refine goes_ Try.func16 (by kernel_rfl) rfl #[.slice Ao67 t493.length co67,.slice A1 l1.length c1] (by rfl) rfl rfl (by (try simp only [List.map_toArray,List.map_cons,List.map_nil]);first|done|rfl|(simp only [List.length_drop,List.length_take];rfl)) ?_
        with_reducible refine (privityref06_Same.calls k2 _ _ t493 _ _ l1 t496 _ ?side1 ?side2 ?side3 ?side4 A57.out).mono ?_
        (case side1 => repeat (first|exact (Kd.S_reads' HO495.out).2.2|(with_reducible refine Kd.C_alloc ?_ _)|(with_reducible refine Kd.C_drewN ?_ _)|(with_reducible refine Kd.C_drew ?_)))
        (case side2 => exact (Kd.S_reads' HO495.out).2.1)
        (case side3 => repeat (first|exact (Kd.C_below HR1.out HB.out)|(with_reducible refine Kd.C_alloc ?_ _)|(with_reducible refine Kd.C_drewN ?_ _)|(with_reducible refine Kd.C_drew ?_)))
        (case side4 => exact HC1.out)
        rintro e w' ⟨rfl,⟨nd,rfl⟩⟩
        refine ⟨_,rfl,?_⟩
        refine hK.out _ _ ⟨(blk_cell BK471.out 0).trans rfl,(blk_cell BK471.out 1).trans rfl,(blk_cell BK471.out 2).trans rfl,(blk_cell BK471.out 3).trans rfl,(blk_cell BK471.out 4).trans rfl⟩ (fun hHeld => ?_)
        clear hK K
        refine norm_ (a' := ?_) ?_ ?_
        rotate_left
        ·show Act.put _ (some 86) _ = _
         simp only [Act.put,List.setIfInBounds_toArray,List.set_cons_zero,List.set_cons_succ,i64_w,i32_w]
         rfl
        refine pure_ (i := 15) (N := some 87) (v := ?_) (a' := ?_) #[true,true,true,true,true,true,true,true,true,true,true,true,true,true,true,true,false] rfl rfl (any_of HT_.out (by kernel_rfl)) (fun _ _ _ h => h) (Or.inl ⟨by rfl,?_⟩) ?_ ?_
        rotate_left
        ·intro w'
         go_simp
         with_reducible rfl
        rotate_left
        ·simp only [Act.put,List.setIfInBounds_toArray,List.set_cons_zero,List.set_cons_succ,i64_w,i32_w]
         rfl
        refine pure_ (i := 16) (N := some 4) (v := ?_) (a' := ?_) #[true,true,true,true,true,true,true,true,true,true,true,true,true,true,true,true,true] rfl rfl (any_of HT_.out (by kernel_rfl)) (fun _ _ _ h => h) (Or.inl ⟨by rfl,?_⟩) ?_ ?_
        rotate_left
        ·intro w'
         go_simp
         with_reducible rfl
        rotate_left
        ·simp only [Act.put,List.setIfInBounds_toArray,List.set_cons_zero,List.set_cons_succ,i64_w,i32_w]
         rfl
        refine done_ (done_of HT_.out (by kernel_rfl)) ?_
        try go_wp2
        go_ret
        exact ⟨by first|rfl|(simp [errW_none,errW_some] <;> rfl)|(simp [*,errW_none,errW_some] <;> rfl),by repeat (first|(with_reducible first|exact HB.out|apply below_alloc|apply pw_below_drewN|apply below_drew1|refine below_set ?_ GE471.out)|exact HB.out)⟩
       ·replace c54 := Bool.eq_false_iff.mpr c54
        subst c54
        have H1 : (some false) = some r := by rw [if_neg (show ¬ (false = true) by decide)] at H;exact H
        clear H
        have H := H1
        clear H1
        exact absurd (Option.some.inj H) (by rw [HRT_.out];simp)
end Go.Proofs.Ytkhdocabgmemiaa.Pr
end
section
/-
  The reference of layer 1: what its printed functions answer.
-/
namespace Go.Proofs.Ytkhdocabgmemiaa.E
open Go.RowKit Go.Proofs.Ytkhdocabgmemiaa.Pr Go.Proofs.Ytkhdocabgmemiaa.Hw Go.Proofs.YtkhdocabgmemiaaW.PrintWords Go.Proofs.YtkhdocabgmemiaaW.PrintLast Go.Proofs.YtkhdocabgmemiaaW.PrintMore
set_option linter.unusedVariables false
set_option linter.unusedSimpArgs false

theorem wcap {n : Int} (h : 0 ≤ n) (h2 : n < 9223372036854775808) : wrap64 n = n := by unfold wrap64; omega
theorem wnat {n : Nat} (h : n < 1099511627776) : wrap64 ((n : Int) + 1) = ((n + 1 : Nat) : Int) := by rw [wcap (by omega) (by omega)]; omega
/-- From the end back to the start. -/
theorem up {Q : Nat → Prop} {n : Nat} (hn : Q n) (hs : ∀ i, i < n → Q (i + 1) → Q i) : Q 0 := by
  have : ∀ d, d ≤ n → Q (n - d) := by
    intro d
    induction d with
    | zero => intro _; exact hn
    | succ d ih =>
      intro h
      have h1 := ih (by omega)
      refine hs (n - (d + 1)) (by omega) ?_
      rwa [show n - (d + 1) + 1 = n - d from by omega]
  have := this n (Nat.le_refl _)
  rwa [Nat.sub_self] at this
theorem exponent_eq (p : Int) : privityref01_Exponent.f 10 p = if p = 31 then some 5 else if p = 127 then some 7 else if p = 8191 then some 13 else if p = 131071 then some 17 else if p = 524287 then some 19 else if p = 2147483647 then some 31 else if p = 2305843009213693951 then some 61 else some 0 := by kernel_rfl
theorem supported_ev (p : Int) : Ev (fun k => privityref01_Supported.f k p) (supB p) := by
  refine Ev.of (fun k => privityref01_Supported.mono _ _) (k := 10) ?_
  show (privityref01_Exponent.f 10 p).bind _ = _
  rw [exponent_eq]
  unfold supB
  by_cases h1 : p = 31
  · subst h1; rfl
  by_cases h2 : p = 127
  · subst h2; rfl
  by_cases h3 : p = 8191
  · subst h3; rfl
  by_cases h4 : p = 131071
  · subst h4; rfl
  by_cases h5 : p = 524287
  · subst h5; rfl
  by_cases h6 : p = 2147483647
  · subst h6; rfl
  by_cases h7 : p = 2305843009213693951
  · subst h7; rfl
  rw [if_neg h1, if_neg h2, if_neg h3, if_neg h4, if_neg h5, if_neg h6, if_neg h7]
  simp [h1, h2, h3, h4, h5, h6, h7]
theorem tmod_pos {a p : Int} (h : 0 ≤ a) : Int.tmod a p = a % p := Int.tmod_eq_emod_of_nonneg h
theorem radd_eq {p : Int} (hp : Supp p) {a b : Int} (ha : Res p a) (hb : Res p b) : privityref01_Add.f p a b = some ((a + b) % p) := by
  have := hp.bd
  obtain ⟨a0, a1⟩ := ha
  obtain ⟨b0, b1⟩ := hb
  unfold privityref01_Add.f
  rw [if_neg (by omega), wrapU_id (by omega) (by omega), tmod_pos (by omega)]
theorem rsub_eq {p : Int} (hp : Supp p) {a b : Int} (ha : Res p a) (hb : Res p b) : privityref01_Sub.f p a b = some ((a - b) % p) := by
  have := hp.bd
  obtain ⟨a0, a1⟩ := ha
  obtain ⟨b0, b1⟩ := hb
  unfold privityref01_Sub.f
  rw [if_neg (by omega), wrapU_id (n := a + p) (by omega) (by omega), wrapU_id (by omega) (by omega), tmod_pos (by omega), show a + p - b = a - b + p * 1 from by omega, Int.add_mul_emod_self_left]
theorem rmul_l0 {p : Int} (hp : Supp p) : ∀ (n : Nat) (a out : Int), n < 18446744073709551616 → Res p a → Res p out → Ev (fun k => privityref01_Mul.l0 k p a n out) ((out + a * n) % p) := by
  intro n
  induction n using Nat.strongRecOn with
  | _ n ih =>
    intro a out hn ha ho
    have hb := hp.bd
    obtain ⟨a0, a1⟩ := ha
    obtain ⟨o0, o1⟩ := ho
    by_cases h0 : n = 0
    · subst h0
      refine Ev.of (fun k => (privityref01_Mul.mono_l k) _ _ _ _) (k := 1) ?_
      simp only [privityref01_Mul.l0]
      rw [if_neg (by omega), Int.natCast_zero, Int.mul_zero, Int.add_zero, Int.emod_eq_of_lt o0 o1]
    · have e1 : Int.tmod (n : Int) 2 = n % 2 := tmod_pos (by omega)
      have e2 : IntKind.u64.wrap (Int.tdiv (n : Int) 2) = ((n / 2 : Nat) : Int) := by
        rw [Int.tdiv_eq_ediv_of_nonneg (by omega), wrapU_id (by omega) (by omega)]; omega
      have e3 : IntKind.u64.wrap (a + a) = a + a := wrapU_id (by omega) (by omega)
      have e4 : IntKind.u64.wrap (out + a) = out + a := wrapU_id (by omega) (by omega)
      have hN : (n : Int) = 2 * ((n / 2 : Nat) : Int) + n % 2 := by omega
      by_cases hodd : n % 2 = 1
      · have h := ih (n / 2) (by omega) ((a + a) % p) ((out + a) % p) (by omega) (Res.mod hp _) (Res.mod hp _)
        refine Ev.step (fun k => ?_) (f := fun k => privityref01_Mul.l0 k p ((a + a) % p) ((n / 2 : Nat) : Int) ((out + a) % p)) ?_
        · simp only [privityref01_Mul.l0]
          rw [if_pos (by omega), if_pos (by omega), if_neg (by omega), e2, e3, e4, tmod_pos (by omega), tmod_pos (by omega)]
        · rw [show (out + a * n) % p = ((out + a) % p + (a + a) % p * ((n / 2 : Nat) : Int)) % p from ?_]
          · exact h
          · rw [addm (modm p (out + a)) (mulm (modm p (a + a)) rfl)]
            congr 1
            have : (n : Int) = 2 * ((n / 2 : Nat) : Int) + 1 := by omega
            generalize ((n / 2 : Nat) : Int) = m at *
            rw [this]; grind
      · have h := ih (n / 2) (by omega) ((a + a) % p) out (by omega) (Res.mod hp _) ⟨o0, o1⟩
        refine Ev.step (fun k => ?_) (f := fun k => privityref01_Mul.l0 k p ((a + a) % p) ((n / 2 : Nat) : Int) out) ?_
        · simp only [privityref01_Mul.l0]
          rw [if_pos (by omega), if_neg (by omega), if_neg (by omega), e2, e3, tmod_pos (by omega)]
        · rw [show (out + a * n) % p = (out + (a + a) % p * ((n / 2 : Nat) : Int)) % p from ?_]
          · exact h
          · rw [addm (a := out) rfl (mulm (modm p (a + a)) rfl)]
            congr 1
            have : (n : Int) = 2 * ((n / 2 : Nat) : Int) := by omega
            generalize ((n / 2 : Nat) : Int) = m at *
            rw [this]; grind
theorem rmul_ev {p : Int} (hp : Supp p) {a b : Int} (ha : Res p a) (hb : Res p b) : Ev (fun k => privityref01_Mul.f k p a b) (a * b % p) := by
  have h := hp.bd
  have := rmul_l0 hp b.toNat a 0 (by have := hb.1; have := hb.2; omega) ha ⟨by omega, by omega⟩
  rw [Int.toNat_of_nonneg hb.1, Int.zero_add] at this
  exact this
theorem rpow_l0 {p : Int} (h : Supp p) : ∀ (n : Nat) (a out : Int), n < 18446744073709551616 → Res p a → Res p out → Ev (fun k => privityref01_Pow.l0 k p a n out) (out * a ^ n % p) := by
  intro n
  induction n using Nat.strongRecOn with
  | _ n ih =>
    intro a out hn ha ho
    by_cases h0 : n = 0
    · subst h0
      refine Ev.of (fun k => (privityref01_Pow.mono_l k) _ _ _ _) (k := 1) ?_
      simp only [privityref01_Pow.l0]
      rw [if_neg (by omega), Int.pow_zero, Int.mul_one, ho.eq]
    · have hsq := rmul_ev h ha ha
      have hrec := fun out' ho' => ih (n / 2) (by omega) (a * a % p) out' (by omega) (Res.mod h _) ho'
      have eh := pow_two_half a n
      have e1 := pow_mod_base (a * a) p (n / 2)
      have t1 : Int.tmod (n : Int) 2 = n % 2 := tmod_pos (by omega)
      have t2 : IntKind.u64.wrap (Int.tdiv (n : Int) 2) = ((n / 2 : Nat) : Int) := by
        rw [Int.tdiv_eq_ediv_of_nonneg (by omega), wrapU_id (by omega) (by omega)]; omega
      by_cases hodd : n % 2 = 1
      · refine Ev.step (f := fun k => (privityref01_Mul.f k p out a).bind fun t244 => ((privityref01_Mul.f k p a a).bind fun t245 => (privityref01_Pow.l0 k p t245 ((n / 2 : Nat) : Int) t244))) (fun k => ?_) ?_
        · simp only [privityref01_Pow.l0]
          rw [if_pos (by omega), if_pos (by omega), t2]
        · refine Ev.bind (rmul_ev h ho ha) (Ev.bind hsq ?_)
          have := hrec (out * a % p) (Res.mod h _)
          rw [show out * a ^ n % p = out * a % p * (a * a % p) ^ (n / 2) % p from ?_]
          · exact this
          · rw [mulm (Int.emod_emod_of_dvd (out * a) (Int.dvd_refl p)) e1, eh, hodd, Int.pow_one, Int.mul_assoc, Int.mul_comm a ((a * a) ^ (n / 2))]
      · refine Ev.step (f := fun k => (privityref01_Mul.f k p a a).bind fun t246 => (privityref01_Pow.l0 k p t246 ((n / 2 : Nat) : Int) out)) (fun k => ?_) ?_
        · simp only [privityref01_Pow.l0]
          rw [if_pos (by omega), if_neg (by omega), t2]
        · refine Ev.bind hsq ?_
          have := hrec out ho
          rw [show out * a ^ n % p = out * (a * a % p) ^ (n / 2) % p from ?_]
          · exact this
          · rw [mulm (a := out) rfl e1, eh, show n % 2 = 0 from by omega, Int.pow_zero, Int.mul_one]
theorem rinv_ev {p : Int} (h : Supp p) {a : Int} (ha : Res p a) (h0 : a ≠ 0) : Ev (fun k => privityref01_Inverse.f k p a) (invp p a, 0) := by
  have := h.bd
  have e := rpow_l0 h (p - 2).toNat a 1 (by omega) ha ⟨by omega, by omega⟩
  rw [Int.one_mul, show ((p - 2).toNat : Int) = p - 2 from Int.toNat_of_nonneg (by omega)] at e
  refine (Ev.bind (f := fun k t => some (t, 0)) e (Ev.now _)).congr fun k => ?_
  show (if a = 0 then _ else (privityref01_Pow.f k p a (IntKind.u64.wrap (p - 2))).bind _) = _
  rw [if_neg h0, wrapU_id (by omega) (by omega)]
  rfl
end Go.Proofs.Ytkhdocabgmemiaa.E
end
section
/-
  Guards, sums, and the hand-proved functions' answers, for the statements.
-/
namespace Go.Proofs.Ytkhdocabgmemiaa.E
open Go.RowKit Go.Proofs.Ytkhdocabgmemiaa.Pr Go.Proofs.Ytkhdocabgmemiaa.Hw Go.Proofs.Ytkhdocabgmemiaa.Pl Go.Proofs.YtkhdocabgmemiaaW.PrintWords Go.Proofs.YtkhdocabgmemiaaW.PrintLast Go.Proofs.YtkhdocabgmemiaaW.PrintMore
set_option linter.unusedVariables false
set_option linter.unusedSimpArgs false

theorem wf64 {x : Int} (h : (Lit.int .u64 x).wf = true) : 0 ≤ x ∧ x < 18446744073709551616 := by
  have h1 : IntKind.u64.min ≤ x ∧ x ≤ IntKind.u64.max := by simpa [Lit.wf] using h
  have e1 : IntKind.u64.min = 0 := by decide
  have e2 : IntKind.u64.max = 18446744073709551615 := by decide
  omega
/-- A check, and both ways on. -/
theorem ev_if {α : Type} {A : Nat → Option Bool} {b : Bool} (hA : Ev A b) {X Y : Nat → Option α} {r : α} (hx : b = true → Ev X r) (hy : b = false → Ev Y r) : Ev (fun k => (A k).bind fun t => if t = true then X k else Y k) r := by
  refine Ev.bind (f := fun k t => if t = true then X k else Y k) hA ?_
  cases b with
  | true => exact (hx rfl).congr fun k => if_pos rfl
  | false => exact (hy rfl).congr fun k => if_neg (by simp)
theorem ev_ite {α : Type} {c : Prop} [Decidable c] {X Y : Nat → Option α} {r : α} (hx : c → Ev X r) (hy : ¬ c → Ev Y r) : Ev (fun k => if c then X k else Y k) r := by
  by_cases h : c
  · exact (hx h).congr fun k => if_pos h
  · exact (hy h).congr fun k => if_neg h
/-- A check whose negation is handed on. -/
theorem ev_now_bind {α β : Type} {x : Option α} {a : α} (hx : x = some a) {f : Nat → α → Option β} {r : β} (h : Ev (fun k => f k a) r) : Ev (fun k => x.bind (f k)) r := by subst hx; exact h
end Go.Proofs.Ytkhdocabgmemiaa.E
end
section
/-
  Chapter 10: what the printed functions on matrices answer.
-/
namespace Go.Proofs.Ytkhdocabgmemiaa.E
open Go.RowKit Go.Proofs.Ytkhdocabgmemiaa.Pr Go.Proofs.Ytkhdocabgmemiaa.Hw Go.Proofs.Ytkhdocabgmemiaa.Pl Go.Proofs.YtkhdocabgmemiaaW.PrintWords Go.Proofs.YtkhdocabgmemiaaW.PrintLast Go.Proofs.YtkhdocabgmemiaaW.PrintMore
set_option linter.unusedVariables false
set_option linter.unusedSimpArgs false

theorem rdM_nat (l : List (List Int)) (i : Nat) : rd_L1 l (i : Int) = l.getD i [] := by unfold rd_L1; rw [Int.toNat_natCast]
theorem rd_at2 (s : List (List Int)) (i j : Nat) : rd (rd_L1 s (i : Int)) (j : Int) = at2 s i j := by rw [rdM_nat]; exact rd_nat _ j
/-- A loop that answers false at the first i that Q does not hold of, and goes on with e behind it. -/
theorem allL {F : Nat → Int → Option Bool} {n : Nat} {Q : Nat → Prop} [DecidablePred Q] {e : Bool} (hend : Ev (fun k => F k (n : Int)) e) (hyes : ∀ i, i < n → Q i → ∀ r, Ev (fun k => F k ((i + 1 : Nat) : Int)) r → Ev (fun k => F k (i : Int)) r)
    (hno : ∀ i, i < n → ¬ Q i → Ev (fun k => F k (i : Int)) false) (r : Bool) (hr : r = true ↔ ((∀ i, i < n → Q i) ∧ e = true)) : Ev (fun k => F k ((0 : Nat) : Int)) r := by
  by_cases hall : ∀ i, i < n → Q i
  · have : r = e := by
      cases e with
      | true => exact hr.2 ⟨hall, rfl⟩
      | false => exact Bool.eq_false_iff.mpr fun h => by have := (hr.1 h).2; cases this
    rw [this]
    exact up (Q := fun i => Ev (fun k => F k (i : Int)) e) (n := n) hend fun i hi h => hyes i hi (hall i hi) e h
  · have hf : r = false := Bool.eq_false_iff.mpr fun h => hall (hr.1 h).1
    rw [hf]
    obtain ⟨i, hi, hq⟩ : ∃ i, i < n ∧ ¬ Q i := Classical.byContradiction fun h => hall fun i hi => Classical.byContradiction fun hq => h ⟨i, hi, hq⟩
    refine up (Q := fun i => Ev (fun k => F k (i : Int)) false) (n := i) (hno i hi hq) fun j hj h => ?_
    by_cases hqj : Q j
    · exact hyes j (by omega) hqj false h
    · exact hno j (by omega) hqj
theorem samel_ev (a b : List Int) (ha : a.length ≤ 1000000000) : Ev (fun k => privityref06_SameList.f k a b) (decide (a = b)) := by
  by_cases hl : a.length = b.length
  · have h := allL (F := fun k i => privityref06_SameList.l0 k a b i) (n := a.length) (Q := fun i => a.getD i 0 = b.getD i 0) (e := true) ?_ (fun i hi hq r h => ?_) (fun i hi hq => ?_) (decide (a = b)) ?_
    · refine h.congr fun k => ?_
      unfold privityref06_SameList.f
      rw [if_pos (by omega)]; rfl
    · refine Ev.step (fun k => ?_) (Ev.now _)
      simp only [privityref06_SameList.l0]
      rw [if_neg (by omega)]
    · refine Ev.step (fun k => ?_) h
      simp only [privityref06_SameList.l0]
      rw [if_pos (by omega), if_pos (by omega), if_pos (by omega), rd_nat, rd_nat, if_pos hq, wnat (by omega)]
    · refine Ev.step (fun k => ?_) (Ev.now _)
      simp only [privityref06_SameList.l0]
      rw [if_pos (by omega), if_pos (by omega), if_pos (by omega), rd_nat, rd_nat, if_neg hq]
    · rw [decide_eq_true_iff]
      refine ⟨fun e => ⟨fun i _ => by rw [e], rfl⟩, fun h => list_ext_getD hl fun i => ?_⟩
      by_cases hi : i < a.length
      · exact h.1 i hi
      · rw [getD_out a i (by omega), getD_out b i (by omega)]
  · have : decide (a = b) = false := decide_eq_false fun e => hl (by rw [e])
    rw [this]
    refine Ev.congr (fun k => ?_) (Ev.now _)
    unfold privityref06_SameList.f
    rw [if_neg (by omega)]
theorem getD_mem {a : List (List Int)} {i : Nat} (hi : i < a.length) : a.getD i [] ∈ a := by
  rw [List.getD_eq_getElem?_getD, List.getElem?_eq_getElem hi]; exact List.getElem_mem hi
theorem samem_ev (a b : List (List Int)) (ha : a.length ≤ 1000000000) (hr : ∀ x ∈ a, x.length ≤ 1000000000) : Ev (fun k => privityref06_Same.f k a b) (decide (a = b)) := by
  by_cases hl : a.length = b.length
  · have hs : ∀ i, i < a.length → Ev (fun k => privityref06_SameList.f k (rd_L1 a (i : Int)) (rd_L1 b (i : Int))) (decide (a.getD i [] = b.getD i [])) := fun i hi => by
      rw [rdM_nat, rdM_nat]; exact samel_ev _ _ (hr _ (getD_mem hi))
    have hst : ∀ i, i < a.length → ∀ k, privityref06_Same.l0 (k + 1) a b (i : Int) = (privityref06_SameList.f k (rd_L1 a (i : Int)) (rd_L1 b (i : Int))).bind fun t => (if t = true then (privityref06_Same.l0 k a b ((i + 1 : Nat) : Int)) else (some false)) := fun i hi k => by
      simp only [privityref06_Same.l0]
      rw [if_pos (by omega), if_pos (by omega), if_pos (by omega), wnat (by omega)]
    have h := allL (F := fun k i => privityref06_Same.l0 k a b i) (n := a.length) (Q := fun i => a.getD i [] = b.getD i []) (e := true) ?_ (fun i hi hq r h => ?_) (fun i hi hq => ?_) (decide (a = b)) ?_
    · refine h.congr fun k => ?_
      unfold privityref06_Same.f
      rw [if_pos (by omega)]; rfl
    · refine Ev.step (fun k => ?_) (Ev.now _)
      simp only [privityref06_Same.l0]
      rw [if_neg (by omega)]
    · have h1 := hs i hi
      rw [decide_eq_true hq] at h1
      exact Ev.step (hst i hi) (ev_if h1 (fun _ => h) fun e => by cases e)
    · have h1 := hs i hi
      rw [decide_eq_false hq] at h1
      exact Ev.step (hst i hi) (ev_if h1 (fun e => by cases e) fun _ => Ev.now _)
    · rw [decide_eq_true_iff]
      refine ⟨fun e => ⟨fun i _ => by rw [e], rfl⟩, fun h => List.ext_getElem hl fun i h1 h2 => ?_⟩
      have := h.1 i h1
      rw [List.getD_eq_getElem?_getD, List.getD_eq_getElem?_getD, List.getElem?_eq_getElem h1, List.getElem?_eq_getElem h2] at this
      exact this
  · have : decide (a = b) = false := decide_eq_false fun e => hl (by rw [e])
    rw [this]
    refine Ev.congr (fun k => ?_) (Ev.now _)
    unfold privityref06_Same.f
    rw [if_neg (by omega)]
/-- At most m words, all below p. -/
def belB (p : Int) (l : List Int) (m : Nat) : Bool := decide (l.length ≤ m) && l.all fun x => decide (x < p)
theorem bel_ev (p : Int) (l : List Int) (m : Nat) (hm : m ≤ 1000) : Ev (fun k => privityref06_Below.f k p l (m : Int)) (belB p l m) := by
  have hend : ∀ i : Nat, Ev (fun k => privityref06_Below.j1 k p l (m : Int) (i : Int) false) (decide (l.length ≤ m)) := fun i => by
    refine Ev.step (fun k => ?_) (Ev.now _)
    simp only [privityref06_Below.j1]
    rw [if_neg (by simp)]
    exact congrArg some (decide_eq_decide.2 (by omega))
  have hin : ∀ i : Nat, i < l.length → i ≤ m → ∀ k, privityref06_Below.l0 (k + 1) p l (m : Int) (i : Int) = privityref06_Below.j1 k p l (m : Int) (i : Int) true := fun i h1 h2 k => by
    simp only [privityref06_Below.l0]
    rw [if_pos (by omega), decide_eq_true (by omega)]
  have hj : ∀ i : Nat, i < l.length → i ≤ m → ∀ k, privityref06_Below.j1 (k + 1) p l (m : Int) (i : Int) true = if l.getD i 0 ≥ p then some false else privityref06_Below.l0 k p l (m : Int) ((i + 1 : Nat) : Int) := fun i h1 h2 k => by
    simp only [privityref06_Below.j1]
    rw [if_pos trivial, if_pos (by omega), if_pos (by omega), rd_nat, wnat (by omega)]
  have h := allL (F := fun k i => privityref06_Below.l0 k p l (m : Int) i) (n := min l.length (m + 1)) (Q := fun i => l.getD i 0 < p) (e := decide (l.length ≤ m)) ?_ (fun i hi hq r h => ?_) (fun i hi hq => ?_) (belB p l m) ?_
  · exact h.congr fun k => rfl
  · by_cases hlm : l.length ≤ m
    · rw [show min l.length (m + 1) = l.length from by omega]
      refine Ev.step (f := fun k => privityref06_Below.j1 k p l (m : Int) (l.length : Int) false) (fun k => ?_) (hend _)
      simp only [privityref06_Below.l0]
      rw [if_neg (by omega)]
    · rw [show min l.length (m + 1) = m + 1 from by omega]
      refine Ev.step (f := fun k => privityref06_Below.j1 k p l (m : Int) ((m + 1 : Nat) : Int) false) (fun k => ?_) (hend _)
      simp only [privityref06_Below.l0]
      by_cases h2 : ((m + 1 : Nat) : Int) < (l.length : Int)
      · rw [if_pos h2, decide_eq_false (by omega)]
      · rw [if_neg h2]
  · exact Ev.step (hin i (by omega) (by omega)) (Ev.step (hj i (by omega) (by omega)) (h.congr fun k => if_neg (by omega)))
  · exact Ev.step (hin i (by omega) (by omega)) (Ev.step (hj i (by omega) (by omega)) ((Ev.now false).congr fun k => if_pos (by omega)))
  · unfold belB
    rw [Bool.and_eq_true, decide_eq_true_iff, List.all_eq_true]
    constructor
    · rintro ⟨h1, h2⟩
      refine ⟨fun i hi => ?_, h1⟩
      rw [Hw.getD_in _ _ (show i < l.length by omega)]
      exact of_decide_eq_true (h2 _ (List.getElem_mem _))
    · rintro ⟨h1, h2⟩
      refine ⟨h2, fun x hx => ?_⟩
      obtain ⟨i, hi, rfl⟩ := List.getElem_of_mem hx
      have := h1 i (by omega)
      rw [Hw.getD_in _ _ hi] at this
      exact decide_eq_true this
theorem bel_res {p : Int} {l : List Int} {m : Nat} (h : belB p l m = true) (hw : ∀ x ∈ l, 0 ≤ x) : l.length ≤ m ∧ ∀ x ∈ l, Res p x := by
  unfold belB at h
  rw [Bool.and_eq_true, decide_eq_true_iff, List.all_eq_true] at h
  exact ⟨h.1, fun x hx => ⟨hw x hx, of_decide_eq_true (h.2 x hx)⟩⟩
def fairB (p : Int) (s : List (List Int)) (m : Nat) : Bool := supB p && (decide (s.length ≤ m) && s.all fun r => belB p r m)
theorem fair_ev (p : Int) (s : List (List Int)) (m : Nat) (hm0 : m ≤ 1000) : Ev (fun k => privityref06_Fair.f k p s (m : Int)) (fairB p s m) := by
  have hno : Ev (fun k => privityref06_Fair.j0 k p s (m : Int) true) false := Ev.step (f := fun _ => some false) (fun k => by simp only [privityref06_Fair.j0]; rw [if_pos trivial]) (Ev.now _)
  unfold fairB
  refine ev_if (supported_ev p) (fun hs => ?_) (fun hs => by rw [hs]; exact hno)
  rw [hs, Bool.true_and]
  by_cases hm : s.length ≤ m
  · rw [decide_eq_true hm, Bool.true_and, decide_eq_false (by omega)]
    have hst : ∀ i, i < s.length → ∀ k, privityref06_Fair.l0 (k + 1) p s (m : Int) (i : Int) = (privityref06_Below.f k p (s.getD i []) (m : Int)).bind fun t => (if t = true then (privityref06_Fair.l0 k p s (m : Int) ((i + 1 : Nat) : Int)) else (some false)) := fun i hi k => by
      simp only [privityref06_Fair.l0]
      rw [if_pos (by omega), if_pos (by omega), rdM_nat, wnat (by omega)]
    have hb := fun i (hi : i < s.length) => bel_ev p (s.getD i []) m hm0
    have h := allL (F := fun k i => privityref06_Fair.l0 k p s (m : Int) i) (n := s.length) (Q := fun i => belB p (s.getD i []) m = true) (e := true) ?_ (fun i hi hq r h => ?_) (fun i hi hq => ?_) (s.all fun r => belB p r m) ?_
    · refine Ev.step (fun k => ?_) h
      simp only [privityref06_Fair.j0]
      rw [if_neg (by simp)]; rfl
    · refine Ev.step (fun k => ?_) (Ev.now _)
      simp only [privityref06_Fair.l0]
      rw [if_neg (by omega)]
    · have h1 := hb i hi
      rw [hq] at h1
      exact Ev.step (hst i hi) (ev_if h1 (fun _ => h) fun e => by cases e)
    · have h1 := hb i hi
      rw [Bool.eq_false_iff.mpr hq] at h1
      exact Ev.step (hst i hi) (ev_if h1 (fun e => by cases e) fun _ => Ev.now _)
    · rw [List.all_eq_true]
      refine ⟨fun h => ⟨fun i hi => h _ (getD_mem hi), rfl⟩, fun h x hx => ?_⟩
      obtain ⟨i, hi, rfl⟩ := List.getElem_of_mem hx
      have := h.1 i hi
      rwa [List.getD_eq_getElem?_getD, List.getElem?_eq_getElem hi] at this
  · rw [decide_eq_false hm, Bool.false_and, decide_eq_true (by omega)]
    exact hno
theorem fair_res {p : Int} {s : List (List Int)} {m : Nat} (h : fairB p s m = true) (hw : ∀ r ∈ s, ∀ x ∈ r, 0 ≤ x) : Supp p ∧ s.length ≤ m ∧ (∀ r ∈ s, r.length ≤ m) ∧ ResM p s := by
  unfold fairB at h
  rw [Bool.and_eq_true, Bool.and_eq_true, decide_eq_true_iff, List.all_eq_true] at h
  exact ⟨supB_of h.1, h.2.1, fun r hr => (bel_res (h.2.2 r hr) (hw r hr)).1, fun r hr => (bel_res (h.2.2 r hr) (hw r hr)).2⟩
def sqB (s : List (List Int)) : Bool := (s.all fun r => decide (r.length = s.length)) && decide (0 < s.length)
theorem sqB_iff {s : List (List Int)} : sqB s = true ↔ (Sq s.length s ∧ 0 < s.length) := by
  unfold sqB
  rw [Bool.and_eq_true, decide_eq_true_iff, List.all_eq_true]
  exact ⟨fun h => ⟨⟨rfl, fun r hr => of_decide_eq_true (h.1 r hr)⟩, h.2⟩, fun h => ⟨fun r hr => decide_eq_true (h.1.row r hr), h.2⟩⟩
theorem sq_iff {s : List (List Int)} : (∀ i, i < s.length → (s.getD i []).length = s.length) ↔ Sq s.length s := by
  refine ⟨fun h => ⟨rfl, fun r hr => ?_⟩, fun h i hi => h.getD i hi⟩
  obtain ⟨i, hi, rfl⟩ := List.getElem_of_mem hr
  have := h i hi
  rwa [List.getD_eq_getElem?_getD, List.getElem?_eq_getElem hi] at this
theorem square_ev (s : List (List Int)) (hl : s.length ≤ 1000000000) : Ev (fun k => privityref10_Square.f k s) (sqB s) := by
  have h := allL (F := fun k i => privityref10_Square.l0 k s i) (n := s.length) (Q := fun i => (s.getD i []).length = s.length) (e := decide (0 < s.length)) ?_ (fun i hi hq r h => ?_) (fun i hi hq => ?_) (sqB s) ?_
  · exact h.congr fun k => rfl
  · refine Ev.step (fun k => ?_) (Ev.now _)
    simp only [privityref10_Square.l0]
    rw [if_neg (by omega)]
    exact congrArg some (decide_eq_decide.2 (by omega))
  · refine Ev.step (fun k => ?_) h
    simp only [privityref10_Square.l0]
    rw [if_pos (by omega), if_pos (by omega), rdM_nat, if_pos (by omega), wnat (by omega)]
  · refine Ev.step (fun k => ?_) (Ev.now _)
    simp only [privityref10_Square.l0]
    rw [if_pos (by omega), if_pos (by omega), rdM_nat, if_neg (by omega)]
  · rw [sqB_iff, sq_iff, decide_eq_true_iff]
/-- Square, not empty, symmetric. -/
def SymP (s : List (List Int)) (i : Nat) : Prop := ∀ a, i ≤ a → a < s.length → ∀ b, b < a → at2 s a b = at2 s b a
def symPB (s : List (List Int)) (i : Nat) : Bool := (List.range s.length).all fun a => decide (a < i) || (List.range a).all fun b => decide (at2 s a b = at2 s b a)
theorem symPB_iff {s : List (List Int)} {i : Nat} : symPB s i = true ↔ SymP s i := by
  unfold symPB SymP
  simp only [List.all_eq_true, List.mem_range, Bool.or_eq_true, decide_eq_true_eq]
  exact ⟨fun h a h1 h2 b hb => (h a h2).elim (fun h3 => by omega) fun h3 => h3 b hb, fun h a h2 => (Nat.lt_or_ge a i).elim Or.inl fun h1 => Or.inr fun b hb => h a h1 h2 b hb⟩
def symB (s : List (List Int)) : Bool := sqB s && symPB s 0
theorem symB_iff {s : List (List Int)} : symB s = true ↔ (Sq s.length s ∧ 0 < s.length ∧ ∀ i, i < s.length → ∀ j, j < s.length → at2 s i j = at2 s j i) := by
  unfold symB
  rw [Bool.and_eq_true, symPB_iff, sqB_iff]
  constructor
  · rintro ⟨⟨h1, h2⟩, h3⟩
    refine ⟨h1, h2, fun i hi j hj => ?_⟩
    rcases Nat.lt_trichotomy i j with h | h | h
    · exact (h3 j (Nat.zero_le _) hj i h).symm
    · rw [h]
    · exact h3 i (Nat.zero_le _) hi j h
  · rintro ⟨h1, h2, h3⟩
    exact ⟨⟨h1, h2⟩, fun a _ ha b hb => h3 a ha b (by omega)⟩
theorem SymP.next {s : List (List Int)} {i : Nat} (hi : i < s.length) : SymP s i ↔ ((∀ j, j < i → at2 s i j = at2 s j i) ∧ SymP s (i + 1)) := by
  constructor
  · exact fun h => ⟨fun j hj => h i (Nat.le_refl _) hi j hj, fun a h1 h2 b hb => h a (by omega) h2 b hb⟩
  · rintro ⟨h1, h2⟩ a ha hl b hb
    by_cases e : a = i
    · subst e; exact h1 b hb
    · exact h2 a (by omega) hl b hb
theorem SymP.last (s : List (List Int)) : SymP s s.length := fun a h1 h2 => by omega
theorem rsym_ev (s : List (List Int)) (hl : s.length ≤ 1000000000) : Ev (fun k => privityref10_IsSymmetric.f k s) (symB s) := by
  unfold symB
  refine ev_if (square_ev s hl) (fun hs => ?_) (fun hs => by rw [hs]; exact Ev.now _)
  rw [hs, Bool.true_and]
  have hq := (sqB_iff.1 hs).1
  refine up (Q := fun i => Ev (fun k => privityref10_IsSymmetric.l0 k s (i : Int)) (symPB s i)) (n := s.length) ?_ (fun i hi h => ?_)
  · rw [symPB_iff.2 (SymP.last s)]
    refine Ev.step (fun k => ?_) (Ev.now _)
    simp only [privityref10_IsSymmetric.l0]
    rw [if_neg (by omega)]
  · have h2 := allL (F := fun k j => privityref10_IsSymmetric.l1 k s (i : Int) j) (n := i) (Q := fun j => at2 s i j = at2 s j i) (e := symPB s (i + 1)) ?_ (fun j hj hqj r h => ?_) (fun j hj hqj => ?_) (symPB s i) (by rw [symPB_iff, symPB_iff]; exact SymP.next hi)
    · refine Ev.step (fun k => ?_) h2
      simp only [privityref10_IsSymmetric.l0]
      rw [if_pos (by omega)]; rfl
    · refine Ev.step (fun k => ?_) h
      simp only [privityref10_IsSymmetric.l1]
      rw [if_neg (by omega), wnat (by omega)]
    · refine Ev.step (fun k => ?_) h
      simp only [privityref10_IsSymmetric.l1]
      have l1 := hq.getD i hi
      have l2 := hq.getD j (by omega)
      rw [if_pos (by omega), if_pos (by omega), if_pos (by omega), if_pos (by omega), if_pos (by rw [rdM_nat, l1]; omega), if_pos (by omega), if_pos (by rw [rdM_nat, l2]; omega), rd_at2, rd_at2, if_pos hqj, wnat (by omega)]
    · refine Ev.step (fun k => ?_) (Ev.now _)
      simp only [privityref10_IsSymmetric.l1]
      have l1 := hq.getD i hi
      have l2 := hq.getD j (by omega)
      rw [if_pos (by omega), if_pos (by omega), if_pos (by omega), if_pos (by omega), if_pos (by rw [rdM_nat, l1]; omega), if_pos (by omega), if_pos (by rw [rdM_nat, l2]; omega), rd_at2, rd_at2, if_neg hqj]
end Go.Proofs.Ytkhdocabgmemiaa.E
end
section
/- Printed by a program of this seat (the kit's printer, with the functions that were proved by hand given to it). What stands here: the functions that the statements reach, as plain functions, and that the Go code computes them. -/
namespace Go.Proofs.Ytkhdocabgmemiaa.Pr
open Go.RowKit Go.Proofs.YtkhdocabgmemiaaW.PrintWords Go.Proofs.YtkhdocabgmemiaaW.PrintLast Go.Proofs.YtkhdocabgmemiaaW.PrintMore
attribute [local go_sem] max2_int min2_int max_two min_two max_three min_three max_four min_four   -- for this text's walks alone
set_option linter.unusedVariables false
set_option linter.unusedSimpArgs false

open Go.Proofs.Ytkhdocabgmemiaa.Hw
/-! ### privityref10_Translate: function 27 -/
end Go.Proofs.Ytkhdocabgmemiaa.Pr
end
section
/-
  Chapter 10: rows, values, translations, vanishing polynomials.
-/
namespace Go.Proofs.Ytkhdocabgmemiaa.E
open Go.RowKit Go.Proofs.Ytkhdocabgmemiaa.Pr Go.Proofs.Ytkhdocabgmemiaa.Hw Go.Proofs.Ytkhdocabgmemiaa.Pl Go.Proofs.YtkhdocabgmemiaaW.PrintWords Go.Proofs.YtkhdocabgmemiaaW.PrintLast Go.Proofs.YtkhdocabgmemiaaW.PrintMore
set_option linter.unusedVariables false
set_option linter.unusedSimpArgs false

theorem evI_tab_next {p : Int} (hp : Supp p) [NeZero p.toNat] (x pw : Int) (h : Nat → Int) (i : Nat) (hpw : T p pw = mono (T p x) i) : (evI p x (tabL i h) + h i * pw % p) % p = evI p x (tabL (i + 1) h) := by
  refine T_inj hp (Res.mod hp _) (evI_res hp _ _) ?_
  rw [T_mod hp, T_add, T_mod hp, T_mul, T_tab hp, T_tab hp, hpw]
  rfl
theorem tabL_set (n : Nat) (h : Nat → Int) (j : Nat) (v : Int) : (tabL n h).set j v = tabL n fun i => if i = j then v else h i := by
  refine list_ext_getD (by rw [List.length_set, tabL_length, tabL_length]) fun i => ?_
  rw [tabL_getD, List.getD_eq_getElem?_getD]
  by_cases hi : i < n
  · rw [if_pos hi]
    by_cases e : i = j
    · subst e
      rw [List.getElem?_set_self (by rw [tabL_length]; exact hi), if_pos rfl]; rfl
    · rw [List.getElem?_set_ne (Ne.symm e), if_neg e, ← List.getD_eq_getElem?_getD, tabL_getD, if_pos hi]
  · rw [if_neg hi, List.getElem?_eq_none (by rw [List.length_set, tabL_length]; omega)]; rfl
def rowAcc (p : Int) (n : Nat) (g : Nat → Nat → Int) (x : Int) (i j : Nat) : List Int := tabL n fun b => if b < j then evI p x (tabL (i + 1) fun a => g a b) else evI p x (tabL i fun a => g a b)
theorem rowAcc_length (p : Int) (n : Nat) (g : Nat → Nat → Int) (x : Int) (i j : Nat) : (rowAcc p n g x i j).length = n := tabL_length _ _
theorem rowAcc_next {p : Int} (n : Nat) (g : Nat → Nat → Int) (x : Int) (i j : Nat) (hj : j < n) : (rowAcc p n g x i j).set j (evI p x (tabL (i + 1) fun a => g a j)) = rowAcc p n g x i (j + 1) := by
  unfold rowAcc
  rw [tabL_set]
  refine tabL_congr fun b hb => ?_
  by_cases e : b = j
  · subst e; rw [if_pos rfl, if_pos (by omega)]
  · rw [if_neg e]
    by_cases h : b < j
    · rw [if_pos h, if_pos (by omega)]
    · rw [if_neg h, if_neg (by omega)]
theorem rowAcc_row (p : Int) (n : Nat) (g : Nat → Nat → Int) (x : Int) (i : Nat) : rowAcc p n g x i n = rowAcc p n g x (i + 1) 0 := tabL_congr fun b hb => by rw [if_pos hb, if_neg (by omega)]
theorem brow_ev {p : Int} (hp : Supp p) {n : Nat} {s : List (List Int)} (hq : Sq n s) (hr : ResM p s) (hn : n ≤ 1000) {x : Int} (hx : Res p x) : Ev (fun k => bivariate_Row.f k p s x) (rowX p n (at2 s) x) := by
  haveI := nz hp
  have hb := hp.bd
  have hl := hq.len
  have main : Ev (fun k => bivariate_Row.l0 k p x (rowAcc p n (at2 s) x 0 0) 1 s (s.length : Int) ((0 : Nat) : Int)) (rowX p n (at2 s) x) := by
    refine up (Q := fun i => ∀ pw, Res p pw → T p pw = mono (T p x) i → Ev (fun k => bivariate_Row.l0 k p x (rowAcc p n (at2 s) x i 0) pw s (s.length : Int) (i : Int)) (rowX p n (at2 s) x)) (n := n) ?_ (fun i hi h => ?_) 1 ⟨by omega, by omega⟩ T_one
    · intro pw _ _
      have e : rowAcc p n (at2 s) x n 0 = rowX p n (at2 s) x := tabL_congr fun b hb => by rw [if_neg (by omega)]
      refine Ev.step (f := fun _ => some (rowX p n (at2 s) x)) (fun k => ?_) (Ev.now _)
      simp only [bivariate_Row.l0]
      rw [if_neg (by omega), e]
    · intro pw hpw hT
      have hri := hq.getD i hi
      have hrl : (rd_L1 s (i : Int)).length = n := by rw [rdM_nat]; exact hri
      have hin : Ev (fun k => bivariate_Row.l1 k p x (rowAcc p n (at2 s) x i 0) pw s (s.length : Int) (i : Int) (rd_L1 s (i : Int)) ((rd_L1 s (i : Int)).length : Int) ((0 : Nat) : Int)) (rowX p n (at2 s) x) := by
        refine up (Q := fun j => Ev (fun k => bivariate_Row.l1 k p x (rowAcc p n (at2 s) x i j) pw s (s.length : Int) (i : Int) (rd_L1 s (i : Int)) ((rd_L1 s (i : Int)).length : Int) (j : Int)) (rowX p n (at2 s) x)) (n := n) ?_ (fun j hj h2 => ?_)
        · rw [rowAcc_row]
          refine Ev.step (f := fun k => (field_Mul.f k p pw x).bind fun t => bivariate_Row.l0 k p x (rowAcc p n (at2 s) x (i + 1) 0) t s (s.length : Int) ((i + 1 : Nat) : Int)) (fun k => ?_) (Ev.bind (mul_ev hp hpw hx) (h _ (Res.mod hp _) ?_))
          · simp only [bivariate_Row.l1]
            rw [if_neg (by omega), wnat (by omega)]
          · rw [T_mod hp, T_mul, hT]
            show _ = T p x * mono (T p x) i
            grind
        · have hal := rowAcc_length p n (at2 s) x i j
          have hacc : rd (rowAcc p n (at2 s) x i j) (j : Int) = evI p x (tabL i fun a => at2 s a j) := by
            rw [rd_nat]
            unfold rowAcc
            rw [tabL_getD, if_pos hj, if_neg (by omega)]
          rw [← rowAcc_next n (at2 s) x i j hj, ← evI_tab_next hp x pw (fun a => at2 s a j) i hT] at h2
          refine Ev.step (f := fun k => (field_Mul.f k p (at2 s i j) pw).bind fun t => ((field_Add.f k p (evI p x (tabL i fun a => at2 s a j)) t).bind fun t2 => bivariate_Row.l1 k p x ((rowAcc p n (at2 s) x i j).set j t2) pw s (s.length : Int) (i : Int) (rd_L1 s (i : Int)) ((rd_L1 s (i : Int)).length : Int) ((j + 1 : Nat) : Int))) (fun k => ?_) (Ev.bind (mul_ev hp (hr.at2 hp i j) hpw) (Ev.bind (add_ev hp (evI_res hp _ _) (Res.mod hp _)) h2))
          simp only [bivariate_Row.l1]
          rw [if_pos (by omega), if_pos (by omega), if_pos (by omega), if_pos (by omega), rd_at2, hacc, wnat (by omega), Int.toNat_natCast]
      refine Ev.step (fun k => ?_) hin
      simp only [bivariate_Row.l0]
      rw [if_pos (by omega), if_pos (by omega), if_pos (by omega)]; rfl
  have e0 : List.replicate s.length (0 : Int) = rowAcc p n (at2 s) x 0 0 := by
    refine list_ext_getD (by rw [List.length_replicate, rowAcc_length, hl]) fun i => ?_
    unfold rowAcc
    rw [tabL_getD, List.getD_eq_getElem?_getD, List.getElem?_replicate, hl]
    by_cases hi : i < n
    · rw [if_pos hi, if_pos hi, if_neg (by omega)]; rfl
    · rw [if_neg hi, if_neg hi]; rfl
  refine main.congr fun k => ?_
  unfold bivariate_Row.f
  rw [if_pos (by omega), Int.toNat_natCast, if_pos (by omega), e0]; rfl
theorem beval_ev {p : Int} (hp : Supp p) {n : Nat} {s : List (List Int)} (hq : Sq n s) (hr : ResM p s) (hn : n ≤ 1000) {x y : Int} (hx : Res p x) (hy : Res p y) : Ev (fun k => bivariate_Eval.f k p s x y) (evI p y (rowX p n (at2 s) x)) := by
  refine Ev.congr (fun k => ?_) (Ev.bind (f := fun k t => (poly_Eval.f k p t y).bind fun r => some r) (brow_ev hp hq hr hn hx) (Ev.bind (eval_ev hp hy _ (rowX_res hp n (at2 s) x) (by rw [rowX_length]; omega)) (Ev.now _)))
  unfold bivariate_Eval.f; rfl
theorem unlike_l1 (l : List Int) (hl : l.length ≤ 1000000) (i : Nat) (hi : i < l.length) {r : Bool} (h : Ev (fun k => privityref10_Unlike.l0 k l ((i + 1 : Nat) : Int)) r) : Ev (fun k => privityref10_Unlike.l1 k l (i : Int) ((0 : Nat) : Int)) (decide (∀ j, j < i → l.getD i 0 ≠ l.getD j 0) && r) := by
  refine allL (F := fun k j => privityref10_Unlike.l1 k l (i : Int) j) (n := i) (Q := fun j => l.getD i 0 ≠ l.getD j 0) (e := r) ?_ (fun j hj hq r h => ?_) (fun j hj hq => ?_) _ (by rw [Bool.and_eq_true, decide_eq_true_iff])
  · refine Ev.step (fun k => ?_) h
    simp only [privityref10_Unlike.l1]
    rw [if_neg (by omega), wnat (by omega)]
  · refine Ev.step (fun k => ?_) h
    simp only [privityref10_Unlike.l1]
    rw [if_pos (by omega), if_pos (by omega), if_pos (by omega), if_pos (by omega), if_pos (by omega), rd_nat, rd_nat, if_neg hq, wnat (by omega)]
  · refine Ev.step (fun k => ?_) (Ev.now _)
    simp only [privityref10_Unlike.l1]
    rw [if_pos (by omega), if_pos (by omega), if_pos (by omega), if_pos (by omega), if_pos (by omega), rd_nat, rd_nat, if_pos (Classical.byContradiction hq)]
theorem take_nodup {l : List Int} {i : Nat} (hi : i < l.length) : (l.take (i + 1)).Nodup ↔ ((l.take i).Nodup ∧ ∀ j, j < i → l.getD i 0 ≠ l.getD j 0) := by
  rw [List.take_succ_eq_append_getElem hi, List.nodup_append]
  constructor
  · rintro ⟨h1, _, h3⟩
    refine ⟨h1, fun j hj e => ?_⟩
    rw [Hw.getD_in _ _ hi, Hw.getD_in _ _ (show j < l.length by omega)] at e
    refine h3 l[j] (List.mem_take_iff_getElem.2 ⟨j, by omega, rfl⟩) l[i] (by simp) e.symm
  · rintro ⟨h1, h2⟩
    refine ⟨h1, by simp, fun a ha b hb e => ?_⟩
    obtain ⟨j, hj, rfl⟩ := List.mem_take_iff_getElem.1 ha
    simp only [List.mem_cons, List.not_mem_nil, or_false] at hb
    have := h2 j (by omega)
    rw [Hw.getD_in _ _ hi, Hw.getD_in _ _ (show j < l.length by omega)] at this
    exact this (by rw [← hb, e])
theorem unlike10_ev (l : List Int) (hl : l.length ≤ 1000000) : Ev (fun k => privityref10_Unlike.f k l) (decide l.Nodup) := by
  have main : Ev (fun k => privityref10_Unlike.l0 k l ((0 : Nat) : Int)) (decide l.Nodup) := by
    by_cases hn : l.Nodup
    · rw [decide_eq_true hn]
      refine up (Q := fun i => Ev (fun k => privityref10_Unlike.l0 k l (i : Int)) true) (n := l.length) ?_ (fun i hi h => ?_)
      · refine Ev.step (fun k => ?_) (Ev.now _)
        simp only [privityref10_Unlike.l0]
        rw [if_neg (by omega)]
      · have h1 := unlike_l1 l hl i hi h
        have h2 : (∀ j, j < i → l.getD i 0 ≠ l.getD j 0) := (take_nodup hi).1 (hn.sublist (List.take_sublist _ _)) |>.2
        rw [decide_eq_true h2, Bool.true_and] at h1
        refine Ev.step (fun k => ?_) h1
        simp only [privityref10_Unlike.l0]
        rw [if_pos (by omega)]; rfl
    · rw [decide_eq_false hn]
      have hex : ∃ i, i < l.length ∧ ¬ (∀ j, j < i → l.getD i 0 ≠ l.getD j 0) := Classical.byContradiction fun h => hn (by
        have hall : ∀ m, m ≤ l.length → (l.take m).Nodup := by
          intro m
          induction m with
          | zero => intro _; simp
          | succ m ih => intro hm; exact (take_nodup (by omega)).2 ⟨ih (by omega), Classical.byContradiction fun hq => h ⟨m, by omega, hq⟩⟩
        have := hall l.length (Nat.le_refl _)
        rwa [List.take_length] at this)
      have hend : Ev (fun k => privityref10_Unlike.l0 k l (l.length : Int)) true := by
        refine Ev.step (fun k => ?_) (Ev.now _)
        simp only [privityref10_Unlike.l0]
        rw [if_neg (by omega)]
      obtain ⟨i, hi, hq⟩ := hex
      have hany : ∀ d j, j + d = l.length → ∃ r, Ev (fun k => privityref10_Unlike.l0 k l (j : Int)) r := by
        intro d
        induction d with
        | zero => intro j hj; exact ⟨true, by rw [show j = l.length from by omega]; exact hend⟩
        | succ d ih =>
          intro j hj
          obtain ⟨r, h⟩ := ih (j + 1) (by omega)
          refine ⟨_, Ev.step (fun k => ?_) (unlike_l1 l hl j (by omega) h)⟩
          simp only [privityref10_Unlike.l0]
          rw [if_pos (by omega)]; rfl
      refine up (Q := fun j => Ev (fun k => privityref10_Unlike.l0 k l (j : Int)) false) (n := i) ?_ (fun j hj h => ?_)
      · obtain ⟨r, h⟩ := hany (l.length - (i + 1)) (i + 1) (by omega)
        have h1 := unlike_l1 l hl i hi h
        rw [decide_eq_false hq, Bool.false_and] at h1
        refine Ev.step (fun k => ?_) h1
        simp only [privityref10_Unlike.l0]
        rw [if_pos (by omega)]; rfl
      · have h1 := unlike_l1 l hl j (by omega) h
        rw [Bool.and_false] at h1
        refine Ev.step (fun k => ?_) h1
        simp only [privityref10_Unlike.l0]
        rw [if_pos (by omega)]; rfl
  exact main.congr fun k => rfl
theorem btrans_ev {p : Int} (hp : Supp p) {n : Nat} {s : List (List Int)} (hq : Sq n s) (hr : ResM p s) (hn : n ≤ 1000) {d : Int} (hd : Res p d) {z : List Int} (hz : ∀ x ∈ z, Res p x) (hzl : z.length = n) :
    Ev (fun k => bivariate_Translate.f k p s d z) (matL n (trG p d (fun a => z.getD a 0) (at2 s))) := by
  have hl := hq.len
  obtain ⟨G, hG⟩ : ∃ G, G = trG p d (fun a => z.getD a 0) (at2 s) := ⟨_, rfl⟩
  rw [← hG]
  have main : Ev (fun k => bivariate_Translate.l0 k p d z (matP n G 0) s (s.length : Int) ((0 : Nat) : Int)) (matL n G) := by
    refine up (Q := fun i => Ev (fun k => bivariate_Translate.l0 k p d z (matP n G i) s (s.length : Int) (i : Int)) (matL n G)) (n := n) ?_ (fun i hi h => ?_)
    · refine Ev.step (f := fun _ => some (matL n G)) (fun k => ?_) (Ev.now _)
      simp only [bivariate_Translate.l0]
      rw [if_neg (by omega)]; rfl
    · have hrl : (rd_L1 s (i : Int)).length = n := by rw [rdM_nat]; exact hq.getD i hi
      have hin : Ev (fun k => bivariate_Translate.l1 k p d z (matP n G i) (i : Int) (tabL 0 (G i)) s (s.length : Int) (i : Int) (rd_L1 s (i : Int)) ((rd_L1 s (i : Int)).length : Int) ((0 : Nat) : Int)) (matL n G) := by
        refine up (Q := fun j => Ev (fun k => bivariate_Translate.l1 k p d z (matP n G i) (i : Int) (tabL j (G i)) s (s.length : Int) (i : Int) (rd_L1 s (i : Int)) ((rd_L1 s (i : Int)).length : Int) (j : Int)) (matL n G)) (n := n) ?_ (fun j hj h2 => ?_)
        · rw [matP_succ] at h
          refine Ev.step (fun k => ?_) h
          simp only [bivariate_Translate.l1]
          rw [if_neg (by omega), if_pos (by rw [matP_length]; omega), wnat (by omega)]
        · rw [tabL_succ] at h2
          have hv : G i j = (at2 s i j + d * (z.getD i 0 * z.getD j 0 % p) % p) % p := by rw [hG]; rfl
          rw [hv] at h2
          refine Ev.step (f := fun k => (field_Mul.f k p (z.getD i 0) (z.getD j 0)).bind fun t => ((field_Mul.f k p d t).bind fun t2 => ((field_Add.f k p (at2 s i j) t2).bind fun t3 => (if (tabL j (G i)).length < 17592186044416 then bivariate_Translate.l1 k p d z (matP n G i) (i : Int) (tabL j (G i) ++ [t3]) s (s.length : Int) (i : Int) (rd_L1 s (i : Int)) ((rd_L1 s (i : Int)).length : Int) ((j + 1 : Nat) : Int) else none)))) (fun k => ?_)
            (Ev.bind (mul_ev hp (res_getD hp hz i) (res_getD hp hz j)) (Ev.bind (mul_ev hp hd (Res.mod hp _)) (Ev.bind (add_ev hp (hr.at2 hp i j) (Res.mod hp _)) (h2.congr fun k => if_pos (by rw [tabL_length]; omega)))))
          simp only [bivariate_Translate.l1]
          rw [if_pos (by omega), if_pos (by omega), if_pos (by omega), if_pos (by omega), if_pos (by omega), if_pos (by omega), rd_at2, rd_nat, rd_nat, wnat (by omega)]
      refine Ev.step (fun k => ?_) hin
      simp only [bivariate_Translate.l0]
      rw [if_pos (by omega), if_pos (by omega), if_pos (by omega)]; rfl
  exact main.congr fun k => rfl
def vOut (p n : Int) (z : List Int) (k : Nat) : List Int := tabL (z.length + 1) fun i => if i = 0 ∨ k < i then z.getD i 0 else (z.getD i 0 + n * z.getD (i - 1) 0 % p) % p
theorem vOut_length (p n : Int) (z : List Int) (k : Nat) : (vOut p n z k).length = z.length + 1 := tabL_length _ _
theorem vOut_next (p n : Int) (z : List Int) (k : Nat) (hk : k < z.length) : (vOut p n z k).set (k + 1) ((z.getD (k + 1) 0 + n * z.getD k 0 % p) % p) = vOut p n z (k + 1) := by
  unfold vOut
  rw [tabL_set]
  refine tabL_congr fun i hi => ?_
  by_cases e : i = k + 1
  · subst e; rw [if_pos rfl, if_neg (by omega), Nat.add_sub_cancel]
  · rw [if_neg e]
    by_cases h : i = 0 ∨ k < i
    · rw [if_pos h, if_pos (by omega)]
    · rw [if_neg h, if_neg (by omega)]
theorem vanish_ev {p : Int} (hp : Supp p) {xs : List Int} (hx : ∀ x ∈ xs, Res p x) (h0 : ∀ x ∈ xs, x ≠ 0) (hl : xs.length ≤ 1000) : Ev (fun k => privityref10_Vanish.f k p xs) (vanL p [1] xs) := by
  have hb := hp.bd
  have h1 : ∀ x ∈ ([1] : List Int), Res p x := fun x hx => by
    simp only [List.mem_cons, List.not_mem_nil, or_false] at hx; subst hx; exact ⟨by omega, by omega⟩
  have main : Ev (fun k => privityref10_Vanish.l0 k p xs (vanL p [1] (xs.take 0)) ((0 : Nat) : Int)) (vanL p [1] xs) := by
    refine up (Q := fun i => Ev (fun k => privityref10_Vanish.l0 k p xs (vanL p [1] (xs.take i)) (i : Int)) (vanL p [1] xs)) (n := xs.length) ?_ (fun i hi h => ?_)
    · rw [List.take_length]
      refine Ev.step (f := fun _ => some (vanL p [1] xs)) (fun k => ?_) (Ev.now _)
      simp only [privityref10_Vanish.l0]
      rw [if_neg (by omega)]
    · obtain ⟨z, hz⟩ : ∃ z, z = vanL p [1] (xs.take i) := ⟨_, rfl⟩
      rw [← hz]
      obtain ⟨f1, f2, f3⟩ := vanL_facts hp (xs.take i) [1] h1
      rw [← hz] at f1 f2 f3
      rw [List.length_take] at f2
      simp only [List.length_cons, List.length_nil] at f2
      have hxi : xs.getD i 0 ∈ xs := by rw [Hw.getD_in _ _ hi]; exact List.getElem_mem _
      have hri := hx _ hxi
      have hnz := h0 _ hxi
      have hnext : vanL p [1] (xs.take (i + 1)) = vstep p z (xs.getD i 0) := by
        rw [List.take_succ_eq_append_getElem hi, ← Hw.getD_in _ _ hi, hz]
        unfold vanL
        rw [List.foldl_append]; rfl
      rw [hnext] at h
      have hvr : Res p (vinv p (xs.getD i 0)) := Res.mod hp _
      have hlast : vOut p (vinv p (xs.getD i 0)) z z.length = vstep p z (xs.getD i 0) := by
        refine tabL_congr fun j hj => ?_
        by_cases e : j = 0
        · subst e; rw [if_pos (Or.inl rfl), if_pos rfl]
        · rw [if_neg (by omega), if_neg e]
      have hin : Ev (fun k => privityref10_Vanish.l1 k p xs z (i : Int) (vinv p (xs.getD i 0)) (vOut p (vinv p (xs.getD i 0)) z 0) ((0 : Nat) : Int)) (vanL p [1] xs) := by
        refine up (Q := fun j => Ev (fun k => privityref10_Vanish.l1 k p xs z (i : Int) (vinv p (xs.getD i 0)) (vOut p (vinv p (xs.getD i 0)) z j) (j : Int)) (vanL p [1] xs)) (n := z.length) ?_ (fun j hj h2 => ?_)
        · rw [hlast]
          refine Ev.step (fun k => ?_) h
          simp only [privityref10_Vanish.l1]
          rw [if_neg (by omega), wnat (by omega)]
        · have hol := vOut_length p (vinv p (xs.getD i 0)) z j
          have hrd : rd (vOut p (vinv p (xs.getD i 0)) z j) ((j + 1 : Nat) : Int) = z.getD (j + 1) 0 := by
            rw [rd_nat]
            unfold vOut
            rw [tabL_getD, if_pos (by omega), if_pos (by omega)]
          rw [← vOut_next p _ z j hj] at h2
          refine Ev.step (f := fun k => (privityref01_Mul.f k p (vinv p (xs.getD i 0)) (z.getD j 0)).bind fun t => ((privityref01_Add.f p (z.getD (j + 1) 0) t).bind fun t2 => privityref10_Vanish.l1 k p xs z (i : Int) (vinv p (xs.getD i 0)) ((vOut p (vinv p (xs.getD i 0)) z j).set (j + 1) t2) ((j + 1 : Nat) : Int))) (fun k => ?_) (Ev.bind (rmul_ev hp hvr (res_getD hp f1 j)) (ev_now_bind (radd_eq hp (res_getD hp f1 (j + 1)) (Res.mod hp _)) h2))
          simp only [privityref10_Vanish.l1]
          rw [wnat (by omega), if_pos (by omega), if_pos (by omega), if_pos (by omega), if_pos (by omega), hrd, rd_nat, Int.toNat_natCast]
      have hstart : z ++ [0] = vOut p (vinv p (xs.getD i 0)) z 0 := by
        refine list_ext_getD (by rw [vOut_length, List.length_append]; rfl) fun j => ?_
        unfold vOut
        rw [tabL_getD]
        by_cases hj : j < z.length
        · rw [if_pos (by omega), if_pos (by omega), List.getD_eq_getElem?_getD, List.getElem?_append_left hj, ← List.getD_eq_getElem?_getD]
        · rw [List.getD_eq_getElem?_getD, List.getElem?_append_right (by omega)]
          by_cases e : j = z.length
          · subst e
            rw [if_pos (by omega), if_pos (by omega), Nat.sub_self, getD_out z z.length (Nat.le_refl _)]; rfl
          · rw [if_neg (by omega), List.getElem?_eq_none (by simp; omega)]; rfl
      rw [← hstart] at hin
      refine Ev.step (f := fun k => (privityref01_Inverse.f k p (xs.getD i 0)).bind fun bt => ((privityref01_Sub.f p 0 bt.1).bind fun t => (if ([] : List Int).length + z.length < 17592186044416 then (if ([] ++ z).length < 17592186044416 then privityref10_Vanish.l1 k p xs z (i : Int) t (([] ++ z) ++ [0]) 0 else none) else none))) (fun k => ?_) ?_
      · simp only [privityref10_Vanish.l0]
        rw [if_pos (by omega), if_pos (by omega), rd_nat]
        refine congrArg (Option.bind _) (funext fun bt => congrArg (Option.bind _) (funext fun t => ?_))
        simp only [Option.bind_some]
      · refine Ev.bind (rinv_ev hp hri hnz) (ev_now_bind (rsub_eq hp ⟨Int.le_refl 0, by omega⟩ (inv_res hp _)) (Ev.congr (fun k => if_pos (by simp; omega)) (Ev.congr (fun k => if_pos (by simp; omega)) ?_)))
        exact hin.congr fun k => rfl
  exact main.congr fun k => rfl
/-! A check that leads to facts. -/
theorem ex_if {P : Prop} {A : Nat → Option Bool} {b : Bool} (hA : Ev A b) {X Y : Nat → Option Bool} (hx : b = true → ∃ r, Ev X r ∧ (r = true → P)) (hy : b = false → Ev Y false) : ∃ r, Ev (fun k => (A k).bind fun t => if t = true then X k else Y k) r ∧ (r = true → P) := by
  cases b with
  | true => obtain ⟨r, h1, h2⟩ := hx rfl; exact ⟨r, ev_if hA (fun _ => h1) (fun e => by cases e), h2⟩
  | false => exact ⟨false, ev_if hA (fun e => by cases e) (fun _ => hy rfl), fun e => by cases e⟩
theorem ex_ite {P c : Prop} [Decidable c] {X Y : Nat → Option Bool} (hx : c → ∃ r, Ev X r ∧ (r = true → P)) (hy : ¬ c → Ev Y false) : ∃ r, Ev (fun k => if c then X k else Y k) r ∧ (r = true → P) := by
  by_cases h : c
  · obtain ⟨r, h1, h2⟩ := hx h; exact ⟨r, ev_ite (fun _ => h1) (fun e => absurd h e), h2⟩
  · exact ⟨false, ev_ite (fun e => absurd e h) (fun _ => hy h), fun e => by cases e⟩
def fairS (p : Int) (s : List (List Int)) (m : Nat) : Bool := fairB p s m && sqB s
theorem fairS_ev (p : Int) (s : List (List Int)) (m : Nat) (hm0 : m ≤ 1000) : Ev (fun k => privityref10_Fair.f k p s (m : Int)) (fairS p s m) := by
  unfold fairS
  refine ev_if (fair_ev p s m hm0) (fun hf => ?_) (fun hf => by rw [hf]; exact Ev.now _)
  rw [hf, Bool.true_and]
  refine Ev.congr (fun k => ?_) (square_ev s ?_)
  · cases privityref10_Square.f k s <;> rfl
  · unfold fairB at hf
    rw [Bool.and_eq_true, Bool.and_eq_true, decide_eq_true_iff] at hf
    omega
structure Fs (p : Int) (s : List (List Int)) : Prop where
  hp : Supp p
  n0 : 0 < s.length
  n6 : s.length ≤ 6
  sq : Sq s.length s
  res : ResM p s
theorem fairS_fs {p : Int} {s : List (List Int)} (h : fairS p s 6 = true) (hw : ∀ r ∈ s, ∀ x ∈ r, 0 ≤ x) : Fs p s := by
  unfold fairS at h
  rw [Bool.and_eq_true] at h
  have h1 := fair_res h.1 hw
  have h2 := sqB_iff.1 h.2
  exact ⟨h1.1, h2.2, h1.2.1, h2.1, h1.2.2.2⟩
structure Vt (p : Int) (s : List (List Int)) (xs : List Int) (d x : Int) : Prop where
  fs : Fs p s
  sym : ∀ i, i < s.length → ∀ j, j < s.length → at2 s i j = at2 s j i
  xr : ∀ x ∈ xs, Res p x
  xl : xs.length + 1 = s.length
  nd : (0 :: xs).Nodup
  dr : Res p d
  rx : Res p x
theorem valid_ev (p : Int) (s : List (List Int)) (xs : List Int) (d x : Int) (ws : ∀ r ∈ s, ∀ x ∈ r, 0 ≤ x) (wx : ∀ x ∈ xs, 0 ≤ x) (wd : 0 ≤ d) (wx2 : 0 ≤ x) : ∃ r, Ev (fun k => privitylaw10_validTranslation.f k p s xs d x) r ∧ (r = true → Vt p s xs d x) := by
  have hno : Ev (fun k => privitylaw10_validTranslation.j0 k true p s xs d x) false := Ev.step (f := fun _ => some false) (fun k => by simp only [privitylaw10_validTranslation.j0]; rw [if_pos trivial]) (Ev.now _)
  unfold privitylaw10_validTranslation.f
  refine ex_if (fairS_ev p s 6 (by omega)) (fun h1 => ?_) (fun _ => hno)
  have hf := fairS_fs h1 ws
  have hn6 := hf.n6
  have hn0 := hf.n0
  refine ex_if (rsym_ev s (by omega)) (fun h2 => ex_if (bel_ev p xs 6 (by omega)) (fun h3 => ex_ite (fun h4 => ?_) (fun _ => hno)) (fun _ => hno)) (fun _ => hno)
  rw [w64' (by omega) (by omega)] at h4
  refine ex_if (unlike10_ev xs (by omega)) (fun h5 => ?_) (fun _ => hno)
  by_cases hd : d ≥ p
  · exact ⟨false, hno.congr fun k => if_pos hd, fun e => by cases e⟩
  · by_cases hx : x ≥ p
    · exact ⟨false, hno.congr fun k => by rw [if_neg hd, decide_eq_true hx], fun e => by cases e⟩
    · have hl := allL (F := fun k i => privitylaw10_validTranslation.l0 k i p s xs d x) (n := xs.length) (Q := fun i => xs.getD i 0 ≠ 0) (e := true) ?_ (fun i hi hq r h => ?_) (fun i hi hq => ?_) (decide (∀ i, i < xs.length → xs.getD i 0 ≠ 0)) (by rw [decide_eq_true_iff]; exact ⟨fun h => ⟨h, rfl⟩, fun h => h.1⟩)
      · refine ⟨_, Ev.congr (fun k => by rw [if_neg hd, decide_eq_false hx]) (Ev.step (f := fun k => privitylaw10_validTranslation.l0 k ((0 : Nat) : Int) p s xs d x) (fun k => ?_) hl), fun h6 => ?_⟩
        · simp only [privitylaw10_validTranslation.j0]
          rw [if_neg (by simp)]; rfl
        · rw [decide_eq_true_iff] at h6
          refine ⟨hf, (symB_iff.1 h2).2.2, (bel_res h3 wx).2, by omega, List.nodup_cons.2 ⟨fun hm => ?_, of_decide_eq_true h5⟩, ⟨wd, by omega⟩, ⟨wx2, by omega⟩⟩
          obtain ⟨i, hi, e⟩ := List.getElem_of_mem hm
          exact h6 i hi (by rw [Hw.getD_in _ _ hi]; exact e)
      · refine Ev.step (fun k => ?_) (Ev.now _)
        simp only [privitylaw10_validTranslation.l0]
        rw [if_neg (by omega)]
      · refine Ev.step (fun k => ?_) h
        simp only [privitylaw10_validTranslation.l0]
        rw [if_pos (by omega), if_pos (by omega), rd_nat, if_neg hq, wnat (by omega)]
      · refine Ev.step (fun k => ?_) (Ev.now _)
        simp only [privitylaw10_validTranslation.l0]
        rw [if_pos (by omega), if_pos (by omega), rd_nat, if_pos (Classical.byContradiction hq)]
end Go.Proofs.Ytkhdocabgmemiaa.E
end
section
/-
  What the statements of chapter 10 share: the first check.
-/
namespace Go.Proofs.Ytkhdocabgmemiaa.E
open Go.RowKit Go.Proofs.Ytkhdocabgmemiaa.Pr Go.Proofs.Ytkhdocabgmemiaa.Hw Go.Proofs.Ytkhdocabgmemiaa.Pl Go.Proofs.YtkhdocabgmemiaaW.PrintWords Go.Proofs.YtkhdocabgmemiaaW.PrintLast Go.Proofs.YtkhdocabgmemiaaW.PrintMore
set_option linter.unusedVariables false
set_option linter.unusedSimpArgs false

theorem awake10 : Ev (fun k => privitylaw10_awake.f k) true := Ev.of (fun k => privitylaw10_awake.mono _) (k := 60) privitylaw10_awake.is
theorem awake10' : Ev (fun k => (privitylaw10_awake.f k).bind fun t => some t) true := Ev.bind awake10 (Ev.now _)
end Go.Proofs.Ytkhdocabgmemiaa.E
end
section
/-
  Symmetric matrices with the same rows at the given points differ by a translation.
-/
namespace Go.Proofs.Ytkhdocabgmemiaa.Pure
open Go.RowKit Go.Proofs.Ytkhdocabgmemiaa.Pr Go.Proofs.Ytkhdocabgmemiaa.Hw Go.Proofs.Ytkhdocabgmemiaa.E Go.Proofs.YtkhdocabgmemiaaW.PrintWords Go.Proofs.YtkhdocabgmemiaaW.PrintLast Go.Proofs.YtkhdocabgmemiaaW.PrintMore
set_option linter.unusedVariables false
set_option linter.unusedSimpArgs false

theorem but_main {p : Int} {s o : List (List Int)} {xs : List Int} {d x : Int} (h : Vt p s xs d x) (hf : Fs p o) (hl : o.length = s.length) (so : ∀ i, i < o.length → ∀ j, j < o.length → at2 o i j = at2 o j i) : Ev (fun k => privitylaw10_BivariateUniqueTranslation.j0 k o false p s xs d x) true := by
  have hp := h.fs.hp
  have hb := hp.bd
  have n6 := h.fs.n6
  have n0 := h.fs.n0
  have hxl := h.xl
  have hxs := List.nodup_cons.1 h.nd
  have hoq : Sq s.length o := by have := hf.sq; rwa [hl] at this
  have h1 : ∀ x ∈ ([1] : List Int), Res p x := fun x hx => by
    simp only [List.mem_cons, List.not_mem_nil, or_false] at hx; subst hx; exact ⟨by omega, by omega⟩
  have hnz : ∀ y ∈ xs, y ≠ 0 := fun y hy e => hxs.1 (by rw [← e]; exact hy)
  obtain ⟨f1, f2, f3⟩ := vanL_facts hp xs [1] h1
  have hv := vanish_ev hp h.xr hnz (by omega)
  have hroot : ∀ y ∈ xs, evI p y (vanL p [1] xs) = 0 := fun y hy => vanL_root hp y (h.xr y hy) (hnz y hy) xs [1] hy
  obtain ⟨v, hvv⟩ : ∃ v, v = vanL p [1] xs := ⟨_, rfl⟩
  rw [← hvv] at f1 f2 f3 hv hroot
  simp only [List.length_cons, List.length_nil, List.getD_cons_zero] at f2 f3
  have hvl : v.length = s.length := by omega
  have htab : tabL s.length (fun a => v.getD a 0) = v := by rw [← hvl]; exact tabL_of v
  have hz : Res p 0 := ⟨Int.le_refl 0, by omega⟩
  have hev : ∀ g : Nat → Nat → Int, (∀ i, i < s.length → ∀ j, j < s.length → Res p (g i j)) → evI p 0 (rowX p s.length g 0) = g 0 0 := fun g hg => by
    rw [evI_zero' hp (rowX_res hp _ _ _)]
    unfold rowX
    rw [tabL_getD, if_pos n0, evI_zero' hp (tabL_res fun i hi => hg i hi 0 n0), tabL_getD, if_pos n0]
  have hst : ∀ i, i < xs.length → ∀ k, privitylaw10_BivariateUniqueTranslation.l0 (k + 1) o (i : Int) p s xs d x = (bivariate_Row.f k p o (xs.getD i 0)).bind fun t477 => ((bivariate_Row.f k p s (xs.getD i 0)).bind fun t481 => ((privityref06_SameList.f k t477 t481).bind fun t484 => (if t484 = true then (privitylaw10_BivariateUniqueTranslation.l0 k o ((i + 1 : Nat) : Int) p s xs d x) else ((privitylaw10_awake.f k).bind fun t485 => (some t485))))) := fun i hi k => by
    simp only [privitylaw10_BivariateUniqueTranslation.l0]
    rw [if_pos (by omega), if_pos (by omega), rd_nat, wnat (by omega)]
  have hxi : ∀ i, i < xs.length → xs.getD i 0 ∈ xs := fun i hi => by rw [Hw.getD_in _ _ hi]; exact List.getElem_mem _
  have hro := fun i (hi : i < xs.length) => brow_ev hp hoq hf.res (by omega) (h.xr _ (hxi i hi))
  have hrs := fun i (hi : i < xs.length) => brow_ev hp h.fs.sq h.fs.res (by omega) (h.xr _ (hxi i hi))
  have hsm := fun i => samel_ev (rowX p s.length (at2 o) (xs.getD i 0)) (rowX p s.length (at2 s) (xs.getD i 0)) (by rw [rowX_length]; omega)
  have hl0 : Ev (fun k => privitylaw10_BivariateUniqueTranslation.l0 k o ((0 : Nat) : Int) p s xs d x) true := by
    by_cases hall : ∀ i, i < xs.length → rowX p s.length (at2 o) (xs.getD i 0) = rowX p s.length (at2 s) (xs.getD i 0)
    · have hd0 : Res p ((at2 o 0 0 - at2 s 0 0) % p) := Res.mod hp _
      have hbt := btrans_ev hp h.fs.sq h.fs.res (by omega) hd0 f1 hvl
      have he : matL s.length (trG p ((at2 o 0 0 - at2 s 0 0) % p) (fun a => v.getD a 0) (at2 s)) = o := by
        refine matL_ext (matL_sq _ _) hoq fun i hi j hj => ?_
        rw [at2_matL hi hj]
        refine tr_unique hp h.xr h.nd (by omega) (fun i _ => res_getD hp f1 i) f3 (fun y hy => by rw [htab]; exact hroot y hy) (h.fs.res.at2 hp) (hf.res.at2 hp) h.sym (by rw [← hl]; exact so) (fun y hy => ?_) i hi j hj
        obtain ⟨a, ha, rfl⟩ := List.getElem_of_mem hy
        have := hall a ha
        rwa [Hw.getD_in _ _ ha] at this
      rw [he] at hbt
      have hsame := samem_ev o o (by omega) (fun r hr => by rw [hoq.row r hr]; omega)
      rw [decide_eq_true rfl] at hsame
      have hsub := sub_ev hp (hf.res.at2 hp 0 0) (h.fs.res.at2 hp 0 0)
      have e1 := beval_ev hp hoq hf.res (by omega) hz hz
      have e2 := beval_ev hp h.fs.sq h.fs.res (by omega) hz hz
      rw [hev _ (fun i _ j _ => hf.res.at2 hp i j)] at e1
      rw [hev _ (fun i _ j _ => h.fs.res.at2 hp i j)] at e2
      refine up (Q := fun i => Ev (fun k => privitylaw10_BivariateUniqueTranslation.l0 k o (i : Int) p s xs d x) true) (n := xs.length) ?_ fun i hi hn => ?_
      · refine Ev.step (f := fun k => (bivariate_Eval.f k p o 0 0).bind fun t486 => ((bivariate_Eval.f k p s 0 0).bind fun t487 => ((field_Sub.f k p t486 t487).bind fun t488 => ((privitylaw10_awake.f k).bind fun t489 => (if t489 = true then ((privityref10_Vanish.f k p xs).bind fun t490 => ((bivariate_Translate.f k p s t488 t490).bind fun t493 => ((privityref06_Same.f k t493 o).bind fun t496 => (some t496)))) else (some false)))))) (fun k => ?_) (Ev.bind e1 (Ev.bind e2 (Ev.bind hsub (ev_if awake10 (fun _ => Ev.bind hv (Ev.bind hbt (Ev.bind hsame (Ev.now _)))) fun e => by cases e))))
        simp only [privitylaw10_BivariateUniqueTranslation.l0]
        rw [if_neg (by omega)]
      · have h3 := hsm i
        rw [decide_eq_true (hall i hi)] at h3
        exact Ev.step (hst i hi) (Ev.bind (hro i hi) (Ev.bind (hrs i hi) (ev_if h3 (fun _ => hn) fun e => by cases e)))
    · obtain ⟨i, hi, hq⟩ : ∃ i, i < xs.length ∧ ¬ rowX p s.length (at2 o) (xs.getD i 0) = rowX p s.length (at2 s) (xs.getD i 0) := Classical.byContradiction fun hh => hall fun i hi => Classical.byContradiction fun hq => hh ⟨i, hi, hq⟩
      have hno : ∀ i, i < xs.length → ¬ rowX p s.length (at2 o) (xs.getD i 0) = rowX p s.length (at2 s) (xs.getD i 0) → Ev (fun k => privitylaw10_BivariateUniqueTranslation.l0 k o (i : Int) p s xs d x) true := fun i hi hq => by
        have h3 := hsm i
        rw [decide_eq_false hq] at h3
        exact Ev.step (hst i hi) (Ev.bind (hro i hi) (Ev.bind (hrs i hi) (ev_if h3 (fun e => by cases e) fun _ => awake10')))
      refine up (Q := fun i => Ev (fun k => privitylaw10_BivariateUniqueTranslation.l0 k o (i : Int) p s xs d x) true) (n := i) (hno i hi hq) fun j hj hn => ?_
      by_cases hqj : rowX p s.length (at2 o) (xs.getD j 0) = rowX p s.length (at2 s) (xs.getD j 0)
      · have h3 := hsm j
        rw [decide_eq_true hqj] at h3
        exact Ev.step (hst j (by omega)) (Ev.bind (hro j (by omega)) (Ev.bind (hrs j (by omega)) (ev_if h3 (fun _ => hn) fun e => by cases e)))
      · exact hno j (by omega) hqj
  refine Ev.step (fun k => ?_) hl0
  simp only [privitylaw10_BivariateUniqueTranslation.j0]
  rw [if_neg (by simp)]; rfl
theorem BivariateUniqueTranslation (p : Int) (s : List (List Int)) (xs : List Int) (d x : Int) (o : List (List Int)) (wp : (Lit.int .u64 p).wf = true) (ws : ∀ x_ ∈ s, ∀ y_ ∈ x_, (Lit.int .u64 y_).wf = true) (wx : ∀ x_ ∈ xs, (Lit.int .u64 x_).wf = true) (wd : (Lit.int .u64 d).wf = true) (wx2 : (Lit.int .u64 x).wf = true) (wo : ∀ x_ ∈ o, ∀ y_ ∈ x_, (Lit.int .u64 y_).wf = true) : ∃ k, privitylaw10_BivariateUniqueTranslation.f k p s xs d x o = some true := by
  refine Ev.rounds (r := true) ?_
  have hskip : Ev (fun k => privitylaw10_BivariateUniqueTranslation.j0 k o true p s xs d x) true := Ev.step (f := fun k => (privitylaw10_awake.f k).bind fun t => some t) (fun k => by simp only [privitylaw10_BivariateUniqueTranslation.j0]; rw [if_pos trivial]) awake10'
  obtain ⟨r, h1, h2⟩ := valid_ev p s xs d x (fun r hr y hy => (wf64 (ws r hr y hy)).1) (fun y hy => (wf64 (wx y hy)).1) (wf64 wd).1 (wf64 wx2).1
  refine ev_if h1 (fun e => ev_if (fairS_ev p o 6 (by omega)) (fun h3 => ev_ite (fun h4 => ?_) fun _ => hskip) fun _ => hskip) (fun _ => hskip)
  have hf := fairS_fs h3 fun r hr y hy => (wf64 (wo r hr y hy)).1
  have hn6 := hf.n6
  refine Ev.bind (rsym_ev o (by omega)) ?_
  cases hs : symB o with
  | true => exact but_main (h2 e) hf (by omega) (symB_iff.1 hs).2.2
  | false => exact hskip
end Go.Proofs.Ytkhdocabgmemiaa.Pure
end
section
/-
  What came in, opened: numbers, bools, rows and structs of them, to any depth.
-/
namespace Go.Proofs.Ytkhdocabgmemiaa.Op
open Go.RowKit Go.Proofs.YtkhdocabgmemiaaW.PrintWords
set_option linter.unusedVariables false

/-- What is read of a type's value is a value of d, and Q holds of it. -/
def OpenK {α : Type} (P : Program) (t : TypeId) (d : Kd α) (Q : α → Prop) : Prop :=
  ∀ {H : Type} {enc : TypeId × Value → H} {w : World} {base : Nat} {sp : Nat → Bool} {hd : Bool} {fuel : Nat} {cs : List Value} {x : DataW H × List MemPlace}, DataW.trod enc P w base sp hd fuel t cs = some x → ∃ v : α, d.K w v cs ∧ Q v
theorem openInt {P : Program} {t : TypeId} {k : IntKind} (ht : P.underlying t = some (.int k)) : OpenK P t (Kd.int k) (fun n => (Lit.int k n).wf = true) := by
  intro H enc w base sp hd fuel cs x h
  obtain ⟨n, rfl, _, hw⟩ := DataW.trod_int ht h
  exact ⟨n, rfl, hw⟩
theorem exists_list {α : Type} {R : Nat → α → Prop} : ∀ (n : Nat), (∀ i, i < n → ∃ v, R i v) → ∃ l : List α, l.length = n ∧ ∀ i v, l[i]? = some v → R i v
  | 0, _ => ⟨[], rfl, fun i v h => by simp at h⟩
  | n + 1, h => by
    obtain ⟨l, hl, hr⟩ := exists_list n (fun i hi => h i (by omega))
    obtain ⟨v, hv⟩ := h n (by omega)
    refine ⟨l ++ [v], by simp [hl], fun i u hu => ?_⟩
    by_cases hi : i < n
    · rw [List.getElem?_append_left (by omega)] at hu
      exact hr i u hu
    · rw [List.getElem?_append_right (by omega)] at hu
      by_cases h0 : i - l.length = 0
      · rw [h0] at hu
        simp only [List.getElem?_cons_zero, Option.some.injEq] at hu
        rw [← hu, show i = n from by omega]; exact hv
      · rw [List.getElem?_eq_none (by simp; omega)] at hu; cases hu
theorem openSlice {α : Type} {P : Program} {t e : TypeId} {d : Kd α} {Q : α → Prop} (ht : P.underlying t = some (.slice e)) (hc : P.cellsOf e = d.sz) (he : OpenK P e d Q) : OpenK P t (Kd.slice e d) (fun l => ∀ x ∈ l, Q x) := by
  intro H enc w base sp hd fuel cs x h
  rcases DataW.trod_slice ht h with ⟨rfl, _⟩ | ⟨a, len, cap, elems, rest, n, _, rfl, _, _, hlc, hm, hlen, hel, _, _⟩
  · exact ⟨[], ⟨none, 0, rfl, Nat.le_refl _, rfl, Nat.zero_le _, fun h => absurd h (Nat.lt_irrefl 0)⟩, fun x hx => by cases hx⟩
  · have each : ∀ i, i < len → ∃ v, (∃ c, c.length = d.sz ∧ d.K w v c ∧ ∀ j u, c[j]? = some u → w.cell? (a.add (i * d.sz + j)) = some u) ∧ Q v := by
      intro i hi
      have h1 := hel i hi
      rw [List.getElem?_eq_getElem (by omega), hc] at h1
      obtain ⟨c, hcs, htr⟩ := Option.bind_eq_some_iff.1 h1
      obtain ⟨v, hk, hq⟩ := he htr
      refine ⟨v, ⟨c, d.K_len hk, hk, fun j u hu => ?_⟩, hq⟩
      have h2 := World.cells?_some hcs
      have hj := (List.getElem?_eq_some_iff.1 hu).1
      have h3 := h2.2.2 j (by rw [← d.K_len hk]; exact hj)
      rw [hu] at h3
      rw [← h3, ← Addr.add_add]
    obtain ⟨l, hl, hr⟩ := exists_list len each
    refine ⟨l, ⟨some a, cap, by rw [hl], by omega, rfl, by rw [hl]; simp only [maxLen] at hm; omega, fun _ => ⟨a, rfl, fun j p hj => (hr j p hj).1⟩⟩, fun x hx => ?_⟩
    obtain ⟨i, hi, rfl⟩ := List.getElem_of_mem hx
    exact (hr i _ (List.getElem?_eq_getElem hi)).2
/-- A struct's fields. -/
theorem openFields {P : Program} {H : Type} {enc : TypeId × Value → H} {w : World} {base : Nat} {sp : Nat → Bool} {hd : Bool} {fuel : Nat} {t : TypeId} {cs : List Value} {x : DataW H × List MemPlace} {fs : Array Field} (ht : P.underlying t = some (.struct fs))
    (h : DataW.trod enc P w base sp hd fuel t cs = some x) : cs.length = P.cellsOf t ∧ ∀ (i : Nat) (f : Field), fs[i]? = some f → ∃ n y, DataW.trod enc P w base sp hd n f.type ((cs.drop f.offset).take (P.cellsOf f.type)) = some y := by
  obtain ⟨xs, n, _, _, hl, hlen, hf⟩ := DataW.trod_struct ht h
  refine ⟨hl, fun i f hi => ?_⟩
  have h1 := hf i f hi
  have h2 : i < fs.size := (Array.getElem?_eq_some_iff.1 hi).1
  rw [List.getElem?_eq_getElem (by omega)] at h1
  exact ⟨n, _, h1⟩
end Go.Proofs.Ytkhdocabgmemiaa.Op
end
section
/- The row of the law BivariateUniqueTranslation, out of its plain law and the walk. -/
namespace Go.Proofs.Ytkhdocabgmemiaa.bivariateUniqueTranslation
open Go.ChangeShapes Go.WideShapes Go.ChangeAt Go.RowKit Go.Proofs.Ytkhdocabgmemiaa.Pr Go.Proofs.YtkhdocabgmemiaaW.PrintWords
set_option linter.unusedVariables false
theorem own : ownKnob Try.prog.godebug = none := by kernel_rfl
theorem laidOut : laidOutB Try.prog = true := by kernel_rfl
theorem arr5 (cs : Array Value) (h : cs.size = 5) : ∃ c0_ c1_ c2_ c3_ c4_, cs = #[c0_, c1_, c2_, c3_, c4_] := by
  obtain ⟨l_⟩ := cs
  match l_, h with
  | [c0_, c1_, c2_, c3_, c4_], _ => exact ⟨_, _, _, _, _, rfl⟩
set_option maxHeartbeats 4000000 in
set_option maxRecDepth 100000 in
theorem lifted (os : Os) (started : os.Started) (H : Type) (enc : TypeId × Value → H) :
    ReturnsInHanded {} Try.checked os 7 .any (Rows.bivariateUniqueTranslationSpec.pre6 enc Try.prog Try.f7 Rows.bivariateUniqueTranslationRow.domain false) (Rows.bivariateUniqueTranslationSpec.post enc Try.prog Try.f7 false true false false) := by
  refine returnsInHanded_of_change_sized (C := Try.checked) own started (by kernel_rfl) Try.func7
    (ChangeSpec.witness6 (enc := enc) (C := Try.checked) false ⟨#[], #[.agg #[.int .u64 0, .slice none 0 0, .slice none 0 0, .int .u64 0, .int .u64 0], .slice none 0 0], []⟩ 8 (by kernel_rfl) (by kernel_rfl) (by kernel_rfl) (by kernel_rfl)) ?_
  intro W base args ds gs before hval0 hW hcnd hsz0 _
  have hval : ∀ (j : Nat) t v, Try.f7.params[j]? = some t → args[j]? = some v → Value.okWide Try.prog W .any base t v := hval0
  have hW' := hW
  obtain ⟨p, q, hA0, hV, rfl, hfz, hnd⟩ := hW
  have hA : DataW.TrodAll enc Try.prog W 0 (fun _ => true) true Try.f7.params.toList args.toList ds p := hA0
  rw [Try.params7] at hA hval
  obtain ⟨v0, vs0, d0, ds0, p0, q0, hargs, rfl, rfl, h0, r0⟩ := trodAll_cons hA
  obtain ⟨v1, vs1, d1, ds1, p1, q1, rfl, rfl, rfl, h1, r1⟩ := trodAll_cons r0
  obtain ⟨rfl, rfl, rfl⟩ := trodAll_nil r1
  obtain rfl : args = #[v0, v1] := by cases args; simp_all
  obtain ⟨rfl, rfl⟩ := trodVars_none hV
  have k0 := h0
  have lt0 : ∀ x ∈ p0, x.block < W.heap.size := by obtain ⟨m, hm⟩ := k0; exact DataW.trod_lt m _ _ _ hm
  obtain ⟨cs0, rfl, hs0⟩ := okWide_struct Try.underlying39 (hval 0 39 v0 rfl rfl)
  have hN0 : Try.prog.cellsOf 39 = 5 := by kernel_rfl
  rw [hN0] at hs0
  obtain ⟨x0_0, x0_1, x0_2, x0_3, x0_4, rfl⟩ := arr5 cs0 hs0
  obtain ⟨fu0, hf0⟩ := h0
  have hg0 : DataW.trod enc Try.prog W 0 (fun _ => true) true fu0 39 [x0_0, x0_1, x0_2, x0_3, x0_4] = some (d0, p0) := hf0
  have f0 := (Op.openFields Try.underlying39 hg0).2
  obtain ⟨n0_0, y0_0, e0_0⟩ := f0 0 _ rfl
  have b0_0 : DataW.trod enc Try.prog W 0 (fun _ => true) true n0_0 31 [x0_0] = some y0_0 := e0_0
  obtain ⟨a0_0, e0_0, w0_0⟩ := (Op.openInt (k := .u64) Try.underlying31) b0_0
  cases e0_0
  obtain ⟨n0_1, y0_1, e0_1⟩ := f0 1 _ rfl
  have b0_1 : DataW.trod enc Try.prog W 0 (fun _ => true) true n0_1 24 [x0_1] = some y0_1 := e0_1
  obtain ⟨z0_1, ⟨A0_1, c0_1, e0_1, hc0_1, g0_1⟩, w0_1⟩ := (Op.openSlice (d := (Kd.slice 31 (Kd.int .u64))) Try.underlying24 (by kernel_rfl) (Op.openSlice (d := (Kd.int .u64)) Try.underlying22 (by kernel_rfl) (Op.openInt (k := .u64) Try.underlying31))) b0_1
  cases e0_1
  obtain ⟨n0_2, y0_2, e0_2⟩ := f0 2 _ rfl
  have b0_2 : DataW.trod enc Try.prog W 0 (fun _ => true) true n0_2 22 [x0_2] = some y0_2 := e0_2
  obtain ⟨z0_2, ⟨A0_2, c0_2, e0_2, hc0_2, g0_2⟩, w0_2⟩ := (Op.openSlice (d := (Kd.int .u64)) Try.underlying22 (by kernel_rfl) (Op.openInt (k := .u64) Try.underlying31)) b0_2
  cases e0_2
  obtain ⟨n0_3, y0_3, e0_3⟩ := f0 3 _ rfl
  have b0_3 : DataW.trod enc Try.prog W 0 (fun _ => true) true n0_3 31 [x0_3] = some y0_3 := e0_3
  obtain ⟨a0_3, e0_3, w0_3⟩ := (Op.openInt (k := .u64) Try.underlying31) b0_3
  cases e0_3
  obtain ⟨n0_4, y0_4, e0_4⟩ := f0 4 _ rfl
  have b0_4 : DataW.trod enc Try.prog W 0 (fun _ => true) true n0_4 31 [x0_4] = some y0_4 := e0_4
  obtain ⟨a0_4, e0_4, w0_4⟩ := (Op.openInt (k := .u64) Try.underlying31) b0_4
  cases e0_4
  have k1 := h1
  have lt1 : ∀ x ∈ p1, x.block < W.heap.size := by obtain ⟨m, hm⟩ := k1; exact DataW.trod_lt m _ _ _ hm
  obtain ⟨a1, len1, cap1, rfl⟩ := okWide_slice Try.underlying24 (hval 1 24 v1 rfl rfl)
  obtain ⟨fu1, hf1⟩ := h1
  obtain ⟨z1, ⟨A1, c1, e1, hc1, g1⟩, w1⟩ := (Op.openSlice (d := (Kd.slice 31 (Kd.int .u64))) Try.underlying24 (by kernel_rfl) (Op.openSlice (d := (Kd.int .u64)) Try.underlying22 (by kernel_rfl) (Op.openInt (k := .u64) Try.underlying31))) hf1
  cases e1
  clear hA0 hval0 hsz0
  obtain ⟨kk, hk⟩ := Pure.BivariateUniqueTranslation a0_0 z0_1 z0_2 a0_3 a0_4 z1 w0_0 w0_1 w0_2 w0_3 w0_4 w1
  refine (privitylaw10_BivariateUniqueTranslation.calls kk a0_0 _ _ z0_1 _ _ z0_2 a0_3 a0_4 _ _ z1 true W g0_1 hc0_1 g0_2 hc0_2 g1 hc1 rfl hk).mono fun e W' ⟨he, bel⟩ => ?_
  subst he
  exact ⟨_, rfl, _, _, _, [], _, [], hW', trodAll_mk1 (shut_bool Try.underlying4 _), (trodAll_cons_mk (Below.trod laidOut (by kernel_rfl) (of_decide_eq_true (by kernel_rfl)) k0 bel lt0) (trodAll_cons_mk (Below.trod laidOut (by kernel_rfl) (of_decide_eq_true (by kernel_rfl)) k1 bel lt1) trodAll_mk0)), rfl, bel.frame _, fun h => by cases h⟩
theorem over : Rows.bivariateUniqueTranslationRow.holds Try.pinned (OpenSpec.ofChange Rows.bivariateUniqueTranslationSpec) :=
  OpenClaim.holds_of_wide 7 Try.f7 rfl rfl rfl rfl rfl rfl rfl ⟨rfl, rfl, rfl, rfl, rfl⟩ rfl rfl rfl rfl rfl (by kernel_rfl) Try.func7 (by kernel_rfl)
    (of_decide_eq_true (by kernel_rfl)) (by unfold Func.isWrapper; first | (rw [if_pos (by decide +kernel)]; kernel_rfl) | (rw [if_neg (by decide +kernel)]; exact ⟨rfl, rfl⟩))
    (fun os started H enc _ => lifted os started H enc)
theorem proved : Rows.BivariateUniqueTranslationSaid := over
#print axioms proved
end Go.Proofs.Ytkhdocabgmemiaa.bivariateUniqueTranslation
namespace Go.Proofs.Ytkhdocabgmemiaa
/-- The row, under a short name, for the claim. -/
theorem bivariateUniqueTranslation_holds : Rows.BivariateUniqueTranslationSaid := bivariateUniqueTranslation.proved
end Go.Proofs.Ytkhdocabgmemiaa
end
