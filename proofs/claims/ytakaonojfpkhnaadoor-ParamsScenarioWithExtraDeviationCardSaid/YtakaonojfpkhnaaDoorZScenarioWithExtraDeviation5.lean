/- Part 5 of the proof's texts, joined in build order. -/
import Derived.Test.YtakaonojfpkhnaaDoorZScenarioWithExtraDeviation1
import Derived.Test.YtakaonojfpkhnaaDoorZScenarioWithExtraDeviation4
import Derived.Deep.MidRow
section
/- Printed by a program of this seat (the kit's printer, with the functions that were proved by hand given to it). What stands here: the functions that the statements reach, as plain functions, and that the Go code computes them. -/
namespace Go.Proofs.YtakaonojfpkhnaaDoor.Pr
open Go.RowKit Go.Proofs.YtakaonojfpkhnaaDoorW.PrintWords Go.Proofs.YtakaonojfpkhnaaDoorW.PrintLast Go.Proofs.YtakaonojfpkhnaaDoorW.PrintMore
attribute [local go_sem] max2_int min2_int max_two min_two max_three min_three max_four min_four   -- for this text's walks alone
set_option linter.unusedVariables false
set_option linter.unusedSimpArgs false

open Go.Proofs.YtakaonojfpkhnaaDoor.Hw
/-! ### params_lie: function 32 -/
def params_lie.f (a0_0 : Int) (a0_1 : Int) (a0_2 : Int) (a1_0 : Int) (a1_1 : Int) (a1_2 : Int) (a1_3 : Int) (a1_4 : Int) (a1_5 : Int) (a1_6 : Int) (a1_7 : Int) : Option (Bool) := if a1_4 = 3 then (if a1_0 ≥ 0 then (if a1_3 ≥ 0 then (if a1_7 ≥ 0 then (if a1_1 ≥ 1 then (if a1_1 ≤ a0_1 then (if a1_2 ≥ 0 then (if a1_2 ≤ a0_1 then (if a1_4 ≥ 1 then (if a1_4 ≤ 4 then (if a1_6 ≥ 1 then (some (decide (a1_6 ≤ a0_1))) else (some false)) else (some false)) else (some false)) else (some false)) else (some false)) else (some false)) else (some false)) else (some false)) else (some false)) else (some false)) else (if a1_0 ≥ 0 then (if a1_3 ≥ 0 then (if a1_7 ≥ 0 then (if a1_1 ≥ 1 then (if a1_1 ≤ a0_1 then (if a1_2 ≥ 0 then (if a1_2 ≤ a0_1 then (if a1_4 ≥ 1 then (if a1_4 ≤ 4 then (if a1_6 ≥ 0 then (some (decide (a1_6 ≤ a0_1))) else (some false)) else (some false)) else (some false)) else (some false)) else (some false)) else (some false)) else (some false)) else (some false)) else (some false)) else (some false))
set_option maxHeartbeats 8000000 in
set_option maxRecDepth 100000 in
theorem params_lie.calls (a0_0 : Int) (a0_1 : Int) (a0_2 : Int) (a1_0 : Int) (a1_1 : Int) (a1_2 : Int) (a1_3 : Int) (a1_4 : Int) (a1_5 : Int) (a1_6 : Int) (a1_7 : Int) (r : Bool) (w : World) (h : params_lie.f a0_0 a0_1 a0_2 a1_0 a1_1 a1_2 a1_3 a1_4 a1_5 a1_6 a1_7 = some r) :
  Calls Tryd.prog 32 #[.agg #[.int .u64 a0_0,.int .i64 a0_1,.int .i64 a0_2],.agg #[.int .i64 a1_0,.int .i64 a1_1,.int .i64 a1_2,.int .i64 a1_3,.int .i64 a1_4,.int .u64 a1_5,.int .i64 a1_6,.int .i64 a1_7]] w fun e w' => e = .returned (.bool r) ∧ Below w.heap.size w w' := by
 have hu24 := Tryd.underlying24
 have hu42 := Tryd.underlying42
 have HB := Aside0.mk (Below.refl w.heap.size w)
 have H : (if a1_4 = 3 then (if a1_0 ≥ 0 then (if a1_3 ≥ 0 then (if a1_7 ≥ 0 then (if a1_1 ≥ 1 then (if a1_1 ≤ a0_1 then (if a1_2 ≥ 0 then (if a1_2 ≤ a0_1 then (if a1_4 ≥ 1 then (if a1_4 ≤ 4 then (if a1_6 ≥ 1 then (some (decide (a1_6 ≤ a0_1))) else (some false)) else (some false)) else (some false)) else (some false)) else (some false)) else (some false)) else (some false)) else (some false)) else (some false)) else (some false)) else (if a1_0 ≥ 0 then (if a1_3 ≥ 0 then (if a1_7 ≥ 0 then (if a1_1 ≥ 1 then (if a1_1 ≤ a0_1 then (if a1_2 ≥ 0 then (if a1_2 ≤ a0_1 then (if a1_4 ≥ 1 then (if a1_4 ≤ 4 then (if a1_6 ≥ 0 then (some (decide (a1_6 ≤ a0_1))) else (some false)) else (some false)) else (some false)) else (some false)) else (some false)) else (some false)) else (some false)) else (some false)) else (some false)) else (some false))) = some r := h
 clear h
 by_cases c3 : a1_4 = 3
 ·rw [if_pos c3] at H
  have c3b0 : (a1_4 == 3) = true := beq_iff_eq.mpr c3
  have c3b1 : (a1_4 != 3) = false := bne_eq_false_iff_eq.mpr c3
  clear c3
  by_cases c4 : a1_0 ≥ 0
  ·rw [if_pos c4] at H
   have c4b0 : decide (0 ≤ a1_0) = true := decide_eq_true c4
   clear c4
   by_cases c5 : a1_3 ≥ 0
   ·rw [if_pos c5] at H
    have c5b0 : decide (0 ≤ a1_3) = true := decide_eq_true c5
    clear c5
    by_cases c6 : a1_7 ≥ 0
    ·rw [if_pos c6] at H
     have c6b0 : decide (0 ≤ a1_7) = true := decide_eq_true c6
     clear c6
     by_cases c7 : a1_1 ≥ 1
     ·rw [if_pos c7] at H
      have c7b0 : decide (1 ≤ a1_1) = true := decide_eq_true c7
      clear c7
      by_cases c8 : a1_1 ≤ a0_1
      ·rw [if_pos c8] at H
       have c8b0 : decide (a1_1 ≤ a0_1) = true := decide_eq_true c8
       clear c8
       by_cases c9 : a1_2 ≥ 0
       ·rw [if_pos c9] at H
        have c9b0 : decide (0 ≤ a1_2) = true := decide_eq_true c9
        clear c9
        by_cases c10 : a1_2 ≤ a0_1
        ·rw [if_pos c10] at H
         have c10b0 : decide (a1_2 ≤ a0_1) = true := decide_eq_true c10
         clear c10
         by_cases c11 : a1_4 ≥ 1
         ·rw [if_pos c11] at H
          have c11b0 : decide (1 ≤ a1_4) = true := decide_eq_true c11
          clear c11
          by_cases c12 : a1_4 ≤ 4
          ·rw [if_pos c12] at H
           have c12b0 : decide (a1_4 ≤ 4) = true := decide_eq_true c12
           clear c12
           by_cases c13 : a1_6 ≥ 1
           ·rw [if_pos c13] at H
            have c13b0 : decide (1 ≤ a1_6) = true := decide_eq_true c13
            clear c13
            obtain rfl := Option.some.inj H
            go_enter Tryd.func32,Tryd.ntmps32
            go_wp2_with (first|((with_reducible refine gate_dst (N := 2) rfl ?_);refine box_event ?hg (N := 2) ?hd (cs := #[.int .u64 a0_0,.int .i64 a0_1,.int .i64 a0_2]) (t := 24) ?hr ?_;(case hd => rfl);(case hg => rfl);(case hr => first|(go_simp;done)|(go_simp;rfl));intro gb101 hg w14 hbox hb;have n0_ := Aside0.mk (below_step (by repeat (first|(with_reducible first|exact HB.out|apply below_alloc|apply pw_below_drewN|apply below_drew1)|exact HB.out)) hb);have n1_ := Aside0.mk (hbox);have n2_ := Aside0.mk ((by rw [hg];exact (below_size (by repeat (first|(with_reducible first|exact HB.out|apply below_alloc|apply pw_below_drewN|apply below_drew1)|exact HB.out))) : w.heap.size ≤ gb101));have n3_ := Aside0.mk ((by rw [hg];exact (below_size (by repeat (first|(with_reducible first|exact HB.out|apply below_alloc|apply pw_below_drewN|apply below_drew1)|exact HB.out))) : w.heap.size ≤ gb101));clear HB;have HB := n0_;have BK101 := n1_;have GW101 := n2_;have GE101 := n3_;clear n0_ n1_ n2_ n3_;clear hb hbox hg)|((with_reducible refine gate_dst (N := 3) rfl ?_);refine box_event ?hg (N := 3) ?hd (cs := #[.int .i64 a1_0,.int .i64 a1_1,.int .i64 a1_2,.int .i64 a1_3,.int .i64 a1_4,.int .u64 a1_5,.int .i64 a1_6,.int .i64 a1_7]) (t := 42) ?hr ?_;(case hd => rfl);(case hg => rfl);(case hr => first|(go_simp;done)|(go_simp;rfl));intro gb102 hg w15 hbox hb;have n0_ := Aside0.mk (blk_below (g := gb101) (o := .cells #[.int .u64 a0_0,.int .i64 a0_1,.int .i64 a0_2] 24 (0,0)) (by (with_reducible repeat (first|refine blk_drewN ?_ _|refine blk_drew ?_|refine blk_alloc ?_ _));exact BK101.out) hb);have n1_ := Aside0.mk (below_step (by repeat (first|(with_reducible first|exact HB.out|apply below_alloc|apply pw_below_drewN|apply below_drew1|refine below_set ?_ GE101.out)|exact HB.out)) hb);have n2_ := Aside0.mk (hbox);have n3_ := Aside0.mk ((by rw [hg];exact (below_size (by repeat (first|(with_reducible first|exact HB.out|apply below_alloc|apply pw_below_drewN|apply below_drew1|refine below_set ?_ GE101.out)|exact HB.out))) : w.heap.size ≤ gb102));have n4_ := Aside0.mk ((by rw [hg];exact (below_size (by repeat (first|(with_reducible first|exact HB.out|apply below_alloc|apply pw_below_drewN|apply below_drew1|refine below_set ?_ GE101.out)|exact HB.out))) : w.heap.size ≤ gb102));have n5_ := Aside0.mk ((by rw [hg];exact Nat.ne_of_lt (blk_lt (g := gb101) (o := .cells #[.int .u64 a0_0,.int .i64 a0_1,.int .i64 a0_2] 24 (0,0)) (by (with_reducible repeat (first|refine blk_drewN ?_ _|refine blk_drew ?_|refine blk_alloc ?_ _));exact BK101.out)) : gb101 ≠ gb102));have n6_ := Aside0.mk ((by rw [hg];exact Nat.ne_of_gt (blk_lt (g := gb101) (o := .cells #[.int .u64 a0_0,.int .i64 a0_1,.int .i64 a0_2] 24 (0,0)) (by (with_reducible repeat (first|refine blk_drewN ?_ _|refine blk_drew ?_|refine blk_alloc ?_ _));exact BK101.out)) : gb102 ≠ gb101));clear BK101;clear HB;have BK101 := n0_;have HB := n1_;have BK102 := n2_;have GW102 := n3_;have GE102 := n4_;have NB101_102 := n5_;have NB102_101 := n6_;clear n0_ n1_ n2_ n3_ n4_ n5_ n6_;clear hb hbox hg;have hnb16 := NB102_101.out;have hnc16 := NB101_102.out;have hcz17_0 : w15.cell? ⟨gb102,0,none⟩ = some (.int .i64 a1_0) := (blk_cell BK102.out 0).trans rfl;have hcz17_1 : w15.cell? ⟨gb102,1,none⟩ = some (.int .i64 a1_1) := (blk_cell BK102.out 1).trans rfl;have hcz17_2 : w15.cell? ⟨gb102,2,none⟩ = some (.int .i64 a1_2) := (blk_cell BK102.out 2).trans rfl;have hcz17_3 : w15.cell? ⟨gb102,3,none⟩ = some (.int .i64 a1_3) := (blk_cell BK102.out 3).trans rfl;have hcz17_4 : w15.cell? ⟨gb102,4,none⟩ = some (.int .i64 a1_4) := (blk_cell BK102.out 4).trans rfl;have hcz17_5 : w15.cell? ⟨gb102,5,none⟩ = some (.int .u64 a1_5) := (blk_cell BK102.out 5).trans rfl;have hcz17_6 : w15.cell? ⟨gb102,6,none⟩ = some (.int .i64 a1_6) := (blk_cell BK102.out 6).trans rfl;have hcz17_7 : w15.cell? ⟨gb102,7,none⟩ = some (.int .i64 a1_7) := (blk_cell BK102.out 7).trans rfl;have hfz17_0 := blk_frozen BK102.out 0;have hfz17_1 := blk_frozen BK102.out 1;have hfz17_2 := blk_frozen BK102.out 2;have hfz17_3 := blk_frozen BK102.out 3;have hfz17_4 := blk_frozen BK102.out 4;have hfz17_5 := blk_frozen BK102.out 5;have hfz17_6 := blk_frozen BK102.out 6;have hfz17_7 := blk_frozen BK102.out 7;have hcz18_0 : w15.cell? ⟨gb101,0,none⟩ = some (.int .u64 a0_0) := (blk_cell BK101.out 0).trans rfl;have hcz18_1 : w15.cell? ⟨gb101,1,none⟩ = some (.int .i64 a0_1) := (blk_cell BK101.out 1).trans rfl;have hcz18_2 : w15.cell? ⟨gb101,2,none⟩ = some (.int .i64 a0_2) := (blk_cell BK101.out 2).trans rfl;have hfz18_0 := blk_frozen BK101.out 0;have hfz18_1 := blk_frozen BK101.out 1;have hfz18_2 := blk_frozen BK101.out 2))
            go_ret
            exact ⟨by first|rfl|(simp [errW_none,errW_some] <;> rfl)|(simp [*,errW_none,errW_some] <;> rfl),by repeat (first|(with_reducible first|exact HB.out|apply below_alloc|apply pw_below_drewN|apply below_drew1|refine below_set ?_ GE101.out|refine below_set ?_ GE102.out)|exact HB.out)⟩
           ·rw [if_neg c13] at H
            have c13b0 : decide (1 ≤ a1_6) = false := decide_eq_false c13
            clear c13
            obtain rfl := Option.some.inj H
            go_enter Tryd.func32,Tryd.ntmps32
            go_wp2_with (first|((with_reducible refine gate_dst (N := 2) rfl ?_);refine box_event ?hg (N := 2) ?hd (cs := #[.int .u64 a0_0,.int .i64 a0_1,.int .i64 a0_2]) (t := 24) ?hr ?_;(case hd => rfl);(case hg => rfl);(case hr => first|(go_simp;done)|(go_simp;rfl));intro gb101 hg w19 hbox hb;have n0_ := Aside0.mk (below_step (by repeat (first|(with_reducible first|exact HB.out|apply below_alloc|apply pw_below_drewN|apply below_drew1)|exact HB.out)) hb);have n1_ := Aside0.mk (hbox);have n2_ := Aside0.mk ((by rw [hg];exact (below_size (by repeat (first|(with_reducible first|exact HB.out|apply below_alloc|apply pw_below_drewN|apply below_drew1)|exact HB.out))) : w.heap.size ≤ gb101));have n3_ := Aside0.mk ((by rw [hg];exact (below_size (by repeat (first|(with_reducible first|exact HB.out|apply below_alloc|apply pw_below_drewN|apply below_drew1)|exact HB.out))) : w.heap.size ≤ gb101));clear HB;have HB := n0_;have BK101 := n1_;have GW101 := n2_;have GE101 := n3_;clear n0_ n1_ n2_ n3_;clear hb hbox hg)|((with_reducible refine gate_dst (N := 3) rfl ?_);refine box_event ?hg (N := 3) ?hd (cs := #[.int .i64 a1_0,.int .i64 a1_1,.int .i64 a1_2,.int .i64 a1_3,.int .i64 a1_4,.int .u64 a1_5,.int .i64 a1_6,.int .i64 a1_7]) (t := 42) ?hr ?_;(case hd => rfl);(case hg => rfl);(case hr => first|(go_simp;done)|(go_simp;rfl));intro gb102 hg w20 hbox hb;have n0_ := Aside0.mk (blk_below (g := gb101) (o := .cells #[.int .u64 a0_0,.int .i64 a0_1,.int .i64 a0_2] 24 (0,0)) (by (with_reducible repeat (first|refine blk_drewN ?_ _|refine blk_drew ?_|refine blk_alloc ?_ _));exact BK101.out) hb);have n1_ := Aside0.mk (below_step (by repeat (first|(with_reducible first|exact HB.out|apply below_alloc|apply pw_below_drewN|apply below_drew1|refine below_set ?_ GE101.out)|exact HB.out)) hb);have n2_ := Aside0.mk (hbox);have n3_ := Aside0.mk ((by rw [hg];exact (below_size (by repeat (first|(with_reducible first|exact HB.out|apply below_alloc|apply pw_below_drewN|apply below_drew1|refine below_set ?_ GE101.out)|exact HB.out))) : w.heap.size ≤ gb102));have n4_ := Aside0.mk ((by rw [hg];exact (below_size (by repeat (first|(with_reducible first|exact HB.out|apply below_alloc|apply pw_below_drewN|apply below_drew1|refine below_set ?_ GE101.out)|exact HB.out))) : w.heap.size ≤ gb102));have n5_ := Aside0.mk ((by rw [hg];exact Nat.ne_of_lt (blk_lt (g := gb101) (o := .cells #[.int .u64 a0_0,.int .i64 a0_1,.int .i64 a0_2] 24 (0,0)) (by (with_reducible repeat (first|refine blk_drewN ?_ _|refine blk_drew ?_|refine blk_alloc ?_ _));exact BK101.out)) : gb101 ≠ gb102));have n6_ := Aside0.mk ((by rw [hg];exact Nat.ne_of_gt (blk_lt (g := gb101) (o := .cells #[.int .u64 a0_0,.int .i64 a0_1,.int .i64 a0_2] 24 (0,0)) (by (with_reducible repeat (first|refine blk_drewN ?_ _|refine blk_drew ?_|refine blk_alloc ?_ _));exact BK101.out)) : gb102 ≠ gb101));clear BK101;clear HB;have BK101 := n0_;have HB := n1_;have BK102 := n2_;have GW102 := n3_;have GE102 := n4_;have NB101_102 := n5_;have NB102_101 := n6_;clear n0_ n1_ n2_ n3_ n4_ n5_ n6_;clear hb hbox hg;have hnb21 := NB102_101.out;have hnc21 := NB101_102.out;have hcz22_0 : w20.cell? ⟨gb102,0,none⟩ = some (.int .i64 a1_0) := (blk_cell BK102.out 0).trans rfl;have hcz22_1 : w20.cell? ⟨gb102,1,none⟩ = some (.int .i64 a1_1) := (blk_cell BK102.out 1).trans rfl;have hcz22_2 : w20.cell? ⟨gb102,2,none⟩ = some (.int .i64 a1_2) := (blk_cell BK102.out 2).trans rfl;have hcz22_3 : w20.cell? ⟨gb102,3,none⟩ = some (.int .i64 a1_3) := (blk_cell BK102.out 3).trans rfl;have hcz22_4 : w20.cell? ⟨gb102,4,none⟩ = some (.int .i64 a1_4) := (blk_cell BK102.out 4).trans rfl;have hcz22_5 : w20.cell? ⟨gb102,5,none⟩ = some (.int .u64 a1_5) := (blk_cell BK102.out 5).trans rfl;have hcz22_6 : w20.cell? ⟨gb102,6,none⟩ = some (.int .i64 a1_6) := (blk_cell BK102.out 6).trans rfl;have hcz22_7 : w20.cell? ⟨gb102,7,none⟩ = some (.int .i64 a1_7) := (blk_cell BK102.out 7).trans rfl;have hfz22_0 := blk_frozen BK102.out 0;have hfz22_1 := blk_frozen BK102.out 1;have hfz22_2 := blk_frozen BK102.out 2;have hfz22_3 := blk_frozen BK102.out 3;have hfz22_4 := blk_frozen BK102.out 4;have hfz22_5 := blk_frozen BK102.out 5;have hfz22_6 := blk_frozen BK102.out 6;have hfz22_7 := blk_frozen BK102.out 7;have hcz23_0 : w20.cell? ⟨gb101,0,none⟩ = some (.int .u64 a0_0) := (blk_cell BK101.out 0).trans rfl;have hcz23_1 : w20.cell? ⟨gb101,1,none⟩ = some (.int .i64 a0_1) := (blk_cell BK101.out 1).trans rfl;have hcz23_2 : w20.cell? ⟨gb101,2,none⟩ = some (.int .i64 a0_2) := (blk_cell BK101.out 2).trans rfl;have hfz23_0 := blk_frozen BK101.out 0;have hfz23_1 := blk_frozen BK101.out 1;have hfz23_2 := blk_frozen BK101.out 2))
            go_ret
            exact ⟨by first|rfl|(simp [errW_none,errW_some] <;> rfl)|(simp [*,errW_none,errW_some] <;> rfl),by repeat (first|(with_reducible first|exact HB.out|apply below_alloc|apply pw_below_drewN|apply below_drew1|refine below_set ?_ GE101.out|refine below_set ?_ GE102.out)|exact HB.out)⟩
          ·rw [if_neg c12] at H
           have c12b0 : decide (a1_4 ≤ 4) = false := decide_eq_false c12
           clear c12
           obtain rfl := Option.some.inj H
           go_enter Tryd.func32,Tryd.ntmps32
           go_wp2_with (first|((with_reducible refine gate_dst (N := 2) rfl ?_);refine box_event ?hg (N := 2) ?hd (cs := #[.int .u64 a0_0,.int .i64 a0_1,.int .i64 a0_2]) (t := 24) ?hr ?_;(case hd => rfl);(case hg => rfl);(case hr => first|(go_simp;done)|(go_simp;rfl));intro gb101 hg w24 hbox hb;have n0_ := Aside0.mk (below_step (by repeat (first|(with_reducible first|exact HB.out|apply below_alloc|apply pw_below_drewN|apply below_drew1)|exact HB.out)) hb);have n1_ := Aside0.mk (hbox);have n2_ := Aside0.mk ((by rw [hg];exact (below_size (by repeat (first|(with_reducible first|exact HB.out|apply below_alloc|apply pw_below_drewN|apply below_drew1)|exact HB.out))) : w.heap.size ≤ gb101));have n3_ := Aside0.mk ((by rw [hg];exact (below_size (by repeat (first|(with_reducible first|exact HB.out|apply below_alloc|apply pw_below_drewN|apply below_drew1)|exact HB.out))) : w.heap.size ≤ gb101));clear HB;have HB := n0_;have BK101 := n1_;have GW101 := n2_;have GE101 := n3_;clear n0_ n1_ n2_ n3_;clear hb hbox hg)|((with_reducible refine gate_dst (N := 3) rfl ?_);refine box_event ?hg (N := 3) ?hd (cs := #[.int .i64 a1_0,.int .i64 a1_1,.int .i64 a1_2,.int .i64 a1_3,.int .i64 a1_4,.int .u64 a1_5,.int .i64 a1_6,.int .i64 a1_7]) (t := 42) ?hr ?_;(case hd => rfl);(case hg => rfl);(case hr => first|(go_simp;done)|(go_simp;rfl));intro gb102 hg w25 hbox hb;have n0_ := Aside0.mk (blk_below (g := gb101) (o := .cells #[.int .u64 a0_0,.int .i64 a0_1,.int .i64 a0_2] 24 (0,0)) (by (with_reducible repeat (first|refine blk_drewN ?_ _|refine blk_drew ?_|refine blk_alloc ?_ _));exact BK101.out) hb);have n1_ := Aside0.mk (below_step (by repeat (first|(with_reducible first|exact HB.out|apply below_alloc|apply pw_below_drewN|apply below_drew1|refine below_set ?_ GE101.out)|exact HB.out)) hb);have n2_ := Aside0.mk (hbox);have n3_ := Aside0.mk ((by rw [hg];exact (below_size (by repeat (first|(with_reducible first|exact HB.out|apply below_alloc|apply pw_below_drewN|apply below_drew1|refine below_set ?_ GE101.out)|exact HB.out))) : w.heap.size ≤ gb102));have n4_ := Aside0.mk ((by rw [hg];exact (below_size (by repeat (first|(with_reducible first|exact HB.out|apply below_alloc|apply pw_below_drewN|apply below_drew1|refine below_set ?_ GE101.out)|exact HB.out))) : w.heap.size ≤ gb102));have n5_ := Aside0.mk ((by rw [hg];exact Nat.ne_of_lt (blk_lt (g := gb101) (o := .cells #[.int .u64 a0_0,.int .i64 a0_1,.int .i64 a0_2] 24 (0,0)) (by (with_reducible repeat (first|refine blk_drewN ?_ _|refine blk_drew ?_|refine blk_alloc ?_ _));exact BK101.out)) : gb101 ≠ gb102));have n6_ := Aside0.mk ((by rw [hg];exact Nat.ne_of_gt (blk_lt (g := gb101) (o := .cells #[.int .u64 a0_0,.int .i64 a0_1,.int .i64 a0_2] 24 (0,0)) (by (with_reducible repeat (first|refine blk_drewN ?_ _|refine blk_drew ?_|refine blk_alloc ?_ _));exact BK101.out)) : gb102 ≠ gb101));clear BK101;clear HB;have BK101 := n0_;have HB := n1_;have BK102 := n2_;have GW102 := n3_;have GE102 := n4_;have NB101_102 := n5_;have NB102_101 := n6_;clear n0_ n1_ n2_ n3_ n4_ n5_ n6_;clear hb hbox hg;have hnb26 := NB102_101.out;have hnc26 := NB101_102.out;have hcz27_0 : w25.cell? ⟨gb102,0,none⟩ = some (.int .i64 a1_0) := (blk_cell BK102.out 0).trans rfl;have hcz27_1 : w25.cell? ⟨gb102,1,none⟩ = some (.int .i64 a1_1) := (blk_cell BK102.out 1).trans rfl;have hcz27_2 : w25.cell? ⟨gb102,2,none⟩ = some (.int .i64 a1_2) := (blk_cell BK102.out 2).trans rfl;have hcz27_3 : w25.cell? ⟨gb102,3,none⟩ = some (.int .i64 a1_3) := (blk_cell BK102.out 3).trans rfl;have hcz27_4 : w25.cell? ⟨gb102,4,none⟩ = some (.int .i64 a1_4) := (blk_cell BK102.out 4).trans rfl;have hcz27_5 : w25.cell? ⟨gb102,5,none⟩ = some (.int .u64 a1_5) := (blk_cell BK102.out 5).trans rfl;have hcz27_6 : w25.cell? ⟨gb102,6,none⟩ = some (.int .i64 a1_6) := (blk_cell BK102.out 6).trans rfl;have hcz27_7 : w25.cell? ⟨gb102,7,none⟩ = some (.int .i64 a1_7) := (blk_cell BK102.out 7).trans rfl;have hfz27_0 := blk_frozen BK102.out 0;have hfz27_1 := blk_frozen BK102.out 1;have hfz27_2 := blk_frozen BK102.out 2;have hfz27_3 := blk_frozen BK102.out 3;have hfz27_4 := blk_frozen BK102.out 4;have hfz27_5 := blk_frozen BK102.out 5;have hfz27_6 := blk_frozen BK102.out 6;have hfz27_7 := blk_frozen BK102.out 7;have hcz28_0 : w25.cell? ⟨gb101,0,none⟩ = some (.int .u64 a0_0) := (blk_cell BK101.out 0).trans rfl;have hcz28_1 : w25.cell? ⟨gb101,1,none⟩ = some (.int .i64 a0_1) := (blk_cell BK101.out 1).trans rfl;have hcz28_2 : w25.cell? ⟨gb101,2,none⟩ = some (.int .i64 a0_2) := (blk_cell BK101.out 2).trans rfl;have hfz28_0 := blk_frozen BK101.out 0;have hfz28_1 := blk_frozen BK101.out 1;have hfz28_2 := blk_frozen BK101.out 2))
           go_ret
           exact ⟨by first|rfl|(simp [errW_none,errW_some] <;> rfl)|(simp [*,errW_none,errW_some] <;> rfl),by repeat (first|(with_reducible first|exact HB.out|apply below_alloc|apply pw_below_drewN|apply below_drew1|refine below_set ?_ GE101.out|refine below_set ?_ GE102.out)|exact HB.out)⟩
         ·rw [if_neg c11] at H
          have c11b0 : decide (1 ≤ a1_4) = false := decide_eq_false c11
          clear c11
          obtain rfl := Option.some.inj H
          go_enter Tryd.func32,Tryd.ntmps32
          go_wp2_with (first|((with_reducible refine gate_dst (N := 2) rfl ?_);refine box_event ?hg (N := 2) ?hd (cs := #[.int .u64 a0_0,.int .i64 a0_1,.int .i64 a0_2]) (t := 24) ?hr ?_;(case hd => rfl);(case hg => rfl);(case hr => first|(go_simp;done)|(go_simp;rfl));intro gb101 hg w29 hbox hb;have n0_ := Aside0.mk (below_step (by repeat (first|(with_reducible first|exact HB.out|apply below_alloc|apply pw_below_drewN|apply below_drew1)|exact HB.out)) hb);have n1_ := Aside0.mk (hbox);have n2_ := Aside0.mk ((by rw [hg];exact (below_size (by repeat (first|(with_reducible first|exact HB.out|apply below_alloc|apply pw_below_drewN|apply below_drew1)|exact HB.out))) : w.heap.size ≤ gb101));have n3_ := Aside0.mk ((by rw [hg];exact (below_size (by repeat (first|(with_reducible first|exact HB.out|apply below_alloc|apply pw_below_drewN|apply below_drew1)|exact HB.out))) : w.heap.size ≤ gb101));clear HB;have HB := n0_;have BK101 := n1_;have GW101 := n2_;have GE101 := n3_;clear n0_ n1_ n2_ n3_;clear hb hbox hg)|((with_reducible refine gate_dst (N := 3) rfl ?_);refine box_event ?hg (N := 3) ?hd (cs := #[.int .i64 a1_0,.int .i64 a1_1,.int .i64 a1_2,.int .i64 a1_3,.int .i64 a1_4,.int .u64 a1_5,.int .i64 a1_6,.int .i64 a1_7]) (t := 42) ?hr ?_;(case hd => rfl);(case hg => rfl);(case hr => first|(go_simp;done)|(go_simp;rfl));intro gb102 hg w30 hbox hb;have n0_ := Aside0.mk (blk_below (g := gb101) (o := .cells #[.int .u64 a0_0,.int .i64 a0_1,.int .i64 a0_2] 24 (0,0)) (by (with_reducible repeat (first|refine blk_drewN ?_ _|refine blk_drew ?_|refine blk_alloc ?_ _));exact BK101.out) hb);have n1_ := Aside0.mk (below_step (by repeat (first|(with_reducible first|exact HB.out|apply below_alloc|apply pw_below_drewN|apply below_drew1|refine below_set ?_ GE101.out)|exact HB.out)) hb);have n2_ := Aside0.mk (hbox);have n3_ := Aside0.mk ((by rw [hg];exact (below_size (by repeat (first|(with_reducible first|exact HB.out|apply below_alloc|apply pw_below_drewN|apply below_drew1|refine below_set ?_ GE101.out)|exact HB.out))) : w.heap.size ≤ gb102));have n4_ := Aside0.mk ((by rw [hg];exact (below_size (by repeat (first|(with_reducible first|exact HB.out|apply below_alloc|apply pw_below_drewN|apply below_drew1|refine below_set ?_ GE101.out)|exact HB.out))) : w.heap.size ≤ gb102));have n5_ := Aside0.mk ((by rw [hg];exact Nat.ne_of_lt (blk_lt (g := gb101) (o := .cells #[.int .u64 a0_0,.int .i64 a0_1,.int .i64 a0_2] 24 (0,0)) (by (with_reducible repeat (first|refine blk_drewN ?_ _|refine blk_drew ?_|refine blk_alloc ?_ _));exact BK101.out)) : gb101 ≠ gb102));have n6_ := Aside0.mk ((by rw [hg];exact Nat.ne_of_gt (blk_lt (g := gb101) (o := .cells #[.int .u64 a0_0,.int .i64 a0_1,.int .i64 a0_2] 24 (0,0)) (by (with_reducible repeat (first|refine blk_drewN ?_ _|refine blk_drew ?_|refine blk_alloc ?_ _));exact BK101.out)) : gb102 ≠ gb101));clear BK101;clear HB;have BK101 := n0_;have HB := n1_;have BK102 := n2_;have GW102 := n3_;have GE102 := n4_;have NB101_102 := n5_;have NB102_101 := n6_;clear n0_ n1_ n2_ n3_ n4_ n5_ n6_;clear hb hbox hg;have hnb31 := NB102_101.out;have hnc31 := NB101_102.out;have hcz32_0 : w30.cell? ⟨gb102,0,none⟩ = some (.int .i64 a1_0) := (blk_cell BK102.out 0).trans rfl;have hcz32_1 : w30.cell? ⟨gb102,1,none⟩ = some (.int .i64 a1_1) := (blk_cell BK102.out 1).trans rfl;have hcz32_2 : w30.cell? ⟨gb102,2,none⟩ = some (.int .i64 a1_2) := (blk_cell BK102.out 2).trans rfl;have hcz32_3 : w30.cell? ⟨gb102,3,none⟩ = some (.int .i64 a1_3) := (blk_cell BK102.out 3).trans rfl;have hcz32_4 : w30.cell? ⟨gb102,4,none⟩ = some (.int .i64 a1_4) := (blk_cell BK102.out 4).trans rfl;have hcz32_5 : w30.cell? ⟨gb102,5,none⟩ = some (.int .u64 a1_5) := (blk_cell BK102.out 5).trans rfl;have hcz32_6 : w30.cell? ⟨gb102,6,none⟩ = some (.int .i64 a1_6) := (blk_cell BK102.out 6).trans rfl;have hcz32_7 : w30.cell? ⟨gb102,7,none⟩ = some (.int .i64 a1_7) := (blk_cell BK102.out 7).trans rfl;have hfz32_0 := blk_frozen BK102.out 0;have hfz32_1 := blk_frozen BK102.out 1;have hfz32_2 := blk_frozen BK102.out 2;have hfz32_3 := blk_frozen BK102.out 3;have hfz32_4 := blk_frozen BK102.out 4;have hfz32_5 := blk_frozen BK102.out 5;have hfz32_6 := blk_frozen BK102.out 6;have hfz32_7 := blk_frozen BK102.out 7;have hcz33_0 : w30.cell? ⟨gb101,0,none⟩ = some (.int .u64 a0_0) := (blk_cell BK101.out 0).trans rfl;have hcz33_1 : w30.cell? ⟨gb101,1,none⟩ = some (.int .i64 a0_1) := (blk_cell BK101.out 1).trans rfl;have hcz33_2 : w30.cell? ⟨gb101,2,none⟩ = some (.int .i64 a0_2) := (blk_cell BK101.out 2).trans rfl;have hfz33_0 := blk_frozen BK101.out 0;have hfz33_1 := blk_frozen BK101.out 1;have hfz33_2 := blk_frozen BK101.out 2))
          go_ret
          exact ⟨by first|rfl|(simp [errW_none,errW_some] <;> rfl)|(simp [*,errW_none,errW_some] <;> rfl),by repeat (first|(with_reducible first|exact HB.out|apply below_alloc|apply pw_below_drewN|apply below_drew1|refine below_set ?_ GE101.out|refine below_set ?_ GE102.out)|exact HB.out)⟩
        ·rw [if_neg c10] at H
         have c10b0 : decide (a1_2 ≤ a0_1) = false := decide_eq_false c10
         clear c10
         obtain rfl := Option.some.inj H
         go_enter Tryd.func32,Tryd.ntmps32
         go_wp2_with (first|((with_reducible refine gate_dst (N := 2) rfl ?_);refine box_event ?hg (N := 2) ?hd (cs := #[.int .u64 a0_0,.int .i64 a0_1,.int .i64 a0_2]) (t := 24) ?hr ?_;(case hd => rfl);(case hg => rfl);(case hr => first|(go_simp;done)|(go_simp;rfl));intro gb101 hg w34 hbox hb;have n0_ := Aside0.mk (below_step (by repeat (first|(with_reducible first|exact HB.out|apply below_alloc|apply pw_below_drewN|apply below_drew1)|exact HB.out)) hb);have n1_ := Aside0.mk (hbox);have n2_ := Aside0.mk ((by rw [hg];exact (below_size (by repeat (first|(with_reducible first|exact HB.out|apply below_alloc|apply pw_below_drewN|apply below_drew1)|exact HB.out))) : w.heap.size ≤ gb101));have n3_ := Aside0.mk ((by rw [hg];exact (below_size (by repeat (first|(with_reducible first|exact HB.out|apply below_alloc|apply pw_below_drewN|apply below_drew1)|exact HB.out))) : w.heap.size ≤ gb101));clear HB;have HB := n0_;have BK101 := n1_;have GW101 := n2_;have GE101 := n3_;clear n0_ n1_ n2_ n3_;clear hb hbox hg)|((with_reducible refine gate_dst (N := 3) rfl ?_);refine box_event ?hg (N := 3) ?hd (cs := #[.int .i64 a1_0,.int .i64 a1_1,.int .i64 a1_2,.int .i64 a1_3,.int .i64 a1_4,.int .u64 a1_5,.int .i64 a1_6,.int .i64 a1_7]) (t := 42) ?hr ?_;(case hd => rfl);(case hg => rfl);(case hr => first|(go_simp;done)|(go_simp;rfl));intro gb102 hg w35 hbox hb;have n0_ := Aside0.mk (blk_below (g := gb101) (o := .cells #[.int .u64 a0_0,.int .i64 a0_1,.int .i64 a0_2] 24 (0,0)) (by (with_reducible repeat (first|refine blk_drewN ?_ _|refine blk_drew ?_|refine blk_alloc ?_ _));exact BK101.out) hb);have n1_ := Aside0.mk (below_step (by repeat (first|(with_reducible first|exact HB.out|apply below_alloc|apply pw_below_drewN|apply below_drew1|refine below_set ?_ GE101.out)|exact HB.out)) hb);have n2_ := Aside0.mk (hbox);have n3_ := Aside0.mk ((by rw [hg];exact (below_size (by repeat (first|(with_reducible first|exact HB.out|apply below_alloc|apply pw_below_drewN|apply below_drew1|refine below_set ?_ GE101.out)|exact HB.out))) : w.heap.size ≤ gb102));have n4_ := Aside0.mk ((by rw [hg];exact (below_size (by repeat (first|(with_reducible first|exact HB.out|apply below_alloc|apply pw_below_drewN|apply below_drew1|refine below_set ?_ GE101.out)|exact HB.out))) : w.heap.size ≤ gb102));have n5_ := Aside0.mk ((by rw [hg];exact Nat.ne_of_lt (blk_lt (g := gb101) (o := .cells #[.int .u64 a0_0,.int .i64 a0_1,.int .i64 a0_2] 24 (0,0)) (by (with_reducible repeat (first|refine blk_drewN ?_ _|refine blk_drew ?_|refine blk_alloc ?_ _));exact BK101.out)) : gb101 ≠ gb102));have n6_ := Aside0.mk ((by rw [hg];exact Nat.ne_of_gt (blk_lt (g := gb101) (o := .cells #[.int .u64 a0_0,.int .i64 a0_1,.int .i64 a0_2] 24 (0,0)) (by (with_reducible repeat (first|refine blk_drewN ?_ _|refine blk_drew ?_|refine blk_alloc ?_ _));exact BK101.out)) : gb102 ≠ gb101));clear BK101;clear HB;have BK101 := n0_;have HB := n1_;have BK102 := n2_;have GW102 := n3_;have GE102 := n4_;have NB101_102 := n5_;have NB102_101 := n6_;clear n0_ n1_ n2_ n3_ n4_ n5_ n6_;clear hb hbox hg;have hnb36 := NB102_101.out;have hnc36 := NB101_102.out;have hcz37_0 : w35.cell? ⟨gb102,0,none⟩ = some (.int .i64 a1_0) := (blk_cell BK102.out 0).trans rfl;have hcz37_1 : w35.cell? ⟨gb102,1,none⟩ = some (.int .i64 a1_1) := (blk_cell BK102.out 1).trans rfl;have hcz37_2 : w35.cell? ⟨gb102,2,none⟩ = some (.int .i64 a1_2) := (blk_cell BK102.out 2).trans rfl;have hcz37_3 : w35.cell? ⟨gb102,3,none⟩ = some (.int .i64 a1_3) := (blk_cell BK102.out 3).trans rfl;have hcz37_4 : w35.cell? ⟨gb102,4,none⟩ = some (.int .i64 a1_4) := (blk_cell BK102.out 4).trans rfl;have hcz37_5 : w35.cell? ⟨gb102,5,none⟩ = some (.int .u64 a1_5) := (blk_cell BK102.out 5).trans rfl;have hcz37_6 : w35.cell? ⟨gb102,6,none⟩ = some (.int .i64 a1_6) := (blk_cell BK102.out 6).trans rfl;have hcz37_7 : w35.cell? ⟨gb102,7,none⟩ = some (.int .i64 a1_7) := (blk_cell BK102.out 7).trans rfl;have hfz37_0 := blk_frozen BK102.out 0;have hfz37_1 := blk_frozen BK102.out 1;have hfz37_2 := blk_frozen BK102.out 2;have hfz37_3 := blk_frozen BK102.out 3;have hfz37_4 := blk_frozen BK102.out 4;have hfz37_5 := blk_frozen BK102.out 5;have hfz37_6 := blk_frozen BK102.out 6;have hfz37_7 := blk_frozen BK102.out 7;have hcz38_0 : w35.cell? ⟨gb101,0,none⟩ = some (.int .u64 a0_0) := (blk_cell BK101.out 0).trans rfl;have hcz38_1 : w35.cell? ⟨gb101,1,none⟩ = some (.int .i64 a0_1) := (blk_cell BK101.out 1).trans rfl;have hcz38_2 : w35.cell? ⟨gb101,2,none⟩ = some (.int .i64 a0_2) := (blk_cell BK101.out 2).trans rfl;have hfz38_0 := blk_frozen BK101.out 0;have hfz38_1 := blk_frozen BK101.out 1;have hfz38_2 := blk_frozen BK101.out 2))
         go_ret
         exact ⟨by first|rfl|(simp [errW_none,errW_some] <;> rfl)|(simp [*,errW_none,errW_some] <;> rfl),by repeat (first|(with_reducible first|exact HB.out|apply below_alloc|apply pw_below_drewN|apply below_drew1|refine below_set ?_ GE101.out|refine below_set ?_ GE102.out)|exact HB.out)⟩
       ·rw [if_neg c9] at H
        have c9b0 : decide (0 ≤ a1_2) = false := decide_eq_false c9
        clear c9
        obtain rfl := Option.some.inj H
        go_enter Tryd.func32,Tryd.ntmps32
        go_wp2_with (first|((with_reducible refine gate_dst (N := 2) rfl ?_);refine box_event ?hg (N := 2) ?hd (cs := #[.int .u64 a0_0,.int .i64 a0_1,.int .i64 a0_2]) (t := 24) ?hr ?_;(case hd => rfl);(case hg => rfl);(case hr => first|(go_simp;done)|(go_simp;rfl));intro gb101 hg w39 hbox hb;have n0_ := Aside0.mk (below_step (by repeat (first|(with_reducible first|exact HB.out|apply below_alloc|apply pw_below_drewN|apply below_drew1)|exact HB.out)) hb);have n1_ := Aside0.mk (hbox);have n2_ := Aside0.mk ((by rw [hg];exact (below_size (by repeat (first|(with_reducible first|exact HB.out|apply below_alloc|apply pw_below_drewN|apply below_drew1)|exact HB.out))) : w.heap.size ≤ gb101));have n3_ := Aside0.mk ((by rw [hg];exact (below_size (by repeat (first|(with_reducible first|exact HB.out|apply below_alloc|apply pw_below_drewN|apply below_drew1)|exact HB.out))) : w.heap.size ≤ gb101));clear HB;have HB := n0_;have BK101 := n1_;have GW101 := n2_;have GE101 := n3_;clear n0_ n1_ n2_ n3_;clear hb hbox hg)|((with_reducible refine gate_dst (N := 3) rfl ?_);refine box_event ?hg (N := 3) ?hd (cs := #[.int .i64 a1_0,.int .i64 a1_1,.int .i64 a1_2,.int .i64 a1_3,.int .i64 a1_4,.int .u64 a1_5,.int .i64 a1_6,.int .i64 a1_7]) (t := 42) ?hr ?_;(case hd => rfl);(case hg => rfl);(case hr => first|(go_simp;done)|(go_simp;rfl));intro gb102 hg w40 hbox hb;have n0_ := Aside0.mk (blk_below (g := gb101) (o := .cells #[.int .u64 a0_0,.int .i64 a0_1,.int .i64 a0_2] 24 (0,0)) (by (with_reducible repeat (first|refine blk_drewN ?_ _|refine blk_drew ?_|refine blk_alloc ?_ _));exact BK101.out) hb);have n1_ := Aside0.mk (below_step (by repeat (first|(with_reducible first|exact HB.out|apply below_alloc|apply pw_below_drewN|apply below_drew1|refine below_set ?_ GE101.out)|exact HB.out)) hb);have n2_ := Aside0.mk (hbox);have n3_ := Aside0.mk ((by rw [hg];exact (below_size (by repeat (first|(with_reducible first|exact HB.out|apply below_alloc|apply pw_below_drewN|apply below_drew1|refine below_set ?_ GE101.out)|exact HB.out))) : w.heap.size ≤ gb102));have n4_ := Aside0.mk ((by rw [hg];exact (below_size (by repeat (first|(with_reducible first|exact HB.out|apply below_alloc|apply pw_below_drewN|apply below_drew1|refine below_set ?_ GE101.out)|exact HB.out))) : w.heap.size ≤ gb102));have n5_ := Aside0.mk ((by rw [hg];exact Nat.ne_of_lt (blk_lt (g := gb101) (o := .cells #[.int .u64 a0_0,.int .i64 a0_1,.int .i64 a0_2] 24 (0,0)) (by (with_reducible repeat (first|refine blk_drewN ?_ _|refine blk_drew ?_|refine blk_alloc ?_ _));exact BK101.out)) : gb101 ≠ gb102));have n6_ := Aside0.mk ((by rw [hg];exact Nat.ne_of_gt (blk_lt (g := gb101) (o := .cells #[.int .u64 a0_0,.int .i64 a0_1,.int .i64 a0_2] 24 (0,0)) (by (with_reducible repeat (first|refine blk_drewN ?_ _|refine blk_drew ?_|refine blk_alloc ?_ _));exact BK101.out)) : gb102 ≠ gb101));clear BK101;clear HB;have BK101 := n0_;have HB := n1_;have BK102 := n2_;have GW102 := n3_;have GE102 := n4_;have NB101_102 := n5_;have NB102_101 := n6_;clear n0_ n1_ n2_ n3_ n4_ n5_ n6_;clear hb hbox hg;have hnb41 := NB102_101.out;have hnc41 := NB101_102.out;have hcz42_0 : w40.cell? ⟨gb102,0,none⟩ = some (.int .i64 a1_0) := (blk_cell BK102.out 0).trans rfl;have hcz42_1 : w40.cell? ⟨gb102,1,none⟩ = some (.int .i64 a1_1) := (blk_cell BK102.out 1).trans rfl;have hcz42_2 : w40.cell? ⟨gb102,2,none⟩ = some (.int .i64 a1_2) := (blk_cell BK102.out 2).trans rfl;have hcz42_3 : w40.cell? ⟨gb102,3,none⟩ = some (.int .i64 a1_3) := (blk_cell BK102.out 3).trans rfl;have hcz42_4 : w40.cell? ⟨gb102,4,none⟩ = some (.int .i64 a1_4) := (blk_cell BK102.out 4).trans rfl;have hcz42_5 : w40.cell? ⟨gb102,5,none⟩ = some (.int .u64 a1_5) := (blk_cell BK102.out 5).trans rfl;have hcz42_6 : w40.cell? ⟨gb102,6,none⟩ = some (.int .i64 a1_6) := (blk_cell BK102.out 6).trans rfl;have hcz42_7 : w40.cell? ⟨gb102,7,none⟩ = some (.int .i64 a1_7) := (blk_cell BK102.out 7).trans rfl;have hfz42_0 := blk_frozen BK102.out 0;have hfz42_1 := blk_frozen BK102.out 1;have hfz42_2 := blk_frozen BK102.out 2;have hfz42_3 := blk_frozen BK102.out 3;have hfz42_4 := blk_frozen BK102.out 4;have hfz42_5 := blk_frozen BK102.out 5;have hfz42_6 := blk_frozen BK102.out 6;have hfz42_7 := blk_frozen BK102.out 7;have hcz43_0 : w40.cell? ⟨gb101,0,none⟩ = some (.int .u64 a0_0) := (blk_cell BK101.out 0).trans rfl;have hcz43_1 : w40.cell? ⟨gb101,1,none⟩ = some (.int .i64 a0_1) := (blk_cell BK101.out 1).trans rfl;have hcz43_2 : w40.cell? ⟨gb101,2,none⟩ = some (.int .i64 a0_2) := (blk_cell BK101.out 2).trans rfl;have hfz43_0 := blk_frozen BK101.out 0;have hfz43_1 := blk_frozen BK101.out 1;have hfz43_2 := blk_frozen BK101.out 2))
        go_ret
        exact ⟨by first|rfl|(simp [errW_none,errW_some] <;> rfl)|(simp [*,errW_none,errW_some] <;> rfl),by repeat (first|(with_reducible first|exact HB.out|apply below_alloc|apply pw_below_drewN|apply below_drew1|refine below_set ?_ GE101.out|refine below_set ?_ GE102.out)|exact HB.out)⟩
      ·rw [if_neg c8] at H
       have c8b0 : decide (a1_1 ≤ a0_1) = false := decide_eq_false c8
       clear c8
       obtain rfl := Option.some.inj H
       go_enter Tryd.func32,Tryd.ntmps32
       go_wp2_with (first|((with_reducible refine gate_dst (N := 2) rfl ?_);refine box_event ?hg (N := 2) ?hd (cs := #[.int .u64 a0_0,.int .i64 a0_1,.int .i64 a0_2]) (t := 24) ?hr ?_;(case hd => rfl);(case hg => rfl);(case hr => first|(go_simp;done)|(go_simp;rfl));intro gb101 hg w44 hbox hb;have n0_ := Aside0.mk (below_step (by repeat (first|(with_reducible first|exact HB.out|apply below_alloc|apply pw_below_drewN|apply below_drew1)|exact HB.out)) hb);have n1_ := Aside0.mk (hbox);have n2_ := Aside0.mk ((by rw [hg];exact (below_size (by repeat (first|(with_reducible first|exact HB.out|apply below_alloc|apply pw_below_drewN|apply below_drew1)|exact HB.out))) : w.heap.size ≤ gb101));have n3_ := Aside0.mk ((by rw [hg];exact (below_size (by repeat (first|(with_reducible first|exact HB.out|apply below_alloc|apply pw_below_drewN|apply below_drew1)|exact HB.out))) : w.heap.size ≤ gb101));clear HB;have HB := n0_;have BK101 := n1_;have GW101 := n2_;have GE101 := n3_;clear n0_ n1_ n2_ n3_;clear hb hbox hg)|((with_reducible refine gate_dst (N := 3) rfl ?_);refine box_event ?hg (N := 3) ?hd (cs := #[.int .i64 a1_0,.int .i64 a1_1,.int .i64 a1_2,.int .i64 a1_3,.int .i64 a1_4,.int .u64 a1_5,.int .i64 a1_6,.int .i64 a1_7]) (t := 42) ?hr ?_;(case hd => rfl);(case hg => rfl);(case hr => first|(go_simp;done)|(go_simp;rfl));intro gb102 hg w45 hbox hb;have n0_ := Aside0.mk (blk_below (g := gb101) (o := .cells #[.int .u64 a0_0,.int .i64 a0_1,.int .i64 a0_2] 24 (0,0)) (by (with_reducible repeat (first|refine blk_drewN ?_ _|refine blk_drew ?_|refine blk_alloc ?_ _));exact BK101.out) hb);have n1_ := Aside0.mk (below_step (by repeat (first|(with_reducible first|exact HB.out|apply below_alloc|apply pw_below_drewN|apply below_drew1|refine below_set ?_ GE101.out)|exact HB.out)) hb);have n2_ := Aside0.mk (hbox);have n3_ := Aside0.mk ((by rw [hg];exact (below_size (by repeat (first|(with_reducible first|exact HB.out|apply below_alloc|apply pw_below_drewN|apply below_drew1|refine below_set ?_ GE101.out)|exact HB.out))) : w.heap.size ≤ gb102));have n4_ := Aside0.mk ((by rw [hg];exact (below_size (by repeat (first|(with_reducible first|exact HB.out|apply below_alloc|apply pw_below_drewN|apply below_drew1|refine below_set ?_ GE101.out)|exact HB.out))) : w.heap.size ≤ gb102));have n5_ := Aside0.mk ((by rw [hg];exact Nat.ne_of_lt (blk_lt (g := gb101) (o := .cells #[.int .u64 a0_0,.int .i64 a0_1,.int .i64 a0_2] 24 (0,0)) (by (with_reducible repeat (first|refine blk_drewN ?_ _|refine blk_drew ?_|refine blk_alloc ?_ _));exact BK101.out)) : gb101 ≠ gb102));have n6_ := Aside0.mk ((by rw [hg];exact Nat.ne_of_gt (blk_lt (g := gb101) (o := .cells #[.int .u64 a0_0,.int .i64 a0_1,.int .i64 a0_2] 24 (0,0)) (by (with_reducible repeat (first|refine blk_drewN ?_ _|refine blk_drew ?_|refine blk_alloc ?_ _));exact BK101.out)) : gb102 ≠ gb101));clear BK101;clear HB;have BK101 := n0_;have HB := n1_;have BK102 := n2_;have GW102 := n3_;have GE102 := n4_;have NB101_102 := n5_;have NB102_101 := n6_;clear n0_ n1_ n2_ n3_ n4_ n5_ n6_;clear hb hbox hg;have hnb46 := NB102_101.out;have hnc46 := NB101_102.out;have hcz47_0 : w45.cell? ⟨gb102,0,none⟩ = some (.int .i64 a1_0) := (blk_cell BK102.out 0).trans rfl;have hcz47_1 : w45.cell? ⟨gb102,1,none⟩ = some (.int .i64 a1_1) := (blk_cell BK102.out 1).trans rfl;have hcz47_2 : w45.cell? ⟨gb102,2,none⟩ = some (.int .i64 a1_2) := (blk_cell BK102.out 2).trans rfl;have hcz47_3 : w45.cell? ⟨gb102,3,none⟩ = some (.int .i64 a1_3) := (blk_cell BK102.out 3).trans rfl;have hcz47_4 : w45.cell? ⟨gb102,4,none⟩ = some (.int .i64 a1_4) := (blk_cell BK102.out 4).trans rfl;have hcz47_5 : w45.cell? ⟨gb102,5,none⟩ = some (.int .u64 a1_5) := (blk_cell BK102.out 5).trans rfl;have hcz47_6 : w45.cell? ⟨gb102,6,none⟩ = some (.int .i64 a1_6) := (blk_cell BK102.out 6).trans rfl;have hcz47_7 : w45.cell? ⟨gb102,7,none⟩ = some (.int .i64 a1_7) := (blk_cell BK102.out 7).trans rfl;have hfz47_0 := blk_frozen BK102.out 0;have hfz47_1 := blk_frozen BK102.out 1;have hfz47_2 := blk_frozen BK102.out 2;have hfz47_3 := blk_frozen BK102.out 3;have hfz47_4 := blk_frozen BK102.out 4;have hfz47_5 := blk_frozen BK102.out 5;have hfz47_6 := blk_frozen BK102.out 6;have hfz47_7 := blk_frozen BK102.out 7;have hcz48_0 : w45.cell? ⟨gb101,0,none⟩ = some (.int .u64 a0_0) := (blk_cell BK101.out 0).trans rfl;have hcz48_1 : w45.cell? ⟨gb101,1,none⟩ = some (.int .i64 a0_1) := (blk_cell BK101.out 1).trans rfl;have hcz48_2 : w45.cell? ⟨gb101,2,none⟩ = some (.int .i64 a0_2) := (blk_cell BK101.out 2).trans rfl;have hfz48_0 := blk_frozen BK101.out 0;have hfz48_1 := blk_frozen BK101.out 1;have hfz48_2 := blk_frozen BK101.out 2))
       go_ret
       exact ⟨by first|rfl|(simp [errW_none,errW_some] <;> rfl)|(simp [*,errW_none,errW_some] <;> rfl),by repeat (first|(with_reducible first|exact HB.out|apply below_alloc|apply pw_below_drewN|apply below_drew1|refine below_set ?_ GE101.out|refine below_set ?_ GE102.out)|exact HB.out)⟩
     ·rw [if_neg c7] at H
      have c7b0 : decide (1 ≤ a1_1) = false := decide_eq_false c7
      clear c7
      obtain rfl := Option.some.inj H
      go_enter Tryd.func32,Tryd.ntmps32
      go_wp2_with (first|((with_reducible refine gate_dst (N := 2) rfl ?_);refine box_event ?hg (N := 2) ?hd (cs := #[.int .u64 a0_0,.int .i64 a0_1,.int .i64 a0_2]) (t := 24) ?hr ?_;(case hd => rfl);(case hg => rfl);(case hr => first|(go_simp;done)|(go_simp;rfl));intro gb101 hg w49 hbox hb;have n0_ := Aside0.mk (below_step (by repeat (first|(with_reducible first|exact HB.out|apply below_alloc|apply pw_below_drewN|apply below_drew1)|exact HB.out)) hb);have n1_ := Aside0.mk (hbox);have n2_ := Aside0.mk ((by rw [hg];exact (below_size (by repeat (first|(with_reducible first|exact HB.out|apply below_alloc|apply pw_below_drewN|apply below_drew1)|exact HB.out))) : w.heap.size ≤ gb101));have n3_ := Aside0.mk ((by rw [hg];exact (below_size (by repeat (first|(with_reducible first|exact HB.out|apply below_alloc|apply pw_below_drewN|apply below_drew1)|exact HB.out))) : w.heap.size ≤ gb101));clear HB;have HB := n0_;have BK101 := n1_;have GW101 := n2_;have GE101 := n3_;clear n0_ n1_ n2_ n3_;clear hb hbox hg)|((with_reducible refine gate_dst (N := 3) rfl ?_);refine box_event ?hg (N := 3) ?hd (cs := #[.int .i64 a1_0,.int .i64 a1_1,.int .i64 a1_2,.int .i64 a1_3,.int .i64 a1_4,.int .u64 a1_5,.int .i64 a1_6,.int .i64 a1_7]) (t := 42) ?hr ?_;(case hd => rfl);(case hg => rfl);(case hr => first|(go_simp;done)|(go_simp;rfl));intro gb102 hg w50 hbox hb;have n0_ := Aside0.mk (blk_below (g := gb101) (o := .cells #[.int .u64 a0_0,.int .i64 a0_1,.int .i64 a0_2] 24 (0,0)) (by (with_reducible repeat (first|refine blk_drewN ?_ _|refine blk_drew ?_|refine blk_alloc ?_ _));exact BK101.out) hb);have n1_ := Aside0.mk (below_step (by repeat (first|(with_reducible first|exact HB.out|apply below_alloc|apply pw_below_drewN|apply below_drew1|refine below_set ?_ GE101.out)|exact HB.out)) hb);have n2_ := Aside0.mk (hbox);have n3_ := Aside0.mk ((by rw [hg];exact (below_size (by repeat (first|(with_reducible first|exact HB.out|apply below_alloc|apply pw_below_drewN|apply below_drew1|refine below_set ?_ GE101.out)|exact HB.out))) : w.heap.size ≤ gb102));have n4_ := Aside0.mk ((by rw [hg];exact (below_size (by repeat (first|(with_reducible first|exact HB.out|apply below_alloc|apply pw_below_drewN|apply below_drew1|refine below_set ?_ GE101.out)|exact HB.out))) : w.heap.size ≤ gb102));have n5_ := Aside0.mk ((by rw [hg];exact Nat.ne_of_lt (blk_lt (g := gb101) (o := .cells #[.int .u64 a0_0,.int .i64 a0_1,.int .i64 a0_2] 24 (0,0)) (by (with_reducible repeat (first|refine blk_drewN ?_ _|refine blk_drew ?_|refine blk_alloc ?_ _));exact BK101.out)) : gb101 ≠ gb102));have n6_ := Aside0.mk ((by rw [hg];exact Nat.ne_of_gt (blk_lt (g := gb101) (o := .cells #[.int .u64 a0_0,.int .i64 a0_1,.int .i64 a0_2] 24 (0,0)) (by (with_reducible repeat (first|refine blk_drewN ?_ _|refine blk_drew ?_|refine blk_alloc ?_ _));exact BK101.out)) : gb102 ≠ gb101));clear BK101;clear HB;have BK101 := n0_;have HB := n1_;have BK102 := n2_;have GW102 := n3_;have GE102 := n4_;have NB101_102 := n5_;have NB102_101 := n6_;clear n0_ n1_ n2_ n3_ n4_ n5_ n6_;clear hb hbox hg;have hnb51 := NB102_101.out;have hnc51 := NB101_102.out;have hcz52_0 : w50.cell? ⟨gb102,0,none⟩ = some (.int .i64 a1_0) := (blk_cell BK102.out 0).trans rfl;have hcz52_1 : w50.cell? ⟨gb102,1,none⟩ = some (.int .i64 a1_1) := (blk_cell BK102.out 1).trans rfl;have hcz52_2 : w50.cell? ⟨gb102,2,none⟩ = some (.int .i64 a1_2) := (blk_cell BK102.out 2).trans rfl;have hcz52_3 : w50.cell? ⟨gb102,3,none⟩ = some (.int .i64 a1_3) := (blk_cell BK102.out 3).trans rfl;have hcz52_4 : w50.cell? ⟨gb102,4,none⟩ = some (.int .i64 a1_4) := (blk_cell BK102.out 4).trans rfl;have hcz52_5 : w50.cell? ⟨gb102,5,none⟩ = some (.int .u64 a1_5) := (blk_cell BK102.out 5).trans rfl;have hcz52_6 : w50.cell? ⟨gb102,6,none⟩ = some (.int .i64 a1_6) := (blk_cell BK102.out 6).trans rfl;have hcz52_7 : w50.cell? ⟨gb102,7,none⟩ = some (.int .i64 a1_7) := (blk_cell BK102.out 7).trans rfl;have hfz52_0 := blk_frozen BK102.out 0;have hfz52_1 := blk_frozen BK102.out 1;have hfz52_2 := blk_frozen BK102.out 2;have hfz52_3 := blk_frozen BK102.out 3;have hfz52_4 := blk_frozen BK102.out 4;have hfz52_5 := blk_frozen BK102.out 5;have hfz52_6 := blk_frozen BK102.out 6;have hfz52_7 := blk_frozen BK102.out 7))
      go_ret
      exact ⟨by first|rfl|(simp [errW_none,errW_some] <;> rfl)|(simp [*,errW_none,errW_some] <;> rfl),by repeat (first|(with_reducible first|exact HB.out|apply below_alloc|apply pw_below_drewN|apply below_drew1|refine below_set ?_ GE101.out|refine below_set ?_ GE102.out)|exact HB.out)⟩
    ·rw [if_neg c6] at H
     have c6b0 : decide (0 ≤ a1_7) = false := decide_eq_false c6
     clear c6
     obtain rfl := Option.some.inj H
     go_enter Tryd.func32,Tryd.ntmps32
     go_wp2_with (first|((with_reducible refine gate_dst (N := 2) rfl ?_);refine box_event ?hg (N := 2) ?hd (cs := #[.int .u64 a0_0,.int .i64 a0_1,.int .i64 a0_2]) (t := 24) ?hr ?_;(case hd => rfl);(case hg => rfl);(case hr => first|(go_simp;done)|(go_simp;rfl));intro gb101 hg w53 hbox hb;have n0_ := Aside0.mk (below_step (by repeat (first|(with_reducible first|exact HB.out|apply below_alloc|apply pw_below_drewN|apply below_drew1)|exact HB.out)) hb);have n1_ := Aside0.mk (hbox);have n2_ := Aside0.mk ((by rw [hg];exact (below_size (by repeat (first|(with_reducible first|exact HB.out|apply below_alloc|apply pw_below_drewN|apply below_drew1)|exact HB.out))) : w.heap.size ≤ gb101));have n3_ := Aside0.mk ((by rw [hg];exact (below_size (by repeat (first|(with_reducible first|exact HB.out|apply below_alloc|apply pw_below_drewN|apply below_drew1)|exact HB.out))) : w.heap.size ≤ gb101));clear HB;have HB := n0_;have BK101 := n1_;have GW101 := n2_;have GE101 := n3_;clear n0_ n1_ n2_ n3_;clear hb hbox hg)|((with_reducible refine gate_dst (N := 3) rfl ?_);refine box_event ?hg (N := 3) ?hd (cs := #[.int .i64 a1_0,.int .i64 a1_1,.int .i64 a1_2,.int .i64 a1_3,.int .i64 a1_4,.int .u64 a1_5,.int .i64 a1_6,.int .i64 a1_7]) (t := 42) ?hr ?_;(case hd => rfl);(case hg => rfl);(case hr => first|(go_simp;done)|(go_simp;rfl));intro gb102 hg w54 hbox hb;have n0_ := Aside0.mk (blk_below (g := gb101) (o := .cells #[.int .u64 a0_0,.int .i64 a0_1,.int .i64 a0_2] 24 (0,0)) (by (with_reducible repeat (first|refine blk_drewN ?_ _|refine blk_drew ?_|refine blk_alloc ?_ _));exact BK101.out) hb);have n1_ := Aside0.mk (below_step (by repeat (first|(with_reducible first|exact HB.out|apply below_alloc|apply pw_below_drewN|apply below_drew1|refine below_set ?_ GE101.out)|exact HB.out)) hb);have n2_ := Aside0.mk (hbox);have n3_ := Aside0.mk ((by rw [hg];exact (below_size (by repeat (first|(with_reducible first|exact HB.out|apply below_alloc|apply pw_below_drewN|apply below_drew1|refine below_set ?_ GE101.out)|exact HB.out))) : w.heap.size ≤ gb102));have n4_ := Aside0.mk ((by rw [hg];exact (below_size (by repeat (first|(with_reducible first|exact HB.out|apply below_alloc|apply pw_below_drewN|apply below_drew1|refine below_set ?_ GE101.out)|exact HB.out))) : w.heap.size ≤ gb102));have n5_ := Aside0.mk ((by rw [hg];exact Nat.ne_of_lt (blk_lt (g := gb101) (o := .cells #[.int .u64 a0_0,.int .i64 a0_1,.int .i64 a0_2] 24 (0,0)) (by (with_reducible repeat (first|refine blk_drewN ?_ _|refine blk_drew ?_|refine blk_alloc ?_ _));exact BK101.out)) : gb101 ≠ gb102));have n6_ := Aside0.mk ((by rw [hg];exact Nat.ne_of_gt (blk_lt (g := gb101) (o := .cells #[.int .u64 a0_0,.int .i64 a0_1,.int .i64 a0_2] 24 (0,0)) (by (with_reducible repeat (first|refine blk_drewN ?_ _|refine blk_drew ?_|refine blk_alloc ?_ _));exact BK101.out)) : gb102 ≠ gb101));clear BK101;clear HB;have BK101 := n0_;have HB := n1_;have BK102 := n2_;have GW102 := n3_;have GE102 := n4_;have NB101_102 := n5_;have NB102_101 := n6_;clear n0_ n1_ n2_ n3_ n4_ n5_ n6_;clear hb hbox hg;have hnb55 := NB102_101.out;have hnc55 := NB101_102.out;have hcz56_0 : w54.cell? ⟨gb102,0,none⟩ = some (.int .i64 a1_0) := (blk_cell BK102.out 0).trans rfl;have hcz56_1 : w54.cell? ⟨gb102,1,none⟩ = some (.int .i64 a1_1) := (blk_cell BK102.out 1).trans rfl;have hcz56_2 : w54.cell? ⟨gb102,2,none⟩ = some (.int .i64 a1_2) := (blk_cell BK102.out 2).trans rfl;have hcz56_3 : w54.cell? ⟨gb102,3,none⟩ = some (.int .i64 a1_3) := (blk_cell BK102.out 3).trans rfl;have hcz56_4 : w54.cell? ⟨gb102,4,none⟩ = some (.int .i64 a1_4) := (blk_cell BK102.out 4).trans rfl;have hcz56_5 : w54.cell? ⟨gb102,5,none⟩ = some (.int .u64 a1_5) := (blk_cell BK102.out 5).trans rfl;have hcz56_6 : w54.cell? ⟨gb102,6,none⟩ = some (.int .i64 a1_6) := (blk_cell BK102.out 6).trans rfl;have hcz56_7 : w54.cell? ⟨gb102,7,none⟩ = some (.int .i64 a1_7) := (blk_cell BK102.out 7).trans rfl;have hfz56_0 := blk_frozen BK102.out 0;have hfz56_1 := blk_frozen BK102.out 1;have hfz56_2 := blk_frozen BK102.out 2;have hfz56_3 := blk_frozen BK102.out 3;have hfz56_4 := blk_frozen BK102.out 4;have hfz56_5 := blk_frozen BK102.out 5;have hfz56_6 := blk_frozen BK102.out 6;have hfz56_7 := blk_frozen BK102.out 7))
     go_ret
     exact ⟨by first|rfl|(simp [errW_none,errW_some] <;> rfl)|(simp [*,errW_none,errW_some] <;> rfl),by repeat (first|(with_reducible first|exact HB.out|apply below_alloc|apply pw_below_drewN|apply below_drew1|refine below_set ?_ GE101.out|refine below_set ?_ GE102.out)|exact HB.out)⟩
   ·rw [if_neg c5] at H
    have c5b0 : decide (0 ≤ a1_3) = false := decide_eq_false c5
    clear c5
    obtain rfl := Option.some.inj H
    go_enter Tryd.func32,Tryd.ntmps32
    go_wp2_with (first|((with_reducible refine gate_dst (N := 2) rfl ?_);refine box_event ?hg (N := 2) ?hd (cs := #[.int .u64 a0_0,.int .i64 a0_1,.int .i64 a0_2]) (t := 24) ?hr ?_;(case hd => rfl);(case hg => rfl);(case hr => first|(go_simp;done)|(go_simp;rfl));intro gb101 hg w57 hbox hb;have n0_ := Aside0.mk (below_step (by repeat (first|(with_reducible first|exact HB.out|apply below_alloc|apply pw_below_drewN|apply below_drew1)|exact HB.out)) hb);have n1_ := Aside0.mk (hbox);have n2_ := Aside0.mk ((by rw [hg];exact (below_size (by repeat (first|(with_reducible first|exact HB.out|apply below_alloc|apply pw_below_drewN|apply below_drew1)|exact HB.out))) : w.heap.size ≤ gb101));have n3_ := Aside0.mk ((by rw [hg];exact (below_size (by repeat (first|(with_reducible first|exact HB.out|apply below_alloc|apply pw_below_drewN|apply below_drew1)|exact HB.out))) : w.heap.size ≤ gb101));clear HB;have HB := n0_;have BK101 := n1_;have GW101 := n2_;have GE101 := n3_;clear n0_ n1_ n2_ n3_;clear hb hbox hg)|((with_reducible refine gate_dst (N := 3) rfl ?_);refine box_event ?hg (N := 3) ?hd (cs := #[.int .i64 a1_0,.int .i64 a1_1,.int .i64 a1_2,.int .i64 a1_3,.int .i64 a1_4,.int .u64 a1_5,.int .i64 a1_6,.int .i64 a1_7]) (t := 42) ?hr ?_;(case hd => rfl);(case hg => rfl);(case hr => first|(go_simp;done)|(go_simp;rfl));intro gb102 hg w58 hbox hb;have n0_ := Aside0.mk (blk_below (g := gb101) (o := .cells #[.int .u64 a0_0,.int .i64 a0_1,.int .i64 a0_2] 24 (0,0)) (by (with_reducible repeat (first|refine blk_drewN ?_ _|refine blk_drew ?_|refine blk_alloc ?_ _));exact BK101.out) hb);have n1_ := Aside0.mk (below_step (by repeat (first|(with_reducible first|exact HB.out|apply below_alloc|apply pw_below_drewN|apply below_drew1|refine below_set ?_ GE101.out)|exact HB.out)) hb);have n2_ := Aside0.mk (hbox);have n3_ := Aside0.mk ((by rw [hg];exact (below_size (by repeat (first|(with_reducible first|exact HB.out|apply below_alloc|apply pw_below_drewN|apply below_drew1|refine below_set ?_ GE101.out)|exact HB.out))) : w.heap.size ≤ gb102));have n4_ := Aside0.mk ((by rw [hg];exact (below_size (by repeat (first|(with_reducible first|exact HB.out|apply below_alloc|apply pw_below_drewN|apply below_drew1|refine below_set ?_ GE101.out)|exact HB.out))) : w.heap.size ≤ gb102));have n5_ := Aside0.mk ((by rw [hg];exact Nat.ne_of_lt (blk_lt (g := gb101) (o := .cells #[.int .u64 a0_0,.int .i64 a0_1,.int .i64 a0_2] 24 (0,0)) (by (with_reducible repeat (first|refine blk_drewN ?_ _|refine blk_drew ?_|refine blk_alloc ?_ _));exact BK101.out)) : gb101 ≠ gb102));have n6_ := Aside0.mk ((by rw [hg];exact Nat.ne_of_gt (blk_lt (g := gb101) (o := .cells #[.int .u64 a0_0,.int .i64 a0_1,.int .i64 a0_2] 24 (0,0)) (by (with_reducible repeat (first|refine blk_drewN ?_ _|refine blk_drew ?_|refine blk_alloc ?_ _));exact BK101.out)) : gb102 ≠ gb101));clear BK101;clear HB;have BK101 := n0_;have HB := n1_;have BK102 := n2_;have GW102 := n3_;have GE102 := n4_;have NB101_102 := n5_;have NB102_101 := n6_;clear n0_ n1_ n2_ n3_ n4_ n5_ n6_;clear hb hbox hg;have hnb59 := NB102_101.out;have hnc59 := NB101_102.out;have hcz60_0 : w58.cell? ⟨gb102,0,none⟩ = some (.int .i64 a1_0) := (blk_cell BK102.out 0).trans rfl;have hcz60_1 : w58.cell? ⟨gb102,1,none⟩ = some (.int .i64 a1_1) := (blk_cell BK102.out 1).trans rfl;have hcz60_2 : w58.cell? ⟨gb102,2,none⟩ = some (.int .i64 a1_2) := (blk_cell BK102.out 2).trans rfl;have hcz60_3 : w58.cell? ⟨gb102,3,none⟩ = some (.int .i64 a1_3) := (blk_cell BK102.out 3).trans rfl;have hcz60_4 : w58.cell? ⟨gb102,4,none⟩ = some (.int .i64 a1_4) := (blk_cell BK102.out 4).trans rfl;have hcz60_5 : w58.cell? ⟨gb102,5,none⟩ = some (.int .u64 a1_5) := (blk_cell BK102.out 5).trans rfl;have hcz60_6 : w58.cell? ⟨gb102,6,none⟩ = some (.int .i64 a1_6) := (blk_cell BK102.out 6).trans rfl;have hcz60_7 : w58.cell? ⟨gb102,7,none⟩ = some (.int .i64 a1_7) := (blk_cell BK102.out 7).trans rfl;have hfz60_0 := blk_frozen BK102.out 0;have hfz60_1 := blk_frozen BK102.out 1;have hfz60_2 := blk_frozen BK102.out 2;have hfz60_3 := blk_frozen BK102.out 3;have hfz60_4 := blk_frozen BK102.out 4;have hfz60_5 := blk_frozen BK102.out 5;have hfz60_6 := blk_frozen BK102.out 6;have hfz60_7 := blk_frozen BK102.out 7))
    go_ret
    exact ⟨by first|rfl|(simp [errW_none,errW_some] <;> rfl)|(simp [*,errW_none,errW_some] <;> rfl),by repeat (first|(with_reducible first|exact HB.out|apply below_alloc|apply pw_below_drewN|apply below_drew1|refine below_set ?_ GE101.out|refine below_set ?_ GE102.out)|exact HB.out)⟩
  ·rw [if_neg c4] at H
   have c4b0 : decide (0 ≤ a1_0) = false := decide_eq_false c4
   clear c4
   obtain rfl := Option.some.inj H
   go_enter Tryd.func32,Tryd.ntmps32
   go_wp2_with (first|((with_reducible refine gate_dst (N := 2) rfl ?_);refine box_event ?hg (N := 2) ?hd (cs := #[.int .u64 a0_0,.int .i64 a0_1,.int .i64 a0_2]) (t := 24) ?hr ?_;(case hd => rfl);(case hg => rfl);(case hr => first|(go_simp;done)|(go_simp;rfl));intro gb101 hg w61 hbox hb;have n0_ := Aside0.mk (below_step (by repeat (first|(with_reducible first|exact HB.out|apply below_alloc|apply pw_below_drewN|apply below_drew1)|exact HB.out)) hb);have n1_ := Aside0.mk (hbox);have n2_ := Aside0.mk ((by rw [hg];exact (below_size (by repeat (first|(with_reducible first|exact HB.out|apply below_alloc|apply pw_below_drewN|apply below_drew1)|exact HB.out))) : w.heap.size ≤ gb101));have n3_ := Aside0.mk ((by rw [hg];exact (below_size (by repeat (first|(with_reducible first|exact HB.out|apply below_alloc|apply pw_below_drewN|apply below_drew1)|exact HB.out))) : w.heap.size ≤ gb101));clear HB;have HB := n0_;have BK101 := n1_;have GW101 := n2_;have GE101 := n3_;clear n0_ n1_ n2_ n3_;clear hb hbox hg)|((with_reducible refine gate_dst (N := 3) rfl ?_);refine box_event ?hg (N := 3) ?hd (cs := #[.int .i64 a1_0,.int .i64 a1_1,.int .i64 a1_2,.int .i64 a1_3,.int .i64 a1_4,.int .u64 a1_5,.int .i64 a1_6,.int .i64 a1_7]) (t := 42) ?hr ?_;(case hd => rfl);(case hg => rfl);(case hr => first|(go_simp;done)|(go_simp;rfl));intro gb102 hg w62 hbox hb;have n0_ := Aside0.mk (blk_below (g := gb101) (o := .cells #[.int .u64 a0_0,.int .i64 a0_1,.int .i64 a0_2] 24 (0,0)) (by (with_reducible repeat (first|refine blk_drewN ?_ _|refine blk_drew ?_|refine blk_alloc ?_ _));exact BK101.out) hb);have n1_ := Aside0.mk (below_step (by repeat (first|(with_reducible first|exact HB.out|apply below_alloc|apply pw_below_drewN|apply below_drew1|refine below_set ?_ GE101.out)|exact HB.out)) hb);have n2_ := Aside0.mk (hbox);have n3_ := Aside0.mk ((by rw [hg];exact (below_size (by repeat (first|(with_reducible first|exact HB.out|apply below_alloc|apply pw_below_drewN|apply below_drew1|refine below_set ?_ GE101.out)|exact HB.out))) : w.heap.size ≤ gb102));have n4_ := Aside0.mk ((by rw [hg];exact (below_size (by repeat (first|(with_reducible first|exact HB.out|apply below_alloc|apply pw_below_drewN|apply below_drew1|refine below_set ?_ GE101.out)|exact HB.out))) : w.heap.size ≤ gb102));have n5_ := Aside0.mk ((by rw [hg];exact Nat.ne_of_lt (blk_lt (g := gb101) (o := .cells #[.int .u64 a0_0,.int .i64 a0_1,.int .i64 a0_2] 24 (0,0)) (by (with_reducible repeat (first|refine blk_drewN ?_ _|refine blk_drew ?_|refine blk_alloc ?_ _));exact BK101.out)) : gb101 ≠ gb102));have n6_ := Aside0.mk ((by rw [hg];exact Nat.ne_of_gt (blk_lt (g := gb101) (o := .cells #[.int .u64 a0_0,.int .i64 a0_1,.int .i64 a0_2] 24 (0,0)) (by (with_reducible repeat (first|refine blk_drewN ?_ _|refine blk_drew ?_|refine blk_alloc ?_ _));exact BK101.out)) : gb102 ≠ gb101));clear BK101;clear HB;have BK101 := n0_;have HB := n1_;have BK102 := n2_;have GW102 := n3_;have GE102 := n4_;have NB101_102 := n5_;have NB102_101 := n6_;clear n0_ n1_ n2_ n3_ n4_ n5_ n6_;clear hb hbox hg;have hnb63 := NB102_101.out;have hnc63 := NB101_102.out;have hcz64_0 : w62.cell? ⟨gb102,0,none⟩ = some (.int .i64 a1_0) := (blk_cell BK102.out 0).trans rfl;have hcz64_1 : w62.cell? ⟨gb102,1,none⟩ = some (.int .i64 a1_1) := (blk_cell BK102.out 1).trans rfl;have hcz64_2 : w62.cell? ⟨gb102,2,none⟩ = some (.int .i64 a1_2) := (blk_cell BK102.out 2).trans rfl;have hcz64_3 : w62.cell? ⟨gb102,3,none⟩ = some (.int .i64 a1_3) := (blk_cell BK102.out 3).trans rfl;have hcz64_4 : w62.cell? ⟨gb102,4,none⟩ = some (.int .i64 a1_4) := (blk_cell BK102.out 4).trans rfl;have hcz64_5 : w62.cell? ⟨gb102,5,none⟩ = some (.int .u64 a1_5) := (blk_cell BK102.out 5).trans rfl;have hcz64_6 : w62.cell? ⟨gb102,6,none⟩ = some (.int .i64 a1_6) := (blk_cell BK102.out 6).trans rfl;have hcz64_7 : w62.cell? ⟨gb102,7,none⟩ = some (.int .i64 a1_7) := (blk_cell BK102.out 7).trans rfl;have hfz64_0 := blk_frozen BK102.out 0;have hfz64_1 := blk_frozen BK102.out 1;have hfz64_2 := blk_frozen BK102.out 2;have hfz64_3 := blk_frozen BK102.out 3;have hfz64_4 := blk_frozen BK102.out 4;have hfz64_5 := blk_frozen BK102.out 5;have hfz64_6 := blk_frozen BK102.out 6;have hfz64_7 := blk_frozen BK102.out 7))
   go_ret
   exact ⟨by first|rfl|(simp [errW_none,errW_some] <;> rfl)|(simp [*,errW_none,errW_some] <;> rfl),by repeat (first|(with_reducible first|exact HB.out|apply below_alloc|apply pw_below_drewN|apply below_drew1|refine below_set ?_ GE101.out|refine below_set ?_ GE102.out)|exact HB.out)⟩
 ·rw [if_neg c3] at H
  have c3b0 : (a1_4 == 3) = false := beq_eq_false_iff_ne.mpr c3
  have c3b1 : (a1_4 != 3) = true := bne_iff_ne.mpr c3
  by_cases c65 : a1_0 ≥ 0
  ·rw [if_pos c65] at H
   have c65b0 : decide (0 ≤ a1_0) = true := decide_eq_true c65
   clear c65
   by_cases c66 : a1_3 ≥ 0
   ·rw [if_pos c66] at H
    have c66b0 : decide (0 ≤ a1_3) = true := decide_eq_true c66
    clear c66
    by_cases c67 : a1_7 ≥ 0
    ·rw [if_pos c67] at H
     have c67b0 : decide (0 ≤ a1_7) = true := decide_eq_true c67
     clear c67
     by_cases c68 : a1_1 ≥ 1
     ·rw [if_pos c68] at H
      have c68b0 : decide (1 ≤ a1_1) = true := decide_eq_true c68
      clear c68
      by_cases c69 : a1_1 ≤ a0_1
      ·rw [if_pos c69] at H
       have c69b0 : decide (a1_1 ≤ a0_1) = true := decide_eq_true c69
       clear c69
       by_cases c70 : a1_2 ≥ 0
       ·rw [if_pos c70] at H
        have c70b0 : decide (0 ≤ a1_2) = true := decide_eq_true c70
        clear c70
        by_cases c71 : a1_2 ≤ a0_1
        ·rw [if_pos c71] at H
         have c71b0 : decide (a1_2 ≤ a0_1) = true := decide_eq_true c71
         clear c71
         by_cases c72 : a1_4 ≥ 1
         ·rw [if_pos c72] at H
          have c72b0 : decide (1 ≤ a1_4) = true := decide_eq_true c72
          clear c72
          by_cases c73 : a1_4 ≤ 4
          ·rw [if_pos c73] at H
           have c73b0 : decide (a1_4 ≤ 4) = true := decide_eq_true c73
           clear c73
           by_cases c74 : a1_6 ≥ 0
           ·rw [if_pos c74] at H
            have c74b0 : decide (0 ≤ a1_6) = true := decide_eq_true c74
            clear c74
            obtain rfl := Option.some.inj H
            go_enter Tryd.func32,Tryd.ntmps32
            go_wp2_with (first|((with_reducible refine gate_dst (N := 2) rfl ?_);refine box_event ?hg (N := 2) ?hd (cs := #[.int .u64 a0_0,.int .i64 a0_1,.int .i64 a0_2]) (t := 24) ?hr ?_;(case hd => rfl);(case hg => rfl);(case hr => first|(go_simp;done)|(go_simp;rfl));intro gb101 hg w75 hbox hb;have n0_ := Aside0.mk (below_step (by repeat (first|(with_reducible first|exact HB.out|apply below_alloc|apply pw_below_drewN|apply below_drew1)|exact HB.out)) hb);have n1_ := Aside0.mk (hbox);have n2_ := Aside0.mk ((by rw [hg];exact (below_size (by repeat (first|(with_reducible first|exact HB.out|apply below_alloc|apply pw_below_drewN|apply below_drew1)|exact HB.out))) : w.heap.size ≤ gb101));have n3_ := Aside0.mk ((by rw [hg];exact (below_size (by repeat (first|(with_reducible first|exact HB.out|apply below_alloc|apply pw_below_drewN|apply below_drew1)|exact HB.out))) : w.heap.size ≤ gb101));clear HB;have HB := n0_;have BK101 := n1_;have GW101 := n2_;have GE101 := n3_;clear n0_ n1_ n2_ n3_;clear hb hbox hg)|((with_reducible refine gate_dst (N := 3) rfl ?_);refine box_event ?hg (N := 3) ?hd (cs := #[.int .i64 a1_0,.int .i64 a1_1,.int .i64 a1_2,.int .i64 a1_3,.int .i64 a1_4,.int .u64 a1_5,.int .i64 a1_6,.int .i64 a1_7]) (t := 42) ?hr ?_;(case hd => rfl);(case hg => rfl);(case hr => first|(go_simp;done)|(go_simp;rfl));intro gb102 hg w76 hbox hb;have n0_ := Aside0.mk (blk_below (g := gb101) (o := .cells #[.int .u64 a0_0,.int .i64 a0_1,.int .i64 a0_2] 24 (0,0)) (by (with_reducible repeat (first|refine blk_drewN ?_ _|refine blk_drew ?_|refine blk_alloc ?_ _));exact BK101.out) hb);have n1_ := Aside0.mk (below_step (by repeat (first|(with_reducible first|exact HB.out|apply below_alloc|apply pw_below_drewN|apply below_drew1|refine below_set ?_ GE101.out)|exact HB.out)) hb);have n2_ := Aside0.mk (hbox);have n3_ := Aside0.mk ((by rw [hg];exact (below_size (by repeat (first|(with_reducible first|exact HB.out|apply below_alloc|apply pw_below_drewN|apply below_drew1|refine below_set ?_ GE101.out)|exact HB.out))) : w.heap.size ≤ gb102));have n4_ := Aside0.mk ((by rw [hg];exact (below_size (by repeat (first|(with_reducible first|exact HB.out|apply below_alloc|apply pw_below_drewN|apply below_drew1|refine below_set ?_ GE101.out)|exact HB.out))) : w.heap.size ≤ gb102));have n5_ := Aside0.mk ((by rw [hg];exact Nat.ne_of_lt (blk_lt (g := gb101) (o := .cells #[.int .u64 a0_0,.int .i64 a0_1,.int .i64 a0_2] 24 (0,0)) (by (with_reducible repeat (first|refine blk_drewN ?_ _|refine blk_drew ?_|refine blk_alloc ?_ _));exact BK101.out)) : gb101 ≠ gb102));have n6_ := Aside0.mk ((by rw [hg];exact Nat.ne_of_gt (blk_lt (g := gb101) (o := .cells #[.int .u64 a0_0,.int .i64 a0_1,.int .i64 a0_2] 24 (0,0)) (by (with_reducible repeat (first|refine blk_drewN ?_ _|refine blk_drew ?_|refine blk_alloc ?_ _));exact BK101.out)) : gb102 ≠ gb101));clear BK101;clear HB;have BK101 := n0_;have HB := n1_;have BK102 := n2_;have GW102 := n3_;have GE102 := n4_;have NB101_102 := n5_;have NB102_101 := n6_;clear n0_ n1_ n2_ n3_ n4_ n5_ n6_;clear hb hbox hg;have hnb77 := NB102_101.out;have hnc77 := NB101_102.out;have hcz78_0 : w76.cell? ⟨gb102,0,none⟩ = some (.int .i64 a1_0) := (blk_cell BK102.out 0).trans rfl;have hcz78_1 : w76.cell? ⟨gb102,1,none⟩ = some (.int .i64 a1_1) := (blk_cell BK102.out 1).trans rfl;have hcz78_2 : w76.cell? ⟨gb102,2,none⟩ = some (.int .i64 a1_2) := (blk_cell BK102.out 2).trans rfl;have hcz78_3 : w76.cell? ⟨gb102,3,none⟩ = some (.int .i64 a1_3) := (blk_cell BK102.out 3).trans rfl;have hcz78_4 : w76.cell? ⟨gb102,4,none⟩ = some (.int .i64 a1_4) := (blk_cell BK102.out 4).trans rfl;have hcz78_5 : w76.cell? ⟨gb102,5,none⟩ = some (.int .u64 a1_5) := (blk_cell BK102.out 5).trans rfl;have hcz78_6 : w76.cell? ⟨gb102,6,none⟩ = some (.int .i64 a1_6) := (blk_cell BK102.out 6).trans rfl;have hcz78_7 : w76.cell? ⟨gb102,7,none⟩ = some (.int .i64 a1_7) := (blk_cell BK102.out 7).trans rfl;have hfz78_0 := blk_frozen BK102.out 0;have hfz78_1 := blk_frozen BK102.out 1;have hfz78_2 := blk_frozen BK102.out 2;have hfz78_3 := blk_frozen BK102.out 3;have hfz78_4 := blk_frozen BK102.out 4;have hfz78_5 := blk_frozen BK102.out 5;have hfz78_6 := blk_frozen BK102.out 6;have hfz78_7 := blk_frozen BK102.out 7;have hcz79_0 : w76.cell? ⟨gb101,0,none⟩ = some (.int .u64 a0_0) := (blk_cell BK101.out 0).trans rfl;have hcz79_1 : w76.cell? ⟨gb101,1,none⟩ = some (.int .i64 a0_1) := (blk_cell BK101.out 1).trans rfl;have hcz79_2 : w76.cell? ⟨gb101,2,none⟩ = some (.int .i64 a0_2) := (blk_cell BK101.out 2).trans rfl;have hfz79_0 := blk_frozen BK101.out 0;have hfz79_1 := blk_frozen BK101.out 1;have hfz79_2 := blk_frozen BK101.out 2))
            go_ret
            exact ⟨by first|rfl|(simp [errW_none,errW_some] <;> rfl)|(simp [*,errW_none,errW_some] <;> rfl),by repeat (first|(with_reducible first|exact HB.out|apply below_alloc|apply pw_below_drewN|apply below_drew1|refine below_set ?_ GE101.out|refine below_set ?_ GE102.out)|exact HB.out)⟩
           ·rw [if_neg c74] at H
            have c74b0 : decide (0 ≤ a1_6) = false := decide_eq_false c74
            clear c74
            obtain rfl := Option.some.inj H
            go_enter Tryd.func32,Tryd.ntmps32
            go_wp2_with (first|((with_reducible refine gate_dst (N := 2) rfl ?_);refine box_event ?hg (N := 2) ?hd (cs := #[.int .u64 a0_0,.int .i64 a0_1,.int .i64 a0_2]) (t := 24) ?hr ?_;(case hd => rfl);(case hg => rfl);(case hr => first|(go_simp;done)|(go_simp;rfl));intro gb101 hg w80 hbox hb;have n0_ := Aside0.mk (below_step (by repeat (first|(with_reducible first|exact HB.out|apply below_alloc|apply pw_below_drewN|apply below_drew1)|exact HB.out)) hb);have n1_ := Aside0.mk (hbox);have n2_ := Aside0.mk ((by rw [hg];exact (below_size (by repeat (first|(with_reducible first|exact HB.out|apply below_alloc|apply pw_below_drewN|apply below_drew1)|exact HB.out))) : w.heap.size ≤ gb101));have n3_ := Aside0.mk ((by rw [hg];exact (below_size (by repeat (first|(with_reducible first|exact HB.out|apply below_alloc|apply pw_below_drewN|apply below_drew1)|exact HB.out))) : w.heap.size ≤ gb101));clear HB;have HB := n0_;have BK101 := n1_;have GW101 := n2_;have GE101 := n3_;clear n0_ n1_ n2_ n3_;clear hb hbox hg)|((with_reducible refine gate_dst (N := 3) rfl ?_);refine box_event ?hg (N := 3) ?hd (cs := #[.int .i64 a1_0,.int .i64 a1_1,.int .i64 a1_2,.int .i64 a1_3,.int .i64 a1_4,.int .u64 a1_5,.int .i64 a1_6,.int .i64 a1_7]) (t := 42) ?hr ?_;(case hd => rfl);(case hg => rfl);(case hr => first|(go_simp;done)|(go_simp;rfl));intro gb102 hg w81 hbox hb;have n0_ := Aside0.mk (blk_below (g := gb101) (o := .cells #[.int .u64 a0_0,.int .i64 a0_1,.int .i64 a0_2] 24 (0,0)) (by (with_reducible repeat (first|refine blk_drewN ?_ _|refine blk_drew ?_|refine blk_alloc ?_ _));exact BK101.out) hb);have n1_ := Aside0.mk (below_step (by repeat (first|(with_reducible first|exact HB.out|apply below_alloc|apply pw_below_drewN|apply below_drew1|refine below_set ?_ GE101.out)|exact HB.out)) hb);have n2_ := Aside0.mk (hbox);have n3_ := Aside0.mk ((by rw [hg];exact (below_size (by repeat (first|(with_reducible first|exact HB.out|apply below_alloc|apply pw_below_drewN|apply below_drew1|refine below_set ?_ GE101.out)|exact HB.out))) : w.heap.size ≤ gb102));have n4_ := Aside0.mk ((by rw [hg];exact (below_size (by repeat (first|(with_reducible first|exact HB.out|apply below_alloc|apply pw_below_drewN|apply below_drew1|refine below_set ?_ GE101.out)|exact HB.out))) : w.heap.size ≤ gb102));have n5_ := Aside0.mk ((by rw [hg];exact Nat.ne_of_lt (blk_lt (g := gb101) (o := .cells #[.int .u64 a0_0,.int .i64 a0_1,.int .i64 a0_2] 24 (0,0)) (by (with_reducible repeat (first|refine blk_drewN ?_ _|refine blk_drew ?_|refine blk_alloc ?_ _));exact BK101.out)) : gb101 ≠ gb102));have n6_ := Aside0.mk ((by rw [hg];exact Nat.ne_of_gt (blk_lt (g := gb101) (o := .cells #[.int .u64 a0_0,.int .i64 a0_1,.int .i64 a0_2] 24 (0,0)) (by (with_reducible repeat (first|refine blk_drewN ?_ _|refine blk_drew ?_|refine blk_alloc ?_ _));exact BK101.out)) : gb102 ≠ gb101));clear BK101;clear HB;have BK101 := n0_;have HB := n1_;have BK102 := n2_;have GW102 := n3_;have GE102 := n4_;have NB101_102 := n5_;have NB102_101 := n6_;clear n0_ n1_ n2_ n3_ n4_ n5_ n6_;clear hb hbox hg;have hnb82 := NB102_101.out;have hnc82 := NB101_102.out;have hcz83_0 : w81.cell? ⟨gb102,0,none⟩ = some (.int .i64 a1_0) := (blk_cell BK102.out 0).trans rfl;have hcz83_1 : w81.cell? ⟨gb102,1,none⟩ = some (.int .i64 a1_1) := (blk_cell BK102.out 1).trans rfl;have hcz83_2 : w81.cell? ⟨gb102,2,none⟩ = some (.int .i64 a1_2) := (blk_cell BK102.out 2).trans rfl;have hcz83_3 : w81.cell? ⟨gb102,3,none⟩ = some (.int .i64 a1_3) := (blk_cell BK102.out 3).trans rfl;have hcz83_4 : w81.cell? ⟨gb102,4,none⟩ = some (.int .i64 a1_4) := (blk_cell BK102.out 4).trans rfl;have hcz83_5 : w81.cell? ⟨gb102,5,none⟩ = some (.int .u64 a1_5) := (blk_cell BK102.out 5).trans rfl;have hcz83_6 : w81.cell? ⟨gb102,6,none⟩ = some (.int .i64 a1_6) := (blk_cell BK102.out 6).trans rfl;have hcz83_7 : w81.cell? ⟨gb102,7,none⟩ = some (.int .i64 a1_7) := (blk_cell BK102.out 7).trans rfl;have hfz83_0 := blk_frozen BK102.out 0;have hfz83_1 := blk_frozen BK102.out 1;have hfz83_2 := blk_frozen BK102.out 2;have hfz83_3 := blk_frozen BK102.out 3;have hfz83_4 := blk_frozen BK102.out 4;have hfz83_5 := blk_frozen BK102.out 5;have hfz83_6 := blk_frozen BK102.out 6;have hfz83_7 := blk_frozen BK102.out 7;have hcz84_0 : w81.cell? ⟨gb101,0,none⟩ = some (.int .u64 a0_0) := (blk_cell BK101.out 0).trans rfl;have hcz84_1 : w81.cell? ⟨gb101,1,none⟩ = some (.int .i64 a0_1) := (blk_cell BK101.out 1).trans rfl;have hcz84_2 : w81.cell? ⟨gb101,2,none⟩ = some (.int .i64 a0_2) := (blk_cell BK101.out 2).trans rfl;have hfz84_0 := blk_frozen BK101.out 0;have hfz84_1 := blk_frozen BK101.out 1;have hfz84_2 := blk_frozen BK101.out 2))
            go_ret
            exact ⟨by first|rfl|(simp [errW_none,errW_some] <;> rfl)|(simp [*,errW_none,errW_some] <;> rfl),by repeat (first|(with_reducible first|exact HB.out|apply below_alloc|apply pw_below_drewN|apply below_drew1|refine below_set ?_ GE101.out|refine below_set ?_ GE102.out)|exact HB.out)⟩
          ·rw [if_neg c73] at H
           have c73b0 : decide (a1_4 ≤ 4) = false := decide_eq_false c73
           clear c73
           obtain rfl := Option.some.inj H
           go_enter Tryd.func32,Tryd.ntmps32
           go_wp2_with (first|((with_reducible refine gate_dst (N := 2) rfl ?_);refine box_event ?hg (N := 2) ?hd (cs := #[.int .u64 a0_0,.int .i64 a0_1,.int .i64 a0_2]) (t := 24) ?hr ?_;(case hd => rfl);(case hg => rfl);(case hr => first|(go_simp;done)|(go_simp;rfl));intro gb101 hg w85 hbox hb;have n0_ := Aside0.mk (below_step (by repeat (first|(with_reducible first|exact HB.out|apply below_alloc|apply pw_below_drewN|apply below_drew1)|exact HB.out)) hb);have n1_ := Aside0.mk (hbox);have n2_ := Aside0.mk ((by rw [hg];exact (below_size (by repeat (first|(with_reducible first|exact HB.out|apply below_alloc|apply pw_below_drewN|apply below_drew1)|exact HB.out))) : w.heap.size ≤ gb101));have n3_ := Aside0.mk ((by rw [hg];exact (below_size (by repeat (first|(with_reducible first|exact HB.out|apply below_alloc|apply pw_below_drewN|apply below_drew1)|exact HB.out))) : w.heap.size ≤ gb101));clear HB;have HB := n0_;have BK101 := n1_;have GW101 := n2_;have GE101 := n3_;clear n0_ n1_ n2_ n3_;clear hb hbox hg)|((with_reducible refine gate_dst (N := 3) rfl ?_);refine box_event ?hg (N := 3) ?hd (cs := #[.int .i64 a1_0,.int .i64 a1_1,.int .i64 a1_2,.int .i64 a1_3,.int .i64 a1_4,.int .u64 a1_5,.int .i64 a1_6,.int .i64 a1_7]) (t := 42) ?hr ?_;(case hd => rfl);(case hg => rfl);(case hr => first|(go_simp;done)|(go_simp;rfl));intro gb102 hg w86 hbox hb;have n0_ := Aside0.mk (blk_below (g := gb101) (o := .cells #[.int .u64 a0_0,.int .i64 a0_1,.int .i64 a0_2] 24 (0,0)) (by (with_reducible repeat (first|refine blk_drewN ?_ _|refine blk_drew ?_|refine blk_alloc ?_ _));exact BK101.out) hb);have n1_ := Aside0.mk (below_step (by repeat (first|(with_reducible first|exact HB.out|apply below_alloc|apply pw_below_drewN|apply below_drew1|refine below_set ?_ GE101.out)|exact HB.out)) hb);have n2_ := Aside0.mk (hbox);have n3_ := Aside0.mk ((by rw [hg];exact (below_size (by repeat (first|(with_reducible first|exact HB.out|apply below_alloc|apply pw_below_drewN|apply below_drew1|refine below_set ?_ GE101.out)|exact HB.out))) : w.heap.size ≤ gb102));have n4_ := Aside0.mk ((by rw [hg];exact (below_size (by repeat (first|(with_reducible first|exact HB.out|apply below_alloc|apply pw_below_drewN|apply below_drew1|refine below_set ?_ GE101.out)|exact HB.out))) : w.heap.size ≤ gb102));have n5_ := Aside0.mk ((by rw [hg];exact Nat.ne_of_lt (blk_lt (g := gb101) (o := .cells #[.int .u64 a0_0,.int .i64 a0_1,.int .i64 a0_2] 24 (0,0)) (by (with_reducible repeat (first|refine blk_drewN ?_ _|refine blk_drew ?_|refine blk_alloc ?_ _));exact BK101.out)) : gb101 ≠ gb102));have n6_ := Aside0.mk ((by rw [hg];exact Nat.ne_of_gt (blk_lt (g := gb101) (o := .cells #[.int .u64 a0_0,.int .i64 a0_1,.int .i64 a0_2] 24 (0,0)) (by (with_reducible repeat (first|refine blk_drewN ?_ _|refine blk_drew ?_|refine blk_alloc ?_ _));exact BK101.out)) : gb102 ≠ gb101));clear BK101;clear HB;have BK101 := n0_;have HB := n1_;have BK102 := n2_;have GW102 := n3_;have GE102 := n4_;have NB101_102 := n5_;have NB102_101 := n6_;clear n0_ n1_ n2_ n3_ n4_ n5_ n6_;clear hb hbox hg;have hnb87 := NB102_101.out;have hnc87 := NB101_102.out;have hcz88_0 : w86.cell? ⟨gb102,0,none⟩ = some (.int .i64 a1_0) := (blk_cell BK102.out 0).trans rfl;have hcz88_1 : w86.cell? ⟨gb102,1,none⟩ = some (.int .i64 a1_1) := (blk_cell BK102.out 1).trans rfl;have hcz88_2 : w86.cell? ⟨gb102,2,none⟩ = some (.int .i64 a1_2) := (blk_cell BK102.out 2).trans rfl;have hcz88_3 : w86.cell? ⟨gb102,3,none⟩ = some (.int .i64 a1_3) := (blk_cell BK102.out 3).trans rfl;have hcz88_4 : w86.cell? ⟨gb102,4,none⟩ = some (.int .i64 a1_4) := (blk_cell BK102.out 4).trans rfl;have hcz88_5 : w86.cell? ⟨gb102,5,none⟩ = some (.int .u64 a1_5) := (blk_cell BK102.out 5).trans rfl;have hcz88_6 : w86.cell? ⟨gb102,6,none⟩ = some (.int .i64 a1_6) := (blk_cell BK102.out 6).trans rfl;have hcz88_7 : w86.cell? ⟨gb102,7,none⟩ = some (.int .i64 a1_7) := (blk_cell BK102.out 7).trans rfl;have hfz88_0 := blk_frozen BK102.out 0;have hfz88_1 := blk_frozen BK102.out 1;have hfz88_2 := blk_frozen BK102.out 2;have hfz88_3 := blk_frozen BK102.out 3;have hfz88_4 := blk_frozen BK102.out 4;have hfz88_5 := blk_frozen BK102.out 5;have hfz88_6 := blk_frozen BK102.out 6;have hfz88_7 := blk_frozen BK102.out 7;have hcz89_0 : w86.cell? ⟨gb101,0,none⟩ = some (.int .u64 a0_0) := (blk_cell BK101.out 0).trans rfl;have hcz89_1 : w86.cell? ⟨gb101,1,none⟩ = some (.int .i64 a0_1) := (blk_cell BK101.out 1).trans rfl;have hcz89_2 : w86.cell? ⟨gb101,2,none⟩ = some (.int .i64 a0_2) := (blk_cell BK101.out 2).trans rfl;have hfz89_0 := blk_frozen BK101.out 0;have hfz89_1 := blk_frozen BK101.out 1;have hfz89_2 := blk_frozen BK101.out 2))
           go_ret
           exact ⟨by first|rfl|(simp [errW_none,errW_some] <;> rfl)|(simp [*,errW_none,errW_some] <;> rfl),by repeat (first|(with_reducible first|exact HB.out|apply below_alloc|apply pw_below_drewN|apply below_drew1|refine below_set ?_ GE101.out|refine below_set ?_ GE102.out)|exact HB.out)⟩
         ·rw [if_neg c72] at H
          have c72b0 : decide (1 ≤ a1_4) = false := decide_eq_false c72
          clear c72
          obtain rfl := Option.some.inj H
          go_enter Tryd.func32,Tryd.ntmps32
          go_wp2_with (first|((with_reducible refine gate_dst (N := 2) rfl ?_);refine box_event ?hg (N := 2) ?hd (cs := #[.int .u64 a0_0,.int .i64 a0_1,.int .i64 a0_2]) (t := 24) ?hr ?_;(case hd => rfl);(case hg => rfl);(case hr => first|(go_simp;done)|(go_simp;rfl));intro gb101 hg w90 hbox hb;have n0_ := Aside0.mk (below_step (by repeat (first|(with_reducible first|exact HB.out|apply below_alloc|apply pw_below_drewN|apply below_drew1)|exact HB.out)) hb);have n1_ := Aside0.mk (hbox);have n2_ := Aside0.mk ((by rw [hg];exact (below_size (by repeat (first|(with_reducible first|exact HB.out|apply below_alloc|apply pw_below_drewN|apply below_drew1)|exact HB.out))) : w.heap.size ≤ gb101));have n3_ := Aside0.mk ((by rw [hg];exact (below_size (by repeat (first|(with_reducible first|exact HB.out|apply below_alloc|apply pw_below_drewN|apply below_drew1)|exact HB.out))) : w.heap.size ≤ gb101));clear HB;have HB := n0_;have BK101 := n1_;have GW101 := n2_;have GE101 := n3_;clear n0_ n1_ n2_ n3_;clear hb hbox hg)|((with_reducible refine gate_dst (N := 3) rfl ?_);refine box_event ?hg (N := 3) ?hd (cs := #[.int .i64 a1_0,.int .i64 a1_1,.int .i64 a1_2,.int .i64 a1_3,.int .i64 a1_4,.int .u64 a1_5,.int .i64 a1_6,.int .i64 a1_7]) (t := 42) ?hr ?_;(case hd => rfl);(case hg => rfl);(case hr => first|(go_simp;done)|(go_simp;rfl));intro gb102 hg w91 hbox hb;have n0_ := Aside0.mk (blk_below (g := gb101) (o := .cells #[.int .u64 a0_0,.int .i64 a0_1,.int .i64 a0_2] 24 (0,0)) (by (with_reducible repeat (first|refine blk_drewN ?_ _|refine blk_drew ?_|refine blk_alloc ?_ _));exact BK101.out) hb);have n1_ := Aside0.mk (below_step (by repeat (first|(with_reducible first|exact HB.out|apply below_alloc|apply pw_below_drewN|apply below_drew1|refine below_set ?_ GE101.out)|exact HB.out)) hb);have n2_ := Aside0.mk (hbox);have n3_ := Aside0.mk ((by rw [hg];exact (below_size (by repeat (first|(with_reducible first|exact HB.out|apply below_alloc|apply pw_below_drewN|apply below_drew1|refine below_set ?_ GE101.out)|exact HB.out))) : w.heap.size ≤ gb102));have n4_ := Aside0.mk ((by rw [hg];exact (below_size (by repeat (first|(with_reducible first|exact HB.out|apply below_alloc|apply pw_below_drewN|apply below_drew1|refine below_set ?_ GE101.out)|exact HB.out))) : w.heap.size ≤ gb102));have n5_ := Aside0.mk ((by rw [hg];exact Nat.ne_of_lt (blk_lt (g := gb101) (o := .cells #[.int .u64 a0_0,.int .i64 a0_1,.int .i64 a0_2] 24 (0,0)) (by (with_reducible repeat (first|refine blk_drewN ?_ _|refine blk_drew ?_|refine blk_alloc ?_ _));exact BK101.out)) : gb101 ≠ gb102));have n6_ := Aside0.mk ((by rw [hg];exact Nat.ne_of_gt (blk_lt (g := gb101) (o := .cells #[.int .u64 a0_0,.int .i64 a0_1,.int .i64 a0_2] 24 (0,0)) (by (with_reducible repeat (first|refine blk_drewN ?_ _|refine blk_drew ?_|refine blk_alloc ?_ _));exact BK101.out)) : gb102 ≠ gb101));clear BK101;clear HB;have BK101 := n0_;have HB := n1_;have BK102 := n2_;have GW102 := n3_;have GE102 := n4_;have NB101_102 := n5_;have NB102_101 := n6_;clear n0_ n1_ n2_ n3_ n4_ n5_ n6_;clear hb hbox hg;have hnb92 := NB102_101.out;have hnc92 := NB101_102.out;have hcz93_0 : w91.cell? ⟨gb102,0,none⟩ = some (.int .i64 a1_0) := (blk_cell BK102.out 0).trans rfl;have hcz93_1 : w91.cell? ⟨gb102,1,none⟩ = some (.int .i64 a1_1) := (blk_cell BK102.out 1).trans rfl;have hcz93_2 : w91.cell? ⟨gb102,2,none⟩ = some (.int .i64 a1_2) := (blk_cell BK102.out 2).trans rfl;have hcz93_3 : w91.cell? ⟨gb102,3,none⟩ = some (.int .i64 a1_3) := (blk_cell BK102.out 3).trans rfl;have hcz93_4 : w91.cell? ⟨gb102,4,none⟩ = some (.int .i64 a1_4) := (blk_cell BK102.out 4).trans rfl;have hcz93_5 : w91.cell? ⟨gb102,5,none⟩ = some (.int .u64 a1_5) := (blk_cell BK102.out 5).trans rfl;have hcz93_6 : w91.cell? ⟨gb102,6,none⟩ = some (.int .i64 a1_6) := (blk_cell BK102.out 6).trans rfl;have hcz93_7 : w91.cell? ⟨gb102,7,none⟩ = some (.int .i64 a1_7) := (blk_cell BK102.out 7).trans rfl;have hfz93_0 := blk_frozen BK102.out 0;have hfz93_1 := blk_frozen BK102.out 1;have hfz93_2 := blk_frozen BK102.out 2;have hfz93_3 := blk_frozen BK102.out 3;have hfz93_4 := blk_frozen BK102.out 4;have hfz93_5 := blk_frozen BK102.out 5;have hfz93_6 := blk_frozen BK102.out 6;have hfz93_7 := blk_frozen BK102.out 7;have hcz94_0 : w91.cell? ⟨gb101,0,none⟩ = some (.int .u64 a0_0) := (blk_cell BK101.out 0).trans rfl;have hcz94_1 : w91.cell? ⟨gb101,1,none⟩ = some (.int .i64 a0_1) := (blk_cell BK101.out 1).trans rfl;have hcz94_2 : w91.cell? ⟨gb101,2,none⟩ = some (.int .i64 a0_2) := (blk_cell BK101.out 2).trans rfl;have hfz94_0 := blk_frozen BK101.out 0;have hfz94_1 := blk_frozen BK101.out 1;have hfz94_2 := blk_frozen BK101.out 2))
          go_ret
          exact ⟨by first|rfl|(simp [errW_none,errW_some] <;> rfl)|(simp [*,errW_none,errW_some] <;> rfl),by repeat (first|(with_reducible first|exact HB.out|apply below_alloc|apply pw_below_drewN|apply below_drew1|refine below_set ?_ GE101.out|refine below_set ?_ GE102.out)|exact HB.out)⟩
        ·rw [if_neg c71] at H
         have c71b0 : decide (a1_2 ≤ a0_1) = false := decide_eq_false c71
         clear c71
         obtain rfl := Option.some.inj H
         go_enter Tryd.func32,Tryd.ntmps32
         go_wp2_with (first|((with_reducible refine gate_dst (N := 2) rfl ?_);refine box_event ?hg (N := 2) ?hd (cs := #[.int .u64 a0_0,.int .i64 a0_1,.int .i64 a0_2]) (t := 24) ?hr ?_;(case hd => rfl);(case hg => rfl);(case hr => first|(go_simp;done)|(go_simp;rfl));intro gb101 hg w95 hbox hb;have n0_ := Aside0.mk (below_step (by repeat (first|(with_reducible first|exact HB.out|apply below_alloc|apply pw_below_drewN|apply below_drew1)|exact HB.out)) hb);have n1_ := Aside0.mk (hbox);have n2_ := Aside0.mk ((by rw [hg];exact (below_size (by repeat (first|(with_reducible first|exact HB.out|apply below_alloc|apply pw_below_drewN|apply below_drew1)|exact HB.out))) : w.heap.size ≤ gb101));have n3_ := Aside0.mk ((by rw [hg];exact (below_size (by repeat (first|(with_reducible first|exact HB.out|apply below_alloc|apply pw_below_drewN|apply below_drew1)|exact HB.out))) : w.heap.size ≤ gb101));clear HB;have HB := n0_;have BK101 := n1_;have GW101 := n2_;have GE101 := n3_;clear n0_ n1_ n2_ n3_;clear hb hbox hg)|((with_reducible refine gate_dst (N := 3) rfl ?_);refine box_event ?hg (N := 3) ?hd (cs := #[.int .i64 a1_0,.int .i64 a1_1,.int .i64 a1_2,.int .i64 a1_3,.int .i64 a1_4,.int .u64 a1_5,.int .i64 a1_6,.int .i64 a1_7]) (t := 42) ?hr ?_;(case hd => rfl);(case hg => rfl);(case hr => first|(go_simp;done)|(go_simp;rfl));intro gb102 hg w96 hbox hb;have n0_ := Aside0.mk (blk_below (g := gb101) (o := .cells #[.int .u64 a0_0,.int .i64 a0_1,.int .i64 a0_2] 24 (0,0)) (by (with_reducible repeat (first|refine blk_drewN ?_ _|refine blk_drew ?_|refine blk_alloc ?_ _));exact BK101.out) hb);have n1_ := Aside0.mk (below_step (by repeat (first|(with_reducible first|exact HB.out|apply below_alloc|apply pw_below_drewN|apply below_drew1|refine below_set ?_ GE101.out)|exact HB.out)) hb);have n2_ := Aside0.mk (hbox);have n3_ := Aside0.mk ((by rw [hg];exact (below_size (by repeat (first|(with_reducible first|exact HB.out|apply below_alloc|apply pw_below_drewN|apply below_drew1|refine below_set ?_ GE101.out)|exact HB.out))) : w.heap.size ≤ gb102));have n4_ := Aside0.mk ((by rw [hg];exact (below_size (by repeat (first|(with_reducible first|exact HB.out|apply below_alloc|apply pw_below_drewN|apply below_drew1|refine below_set ?_ GE101.out)|exact HB.out))) : w.heap.size ≤ gb102));have n5_ := Aside0.mk ((by rw [hg];exact Nat.ne_of_lt (blk_lt (g := gb101) (o := .cells #[.int .u64 a0_0,.int .i64 a0_1,.int .i64 a0_2] 24 (0,0)) (by (with_reducible repeat (first|refine blk_drewN ?_ _|refine blk_drew ?_|refine blk_alloc ?_ _));exact BK101.out)) : gb101 ≠ gb102));have n6_ := Aside0.mk ((by rw [hg];exact Nat.ne_of_gt (blk_lt (g := gb101) (o := .cells #[.int .u64 a0_0,.int .i64 a0_1,.int .i64 a0_2] 24 (0,0)) (by (with_reducible repeat (first|refine blk_drewN ?_ _|refine blk_drew ?_|refine blk_alloc ?_ _));exact BK101.out)) : gb102 ≠ gb101));clear BK101;clear HB;have BK101 := n0_;have HB := n1_;have BK102 := n2_;have GW102 := n3_;have GE102 := n4_;have NB101_102 := n5_;have NB102_101 := n6_;clear n0_ n1_ n2_ n3_ n4_ n5_ n6_;clear hb hbox hg;have hnb97 := NB102_101.out;have hnc97 := NB101_102.out;have hcz98_0 : w96.cell? ⟨gb102,0,none⟩ = some (.int .i64 a1_0) := (blk_cell BK102.out 0).trans rfl;have hcz98_1 : w96.cell? ⟨gb102,1,none⟩ = some (.int .i64 a1_1) := (blk_cell BK102.out 1).trans rfl;have hcz98_2 : w96.cell? ⟨gb102,2,none⟩ = some (.int .i64 a1_2) := (blk_cell BK102.out 2).trans rfl;have hcz98_3 : w96.cell? ⟨gb102,3,none⟩ = some (.int .i64 a1_3) := (blk_cell BK102.out 3).trans rfl;have hcz98_4 : w96.cell? ⟨gb102,4,none⟩ = some (.int .i64 a1_4) := (blk_cell BK102.out 4).trans rfl;have hcz98_5 : w96.cell? ⟨gb102,5,none⟩ = some (.int .u64 a1_5) := (blk_cell BK102.out 5).trans rfl;have hcz98_6 : w96.cell? ⟨gb102,6,none⟩ = some (.int .i64 a1_6) := (blk_cell BK102.out 6).trans rfl;have hcz98_7 : w96.cell? ⟨gb102,7,none⟩ = some (.int .i64 a1_7) := (blk_cell BK102.out 7).trans rfl;have hfz98_0 := blk_frozen BK102.out 0;have hfz98_1 := blk_frozen BK102.out 1;have hfz98_2 := blk_frozen BK102.out 2;have hfz98_3 := blk_frozen BK102.out 3;have hfz98_4 := blk_frozen BK102.out 4;have hfz98_5 := blk_frozen BK102.out 5;have hfz98_6 := blk_frozen BK102.out 6;have hfz98_7 := blk_frozen BK102.out 7;have hcz99_0 : w96.cell? ⟨gb101,0,none⟩ = some (.int .u64 a0_0) := (blk_cell BK101.out 0).trans rfl;have hcz99_1 : w96.cell? ⟨gb101,1,none⟩ = some (.int .i64 a0_1) := (blk_cell BK101.out 1).trans rfl;have hcz99_2 : w96.cell? ⟨gb101,2,none⟩ = some (.int .i64 a0_2) := (blk_cell BK101.out 2).trans rfl;have hfz99_0 := blk_frozen BK101.out 0;have hfz99_1 := blk_frozen BK101.out 1;have hfz99_2 := blk_frozen BK101.out 2))
         go_ret
         exact ⟨by first|rfl|(simp [errW_none,errW_some] <;> rfl)|(simp [*,errW_none,errW_some] <;> rfl),by repeat (first|(with_reducible first|exact HB.out|apply below_alloc|apply pw_below_drewN|apply below_drew1|refine below_set ?_ GE101.out|refine below_set ?_ GE102.out)|exact HB.out)⟩
       ·rw [if_neg c70] at H
        have c70b0 : decide (0 ≤ a1_2) = false := decide_eq_false c70
        clear c70
        obtain rfl := Option.some.inj H
        go_enter Tryd.func32,Tryd.ntmps32
        go_wp2_with (first|((with_reducible refine gate_dst (N := 2) rfl ?_);refine box_event ?hg (N := 2) ?hd (cs := #[.int .u64 a0_0,.int .i64 a0_1,.int .i64 a0_2]) (t := 24) ?hr ?_;(case hd => rfl);(case hg => rfl);(case hr => first|(go_simp;done)|(go_simp;rfl));intro gb101 hg w100 hbox hb;have n0_ := Aside0.mk (below_step (by repeat (first|(with_reducible first|exact HB.out|apply below_alloc|apply pw_below_drewN|apply below_drew1)|exact HB.out)) hb);have n1_ := Aside0.mk (hbox);have n2_ := Aside0.mk ((by rw [hg];exact (below_size (by repeat (first|(with_reducible first|exact HB.out|apply below_alloc|apply pw_below_drewN|apply below_drew1)|exact HB.out))) : w.heap.size ≤ gb101));have n3_ := Aside0.mk ((by rw [hg];exact (below_size (by repeat (first|(with_reducible first|exact HB.out|apply below_alloc|apply pw_below_drewN|apply below_drew1)|exact HB.out))) : w.heap.size ≤ gb101));clear HB;have HB := n0_;have BK101 := n1_;have GW101 := n2_;have GE101 := n3_;clear n0_ n1_ n2_ n3_;clear hb hbox hg)|((with_reducible refine gate_dst (N := 3) rfl ?_);refine box_event ?hg (N := 3) ?hd (cs := #[.int .i64 a1_0,.int .i64 a1_1,.int .i64 a1_2,.int .i64 a1_3,.int .i64 a1_4,.int .u64 a1_5,.int .i64 a1_6,.int .i64 a1_7]) (t := 42) ?hr ?_;(case hd => rfl);(case hg => rfl);(case hr => first|(go_simp;done)|(go_simp;rfl));intro gb102 hg w101 hbox hb;have n0_ := Aside0.mk (blk_below (g := gb101) (o := .cells #[.int .u64 a0_0,.int .i64 a0_1,.int .i64 a0_2] 24 (0,0)) (by (with_reducible repeat (first|refine blk_drewN ?_ _|refine blk_drew ?_|refine blk_alloc ?_ _));exact BK101.out) hb);have n1_ := Aside0.mk (below_step (by repeat (first|(with_reducible first|exact HB.out|apply below_alloc|apply pw_below_drewN|apply below_drew1|refine below_set ?_ GE101.out)|exact HB.out)) hb);have n2_ := Aside0.mk (hbox);have n3_ := Aside0.mk ((by rw [hg];exact (below_size (by repeat (first|(with_reducible first|exact HB.out|apply below_alloc|apply pw_below_drewN|apply below_drew1|refine below_set ?_ GE101.out)|exact HB.out))) : w.heap.size ≤ gb102));have n4_ := Aside0.mk ((by rw [hg];exact (below_size (by repeat (first|(with_reducible first|exact HB.out|apply below_alloc|apply pw_below_drewN|apply below_drew1|refine below_set ?_ GE101.out)|exact HB.out))) : w.heap.size ≤ gb102));have n5_ := Aside0.mk ((by rw [hg];exact Nat.ne_of_lt (blk_lt (g := gb101) (o := .cells #[.int .u64 a0_0,.int .i64 a0_1,.int .i64 a0_2] 24 (0,0)) (by (with_reducible repeat (first|refine blk_drewN ?_ _|refine blk_drew ?_|refine blk_alloc ?_ _));exact BK101.out)) : gb101 ≠ gb102));have n6_ := Aside0.mk ((by rw [hg];exact Nat.ne_of_gt (blk_lt (g := gb101) (o := .cells #[.int .u64 a0_0,.int .i64 a0_1,.int .i64 a0_2] 24 (0,0)) (by (with_reducible repeat (first|refine blk_drewN ?_ _|refine blk_drew ?_|refine blk_alloc ?_ _));exact BK101.out)) : gb102 ≠ gb101));clear BK101;clear HB;have BK101 := n0_;have HB := n1_;have BK102 := n2_;have GW102 := n3_;have GE102 := n4_;have NB101_102 := n5_;have NB102_101 := n6_;clear n0_ n1_ n2_ n3_ n4_ n5_ n6_;clear hb hbox hg;have hnb102 := NB102_101.out;have hnc102 := NB101_102.out;have hcz103_0 : w101.cell? ⟨gb102,0,none⟩ = some (.int .i64 a1_0) := (blk_cell BK102.out 0).trans rfl;have hcz103_1 : w101.cell? ⟨gb102,1,none⟩ = some (.int .i64 a1_1) := (blk_cell BK102.out 1).trans rfl;have hcz103_2 : w101.cell? ⟨gb102,2,none⟩ = some (.int .i64 a1_2) := (blk_cell BK102.out 2).trans rfl;have hcz103_3 : w101.cell? ⟨gb102,3,none⟩ = some (.int .i64 a1_3) := (blk_cell BK102.out 3).trans rfl;have hcz103_4 : w101.cell? ⟨gb102,4,none⟩ = some (.int .i64 a1_4) := (blk_cell BK102.out 4).trans rfl;have hcz103_5 : w101.cell? ⟨gb102,5,none⟩ = some (.int .u64 a1_5) := (blk_cell BK102.out 5).trans rfl;have hcz103_6 : w101.cell? ⟨gb102,6,none⟩ = some (.int .i64 a1_6) := (blk_cell BK102.out 6).trans rfl;have hcz103_7 : w101.cell? ⟨gb102,7,none⟩ = some (.int .i64 a1_7) := (blk_cell BK102.out 7).trans rfl;have hfz103_0 := blk_frozen BK102.out 0;have hfz103_1 := blk_frozen BK102.out 1;have hfz103_2 := blk_frozen BK102.out 2;have hfz103_3 := blk_frozen BK102.out 3;have hfz103_4 := blk_frozen BK102.out 4;have hfz103_5 := blk_frozen BK102.out 5;have hfz103_6 := blk_frozen BK102.out 6;have hfz103_7 := blk_frozen BK102.out 7;have hcz104_0 : w101.cell? ⟨gb101,0,none⟩ = some (.int .u64 a0_0) := (blk_cell BK101.out 0).trans rfl;have hcz104_1 : w101.cell? ⟨gb101,1,none⟩ = some (.int .i64 a0_1) := (blk_cell BK101.out 1).trans rfl;have hcz104_2 : w101.cell? ⟨gb101,2,none⟩ = some (.int .i64 a0_2) := (blk_cell BK101.out 2).trans rfl;have hfz104_0 := blk_frozen BK101.out 0;have hfz104_1 := blk_frozen BK101.out 1;have hfz104_2 := blk_frozen BK101.out 2))
        go_ret
        exact ⟨by first|rfl|(simp [errW_none,errW_some] <;> rfl)|(simp [*,errW_none,errW_some] <;> rfl),by repeat (first|(with_reducible first|exact HB.out|apply below_alloc|apply pw_below_drewN|apply below_drew1|refine below_set ?_ GE101.out|refine below_set ?_ GE102.out)|exact HB.out)⟩
      ·rw [if_neg c69] at H
       have c69b0 : decide (a1_1 ≤ a0_1) = false := decide_eq_false c69
       clear c69
       obtain rfl := Option.some.inj H
       go_enter Tryd.func32,Tryd.ntmps32
       go_wp2_with (first|((with_reducible refine gate_dst (N := 2) rfl ?_);refine box_event ?hg (N := 2) ?hd (cs := #[.int .u64 a0_0,.int .i64 a0_1,.int .i64 a0_2]) (t := 24) ?hr ?_;(case hd => rfl);(case hg => rfl);(case hr => first|(go_simp;done)|(go_simp;rfl));intro gb101 hg w105 hbox hb;have n0_ := Aside0.mk (below_step (by repeat (first|(with_reducible first|exact HB.out|apply below_alloc|apply pw_below_drewN|apply below_drew1)|exact HB.out)) hb);have n1_ := Aside0.mk (hbox);have n2_ := Aside0.mk ((by rw [hg];exact (below_size (by repeat (first|(with_reducible first|exact HB.out|apply below_alloc|apply pw_below_drewN|apply below_drew1)|exact HB.out))) : w.heap.size ≤ gb101));have n3_ := Aside0.mk ((by rw [hg];exact (below_size (by repeat (first|(with_reducible first|exact HB.out|apply below_alloc|apply pw_below_drewN|apply below_drew1)|exact HB.out))) : w.heap.size ≤ gb101));clear HB;have HB := n0_;have BK101 := n1_;have GW101 := n2_;have GE101 := n3_;clear n0_ n1_ n2_ n3_;clear hb hbox hg)|((with_reducible refine gate_dst (N := 3) rfl ?_);refine box_event ?hg (N := 3) ?hd (cs := #[.int .i64 a1_0,.int .i64 a1_1,.int .i64 a1_2,.int .i64 a1_3,.int .i64 a1_4,.int .u64 a1_5,.int .i64 a1_6,.int .i64 a1_7]) (t := 42) ?hr ?_;(case hd => rfl);(case hg => rfl);(case hr => first|(go_simp;done)|(go_simp;rfl));intro gb102 hg w106 hbox hb;have n0_ := Aside0.mk (blk_below (g := gb101) (o := .cells #[.int .u64 a0_0,.int .i64 a0_1,.int .i64 a0_2] 24 (0,0)) (by (with_reducible repeat (first|refine blk_drewN ?_ _|refine blk_drew ?_|refine blk_alloc ?_ _));exact BK101.out) hb);have n1_ := Aside0.mk (below_step (by repeat (first|(with_reducible first|exact HB.out|apply below_alloc|apply pw_below_drewN|apply below_drew1|refine below_set ?_ GE101.out)|exact HB.out)) hb);have n2_ := Aside0.mk (hbox);have n3_ := Aside0.mk ((by rw [hg];exact (below_size (by repeat (first|(with_reducible first|exact HB.out|apply below_alloc|apply pw_below_drewN|apply below_drew1|refine below_set ?_ GE101.out)|exact HB.out))) : w.heap.size ≤ gb102));have n4_ := Aside0.mk ((by rw [hg];exact (below_size (by repeat (first|(with_reducible first|exact HB.out|apply below_alloc|apply pw_below_drewN|apply below_drew1|refine below_set ?_ GE101.out)|exact HB.out))) : w.heap.size ≤ gb102));have n5_ := Aside0.mk ((by rw [hg];exact Nat.ne_of_lt (blk_lt (g := gb101) (o := .cells #[.int .u64 a0_0,.int .i64 a0_1,.int .i64 a0_2] 24 (0,0)) (by (with_reducible repeat (first|refine blk_drewN ?_ _|refine blk_drew ?_|refine blk_alloc ?_ _));exact BK101.out)) : gb101 ≠ gb102));have n6_ := Aside0.mk ((by rw [hg];exact Nat.ne_of_gt (blk_lt (g := gb101) (o := .cells #[.int .u64 a0_0,.int .i64 a0_1,.int .i64 a0_2] 24 (0,0)) (by (with_reducible repeat (first|refine blk_drewN ?_ _|refine blk_drew ?_|refine blk_alloc ?_ _));exact BK101.out)) : gb102 ≠ gb101));clear BK101;clear HB;have BK101 := n0_;have HB := n1_;have BK102 := n2_;have GW102 := n3_;have GE102 := n4_;have NB101_102 := n5_;have NB102_101 := n6_;clear n0_ n1_ n2_ n3_ n4_ n5_ n6_;clear hb hbox hg;have hnb107 := NB102_101.out;have hnc107 := NB101_102.out;have hcz108_0 : w106.cell? ⟨gb102,0,none⟩ = some (.int .i64 a1_0) := (blk_cell BK102.out 0).trans rfl;have hcz108_1 : w106.cell? ⟨gb102,1,none⟩ = some (.int .i64 a1_1) := (blk_cell BK102.out 1).trans rfl;have hcz108_2 : w106.cell? ⟨gb102,2,none⟩ = some (.int .i64 a1_2) := (blk_cell BK102.out 2).trans rfl;have hcz108_3 : w106.cell? ⟨gb102,3,none⟩ = some (.int .i64 a1_3) := (blk_cell BK102.out 3).trans rfl;have hcz108_4 : w106.cell? ⟨gb102,4,none⟩ = some (.int .i64 a1_4) := (blk_cell BK102.out 4).trans rfl;have hcz108_5 : w106.cell? ⟨gb102,5,none⟩ = some (.int .u64 a1_5) := (blk_cell BK102.out 5).trans rfl;have hcz108_6 : w106.cell? ⟨gb102,6,none⟩ = some (.int .i64 a1_6) := (blk_cell BK102.out 6).trans rfl;have hcz108_7 : w106.cell? ⟨gb102,7,none⟩ = some (.int .i64 a1_7) := (blk_cell BK102.out 7).trans rfl;have hfz108_0 := blk_frozen BK102.out 0;have hfz108_1 := blk_frozen BK102.out 1;have hfz108_2 := blk_frozen BK102.out 2;have hfz108_3 := blk_frozen BK102.out 3;have hfz108_4 := blk_frozen BK102.out 4;have hfz108_5 := blk_frozen BK102.out 5;have hfz108_6 := blk_frozen BK102.out 6;have hfz108_7 := blk_frozen BK102.out 7;have hcz109_0 : w106.cell? ⟨gb101,0,none⟩ = some (.int .u64 a0_0) := (blk_cell BK101.out 0).trans rfl;have hcz109_1 : w106.cell? ⟨gb101,1,none⟩ = some (.int .i64 a0_1) := (blk_cell BK101.out 1).trans rfl;have hcz109_2 : w106.cell? ⟨gb101,2,none⟩ = some (.int .i64 a0_2) := (blk_cell BK101.out 2).trans rfl;have hfz109_0 := blk_frozen BK101.out 0;have hfz109_1 := blk_frozen BK101.out 1;have hfz109_2 := blk_frozen BK101.out 2))
       go_ret
       exact ⟨by first|rfl|(simp [errW_none,errW_some] <;> rfl)|(simp [*,errW_none,errW_some] <;> rfl),by repeat (first|(with_reducible first|exact HB.out|apply below_alloc|apply pw_below_drewN|apply below_drew1|refine below_set ?_ GE101.out|refine below_set ?_ GE102.out)|exact HB.out)⟩
     ·rw [if_neg c68] at H
      have c68b0 : decide (1 ≤ a1_1) = false := decide_eq_false c68
      clear c68
      obtain rfl := Option.some.inj H
      go_enter Tryd.func32,Tryd.ntmps32
      go_wp2_with (first|((with_reducible refine gate_dst (N := 2) rfl ?_);refine box_event ?hg (N := 2) ?hd (cs := #[.int .u64 a0_0,.int .i64 a0_1,.int .i64 a0_2]) (t := 24) ?hr ?_;(case hd => rfl);(case hg => rfl);(case hr => first|(go_simp;done)|(go_simp;rfl));intro gb101 hg w110 hbox hb;have n0_ := Aside0.mk (below_step (by repeat (first|(with_reducible first|exact HB.out|apply below_alloc|apply pw_below_drewN|apply below_drew1)|exact HB.out)) hb);have n1_ := Aside0.mk (hbox);have n2_ := Aside0.mk ((by rw [hg];exact (below_size (by repeat (first|(with_reducible first|exact HB.out|apply below_alloc|apply pw_below_drewN|apply below_drew1)|exact HB.out))) : w.heap.size ≤ gb101));have n3_ := Aside0.mk ((by rw [hg];exact (below_size (by repeat (first|(with_reducible first|exact HB.out|apply below_alloc|apply pw_below_drewN|apply below_drew1)|exact HB.out))) : w.heap.size ≤ gb101));clear HB;have HB := n0_;have BK101 := n1_;have GW101 := n2_;have GE101 := n3_;clear n0_ n1_ n2_ n3_;clear hb hbox hg)|((with_reducible refine gate_dst (N := 3) rfl ?_);refine box_event ?hg (N := 3) ?hd (cs := #[.int .i64 a1_0,.int .i64 a1_1,.int .i64 a1_2,.int .i64 a1_3,.int .i64 a1_4,.int .u64 a1_5,.int .i64 a1_6,.int .i64 a1_7]) (t := 42) ?hr ?_;(case hd => rfl);(case hg => rfl);(case hr => first|(go_simp;done)|(go_simp;rfl));intro gb102 hg w111 hbox hb;have n0_ := Aside0.mk (blk_below (g := gb101) (o := .cells #[.int .u64 a0_0,.int .i64 a0_1,.int .i64 a0_2] 24 (0,0)) (by (with_reducible repeat (first|refine blk_drewN ?_ _|refine blk_drew ?_|refine blk_alloc ?_ _));exact BK101.out) hb);have n1_ := Aside0.mk (below_step (by repeat (first|(with_reducible first|exact HB.out|apply below_alloc|apply pw_below_drewN|apply below_drew1|refine below_set ?_ GE101.out)|exact HB.out)) hb);have n2_ := Aside0.mk (hbox);have n3_ := Aside0.mk ((by rw [hg];exact (below_size (by repeat (first|(with_reducible first|exact HB.out|apply below_alloc|apply pw_below_drewN|apply below_drew1|refine below_set ?_ GE101.out)|exact HB.out))) : w.heap.size ≤ gb102));have n4_ := Aside0.mk ((by rw [hg];exact (below_size (by repeat (first|(with_reducible first|exact HB.out|apply below_alloc|apply pw_below_drewN|apply below_drew1|refine below_set ?_ GE101.out)|exact HB.out))) : w.heap.size ≤ gb102));have n5_ := Aside0.mk ((by rw [hg];exact Nat.ne_of_lt (blk_lt (g := gb101) (o := .cells #[.int .u64 a0_0,.int .i64 a0_1,.int .i64 a0_2] 24 (0,0)) (by (with_reducible repeat (first|refine blk_drewN ?_ _|refine blk_drew ?_|refine blk_alloc ?_ _));exact BK101.out)) : gb101 ≠ gb102));have n6_ := Aside0.mk ((by rw [hg];exact Nat.ne_of_gt (blk_lt (g := gb101) (o := .cells #[.int .u64 a0_0,.int .i64 a0_1,.int .i64 a0_2] 24 (0,0)) (by (with_reducible repeat (first|refine blk_drewN ?_ _|refine blk_drew ?_|refine blk_alloc ?_ _));exact BK101.out)) : gb102 ≠ gb101));clear BK101;clear HB;have BK101 := n0_;have HB := n1_;have BK102 := n2_;have GW102 := n3_;have GE102 := n4_;have NB101_102 := n5_;have NB102_101 := n6_;clear n0_ n1_ n2_ n3_ n4_ n5_ n6_;clear hb hbox hg;have hnb112 := NB102_101.out;have hnc112 := NB101_102.out;have hcz113_0 : w111.cell? ⟨gb102,0,none⟩ = some (.int .i64 a1_0) := (blk_cell BK102.out 0).trans rfl;have hcz113_1 : w111.cell? ⟨gb102,1,none⟩ = some (.int .i64 a1_1) := (blk_cell BK102.out 1).trans rfl;have hcz113_2 : w111.cell? ⟨gb102,2,none⟩ = some (.int .i64 a1_2) := (blk_cell BK102.out 2).trans rfl;have hcz113_3 : w111.cell? ⟨gb102,3,none⟩ = some (.int .i64 a1_3) := (blk_cell BK102.out 3).trans rfl;have hcz113_4 : w111.cell? ⟨gb102,4,none⟩ = some (.int .i64 a1_4) := (blk_cell BK102.out 4).trans rfl;have hcz113_5 : w111.cell? ⟨gb102,5,none⟩ = some (.int .u64 a1_5) := (blk_cell BK102.out 5).trans rfl;have hcz113_6 : w111.cell? ⟨gb102,6,none⟩ = some (.int .i64 a1_6) := (blk_cell BK102.out 6).trans rfl;have hcz113_7 : w111.cell? ⟨gb102,7,none⟩ = some (.int .i64 a1_7) := (blk_cell BK102.out 7).trans rfl;have hfz113_0 := blk_frozen BK102.out 0;have hfz113_1 := blk_frozen BK102.out 1;have hfz113_2 := blk_frozen BK102.out 2;have hfz113_3 := blk_frozen BK102.out 3;have hfz113_4 := blk_frozen BK102.out 4;have hfz113_5 := blk_frozen BK102.out 5;have hfz113_6 := blk_frozen BK102.out 6;have hfz113_7 := blk_frozen BK102.out 7))
      go_ret
      exact ⟨by first|rfl|(simp [errW_none,errW_some] <;> rfl)|(simp [*,errW_none,errW_some] <;> rfl),by repeat (first|(with_reducible first|exact HB.out|apply below_alloc|apply pw_below_drewN|apply below_drew1|refine below_set ?_ GE101.out|refine below_set ?_ GE102.out)|exact HB.out)⟩
    ·rw [if_neg c67] at H
     have c67b0 : decide (0 ≤ a1_7) = false := decide_eq_false c67
     clear c67
     obtain rfl := Option.some.inj H
     go_enter Tryd.func32,Tryd.ntmps32
     go_wp2_with (first|((with_reducible refine gate_dst (N := 2) rfl ?_);refine box_event ?hg (N := 2) ?hd (cs := #[.int .u64 a0_0,.int .i64 a0_1,.int .i64 a0_2]) (t := 24) ?hr ?_;(case hd => rfl);(case hg => rfl);(case hr => first|(go_simp;done)|(go_simp;rfl));intro gb101 hg w114 hbox hb;have n0_ := Aside0.mk (below_step (by repeat (first|(with_reducible first|exact HB.out|apply below_alloc|apply pw_below_drewN|apply below_drew1)|exact HB.out)) hb);have n1_ := Aside0.mk (hbox);have n2_ := Aside0.mk ((by rw [hg];exact (below_size (by repeat (first|(with_reducible first|exact HB.out|apply below_alloc|apply pw_below_drewN|apply below_drew1)|exact HB.out))) : w.heap.size ≤ gb101));have n3_ := Aside0.mk ((by rw [hg];exact (below_size (by repeat (first|(with_reducible first|exact HB.out|apply below_alloc|apply pw_below_drewN|apply below_drew1)|exact HB.out))) : w.heap.size ≤ gb101));clear HB;have HB := n0_;have BK101 := n1_;have GW101 := n2_;have GE101 := n3_;clear n0_ n1_ n2_ n3_;clear hb hbox hg)|((with_reducible refine gate_dst (N := 3) rfl ?_);refine box_event ?hg (N := 3) ?hd (cs := #[.int .i64 a1_0,.int .i64 a1_1,.int .i64 a1_2,.int .i64 a1_3,.int .i64 a1_4,.int .u64 a1_5,.int .i64 a1_6,.int .i64 a1_7]) (t := 42) ?hr ?_;(case hd => rfl);(case hg => rfl);(case hr => first|(go_simp;done)|(go_simp;rfl));intro gb102 hg w115 hbox hb;have n0_ := Aside0.mk (blk_below (g := gb101) (o := .cells #[.int .u64 a0_0,.int .i64 a0_1,.int .i64 a0_2] 24 (0,0)) (by (with_reducible repeat (first|refine blk_drewN ?_ _|refine blk_drew ?_|refine blk_alloc ?_ _));exact BK101.out) hb);have n1_ := Aside0.mk (below_step (by repeat (first|(with_reducible first|exact HB.out|apply below_alloc|apply pw_below_drewN|apply below_drew1|refine below_set ?_ GE101.out)|exact HB.out)) hb);have n2_ := Aside0.mk (hbox);have n3_ := Aside0.mk ((by rw [hg];exact (below_size (by repeat (first|(with_reducible first|exact HB.out|apply below_alloc|apply pw_below_drewN|apply below_drew1|refine below_set ?_ GE101.out)|exact HB.out))) : w.heap.size ≤ gb102));have n4_ := Aside0.mk ((by rw [hg];exact (below_size (by repeat (first|(with_reducible first|exact HB.out|apply below_alloc|apply pw_below_drewN|apply below_drew1|refine below_set ?_ GE101.out)|exact HB.out))) : w.heap.size ≤ gb102));have n5_ := Aside0.mk ((by rw [hg];exact Nat.ne_of_lt (blk_lt (g := gb101) (o := .cells #[.int .u64 a0_0,.int .i64 a0_1,.int .i64 a0_2] 24 (0,0)) (by (with_reducible repeat (first|refine blk_drewN ?_ _|refine blk_drew ?_|refine blk_alloc ?_ _));exact BK101.out)) : gb101 ≠ gb102));have n6_ := Aside0.mk ((by rw [hg];exact Nat.ne_of_gt (blk_lt (g := gb101) (o := .cells #[.int .u64 a0_0,.int .i64 a0_1,.int .i64 a0_2] 24 (0,0)) (by (with_reducible repeat (first|refine blk_drewN ?_ _|refine blk_drew ?_|refine blk_alloc ?_ _));exact BK101.out)) : gb102 ≠ gb101));clear BK101;clear HB;have BK101 := n0_;have HB := n1_;have BK102 := n2_;have GW102 := n3_;have GE102 := n4_;have NB101_102 := n5_;have NB102_101 := n6_;clear n0_ n1_ n2_ n3_ n4_ n5_ n6_;clear hb hbox hg;have hnb116 := NB102_101.out;have hnc116 := NB101_102.out;have hcz117_0 : w115.cell? ⟨gb102,0,none⟩ = some (.int .i64 a1_0) := (blk_cell BK102.out 0).trans rfl;have hcz117_1 : w115.cell? ⟨gb102,1,none⟩ = some (.int .i64 a1_1) := (blk_cell BK102.out 1).trans rfl;have hcz117_2 : w115.cell? ⟨gb102,2,none⟩ = some (.int .i64 a1_2) := (blk_cell BK102.out 2).trans rfl;have hcz117_3 : w115.cell? ⟨gb102,3,none⟩ = some (.int .i64 a1_3) := (blk_cell BK102.out 3).trans rfl;have hcz117_4 : w115.cell? ⟨gb102,4,none⟩ = some (.int .i64 a1_4) := (blk_cell BK102.out 4).trans rfl;have hcz117_5 : w115.cell? ⟨gb102,5,none⟩ = some (.int .u64 a1_5) := (blk_cell BK102.out 5).trans rfl;have hcz117_6 : w115.cell? ⟨gb102,6,none⟩ = some (.int .i64 a1_6) := (blk_cell BK102.out 6).trans rfl;have hcz117_7 : w115.cell? ⟨gb102,7,none⟩ = some (.int .i64 a1_7) := (blk_cell BK102.out 7).trans rfl;have hfz117_0 := blk_frozen BK102.out 0;have hfz117_1 := blk_frozen BK102.out 1;have hfz117_2 := blk_frozen BK102.out 2;have hfz117_3 := blk_frozen BK102.out 3;have hfz117_4 := blk_frozen BK102.out 4;have hfz117_5 := blk_frozen BK102.out 5;have hfz117_6 := blk_frozen BK102.out 6;have hfz117_7 := blk_frozen BK102.out 7))
     go_ret
     exact ⟨by first|rfl|(simp [errW_none,errW_some] <;> rfl)|(simp [*,errW_none,errW_some] <;> rfl),by repeat (first|(with_reducible first|exact HB.out|apply below_alloc|apply pw_below_drewN|apply below_drew1|refine below_set ?_ GE101.out|refine below_set ?_ GE102.out)|exact HB.out)⟩
   ·rw [if_neg c66] at H
    have c66b0 : decide (0 ≤ a1_3) = false := decide_eq_false c66
    clear c66
    obtain rfl := Option.some.inj H
    go_enter Tryd.func32,Tryd.ntmps32
    go_wp2_with (first|((with_reducible refine gate_dst (N := 2) rfl ?_);refine box_event ?hg (N := 2) ?hd (cs := #[.int .u64 a0_0,.int .i64 a0_1,.int .i64 a0_2]) (t := 24) ?hr ?_;(case hd => rfl);(case hg => rfl);(case hr => first|(go_simp;done)|(go_simp;rfl));intro gb101 hg w118 hbox hb;have n0_ := Aside0.mk (below_step (by repeat (first|(with_reducible first|exact HB.out|apply below_alloc|apply pw_below_drewN|apply below_drew1)|exact HB.out)) hb);have n1_ := Aside0.mk (hbox);have n2_ := Aside0.mk ((by rw [hg];exact (below_size (by repeat (first|(with_reducible first|exact HB.out|apply below_alloc|apply pw_below_drewN|apply below_drew1)|exact HB.out))) : w.heap.size ≤ gb101));have n3_ := Aside0.mk ((by rw [hg];exact (below_size (by repeat (first|(with_reducible first|exact HB.out|apply below_alloc|apply pw_below_drewN|apply below_drew1)|exact HB.out))) : w.heap.size ≤ gb101));clear HB;have HB := n0_;have BK101 := n1_;have GW101 := n2_;have GE101 := n3_;clear n0_ n1_ n2_ n3_;clear hb hbox hg)|((with_reducible refine gate_dst (N := 3) rfl ?_);refine box_event ?hg (N := 3) ?hd (cs := #[.int .i64 a1_0,.int .i64 a1_1,.int .i64 a1_2,.int .i64 a1_3,.int .i64 a1_4,.int .u64 a1_5,.int .i64 a1_6,.int .i64 a1_7]) (t := 42) ?hr ?_;(case hd => rfl);(case hg => rfl);(case hr => first|(go_simp;done)|(go_simp;rfl));intro gb102 hg w119 hbox hb;have n0_ := Aside0.mk (blk_below (g := gb101) (o := .cells #[.int .u64 a0_0,.int .i64 a0_1,.int .i64 a0_2] 24 (0,0)) (by (with_reducible repeat (first|refine blk_drewN ?_ _|refine blk_drew ?_|refine blk_alloc ?_ _));exact BK101.out) hb);have n1_ := Aside0.mk (below_step (by repeat (first|(with_reducible first|exact HB.out|apply below_alloc|apply pw_below_drewN|apply below_drew1|refine below_set ?_ GE101.out)|exact HB.out)) hb);have n2_ := Aside0.mk (hbox);have n3_ := Aside0.mk ((by rw [hg];exact (below_size (by repeat (first|(with_reducible first|exact HB.out|apply below_alloc|apply pw_below_drewN|apply below_drew1|refine below_set ?_ GE101.out)|exact HB.out))) : w.heap.size ≤ gb102));have n4_ := Aside0.mk ((by rw [hg];exact (below_size (by repeat (first|(with_reducible first|exact HB.out|apply below_alloc|apply pw_below_drewN|apply below_drew1|refine below_set ?_ GE101.out)|exact HB.out))) : w.heap.size ≤ gb102));have n5_ := Aside0.mk ((by rw [hg];exact Nat.ne_of_lt (blk_lt (g := gb101) (o := .cells #[.int .u64 a0_0,.int .i64 a0_1,.int .i64 a0_2] 24 (0,0)) (by (with_reducible repeat (first|refine blk_drewN ?_ _|refine blk_drew ?_|refine blk_alloc ?_ _));exact BK101.out)) : gb101 ≠ gb102));have n6_ := Aside0.mk ((by rw [hg];exact Nat.ne_of_gt (blk_lt (g := gb101) (o := .cells #[.int .u64 a0_0,.int .i64 a0_1,.int .i64 a0_2] 24 (0,0)) (by (with_reducible repeat (first|refine blk_drewN ?_ _|refine blk_drew ?_|refine blk_alloc ?_ _));exact BK101.out)) : gb102 ≠ gb101));clear BK101;clear HB;have BK101 := n0_;have HB := n1_;have BK102 := n2_;have GW102 := n3_;have GE102 := n4_;have NB101_102 := n5_;have NB102_101 := n6_;clear n0_ n1_ n2_ n3_ n4_ n5_ n6_;clear hb hbox hg;have hnb120 := NB102_101.out;have hnc120 := NB101_102.out;have hcz121_0 : w119.cell? ⟨gb102,0,none⟩ = some (.int .i64 a1_0) := (blk_cell BK102.out 0).trans rfl;have hcz121_1 : w119.cell? ⟨gb102,1,none⟩ = some (.int .i64 a1_1) := (blk_cell BK102.out 1).trans rfl;have hcz121_2 : w119.cell? ⟨gb102,2,none⟩ = some (.int .i64 a1_2) := (blk_cell BK102.out 2).trans rfl;have hcz121_3 : w119.cell? ⟨gb102,3,none⟩ = some (.int .i64 a1_3) := (blk_cell BK102.out 3).trans rfl;have hcz121_4 : w119.cell? ⟨gb102,4,none⟩ = some (.int .i64 a1_4) := (blk_cell BK102.out 4).trans rfl;have hcz121_5 : w119.cell? ⟨gb102,5,none⟩ = some (.int .u64 a1_5) := (blk_cell BK102.out 5).trans rfl;have hcz121_6 : w119.cell? ⟨gb102,6,none⟩ = some (.int .i64 a1_6) := (blk_cell BK102.out 6).trans rfl;have hcz121_7 : w119.cell? ⟨gb102,7,none⟩ = some (.int .i64 a1_7) := (blk_cell BK102.out 7).trans rfl;have hfz121_0 := blk_frozen BK102.out 0;have hfz121_1 := blk_frozen BK102.out 1;have hfz121_2 := blk_frozen BK102.out 2;have hfz121_3 := blk_frozen BK102.out 3;have hfz121_4 := blk_frozen BK102.out 4;have hfz121_5 := blk_frozen BK102.out 5;have hfz121_6 := blk_frozen BK102.out 6;have hfz121_7 := blk_frozen BK102.out 7))
    go_ret
    exact ⟨by first|rfl|(simp [errW_none,errW_some] <;> rfl)|(simp [*,errW_none,errW_some] <;> rfl),by repeat (first|(with_reducible first|exact HB.out|apply below_alloc|apply pw_below_drewN|apply below_drew1|refine below_set ?_ GE101.out|refine below_set ?_ GE102.out)|exact HB.out)⟩
  ·rw [if_neg c65] at H
   have c65b0 : decide (0 ≤ a1_0) = false := decide_eq_false c65
   clear c65
   obtain rfl := Option.some.inj H
   go_enter Tryd.func32,Tryd.ntmps32
   go_wp2_with (first|((with_reducible refine gate_dst (N := 2) rfl ?_);refine box_event ?hg (N := 2) ?hd (cs := #[.int .u64 a0_0,.int .i64 a0_1,.int .i64 a0_2]) (t := 24) ?hr ?_;(case hd => rfl);(case hg => rfl);(case hr => first|(go_simp;done)|(go_simp;rfl));intro gb101 hg w122 hbox hb;have n0_ := Aside0.mk (below_step (by repeat (first|(with_reducible first|exact HB.out|apply below_alloc|apply pw_below_drewN|apply below_drew1)|exact HB.out)) hb);have n1_ := Aside0.mk (hbox);have n2_ := Aside0.mk ((by rw [hg];exact (below_size (by repeat (first|(with_reducible first|exact HB.out|apply below_alloc|apply pw_below_drewN|apply below_drew1)|exact HB.out))) : w.heap.size ≤ gb101));have n3_ := Aside0.mk ((by rw [hg];exact (below_size (by repeat (first|(with_reducible first|exact HB.out|apply below_alloc|apply pw_below_drewN|apply below_drew1)|exact HB.out))) : w.heap.size ≤ gb101));clear HB;have HB := n0_;have BK101 := n1_;have GW101 := n2_;have GE101 := n3_;clear n0_ n1_ n2_ n3_;clear hb hbox hg)|((with_reducible refine gate_dst (N := 3) rfl ?_);refine box_event ?hg (N := 3) ?hd (cs := #[.int .i64 a1_0,.int .i64 a1_1,.int .i64 a1_2,.int .i64 a1_3,.int .i64 a1_4,.int .u64 a1_5,.int .i64 a1_6,.int .i64 a1_7]) (t := 42) ?hr ?_;(case hd => rfl);(case hg => rfl);(case hr => first|(go_simp;done)|(go_simp;rfl));intro gb102 hg w123 hbox hb;have n0_ := Aside0.mk (blk_below (g := gb101) (o := .cells #[.int .u64 a0_0,.int .i64 a0_1,.int .i64 a0_2] 24 (0,0)) (by (with_reducible repeat (first|refine blk_drewN ?_ _|refine blk_drew ?_|refine blk_alloc ?_ _));exact BK101.out) hb);have n1_ := Aside0.mk (below_step (by repeat (first|(with_reducible first|exact HB.out|apply below_alloc|apply pw_below_drewN|apply below_drew1|refine below_set ?_ GE101.out)|exact HB.out)) hb);have n2_ := Aside0.mk (hbox);have n3_ := Aside0.mk ((by rw [hg];exact (below_size (by repeat (first|(with_reducible first|exact HB.out|apply below_alloc|apply pw_below_drewN|apply below_drew1|refine below_set ?_ GE101.out)|exact HB.out))) : w.heap.size ≤ gb102));have n4_ := Aside0.mk ((by rw [hg];exact (below_size (by repeat (first|(with_reducible first|exact HB.out|apply below_alloc|apply pw_below_drewN|apply below_drew1|refine below_set ?_ GE101.out)|exact HB.out))) : w.heap.size ≤ gb102));have n5_ := Aside0.mk ((by rw [hg];exact Nat.ne_of_lt (blk_lt (g := gb101) (o := .cells #[.int .u64 a0_0,.int .i64 a0_1,.int .i64 a0_2] 24 (0,0)) (by (with_reducible repeat (first|refine blk_drewN ?_ _|refine blk_drew ?_|refine blk_alloc ?_ _));exact BK101.out)) : gb101 ≠ gb102));have n6_ := Aside0.mk ((by rw [hg];exact Nat.ne_of_gt (blk_lt (g := gb101) (o := .cells #[.int .u64 a0_0,.int .i64 a0_1,.int .i64 a0_2] 24 (0,0)) (by (with_reducible repeat (first|refine blk_drewN ?_ _|refine blk_drew ?_|refine blk_alloc ?_ _));exact BK101.out)) : gb102 ≠ gb101));clear BK101;clear HB;have BK101 := n0_;have HB := n1_;have BK102 := n2_;have GW102 := n3_;have GE102 := n4_;have NB101_102 := n5_;have NB102_101 := n6_;clear n0_ n1_ n2_ n3_ n4_ n5_ n6_;clear hb hbox hg;have hnb124 := NB102_101.out;have hnc124 := NB101_102.out;have hcz125_0 : w123.cell? ⟨gb102,0,none⟩ = some (.int .i64 a1_0) := (blk_cell BK102.out 0).trans rfl;have hcz125_1 : w123.cell? ⟨gb102,1,none⟩ = some (.int .i64 a1_1) := (blk_cell BK102.out 1).trans rfl;have hcz125_2 : w123.cell? ⟨gb102,2,none⟩ = some (.int .i64 a1_2) := (blk_cell BK102.out 2).trans rfl;have hcz125_3 : w123.cell? ⟨gb102,3,none⟩ = some (.int .i64 a1_3) := (blk_cell BK102.out 3).trans rfl;have hcz125_4 : w123.cell? ⟨gb102,4,none⟩ = some (.int .i64 a1_4) := (blk_cell BK102.out 4).trans rfl;have hcz125_5 : w123.cell? ⟨gb102,5,none⟩ = some (.int .u64 a1_5) := (blk_cell BK102.out 5).trans rfl;have hcz125_6 : w123.cell? ⟨gb102,6,none⟩ = some (.int .i64 a1_6) := (blk_cell BK102.out 6).trans rfl;have hcz125_7 : w123.cell? ⟨gb102,7,none⟩ = some (.int .i64 a1_7) := (blk_cell BK102.out 7).trans rfl;have hfz125_0 := blk_frozen BK102.out 0;have hfz125_1 := blk_frozen BK102.out 1;have hfz125_2 := blk_frozen BK102.out 2;have hfz125_3 := blk_frozen BK102.out 3;have hfz125_4 := blk_frozen BK102.out 4;have hfz125_5 := blk_frozen BK102.out 5;have hfz125_6 := blk_frozen BK102.out 6;have hfz125_7 := blk_frozen BK102.out 7))
   go_ret
   exact ⟨by first|rfl|(simp [errW_none,errW_some] <;> rfl)|(simp [*,errW_none,errW_some] <;> rfl),by repeat (first|(with_reducible first|exact HB.out|apply below_alloc|apply pw_below_drewN|apply below_drew1|refine below_set ?_ GE101.out|refine below_set ?_ GE102.out)|exact HB.out)⟩
end Go.Proofs.YtakaonojfpkhnaaDoor.Pr
end
section
/-
  ValidScenario of package params, with its closures and the library's IndexFunc and ContainsFunc, proved by hand.
-/
namespace Go.Proofs.YtakaonojfpkhnaaDoor.Hw
open Go.RowKit Go.Proofs.YtakaonojfpkhnaaDoor.Pr Go.Proofs.YtakaonojfpkhnaaDoorW.PrintWords Go.Proofs.YtakaonojfpkhnaaDoorW.PrintLast Go.Proofs.YtakaonojfpkhnaaDoorW.PrintMore Go.Proofs.YtakaonojfpkhnaaDoor.E
set_option linter.unusedVariables false
set_option linter.unusedSimpArgs false

theorem any_no {α : Type} {q : α → Bool} {l : List α} {n : Nat} (h : n < l.length) (hq : q l[n] = false) : (l.drop n).any q = (l.drop (n + 1)).any q := by rw [List.drop_eq_getElem_cons h, List.any_cons, hq, Bool.false_or]
theorem any_yes {α : Type} {q : α → Bool} {l : List α} {n : Nat} (h : n < l.length) (hq : q l[n] = true) : (l.drop n).any q = true := by rw [List.drop_eq_getElem_cons h, List.any_cons, hq, Bool.true_or]
theorem any_end {α : Type} {q : α → Bool} {l : List α} : (l.drop l.length).any q = false := by rw [List.drop_length]; rfl
set_option maxHeartbeats 4000000 in
set_option maxRecDepth 100000 in
theorem idx_dev (q : S42 → Bool) (bw : Nat) (A : Option Addr) (c : Nat) (l : List (S42)) (w : World) (hr : Kd.C k42 w A l.length l) (hl : l.length ≤ 1000000)
    (hcall : ∀ (W : World) (x : S42), Below w.heap.size w W → Calls Tryd.prog 31 #[.agg #[.int .i64 x.f0, .int .i64 x.f1, .int .i64 x.f2, .int .i64 x.f3, .int .i64 x.f4, .int .u64 x.f5, .int .i64 x.f6, .int .i64 x.f7], .pointer (some ⟨bw, 0, none⟩)] W fun e w' => e = .returned (.bool (q x)) ∧ Below w.heap.size w w') :
    Calls Tryd.prog 47 #[.slice A l.length c, .func (.func 31) #[] #[.pointer (some ⟨bw, 0, none⟩)]] w fun e w' => ∃ r : Int, e = .returned (.int .i64 r) ∧ decide (0 ≤ r) = l.any q ∧ Below w.heap.size w w' := by
  have HR := Aside0.mk hr
  have HC := Aside0.mk hcall
  clear hr hcall
  go_enter Tryd.func47, Tryd.ntmps47
  go_wp2
  go_loopg [5, 8] l.length (fun kq v5 v8 w' => ∃ (n : Nat), v8 = .int .i64 (n : Int) ∧ Aside0 (kq + n = l.length) ∧ Aside0 (l.any q = (l.drop n).any q) ∧ Aside0 (Below w.heap.size w w'))
  case atStart => exact ⟨0, rfl, ⟨rfl⟩, ⟨rfl⟩, ⟨Below.refl _ _⟩⟩
  case round =>
    obtain ⟨n, rfl, HK, HN, HB⟩ := hrel
    by_cases hlt : n < l.length
    · have p1 : ((0 : Int) ≤ (n : Int)) = True := eq_true (by omega)
      have q1 : ((n : Int) < (l.length : Int)) = True := eq_true (by omega)
      obtain ⟨ad, e1, hx0, hx1, hx2, hx3, hx4, hx5, hx6, hx7⟩ := at_T42 HR.out (n : Int) (by omega) (by omega)
      cases e1
      replace hx0 := pw_cell_below HB.out hx0
      replace hx1 := pw_cell_below HB.out hx1
      replace hx2 := pw_cell_below HB.out hx2
      replace hx3 := pw_cell_below HB.out hx3
      replace hx4 := pw_cell_below HB.out hx4
      replace hx5 := pw_cell_below HB.out hx5
      replace hx6 := pw_cell_below HB.out hx6
      replace hx7 := pw_cell_below HB.out hx7
      rw [Int.toNat_natCast] at hx0 hx1 hx2 hx3 hx4 hx5 hx6 hx7
      have hrd : rd_T42 l (n : Int) = l[n] := by unfold rd_T42; rw [Int.toNat_natCast, List.getD_eq_getElem?_getD, List.getElem?_eq_getElem hlt]; rfl
      obtain ⟨y, hy⟩ : ∃ y, y = rd_T42 l (n : Int) := ⟨_, rfl⟩
      rw [← hy] at hx0 hx1 hx2 hx3 hx4 hx5 hx6 hx7 hrd
      have hc := HC.out wr y HB.out
      clear hy
      cases hq : q y with
      | true =>
        have hv : l.any q = true := by rw [HN.out]; exact any_yes hlt (by rw [← hrd]; exact hq)
        have HV := Aside0.mk hv
        rw [hq] at hc
        have HCC := Aside0.mk hc
        clear hv hq hc hrd
        go_wp2_with (first | (go_at_call 31; (with_reducible refine HCC.out.mono ?_); rintro e w' ⟨rfl, hb'⟩; have HB2 := Aside0.mk hb'; clear hb'))
        first | go_ret | ((try simp only [Exit.inBlock, Exit.then]); refine bodyPost_ret (results_tmp rfl _ _ _) rfl ?_)
        exact ⟨_, rfl, by rw [HV.out]; exact decide_eq_true (by omega), HB2.out⟩
      | false =>
        have hv : l.any q = (l.drop (n + 1)).any q := by rw [HN.out]; exact any_no hlt (by rw [← hrd]; exact hq)
        have HV := Aside0.mk hv
        rw [hq] at hc
        have HCC := Aside0.mk hc
        clear hv hq hc hrd
        go_wp2_with (first | (go_at_call 31; (with_reducible refine HCC.out.mono ?_); rintro e w' ⟨rfl, hb'⟩; have HB2 := Aside0.mk hb'; clear hb'))
        go_roundg (l.length - (n + 1))
        case measure => have := HK.out; omega
        case rel => exact ⟨n + 1, by go_num, ⟨by omega⟩, HV, HB2⟩
    · have hd : decide ((n : Int) < (l.length : Int)) = false := decide_eq_false (by omega)
      have hn : n = l.length := by have := HK.out; omega
      subst hn
      have hv : l.any q = false := by rw [HN.out]; exact any_end
      have HV := Aside0.mk hv
      clear hv
      go_wp2
      first | go_ret | ((try simp only [Exit.inBlock, Exit.then]); refine bodyPost_ret (results_tmp rfl _ _ _) rfl ?_)
      exact ⟨_, rfl, by rw [HV.out]; rfl, HB.out⟩
theorem has_dev (q : S42 → Bool) (bw : Nat) (A : Option Addr) (c : Nat) (l : List (S42)) (w : World) (hr : Kd.C k42 w A l.length l) (hl : l.length ≤ 1000000)
    (hcall : ∀ (W : World) (x : S42), Below w.heap.size w W → Calls Tryd.prog 31 #[.agg #[.int .i64 x.f0, .int .i64 x.f1, .int .i64 x.f2, .int .i64 x.f3, .int .i64 x.f4, .int .u64 x.f5, .int .i64 x.f6, .int .i64 x.f7], .pointer (some ⟨bw, 0, none⟩)] W fun e w' => e = .returned (.bool (q x)) ∧ Below w.heap.size w w') :
    Calls Tryd.prog 30 #[.slice A l.length c, .func (.func 31) #[] #[.pointer (some ⟨bw, 0, none⟩)]] w fun e w' => e = .returned (.bool (l.any q)) ∧ Below w.heap.size w w' := by
  have hi := Aside0.mk (idx_dev q bw A c l w hr hl hcall)
  clear hr hcall
  go_enter Tryd.func30, Tryd.ntmps30
  go_wp2_with (first | (go_at_call 47; (with_reducible refine hi.out.mono ?_); rintro e w' ⟨r, rfl, hv, hb'⟩; have HV := Aside0.mk hv; have HB2 := Aside0.mk hb'; clear hv hb'))
  first | go_ret | ((try simp only [Exit.inBlock, Exit.then]); refine bodyPost_ret (results_tmp rfl _ _ _) rfl ?_)
  exact ⟨by first | (rw [HV.out]; done) | (rw [HV.out] <;> rfl) | (rw [← HV.out] <;> rfl), HB2.out⟩
set_option maxHeartbeats 4000000 in
set_option maxRecDepth 100000 in
theorem idx_word (q : Int → Bool) (bw : Nat) (A : Option Addr) (c : Nat) (l : List (Int)) (w : World) (hr : Kd.C (Kd.int .u64) w A l.length l) (hl : l.length ≤ 1000000)
    (hcall : ∀ (W : World) (x : Int), Below w.heap.size w W → Calls Tryd.prog 36 #[.int .u64 x, .pointer (some ⟨bw, 0, none⟩)] W fun e w' => e = .returned (.bool (q x)) ∧ Below w.heap.size w w') :
    Calls Tryd.prog 49 #[.slice A l.length c, .func (.func 36) #[] #[.pointer (some ⟨bw, 0, none⟩)]] w fun e w' => ∃ r : Int, e = .returned (.int .i64 r) ∧ decide (0 ≤ r) = l.any q ∧ Below w.heap.size w w' := by
  have HR := Aside0.mk hr
  have HC := Aside0.mk hcall
  clear hr hcall
  go_enter Tryd.func49, Tryd.ntmps49
  go_wp2
  go_loopg [5, 8] l.length (fun kq v5 v8 w' => ∃ (n : Nat), v8 = .int .i64 (n : Int) ∧ Aside0 (kq + n = l.length) ∧ Aside0 (l.any q = (l.drop n).any q) ∧ Aside0 (Below w.heap.size w w'))
  case atStart => exact ⟨0, rfl, ⟨rfl⟩, ⟨rfl⟩, ⟨Below.refl _ _⟩⟩
  case round =>
    obtain ⟨n, rfl, HK, HN, HB⟩ := hrel
    by_cases hlt : n < l.length
    · have p1 : ((0 : Int) ≤ (n : Int)) = True := eq_true (by omega)
      have q1 : ((n : Int) < (l.length : Int)) = True := eq_true (by omega)
      obtain ⟨ad, e1, hx⟩ := Kd.at_int HR.out (n : Int) (by omega) (by omega)
      cases e1
      replace hx := pw_cell_below HB.out hx
      rw [Int.toNat_natCast] at hx
      have hrd : rd l (n : Int) = l[n] := by unfold rd; rw [Int.toNat_natCast, List.getD_eq_getElem?_getD, List.getElem?_eq_getElem hlt]; rfl
      obtain ⟨y, hy⟩ : ∃ y, y = rd l (n : Int) := ⟨_, rfl⟩
      rw [← hy] at hx hrd
      have hc := HC.out wr y HB.out
      clear hy
      cases hq : q y with
      | true =>
        have hv : l.any q = true := by rw [HN.out]; exact any_yes hlt (by rw [← hrd]; exact hq)
        have HV := Aside0.mk hv
        rw [hq] at hc
        have HCC := Aside0.mk hc
        clear hv hq hc hrd
        go_wp2_with (first | (go_at_call 36; (with_reducible refine HCC.out.mono ?_); rintro e w' ⟨rfl, hb'⟩; have HB2 := Aside0.mk hb'; clear hb'))
        first | go_ret | ((try simp only [Exit.inBlock, Exit.then]); refine bodyPost_ret (results_tmp rfl _ _ _) rfl ?_)
        exact ⟨_, rfl, by rw [HV.out]; exact decide_eq_true (by omega), HB2.out⟩
      | false =>
        have hv : l.any q = (l.drop (n + 1)).any q := by rw [HN.out]; exact any_no hlt (by rw [← hrd]; exact hq)
        have HV := Aside0.mk hv
        rw [hq] at hc
        have HCC := Aside0.mk hc
        clear hv hq hc hrd
        go_wp2_with (first | (go_at_call 36; (with_reducible refine HCC.out.mono ?_); rintro e w' ⟨rfl, hb'⟩; have HB2 := Aside0.mk hb'; clear hb'))
        go_roundg (l.length - (n + 1))
        case measure => have := HK.out; omega
        case rel => exact ⟨n + 1, by go_num, ⟨by omega⟩, HV, HB2⟩
    · have hd : decide ((n : Int) < (l.length : Int)) = false := decide_eq_false (by omega)
      have hn : n = l.length := by have := HK.out; omega
      subst hn
      have hv : l.any q = false := by rw [HN.out]; exact any_end
      have HV := Aside0.mk hv
      clear hv
      go_wp2
      first | go_ret | ((try simp only [Exit.inBlock, Exit.then]); refine bodyPost_ret (results_tmp rfl _ _ _) rfl ?_)
      exact ⟨_, rfl, by rw [HV.out]; rfl, HB.out⟩
theorem has_word (q : Int → Bool) (bw : Nat) (A : Option Addr) (c : Nat) (l : List (Int)) (w : World) (hr : Kd.C (Kd.int .u64) w A l.length l) (hl : l.length ≤ 1000000)
    (hcall : ∀ (W : World) (x : Int), Below w.heap.size w W → Calls Tryd.prog 36 #[.int .u64 x, .pointer (some ⟨bw, 0, none⟩)] W fun e w' => e = .returned (.bool (q x)) ∧ Below w.heap.size w w') :
    Calls Tryd.prog 35 #[.slice A l.length c, .func (.func 36) #[] #[.pointer (some ⟨bw, 0, none⟩)]] w fun e w' => e = .returned (.bool (l.any q)) ∧ Below w.heap.size w w' := by
  have hi := Aside0.mk (idx_word q bw A c l w hr hl hcall)
  clear hr hcall
  go_enter Tryd.func35, Tryd.ntmps35
  go_wp2_with (first | (go_at_call 49; (with_reducible refine hi.out.mono ?_); rintro e w' ⟨r, rfl, hv, hb'⟩; have HV := Aside0.mk hv; have HB2 := Aside0.mk hb'; clear hv hb'))
  first | go_ret | ((try simp only [Exit.inBlock, Exit.then]); refine bodyPost_ret (results_tmp rfl _ _ _) rfl ?_)
  exact ⟨by first | (rw [HV.out]; done) | (rw [HV.out] <;> rfl) | (rw [← HV.out] <;> rfl), HB2.out⟩
set_option maxHeartbeats 4000000 in
set_option maxRecDepth 100000 in
theorem idx_row (q : List Int → Bool) (bw : Nat) (A : Option Addr) (c : Nat) (l : List (List Int)) (w : World) (hr : Kd.C (Kd.slice 22 (Kd.int .u64)) w A l.length l) (hl : l.length ≤ 1000000)
    (hcall : ∀ (W : World) (A' : Option Addr) (c' : Nat) (x : List Int), x ∈ l → Below w.heap.size w W → Kd.C (Kd.int .u64) W A' x.length x → x.length ≤ c' → Calls Tryd.prog 34 #[.slice A' x.length c', .pointer (some ⟨bw, 0, none⟩)] W fun e w' => e = .returned (.bool (q x)) ∧ Below w.heap.size w w') :
    Calls Tryd.prog 48 #[.slice A l.length c, .func (.func 34) #[] #[.pointer (some ⟨bw, 0, none⟩)]] w fun e w' => ∃ r : Int, e = .returned (.int .i64 r) ∧ decide (0 ≤ r) = l.any q ∧ Below w.heap.size w w' := by
  have HR := Aside0.mk hr
  have HC := Aside0.mk hcall
  clear hr hcall
  go_enter Tryd.func48, Tryd.ntmps48
  go_wp2
  go_loopg [5, 8] l.length (fun kq v5 v8 w' => ∃ (n : Nat), v8 = .int .i64 (n : Int) ∧ Aside0 (kq + n = l.length) ∧ Aside0 (l.any q = (l.drop n).any q) ∧ Aside0 (Below w.heap.size w w'))
  case atStart => exact ⟨0, rfl, ⟨rfl⟩, ⟨rfl⟩, ⟨Below.refl _ _⟩⟩
  case round =>
    obtain ⟨n, rfl, HK, HN, HB⟩ := hrel
    by_cases hlt : n < l.length
    · have p1 : ((0 : Int) ≤ (n : Int)) = True := eq_true (by omega)
      have q1 : ((n : Int) < (l.length : Int)) = True := eq_true (by omega)
      obtain ⟨ad, A4, c4, e1, hx, hc4, hC4⟩ := at_L6 HR.out (n : Int) (by omega) (by omega)
      cases e1
      replace hx := pw_cell_below HB.out hx
      rw [Int.toNat_natCast] at hx
      have hrd : rd_L6 l (n : Int) = l[n] := by unfold rd_L6; rw [Int.toNat_natCast, List.getD_eq_getElem?_getD, List.getElem?_eq_getElem hlt]; rfl
      obtain ⟨y, hy⟩ : ∃ y, y = rd_L6 l (n : Int) := ⟨_, rfl⟩
      rw [← hy] at hx hrd hc4 hC4
      have hc := HC.out wr A4 c4 y (by rw [hrd]; exact List.getElem_mem _) HB.out (Kd.C_below hC4 HB.out) hc4
      clear hy hC4
      cases hq : q y with
      | true =>
        have hv : l.any q = true := by rw [HN.out]; exact any_yes hlt (by rw [← hrd]; exact hq)
        have HV := Aside0.mk hv
        rw [hq] at hc
        have HCC := Aside0.mk hc
        clear hv hq hc hrd
        go_wp2_with (first | (go_at_call 34; (with_reducible refine HCC.out.mono ?_); rintro e w' ⟨rfl, hb'⟩; have HB2 := Aside0.mk hb'; clear hb'))
        first | go_ret | ((try simp only [Exit.inBlock, Exit.then]); refine bodyPost_ret (results_tmp rfl _ _ _) rfl ?_)
        exact ⟨_, rfl, by rw [HV.out]; exact decide_eq_true (by omega), HB2.out⟩
      | false =>
        have hv : l.any q = (l.drop (n + 1)).any q := by rw [HN.out]; exact any_no hlt (by rw [← hrd]; exact hq)
        have HV := Aside0.mk hv
        rw [hq] at hc
        have HCC := Aside0.mk hc
        clear hv hq hc hrd
        go_wp2_with (first | (go_at_call 34; (with_reducible refine HCC.out.mono ?_); rintro e w' ⟨rfl, hb'⟩; have HB2 := Aside0.mk hb'; clear hb'))
        go_roundg (l.length - (n + 1))
        case measure => have := HK.out; omega
        case rel => exact ⟨n + 1, by go_num, ⟨by omega⟩, HV, HB2⟩
    · have hd : decide ((n : Int) < (l.length : Int)) = false := decide_eq_false (by omega)
      have hn : n = l.length := by have := HK.out; omega
      subst hn
      have hv : l.any q = false := by rw [HN.out]; exact any_end
      have HV := Aside0.mk hv
      clear hv
      go_wp2
      first | go_ret | ((try simp only [Exit.inBlock, Exit.then]); refine bodyPost_ret (results_tmp rfl _ _ _) rfl ?_)
      exact ⟨_, rfl, by rw [HV.out]; rfl, HB.out⟩
theorem has_row (q : List Int → Bool) (bw : Nat) (A : Option Addr) (c : Nat) (l : List (List Int)) (w : World) (hr : Kd.C (Kd.slice 22 (Kd.int .u64)) w A l.length l) (hl : l.length ≤ 1000000)
    (hcall : ∀ (W : World) (A' : Option Addr) (c' : Nat) (x : List Int), x ∈ l → Below w.heap.size w W → Kd.C (Kd.int .u64) W A' x.length x → x.length ≤ c' → Calls Tryd.prog 34 #[.slice A' x.length c', .pointer (some ⟨bw, 0, none⟩)] W fun e w' => e = .returned (.bool (q x)) ∧ Below w.heap.size w w') :
    Calls Tryd.prog 33 #[.slice A l.length c, .func (.func 34) #[] #[.pointer (some ⟨bw, 0, none⟩)]] w fun e w' => e = .returned (.bool (l.any q)) ∧ Below w.heap.size w w' := by
  have hi := Aside0.mk (idx_row q bw A c l w hr hl hcall)
  clear hr hcall
  go_enter Tryd.func33, Tryd.ntmps33
  go_wp2_with (first | (go_at_call 48; (with_reducible refine hi.out.mono ?_); rintro e w' ⟨r, rfl, hv, hb'⟩; have HV := Aside0.mk hv; have HB2 := Aside0.mk hb'; clear hv hb'))
  first | go_ret | ((try simp only [Exit.inBlock, Exit.then]); refine bodyPost_ret (results_tmp rfl _ _ _) rfl ?_)
  exact ⟨by first | (rw [HV.out]; done) | (rw [HV.out] <;> rfl) | (rw [← HV.out] <;> rfl), HB2.out⟩
/-- The scenario in its block. -/
def scnC (p N T : Int) (vc vd vt : Value) : Array Value := #[.int .u64 p, .int .i64 N, .int .i64 T, vc, vd, vt]
def ScnAt (w : World) (b : Nat) (p N T : Int) (vc vd vt : Value) : Prop := w.heap[b]? = some (.cells (scnC p N T vc vd vt) 32 (0, 0))
set_option maxHeartbeats 2000000 in
set_option maxRecDepth 100000 in
theorem pred_word {p N T : Int} {vc vd vt : Value} {bw : Nat} {w : World} (hbw : ScnAt w bw p N T vc vd vt) (W : World) (x : Int) (hb : Below w.heap.size w W) :
    Calls Tryd.prog 36 #[.int .u64 x, .pointer (some ⟨bw, 0, none⟩)] W fun e w' => e = .returned (.bool (decide (p ≤ x))) ∧ Below w.heap.size w w' := by
  have c0 := blk_cell (blk_below hbw hb) 0
  simp only [scnC, List.getElem?_toArray, List.getElem?_cons_zero, List.getElem?_cons_succ] at c0
  have HB := Aside0.mk hb
  clear hb hbw
  go_enter Tryd.func36, Tryd.ntmps36
  go_wp2
  first | go_ret | ((try simp only [Exit.inBlock, Exit.then]); refine bodyPost_ret (results_tmp rfl _ _ _) rfl ?_)
  exact ⟨rfl, HB.out⟩
set_option maxHeartbeats 2000000 in
set_option maxRecDepth 100000 in
theorem pred_row {p N T : Int} {vc vd vt : Value} {bw : Nat} {w : World} (hbw : ScnAt w bw p N T vc vd vt) (W : World) (A : Option Addr) (c : Nat) (x : List Int) (hb : Below w.heap.size w W) (hr : Kd.C (Kd.int .u64) W A x.length x) (hl : x.length ≤ 1000000) :
    Calls Tryd.prog 34 #[.slice A x.length c, .pointer (some ⟨bw, 0, none⟩)] W fun e w' => e = .returned (.bool (x.any fun z => decide (p ≤ z))) ∧ Below w.heap.size w w' := by
  have hi := Aside0.mk (has_word (fun z => decide (p ≤ z)) bw A c x W hr hl (fun W' z hb' => pred_word (blk_below hbw hb) W' z hb'))
  have HB := Aside0.mk hb
  clear hb hbw hr
  go_enter Tryd.func34, Tryd.ntmps34
  go_wp2_with (first | (go_at_call 35; (with_reducible refine hi.out.mono ?_); rintro e w' ⟨rfl, hb'⟩; have HB2 := Aside0.mk (below_step HB.out hb'); clear hb'))
  first | go_ret | ((try simp only [Exit.inBlock, Exit.then]); refine bodyPost_ret (results_tmp rfl _ _ _) rfl ?_)
  exact ⟨rfl, HB2.out⟩
/-- A valid deviation. -/
def lieB (N : Int) (x : S42) : Bool := decide (x.f0 ≥ 0) && (decide (x.f3 ≥ 0) && (decide (x.f7 ≥ 0) && (decide (x.f1 ≥ 1) && (decide (x.f1 ≤ N) && (decide (x.f2 ≥ 0) && (decide (x.f2 ≤ N) && (decide (x.f4 ≥ 1) && (decide (x.f4 ≤ 4) && (decide (x.f6 ≥ (if x.f4 = 3 then 1 else 0)) && decide (x.f6 ≤ N))))))))))
theorem ite_some {a : Prop} [Decidable a] {X : Option Bool} {x : Bool} (h : X = some x) : (if a then X else some false) = some (decide a && x) := by
  by_cases ha : a
  · rw [if_pos ha, decide_eq_true ha, Bool.true_and]; exact h
  · rw [if_neg ha, decide_eq_false ha, Bool.false_and]
theorem lie_eq (p N T : Int) (x : S42) : params_lie.f p N T x.f0 x.f1 x.f2 x.f3 x.f4 x.f5 x.f6 x.f7 = some (lieB N x) := by
  unfold params_lie.f lieB
  by_cases h3 : x.f4 = 3
  · rw [if_pos h3, if_pos h3]
    exact ite_some (ite_some (ite_some (ite_some (ite_some (ite_some (ite_some (ite_some (ite_some (ite_some rfl)))))))))
  · rw [if_neg h3, if_neg h3]
    exact ite_some (ite_some (ite_some (ite_some (ite_some (ite_some (ite_some (ite_some (ite_some (ite_some rfl)))))))))
set_option maxHeartbeats 2000000 in
set_option maxRecDepth 100000 in
theorem pred_dev {p N T : Int} {vc vd vt : Value} {bw : Nat} {w : World} (hbw : ScnAt w bw p N T vc vd vt) (W : World) (x : S42) (hb : Below w.heap.size w W) :
    Calls Tryd.prog 31 #[.agg #[.int .i64 x.f0, .int .i64 x.f1, .int .i64 x.f2, .int .i64 x.f3, .int .i64 x.f4, .int .u64 x.f5, .int .i64 x.f6, .int .i64 x.f7], .pointer (some ⟨bw, 0, none⟩)] W fun e w' => e = .returned (.bool (!lieB N x)) ∧ Below w.heap.size w w' := by
  have HBW := Aside0.mk hbw
  have HL := Aside0.mk (fun W => params_lie.calls p N T x.f0 x.f1 x.f2 x.f3 x.f4 x.f5 x.f6 x.f7 (lieB N x) W (lie_eq p N T x))
  have HB := Aside0.mk hb
  clear hb hbw
  go_enter Tryd.func31, Tryd.ntmps31
  go_wp2_with (first
    | ((with_reducible refine gate_dst (N := 2) rfl ?_); refine box_event ?hg (N := 2) ?hd (cs := #[.int .i64 x.f0, .int .i64 x.f1, .int .i64 x.f2, .int .i64 x.f3, .int .i64 x.f4, .int .u64 x.f5, .int .i64 x.f6, .int .i64 x.f7]) (t := 42) ?hr ?_; (case hd => rfl); (case hg => rfl); (case hr => first | (go_simp; done) | (go_simp; rfl)); intro gb hgb w4 hbox hb4; have HB4 := Aside0.mk (below_step HB.out hb4); have hblk := blk_below HBW.out HB4.out; have c0 := blk_cell hblk 0; have c1 := blk_cell hblk 1; have c2 := blk_cell hblk 2; have d0 := blk_cell hbox 0; have d1 := blk_cell hbox 1; have d2 := blk_cell hbox 2; have d3 := blk_cell hbox 3; have d4 := blk_cell hbox 4; have d5 := blk_cell hbox 5; have d6 := blk_cell hbox 6; have d7 := blk_cell hbox 7; clear hbox hb4 hgb hblk; simp only [scnC, List.getElem?_toArray, List.getElem?_cons_zero, List.getElem?_cons_succ] at c0 c1 c2 d0 d1 d2 d3 d4 d5 d6 d7)
    | (go_at_call 32; (with_reducible refine (HL.out _).mono ?_); rintro e w' ⟨rfl, hb'⟩; have HB2 := Aside0.mk (below_step HB4.out hb'); clear hb'))
  first | go_ret | ((try simp only [Exit.inBlock, Exit.then]); refine bodyPost_ret (results_tmp rfl _ _ _) rfl ?_)
  exact ⟨rfl, HB2.out⟩
end Go.Proofs.YtakaonojfpkhnaaDoor.Hw
end
section
/-
  ValidScenario of package params, joined: proved by hand.
-/
namespace Go.Proofs.YtakaonojfpkhnaaDoor.Hw
open Go.RowKit Go.Proofs.YtakaonojfpkhnaaDoor.Pr Go.Proofs.YtakaonojfpkhnaaDoorW.PrintWords Go.Proofs.YtakaonojfpkhnaaDoorW.PrintLast Go.Proofs.YtakaonojfpkhnaaDoorW.PrintMore Go.Proofs.YtakaonojfpkhnaaDoor.E
set_option linter.unusedVariables false
set_option linter.unusedSimpArgs false

/-- Whether a scenario is valid. -/
def scnB (p N T : Int) (l : List Int) (d : List S42) (t : List (List Int)) : Bool :=
  coaB p N T l && (decide ((t.length : Int) = N) && (!(d.any fun x => !lieB N x) && !(t.any fun y => y.any fun z => decide (p ≤ z))))
set_option maxHeartbeats 4000000 in
set_option maxRecDepth 100000 in
theorem scn_walk (p N T : Int) (A1 : Option Addr) (c1 : Nat) (l : List Int) (A2 : Option Addr) (c2 : Nat) (d : List S42) (A3 : Option Addr) (c3 : Nat) (t : List (List Int)) (w : World)
    (hr1 : Kd.C (Kd.int .i64) w A1 l.length l) (hc1 : l.length ≤ c1) (hr2 : Kd.C k42 w A2 d.length d) (hc2 : d.length ≤ c2) (hr3 : Kd.C (Kd.slice 22 (Kd.int .u64)) w A3 t.length t) (hc3 : t.length ≤ c3)
    (ld : d.length ≤ 1000000) (lt : t.length ≤ 1000000) (lx : ∀ x ∈ t, x.length ≤ 1000000) (hx : Hx w) :
    Calls Tryd.prog 14 #[.agg #[.int .u64 p, .int .i64 N, .int .i64 T, .slice A1 l.length c1, .slice A2 d.length c2, .slice A3 t.length c3]] w fun e w' => e = .returned (.bool (scnB p N T l d t)) ∧ Below w.heap.size w w' := by
  obtain ⟨kc, hkc⟩ := (coaP_ev p N T l).rounds
  have HKC := Aside0.mk hkc
  have HR1 := Aside0.mk hr1
  have HR2 := Aside0.mk hr2
  have HR3 := Aside0.mk hr3
  have HX := Aside0.mk hx
  have LX := Aside0.mk lx
  clear hr1 hr2 hr3 hx lx hkc
  obtain ⟨r1, h1⟩ : ∃ y, y = coaB p N T l := ⟨_, rfl⟩
  obtain ⟨r2, h2⟩ : ∃ y, y = (d.any fun x => !lieB N x) := ⟨_, rfl⟩
  obtain ⟨r3, h3⟩ : ∃ y, y = (t.any fun y => y.any fun z => decide (p ≤ z)) := ⟨_, rfl⟩
  unfold scnB
  rw [← h1] at HKC
  rw [← h1, ← h2, ← h3]
  have H2 := Aside0.mk h2
  have H3 := Aside0.mk h3
  clear h1 h2 h3
  by_cases hlen : (t.length : Int) = N
  · rw [decide_eq_true hlen]
    have q1 : ((t.length : Int) != N) = false := by rw [hlen]; exact bne_self_eq_false N
    clear hlen
    cases r1 <;> cases r2
    all_goals (
      go_enter Tryd.func14, Tryd.ntmps14
      go_wp2_with (first
        | ((with_reducible refine gate_dst (N := 1) rfl ?_); refine box_event ?hg (N := 1) ?hd (cs := #[.int .u64 p, .int .i64 N, .int .i64 T, .slice A1 l.length c1, .slice A2 d.length c2, .slice A3 t.length c3]) (t := 32) ?hr ?_; (case hd => rfl); (case hg => rfl); (case hr => first | (go_simp; done) | (go_simp; rfl)); intro gb hgb w4 hbox hb4; have GB := Aside0.mk hgb; have BK := Aside0.mk hbox; have HB := Aside0.mk hb4; clear hbox hb4 hgb; have d0a := blk_cell BK.out 0; have d1a := blk_cell BK.out 1; have d2a := blk_cell BK.out 2; have d3a := blk_cell BK.out 3; have d4a := blk_cell BK.out 4; have d5a := blk_cell BK.out 5; simp only [scnC, List.getElem?_toArray, List.getElem?_cons_zero, List.getElem?_cons_succ] at d0a d1a d2a d3a d4a d5a)
        | (go_at_call 12; (with_reducible refine (params_ValidCoalition.calls kc p N T A1 c1 l _ _ (Kd.C_below HR1.out HB.out) (by assumption) (Hx_below HX.out HB.out) HKC.out).mono ?_); rintro e w5 ⟨rfl, hb5⟩; have BK5 := Aside0.mk (blk_below BK.out hb5); have SC5 := Aside0.mk (show ScnAt w5 gb p N T (.slice A1 l.length c1) (.slice A2 d.length c2) (.slice A3 t.length c3) from BK5.out); have HB5 := Aside0.mk (below_step HB.out hb5); clear hb5; have d0b := blk_cell BK5.out 0; have d1b := blk_cell BK5.out 1; have d2b := blk_cell BK5.out 2; have d3b := blk_cell BK5.out 3; have d4b := blk_cell BK5.out 4; have d5b := blk_cell BK5.out 5; simp only [scnC, List.getElem?_toArray, List.getElem?_cons_zero, List.getElem?_cons_succ] at d0b d1b d2b d3b d4b d5b)
        | (go_at_call 30; (with_reducible refine (has_dev (fun x => !lieB N x) gb A2 c2 d _ (Kd.C_below HR2.out HB5.out) (by assumption) (fun W x hb => pred_dev SC5.out W x hb)).mono ?_); rintro e w6 ⟨rfl, hb6⟩; rw [← H2.out]; have BK6 := Aside0.mk (blk_below BK5.out hb6); have SC6 := Aside0.mk (show ScnAt w6 gb p N T (.slice A1 l.length c1) (.slice A2 d.length c2) (.slice A3 t.length c3) from BK6.out); have HB6 := Aside0.mk (below_step HB5.out hb6); clear hb6; have d0c := blk_cell BK6.out 0; have d1c := blk_cell BK6.out 1; have d2c := blk_cell BK6.out 2; have d3c := blk_cell BK6.out 3; have d4c := blk_cell BK6.out 4; have d5c := blk_cell BK6.out 5; simp only [scnC, List.getElem?_toArray, List.getElem?_cons_zero, List.getElem?_cons_succ] at d0c d1c d2c d3c d4c d5c)
        | (go_at_call 33; (with_reducible refine (has_row (fun y => y.any fun z => decide (p ≤ z)) gb A3 c3 t _ (Kd.C_below HR3.out HB6.out) (by assumption) (fun W A' c' x hm hb hr hc => pred_row SC6.out W A' c' x hb hr (LX.out x hm))).mono ?_); rintro e w7 ⟨rfl, hb7⟩; rw [← H3.out]; have HB7 := Aside0.mk (below_step HB6.out hb7); clear hb7))
      first | go_ret | ((try simp only [Exit.inBlock, Exit.then]); refine bodyPost_ret (results_tmp rfl _ _ _) rfl ?_)
      first | exact ⟨rfl, HB7.out⟩ | exact ⟨rfl, HB6.out⟩ | exact ⟨rfl, HB5.out⟩)
  · rw [decide_eq_false hlen]
    have q1 : ((t.length : Int) != N) = true := bne_iff_ne.mpr hlen
    clear hlen
    cases r1
    all_goals (
      go_enter Tryd.func14, Tryd.ntmps14
      go_wp2_with (first
        | ((with_reducible refine gate_dst (N := 1) rfl ?_); refine box_event ?hg (N := 1) ?hd (cs := #[.int .u64 p, .int .i64 N, .int .i64 T, .slice A1 l.length c1, .slice A2 d.length c2, .slice A3 t.length c3]) (t := 32) ?hr ?_; (case hd => rfl); (case hg => rfl); (case hr => first | (go_simp; done) | (go_simp; rfl)); intro gb hgb w4 hbox hb4; have GB := Aside0.mk hgb; have BK := Aside0.mk hbox; have HB := Aside0.mk hb4; clear hbox hb4 hgb; have d0a := blk_cell BK.out 0; have d1a := blk_cell BK.out 1; have d2a := blk_cell BK.out 2; have d3a := blk_cell BK.out 3; have d4a := blk_cell BK.out 4; have d5a := blk_cell BK.out 5; simp only [scnC, List.getElem?_toArray, List.getElem?_cons_zero, List.getElem?_cons_succ] at d0a d1a d2a d3a d4a d5a)
        | (go_at_call 12; (with_reducible refine (params_ValidCoalition.calls kc p N T A1 c1 l _ _ (Kd.C_below HR1.out HB.out) (by assumption) (Hx_below HX.out HB.out) HKC.out).mono ?_); rintro e w5 ⟨rfl, hb5⟩; have BK5 := Aside0.mk (blk_below BK.out hb5); have SC5 := Aside0.mk (show ScnAt w5 gb p N T (.slice A1 l.length c1) (.slice A2 d.length c2) (.slice A3 t.length c3) from BK5.out); have HB5 := Aside0.mk (below_step HB.out hb5); clear hb5; have d0b := blk_cell BK5.out 0; have d1b := blk_cell BK5.out 1; have d2b := blk_cell BK5.out 2; have d3b := blk_cell BK5.out 3; have d4b := blk_cell BK5.out 4; have d5b := blk_cell BK5.out 5; simp only [scnC, List.getElem?_toArray, List.getElem?_cons_zero, List.getElem?_cons_succ] at d0b d1b d2b d3b d4b d5b)
        | (go_at_call 30; (with_reducible refine (has_dev (fun x => !lieB N x) gb A2 c2 d _ (Kd.C_below HR2.out HB5.out) (by assumption) (fun W x hb => pred_dev SC5.out W x hb)).mono ?_); rintro e w6 ⟨rfl, hb6⟩; rw [← H2.out]; have BK6 := Aside0.mk (blk_below BK5.out hb6); have SC6 := Aside0.mk (show ScnAt w6 gb p N T (.slice A1 l.length c1) (.slice A2 d.length c2) (.slice A3 t.length c3) from BK6.out); have HB6 := Aside0.mk (below_step HB5.out hb6); clear hb6; have d0c := blk_cell BK6.out 0; have d1c := blk_cell BK6.out 1; have d2c := blk_cell BK6.out 2; have d3c := blk_cell BK6.out 3; have d4c := blk_cell BK6.out 4; have d5c := blk_cell BK6.out 5; simp only [scnC, List.getElem?_toArray, List.getElem?_cons_zero, List.getElem?_cons_succ] at d0c d1c d2c d3c d4c d5c)
        | (go_at_call 33; (with_reducible refine (has_row (fun y => y.any fun z => decide (p ≤ z)) gb A3 c3 t _ (Kd.C_below HR3.out HB6.out) (by assumption) (fun W A' c' x hm hb hr hc => pred_row SC6.out W A' c' x hb hr (LX.out x hm))).mono ?_); rintro e w7 ⟨rfl, hb7⟩; rw [← H3.out]; have HB7 := Aside0.mk (below_step HB6.out hb7); clear hb7))
      first | go_ret | ((try simp only [Exit.inBlock, Exit.then]); refine bodyPost_ret (results_tmp rfl _ _ _) rfl ?_)
      first | exact ⟨rfl, HB7.out⟩ | exact ⟨rfl, HB6.out⟩ | exact ⟨rfl, HB5.out⟩)
def params_ValidScenario.f (a0 a1 a2 : Int) (l : List Int) (d : List S42) (t : List (List Int)) : Option Bool :=
  if d.length ≤ 1000000 then (if t.length ≤ 1000000 then (if (t.all fun x => decide (x.length ≤ 1000000)) = true then some (scnB a0 a1 a2 l d t) else none) else none) else none
theorem params_ValidScenario.calls (a0 a1 a2 : Int) (A1 : Option Addr) (c1 : Nat) (l1 : List Int) (A2 : Option Addr) (c2 : Nat) (l2 : List S42) (A3 : Option Addr) (c3 : Nat) (l3 : List (List Int)) (r : Bool) (w : World)
    (hr1 : Kd.C (Kd.int .i64) w A1 l1.length l1) (hc1 : l1.length ≤ c1) (hr2 : Kd.C k42 w A2 l2.length l2) (hc2 : l2.length ≤ c2) (hr3 : Kd.C (Kd.slice 22 (Kd.int .u64)) w A3 l3.length l3) (hc3 : l3.length ≤ c3) (hx : Hx w) (h : params_ValidScenario.f a0 a1 a2 l1 l2 l3 = some r) :
    Calls Tryd.prog 14 #[.agg #[.int .u64 a0, .int .i64 a1, .int .i64 a2, .slice A1 l1.length c1, .slice A2 l2.length c2, .slice A3 l3.length c3]] w fun e w' => e = .returned (.bool r) ∧ Below w.heap.size w w' := by
  unfold params_ValidScenario.f at h
  obtain ⟨h1, h⟩ := ifs h
  obtain ⟨h2, h⟩ := ifs h
  obtain ⟨h3, h⟩ := ifs h
  rw [← Option.some.inj h]
  exact scn_walk a0 a1 a2 A1 c1 l1 A2 c2 l2 A3 c3 l3 w hr1 hc1 hr2 hc2 hr3 hc3 h1 h2 (fun x hm => of_decide_eq_true (List.all_eq_true.1 h3 x hm)) hx
end Go.Proofs.YtakaonojfpkhnaaDoor.Hw
end
section
/- Printed by a program of this seat (the kit's printer, with the functions that were proved by hand given to it). What stands here: the functions that the statements reach, as plain functions, and that the Go code computes them. -/
namespace Go.Proofs.YtakaonojfpkhnaaDoor.Pr
open Go.RowKit Go.Proofs.YtakaonojfpkhnaaDoorW.PrintWords Go.Proofs.YtakaonojfpkhnaaDoorW.PrintLast Go.Proofs.YtakaonojfpkhnaaDoorW.PrintMore
attribute [local go_sem] max2_int min2_int max_two min_two max_three min_three max_four min_four   -- for this text's walks alone
set_option linter.unusedVariables false
set_option linter.unusedSimpArgs false

open Go.Proofs.YtakaonojfpkhnaaDoor.Hw
/-! ### params_VanishingPolynomial: function 23 -/
def params_VanishingPolynomial.l0 : Nat → List (S57) → List Int → Int → Int → Int → Int → Int → Option (List Int)
 | 0,_,_,_,_,_,_,_ => none
 | k + 1,x5,x14,x15,x16,x178000,x178001,x178002 => if x16 < x15 then (if 0 ≤ x16 then (if x16 < (x14.length : Int) then (if x5.length < 8796093022208 then (params_VanishingPolynomial.l0 k (x5 ++ [(⟨IntKind.u64.wrap (rd x14 x16),0⟩ : S57)]) x14 x15 (wrap64 (x16 + 1)) x178000 x178001 x178002) else (none)) else (none)) else (none)) else ((interpolate_Polynomial.f x178000 x5).bind fun bt188 => (some bt188.1))
def params_VanishingPolynomial.f (k : Nat) (a0_0 : Int) (a0_1 : Int) (a0_2 : Int) (l1 : List Int) : Option (List Int) := (params_ExtendCoalition.f a0_0 a0_1 a0_2 l1).bind fun t181 => (params_VanishingPolynomial.l0 k (([(⟨0, 1⟩ : S57)] : List (S57))) t181 (t181.length : Int) 0 a0_0 a0_1 a0_2)
set_option maxHeartbeats 8000000 in
set_option maxRecDepth 100000 in
theorem params_VanishingPolynomial.calls (k : Nat) (a0_0 : Int) (a0_1 : Int) (a0_2 : Int) (A1 : Option Addr) (c1 : Nat) (l1 : List Int) (r : List Int) (w : World) (hr1 : Kd.C (Kd.int .i64) w A1 l1.length l1) (hc1 : l1.length ≤ c1) (h : params_VanishingPolynomial.f k a0_0 a0_1 a0_2 l1 = some r) :
  Calls Tryd.prog 23 #[.agg #[.int .u64 a0_0,.int .i64 a0_1,.int .i64 a0_2],.slice A1 l1.length c1] w fun e w' => ∃ v0_ : Value,e = .returned (v0_) ∧ Kd.R (Kd.int .u64) 22 w' w.heap.size (fun _ => True) v0_ r ∧ Below w.heap.size w w' := by
 have hu24 := Tryd.underlying24
 have hu57 := Tryd.underlying57
 have HR1 := Aside0.mk hr1
 have HC1 := Aside0.mk hc1
 clear hr1 hc1
 have HB := Aside0.mk (Below.refl w.heap.size w)
 have H : ((params_ExtendCoalition.f a0_0 a0_1 a0_2 l1).bind fun t181 => (params_VanishingPolynomial.l0 k (([(⟨0,1⟩ : S57)] : List (S57))) t181 (t181.length : Int) 0 a0_0 a0_1 a0_2)) = some r := h
 clear h
 obtain ⟨y178,hy178⟩ : ∃ y_ : List (S57),y_ = (([(⟨0,1⟩ : S57)] : List (S57))) := ⟨_,rfl⟩
 replace H : ((params_ExtendCoalition.f a0_0 a0_1 a0_2 l1).bind fun t181 => (params_VanishingPolynomial.l0 k y178 t181 (t181.length : Int) 0 a0_0 a0_1 a0_2)) = some r := by first|(rw [hy178];with_reducible exact H)|(have H2_ := (Option.bind_some _ _).symm.trans H;rw [hy178];with_reducible exact H2_)|(have H2_ := (Option.bind_some _ _).symm.trans H;with_reducible exact H2_)|with_reducible exact H|(rw [hy178];exact H)|exact H
 have Ny178 := Aside0.mk hy178
 clear hy178
 replace H := Option.bind_eq_some_iff.mp H
 obtain ⟨t181,A30,H⟩ := H
 replace H : (params_VanishingPolynomial.l0 k y178 t181 (t181.length : Int) 0 a0_0 a0_1 a0_2) = some r := H
 have A3 := Aside0.mk A30
 clear A30
 have H' := Aside0.mk H
 clear H
 go_enter Tryd.func23,Tryd.ntmps23
 go_wp2_with (first|((with_reducible refine gate_dst (N := 2) rfl ?_);refine box_event ?hg (N := 2) ?hd (cs := #[.int .u64 a0_0,.int .i64 a0_1,.int .i64 a0_2]) (t := 24) ?hr ?_;(case hd => rfl);(case hg => rfl);(case hr => first|(go_simp;done)|(go_simp;rfl));intro gb177 hg w4 hbox hb;have n0_ := Aside0.mk (below_step (by repeat (first|(with_reducible first|exact HB.out|apply below_alloc|apply pw_below_drewN|apply below_drew1)|exact HB.out)) hb);have n1_ := Aside0.mk (hbox);have n2_ := Aside0.mk ((by rw [hg];exact (below_size (by repeat (first|(with_reducible first|exact HB.out|apply below_alloc|apply pw_below_drewN|apply below_drew1)|exact HB.out))) : w.heap.size ≤ gb177));have n3_ := Aside0.mk ((by rw [hg];exact (below_size (by repeat (first|(with_reducible first|exact HB.out|apply below_alloc|apply pw_below_drewN|apply below_drew1)|exact HB.out))) : w.heap.size ≤ gb177));clear HB;have HB := n0_;have BK177 := n1_;have GW177 := n2_;have GE177 := n3_;clear n0_ n1_ n2_ n3_;clear hb hbox hg)|((with_reducible refine gate_dst (N := 11) rfl ?_);refine Kd.R_lit k57 _ 57 ?hg (N := 11) ?hd (xs := ([(⟨0,1⟩ : S57)] : List (S57))) (inner := [.int .u64 0,.int .u64 1]) (ok := fun _ => True) (okp := fun _ => True) ?hr ?hp (fun _ hk => hk) trivial (Below.refl _ _) (Nat.le_refl _) (by simp) ?_;(case hd => rfl);(case hg => rfl);(case hr => first|(go_simp;done)|(go_simp;rfl));(case hp => exact (Reps.c2 (show Kd.M k57 _ _ _ (⟨0,1⟩ : S57) [.int .u64 0,.int .u64 1] from (k57_mkM _ _ _ (⟨0,1⟩ : S57) )) (Reps.none _ _)));intro v179 w5 ho6 hb hg_ hnew_;clear hg_ hnew_;(first|rw [← Ny178.out] at ho6|(simp only [Int.reduceToNat] at ho6;rw [← Ny178.out] at ho6));have n0_ := Aside0.mk (Kd.R_lower ho6 (below_size (by repeat (first|(with_reducible first|exact HB.out|apply below_alloc|apply pw_below_drewN|apply below_drew1|refine below_set ?_ GE177.out)|exact HB.out))));have n1_ := Aside0.mk (blk_below (g := gb177) (o := .cells #[.int .u64 a0_0,.int .i64 a0_1,.int .i64 a0_2] 24 (0,0)) (by (with_reducible repeat (first|refine blk_drewN ?_ _|refine blk_drew ?_|refine blk_alloc ?_ _));exact BK177.out) hb);have n2_ := Aside0.mk (below_step (by repeat (first|(with_reducible first|exact HB.out|apply below_alloc|apply pw_below_drewN|apply below_drew1|refine below_set ?_ GE177.out)|exact HB.out)) hb);clear BK177;clear HB;have HO180 := n0_;have BK177 := n1_;have HB := n2_;clear n0_ n1_ n2_;clear hb ho6;have hcz7_0 : w5.cell? ⟨gb177,0,none⟩ = some (.int .u64 a0_0) := (blk_cell BK177.out 0).trans rfl;have hcz7_1 : w5.cell? ⟨gb177,1,none⟩ = some (.int .i64 a0_1) := (blk_cell BK177.out 1).trans rfl;have hcz7_2 : w5.cell? ⟨gb177,2,none⟩ = some (.int .i64 a0_2) := (blk_cell BK177.out 2).trans rfl;have hfz7_0 := blk_frozen BK177.out 0;have hfz7_1 := blk_frozen BK177.out 1;have hfz7_2 := blk_frozen BK177.out 2)|((with_reducible refine gate_callee (f := 16) rfl ?_);refine goesL_ (some 14) rfl rfl Tryd.func16 (by kernel_rfl) rfl #[.agg #[.int .u64 a0_0,.int .i64 a0_1,.int .i64 a0_2],.slice A1 l1.length c1] rfl (by (try simp only [List.map_toArray,List.map_cons,List.map_nil]);first|done|rfl|(simp only [List.length_drop,List.length_take];rfl)) ?_;(with_reducible refine (params_ExtendCoalition.calls a0_0 a0_1 a0_2 _ _ l1 t181 _ ?side1 ?side2 A3.out).mono ?_);(case side1 => repeat (first|exact (Kd.C_below HR1.out HB.out)|(with_reducible refine Kd.C_alloc ?_ _)|(with_reducible refine Kd.C_drewN ?_ _)|(with_reducible refine Kd.C_drew ?_)));(case side2 => exact HC1.out);rintro e w8 ⟨v182,rfl,ho0,hb⟩;refine ⟨_,rfl,?_⟩;have n0_ := Aside0.mk (Kd.R_below (by (with_reducible repeat (first|apply Kd.R_alloc|apply Kd.R_drewN|apply Kd.R_drew));exact HO180.out) hb);have n1_ := Aside0.mk (Kd.R_lower ho0 (below_size (by repeat (first|(with_reducible first|exact HB.out|apply below_alloc|apply pw_below_drewN|apply below_drew1|refine below_set ?_ GE177.out)|exact HB.out))));have n2_ := Aside0.mk (blk_below (g := gb177) (o := .cells #[.int .u64 a0_0,.int .i64 a0_1,.int .i64 a0_2] 24 (0,0)) (by (with_reducible repeat (first|refine blk_drewN ?_ _|refine blk_drew ?_|refine blk_alloc ?_ _));exact BK177.out) hb);have n3_ := Aside0.mk (below_step (by repeat (first|(with_reducible first|exact HB.out|apply below_alloc|apply pw_below_drewN|apply below_drew1|refine below_set ?_ GE177.out)|exact HB.out)) hb);clear HO180;clear BK177;clear HB;have HO180 := n0_;have HO183 := n1_;have BK177 := n2_;have HB := n3_;clear n0_ n1_ n2_ n3_;(try clear hb);(try clear hb2);(try clear hk);(try clear hi);(try clear ho0);obtain ⟨Ao9,co9,eo9⟩ := Kd.R_slice HO183.out;subst eo9))
 go_loopg [5,16] k (fun kq v5 v16 w' => ∃ (x5_1 : List (S57)) (x16_1 : Int),v16 = .int .i64 x16_1 ∧ Aside0 (params_VanishingPolynomial.l0 kq x5_1 t181 (t181.length : Int) x16_1 a0_0 a0_1 a0_2 = some r) ∧ Aside0 (kq ≤ k) ∧ Aside0 (Kd.R k57 57 w' w.heap.size (fun _ => True) v5 x5_1) ∧ Aside0 (Kd.R (Kd.int .i64) 3 w' w.heap.size (fun _ => True) (.slice Ao9 t181.length co9) t181) ∧ Aside0 (w'.heap[gb177]? = some (.cells #[.int .u64 a0_0,.int .i64 a0_1,.int .i64 a0_2] 24 (0,0))) ∧ Aside0 (Below w.heap.size w w'))
 case atStart => exact ⟨(y178),(0),(by first|rfl|(simp;done)|(simp [*];done)),H',⟨Nat.le_refl _⟩,⟨by (with_reducible repeat (first|apply Kd.R_alloc|apply Kd.R_drewN|apply Kd.R_drew));exact HO180.out⟩,⟨by (with_reducible repeat (first|apply Kd.R_alloc|apply Kd.R_drewN|apply Kd.R_drew));exact HO183.out⟩,⟨by (with_reducible repeat (first|refine blk_drewN ?_ _|refine blk_drew ?_|refine blk_alloc ?_ _));exact BK177.out⟩,⟨by repeat (first|(with_reducible first|exact HB.out|apply below_alloc|apply pw_below_drewN|apply below_drew1|refine below_set ?_ GE177.out)|exact HB.out)⟩⟩
 case round =>
  clear H'
  try clear c1
  try clear c2
  try clear p2
  try clear hcz7_0
  try clear hcz7_1
  try clear hcz7_2
  try clear hfz7_0
  try clear hfz7_1
  try clear hfz7_2
  obtain ⟨x5_1,x16_1,rfl,HA,HK1,HO_5,HO_14,BK177,HB⟩ := hrel
  cases gk with
  | zero => exact absurd HA.out (by simp [params_VanishingPolynomial.l0])
  | succ k1 =>
   have H := HA.out
   clear HA
   simp only [params_VanishingPolynomial.l0] at H
   by_cases c10 : x16_1 < (t181.length : Int)
   ·rw [if_pos c10] at H
    have c10b0 : decide (x16_1 < (t181.length : Int)) = true := decide_eq_true c10
    clear c10
    by_cases c11 : 0 ≤ x16_1
    ·rw [if_pos c11] at H
     have c11b0 : decide (0 ≤ x16_1) = true := decide_eq_true c11
     clear c11
     by_cases c12 : x16_1 < (t181.length : Int)
     ·rw [if_pos c12] at H
      have c12b0 : decide (x16_1 < (t181.length : Int)) = true := decide_eq_true c12
      clear c12
      by_cases c13 : x5_1.length < 8796093022208
      ·rw [if_pos c13] at H
       have LMc13 := Aside0.mk c13
       clear c13
       obtain ⟨y185,hy185⟩ : ∃ y_ : List (S57),y_ = (x5_1 ++ [(⟨IntKind.u64.wrap (rd t181 x16_1),0⟩ : S57)]) := ⟨_,rfl⟩
       replace H : (params_VanishingPolynomial.l0 k1 y185 t181 (t181.length : Int) (wrap64 (x16_1 + 1)) a0_0 a0_1 a0_2) = some r := by first|(rw [hy185];with_reducible exact H)|(have H2_ := (Option.bind_some _ _).symm.trans H;rw [hy185];with_reducible exact H2_)|(have H2_ := (Option.bind_some _ _).symm.trans H;with_reducible exact H2_)|with_reducible exact H|(rw [hy185];exact H)|exact H
       have Ny185 := Aside0.mk hy185
       clear hy185
       have H' := Aside0.mk H
       clear H
       have p184 : 0 ≤ (x16_1 : Int) := of_decide_eq_true (by first|(with_reducible assumption)|assumption)
       have q184 : x16_1 < (t181.length : Int) := of_decide_eq_true (by first|(with_reducible assumption)|assumption)
       obtain ⟨ad184,e184,hx184_0⟩ := Kd.at_int (Kd.R_reads' HO_14.out).2.2 x16_1 p184 q184
       cases e184
       replace p184 := eq_true p184
       replace q184 := eq_true q184
       go_wp2_with (first|((with_reducible refine gate_builtin (b := .append) (xs := #[.tmp 20,.tmp 24]) rfl ?_);at_builtin;refine Kd.R_append k57 (w0 := w) w.heap.size rfl (.tmp 20) (.tmp 24) 58 57 (.agg #[(.int .u64 0),(.int .u64 0)]) 16 rfl Tryd.underlying58 info57 rfl (by decide) (by omega) u5 x5_1 (⟨IntKind.u64.wrap (rd t181 x16_1),0⟩ : S57) [.int .u64 (IntKind.u64.wrap (rd t181 x16_1)),.int .u64 0] (fun _ => True) (fun _ => False) rfl rfl ?aP (fun _ hk => hk.elim) ?aF ?aO ?aB ?aS ?aL ?_;(case aP => exact k57_mkM _ _ _ (⟨IntKind.u64.wrap (rd t181 x16_1),0⟩ : S57));(case aB => exact (by repeat (first|(with_reducible first|exact HB.out|apply below_alloc|apply pw_below_drewN|apply below_drew1|refine below_set ?_ GE177.out)|exact HB.out)));(case aF => exact (fun _ _ => trivial));(case aO => exact (by (with_reducible repeat (first|apply Kd.R_alloc|apply Kd.R_drewN|apply Kd.R_drew));exact HO_5.out));(case aS => exact (below_size (by repeat (first|(with_reducible first|exact HB.out|apply below_alloc|apply pw_below_drewN|apply below_drew1|refine below_set ?_ GE177.out)|exact HB.out))));(case aL => have := LMc13.out;omega);intro v186 w14 ho hb hg hat;rw [← Ny185.out] at ho;have n0_ := Aside0.mk (Kd.R_over' (by (with_reducible repeat (first|apply Kd.R_alloc|apply Kd.R_drewN|apply Kd.R_drew));exact HO_14.out) (Kd.R_typed (by (with_reducible repeat (first|apply Kd.R_alloc|apply Kd.R_drewN|apply Kd.R_drew));exact HO_5.out)) (by decide) hg);have n1_ := Aside0.mk (blk_grown (g := gb177) (o := .cells #[.int .u64 a0_0,.int .i64 a0_1,.int .i64 a0_2] 24 (0,0)) (by (with_reducible repeat (first|refine blk_drewN ?_ _|refine blk_drew ?_|refine blk_alloc ?_ _));exact BK177.out) hg (Kd.R_ne HO_5.out BK177.out (by decide)));have n2_ := Aside0.mk (hb);have n3_ := Aside0.mk (ho);clear HO_14;clear BK177;clear HB;clear HO_5;have HO_14 := n0_;have BK177 := n1_;have HB := n2_;have HO187 := n3_;clear n0_ n1_ n2_ n3_;clear ho hb hg hat))
       go_roundg k1
       case measure => have := HK1.out;omega
       case rel => exact ⟨(y185),(wrap64 (x16_1 + 1)),(by first|rfl|(simp;done)|(simp [*];done)),H',⟨by have := HK1.out;omega⟩,⟨by (with_reducible repeat (first|apply Kd.R_alloc|apply Kd.R_drewN|apply Kd.R_drew));exact HO187.out⟩,⟨by (with_reducible repeat (first|apply Kd.R_alloc|apply Kd.R_drewN|apply Kd.R_drew));exact HO_14.out⟩,⟨by (with_reducible repeat (first|refine blk_drewN ?_ _|refine blk_drew ?_|refine blk_alloc ?_ _));exact BK177.out⟩,⟨by repeat (first|(with_reducible first|exact HB.out|apply below_alloc|apply pw_below_drewN|apply below_drew1|refine below_set ?_ GE177.out)|exact HB.out)⟩⟩
      ·rw [if_neg c13] at H
       exact absurd H (by simp)
     ·rw [if_neg c12] at H
      exact absurd H (by simp)
    ·rw [if_neg c11] at H
     exact absurd H (by simp)
   ·rw [if_neg c10] at H
    have c10b0 : decide (x16_1 < (t181.length : Int)) = false := decide_eq_false c10
    clear c10
    replace H := Option.bind_eq_some_iff.mp H
    obtain ⟨⟨t188,t189⟩,A150,H⟩ := H
    replace H : (some t188) = some r := H
    have A15 := Aside0.mk A150
    clear A150
    obtain rfl := Option.some.inj H
    have hcz16_0 : wr.cell? ⟨gb177,0,none⟩ = some (.int .u64 a0_0) := (blk_cell BK177.out 0).trans rfl
    have hcz16_1 : wr.cell? ⟨gb177,1,none⟩ = some (.int .i64 a0_1) := (blk_cell BK177.out 1).trans rfl
    have hcz16_2 : wr.cell? ⟨gb177,2,none⟩ = some (.int .i64 a0_2) := (blk_cell BK177.out 2).trans rfl
    have hfz16_0 := blk_frozen BK177.out 0
    have hfz16_1 := blk_frozen BK177.out 1
    have hfz16_2 := blk_frozen BK177.out 2
    obtain ⟨Ao17,co17,eo17⟩ := Kd.R_slice HO_5.out
    subst eo17
    go_wp2_with (first|((with_reducible refine gate_callee (f := 39) rfl ?_);refine goesL_ (some 31) rfl rfl Tryd.func39 (by kernel_rfl) rfl #[.int .u64 a0_0,.slice Ao17 x5_1.length co17] rfl (by (try simp only [List.map_toArray,List.map_cons,List.map_nil]);first|done|rfl|(simp only [List.length_drop,List.length_take];rfl)) ?_;(with_reducible refine (interpolate_Polynomial.calls a0_0 _ _ x5_1 t188 t189 _ ?side1 ?side2 A15.out).mono ?_);(case side1 => repeat (first|exact (Kd.R_reads' HO_5.out).2.2|(with_reducible refine Kd.C_alloc ?_ _)|(with_reducible refine Kd.C_drewN ?_ _)|(with_reducible refine Kd.C_drew ?_)));(case side2 => exact (Kd.R_reads' HO_5.out).2.1);rintro e w18 ⟨v190,rfl,ho0,hb⟩;refine ⟨_,rfl,?_⟩;have n0_ := Aside0.mk (Kd.R_below (by (with_reducible repeat (first|apply Kd.R_alloc|apply Kd.R_drewN|apply Kd.R_drew));exact HO_5.out) hb);have n1_ := Aside0.mk (Kd.R_below (by (with_reducible repeat (first|apply Kd.R_alloc|apply Kd.R_drewN|apply Kd.R_drew));exact HO_14.out) hb);have n2_ := Aside0.mk (Kd.R_lower ho0 (below_size (by repeat (first|(with_reducible first|exact HB.out|apply below_alloc|apply pw_below_drewN|apply below_drew1|refine below_set ?_ GE177.out)|exact HB.out))));have n3_ := Aside0.mk (blk_below (g := gb177) (o := .cells #[.int .u64 a0_0,.int .i64 a0_1,.int .i64 a0_2] 24 (0,0)) (by (with_reducible repeat (first|refine blk_drewN ?_ _|refine blk_drew ?_|refine blk_alloc ?_ _));exact BK177.out) hb);have n4_ := Aside0.mk (below_step (by repeat (first|(with_reducible first|exact HB.out|apply below_alloc|apply pw_below_drewN|apply below_drew1|refine below_set ?_ GE177.out)|exact HB.out)) hb);clear HO_5;clear HO_14;clear BK177;clear HB;have HO_5 := n0_;have HO_14 := n1_;have HO191 := n2_;have BK177 := n3_;have HB := n4_;clear n0_ n1_ n2_ n3_ n4_;(try clear hb);(try clear hb2);(try clear hk);(try clear hi);(try clear ho0)))
    go_ret
    exact ⟨_,by first|rfl|(simp [errW_none,errW_some] <;> rfl)|(simp [*,errW_none,errW_some] <;> rfl),by (with_reducible repeat (first|apply Kd.R_alloc|apply Kd.R_drewN|apply Kd.R_drew));exact HO191.out,by repeat (first|(with_reducible first|exact HB.out|apply below_alloc|apply pw_below_drewN|apply below_drew1|refine below_set ?_ GE177.out)|exact HB.out)⟩
end Go.Proofs.YtakaonojfpkhnaaDoor.Pr
end
section
/- Printed by a program of this seat (the kit's printer, with the functions that were proved by hand given to it). What stands here: the functions that the statements reach, as plain functions, and that the Go code computes them. -/
namespace Go.Proofs.YtakaonojfpkhnaaDoor.Pr
open Go.RowKit Go.Proofs.YtakaonojfpkhnaaDoorW.PrintWords Go.Proofs.YtakaonojfpkhnaaDoorW.PrintLast Go.Proofs.YtakaonojfpkhnaaDoorW.PrintMore
attribute [local go_sem] max2_int min2_int max_two min_two max_three min_three max_four min_four   -- for this text's walks alone
set_option linter.unusedVariables false
set_option linter.unusedSimpArgs false

open Go.Proofs.YtakaonojfpkhnaaDoor.Hw
/-! ### privityref12_Ints: function 18 -/
def privityref12_Ints.l0 : Nat → List Int → List Int → Int → Option (Bool)
 | 0,_,_,_ => none
 | k + 1,x0,x1,x5 => if x5 < (x0.length : Int) then (if 0 ≤ x5 then (if x5 < (x1.length : Int) then (if (rd x0 x5) = (rd x1 x5) then (privityref12_Ints.l0 k x0 x1 (wrap64 (x5 + 1))) else (some false)) else (none)) else (none)) else (some true)
def privityref12_Ints.f (k : Nat) (l0 : List Int) (l1 : List Int) : Option (Bool) := if (l0.length : Int) = (l1.length : Int) then (privityref12_Ints.l0 k l0 l1 0) else (some false)
set_option maxHeartbeats 8000000 in
set_option maxRecDepth 100000 in
theorem privityref12_Ints.calls (k : Nat) (A0 : Option Addr) (c0 : Nat) (l0 : List Int) (A1 : Option Addr) (c1 : Nat) (l1 : List Int) (r : Bool) (w : World) (hr0 : Kd.C (Kd.int .i64) w A0 l0.length l0) (hc0 : l0.length ≤ c0) (hr1 : Kd.C (Kd.int .i64) w A1 l1.length l1) (hc1 : l1.length ≤ c1) (h : privityref12_Ints.f k l0 l1 = some r) :
  Calls Tryd.prog 18 #[.slice A0 l0.length c0,.slice A1 l1.length c1] w fun e w' => e = .returned (.bool r) ∧ Drawn0 w w' := by
 have HR0 := Aside0.mk hr0
 have HC0 := Aside0.mk hc0
 clear hr0 hc0
 have HR1 := Aside0.mk hr1
 have HC1 := Aside0.mk hc1
 clear hr1 hc1
 have H : (if (l0.length : Int) = (l1.length : Int) then (privityref12_Ints.l0 k l0 l1 0) else (some false)) = some r := h
 clear h
 by_cases c3 : (l0.length : Int) = (l1.length : Int)
 ·rw [if_pos c3] at H
  have c3b0 : ((l0.length : Int) == (l1.length : Int)) = true := beq_iff_eq.mpr c3
  have c3b1 : ((l0.length : Int) != (l1.length : Int)) = false := bne_eq_false_iff_eq.mpr c3
  have c3b2 : (l0.length == l1.length) = true := by first|simpa using c3|(simp at c3 ⊢;omega)
  clear c3
  have H' := Aside0.mk H
  clear H
  go_enter Tryd.func18,Tryd.ntmps18
  go_wp2
  repeat (go_quiet (fail);try go_wp2)
  go_loopg [5] k (fun kq v5 w' => ∃ (x5_1 : Int),v5 = .int .i64 x5_1 ∧ Aside0 (privityref12_Ints.l0 kq l0 l1 x5_1 = some r) ∧ Aside0 (kq ≤ k) ∧ Drawn0 w w')
  case atStart => exact ⟨(0),(by first|rfl|(simp;done)|(simp [*];done)),H',⟨Nat.le_refl _⟩,by repeat (first|exact Drawn0.refl _|apply Drawn0.step)⟩
  case round =>
   clear H'
   try clear c1
   try clear p2
   try clear c3
   try clear c3b0
   try clear c3b1
   try clear c3b2
   obtain ⟨x5_1,rfl,HA,HK1,⟨m1,rfl⟩⟩ := hrel
   cases gk with
   | zero => exact absurd HA.out (by simp [privityref12_Ints.l0])
   | succ k1 =>
    have H := HA.out
    clear HA
    simp only [privityref12_Ints.l0] at H
    by_cases c4 : x5_1 < (l0.length : Int)
    ·rw [if_pos c4] at H
     have c4b0 : decide (x5_1 < (l0.length : Int)) = true := decide_eq_true c4
     clear c4
     by_cases c5 : 0 ≤ x5_1
     ·rw [if_pos c5] at H
      have c5b0 : decide (0 ≤ x5_1) = true := decide_eq_true c5
      clear c5
      by_cases c6 : x5_1 < (l1.length : Int)
      ·rw [if_pos c6] at H
       have c6b0 : decide (x5_1 < (l1.length : Int)) = true := decide_eq_true c6
       clear c6
       by_cases c7 : (rd l0 x5_1) = (rd l1 x5_1)
       ·rw [if_pos c7] at H
        have c7b0 : ((rd l0 x5_1) == (rd l1 x5_1)) = true := beq_iff_eq.mpr c7
        have c7b1 : ((rd l0 x5_1) != (rd l1 x5_1)) = false := bne_eq_false_iff_eq.mpr c7
        clear c7
        have H' := Aside0.mk H
        clear H
        have p147 : 0 ≤ (x5_1 : Int) := of_decide_eq_true (by first|(with_reducible assumption)|assumption)
        have q147 : x5_1 < (l0.length : Int) := of_decide_eq_true (by first|(with_reducible assumption)|assumption)
        obtain ⟨ad147,e147,hx147_0⟩ := Kd.at_int HR0.out x5_1 p147 q147
        cases e147
        replace p147 := eq_true p147
        replace q147 := eq_true q147
        have p148 : 0 ≤ (x5_1 : Int) := of_decide_eq_true (by first|(with_reducible assumption)|assumption)
        have q148 : x5_1 < (l1.length : Int) := of_decide_eq_true (by first|(with_reducible assumption)|assumption)
        obtain ⟨ad148,e148,hx148_0⟩ := Kd.at_int HR1.out x5_1 p148 q148
        cases e148
        replace p148 := eq_true p148
        replace q148 := eq_true q148
        go_wp2
        repeat (go_quiet (fail);try go_wp2)
        go_roundg k1
        case measure => have := HK1.out;omega
        case rel => exact ⟨(wrap64 (x5_1 + 1)),(by first|rfl|(simp;done)|(simp [*];done)),H',⟨by have := HK1.out;omega⟩,by repeat (first|exact Drawn0.refl _|apply Drawn0.step)⟩
       ·rw [if_neg c7] at H
        have c7b0 : ((rd l0 x5_1) == (rd l1 x5_1)) = false := beq_eq_false_iff_ne.mpr c7
        have c7b1 : ((rd l0 x5_1) != (rd l1 x5_1)) = true := bne_iff_ne.mpr c7
        obtain rfl := Option.some.inj H
        have p147 : 0 ≤ (x5_1 : Int) := of_decide_eq_true (by first|(with_reducible assumption)|assumption)
        have q147 : x5_1 < (l0.length : Int) := of_decide_eq_true (by first|(with_reducible assumption)|assumption)
        obtain ⟨ad147,e147,hx147_0⟩ := Kd.at_int HR0.out x5_1 p147 q147
        cases e147
        replace p147 := eq_true p147
        replace q147 := eq_true q147
        have p148 : 0 ≤ (x5_1 : Int) := of_decide_eq_true (by first|(with_reducible assumption)|assumption)
        have q148 : x5_1 < (l1.length : Int) := of_decide_eq_true (by first|(with_reducible assumption)|assumption)
        obtain ⟨ad148,e148,hx148_0⟩ := Kd.at_int HR1.out x5_1 p148 q148
        cases e148
        replace p148 := eq_true p148
        replace q148 := eq_true q148
        go_wp2
        repeat (go_quiet (fail);try go_wp2)
        go_ret
        exact ⟨by first|rfl|(simp;done)|(simp [*];done),by repeat (first|exact Drawn0.refl _|apply Drawn0.step)⟩
      ·rw [if_neg c6] at H
       exact absurd H (by simp)
     ·rw [if_neg c5] at H
      exact absurd H (by simp)
    ·rw [if_neg c4] at H
     have c4b0 : decide (x5_1 < (l0.length : Int)) = false := decide_eq_false c4
     clear c4
     obtain rfl := Option.some.inj H
     go_wp2
     repeat (go_quiet (fail);try go_wp2)
     go_ret
     exact ⟨by first|rfl|(simp;done)|(simp [*];done),by repeat (first|exact Drawn0.refl _|apply Drawn0.step)⟩
 ·rw [if_neg c3] at H
  have c3b0 : ((l0.length : Int) == (l1.length : Int)) = false := beq_eq_false_iff_ne.mpr c3
  have c3b1 : ((l0.length : Int) != (l1.length : Int)) = true := bne_iff_ne.mpr c3
  have c3b2 : (l0.length == l1.length) = false := by first|simpa using c3|(simp at c3 ⊢;omega)
  obtain rfl := Option.some.inj H
  go_enter Tryd.func18,Tryd.ntmps18
  go_wp2
  repeat (go_quiet (fail);try go_wp2)
  go_ret
  exact ⟨by first|rfl|(simp;done)|(simp [*];done),by repeat (first|exact Drawn0.refl _|apply Drawn0.step)⟩
/-! ### privityref05_Same: function 22 -/
def privityref05_Same.l0 : Nat → List Int → List Int → Int → Option (Bool)
 | 0,_,_,_ => none
 | k + 1,x0,x1,x5 => if x5 < (x0.length : Int) then (if 0 ≤ x5 then (if x5 < (x1.length : Int) then (if (rd x0 x5) = (rd x1 x5) then (privityref05_Same.l0 k x0 x1 (wrap64 (x5 + 1))) else (some false)) else (none)) else (none)) else (some true)
def privityref05_Same.f (k : Nat) (l0 : List Int) (l1 : List Int) : Option (Bool) := if (l0.length : Int) = (l1.length : Int) then (privityref05_Same.l0 k l0 l1 0) else (some false)
set_option maxHeartbeats 8000000 in
set_option maxRecDepth 100000 in
theorem privityref05_Same.calls (k : Nat) (A0 : Option Addr) (c0 : Nat) (l0 : List Int) (A1 : Option Addr) (c1 : Nat) (l1 : List Int) (r : Bool) (w : World) (hr0 : Kd.C (Kd.int .u64) w A0 l0.length l0) (hc0 : l0.length ≤ c0) (hr1 : Kd.C (Kd.int .u64) w A1 l1.length l1) (hc1 : l1.length ≤ c1) (h : privityref05_Same.f k l0 l1 = some r) :
  Calls Tryd.prog 22 #[.slice A0 l0.length c0,.slice A1 l1.length c1] w fun e w' => e = .returned (.bool r) ∧ Drawn0 w w' := by
 have HR0 := Aside0.mk hr0
 have HC0 := Aside0.mk hc0
 clear hr0 hc0
 have HR1 := Aside0.mk hr1
 have HC1 := Aside0.mk hc1
 clear hr1 hc1
 have H : (if (l0.length : Int) = (l1.length : Int) then (privityref05_Same.l0 k l0 l1 0) else (some false)) = some r := h
 clear h
 by_cases c3 : (l0.length : Int) = (l1.length : Int)
 ·rw [if_pos c3] at H
  have c3b0 : ((l0.length : Int) == (l1.length : Int)) = true := beq_iff_eq.mpr c3
  have c3b1 : ((l0.length : Int) != (l1.length : Int)) = false := bne_eq_false_iff_eq.mpr c3
  have c3b2 : (l0.length == l1.length) = true := by first|simpa using c3|(simp at c3 ⊢;omega)
  clear c3
  have H' := Aside0.mk H
  clear H
  go_enter Tryd.func22,Tryd.ntmps22
  go_wp2
  repeat (go_quiet (fail);try go_wp2)
  go_loopg [5] k (fun kq v5 w' => ∃ (x5_1 : Int),v5 = .int .i64 x5_1 ∧ Aside0 (privityref05_Same.l0 kq l0 l1 x5_1 = some r) ∧ Aside0 (kq ≤ k) ∧ Drawn0 w w')
  case atStart => exact ⟨(0),(by first|rfl|(simp;done)|(simp [*];done)),H',⟨Nat.le_refl _⟩,by repeat (first|exact Drawn0.refl _|apply Drawn0.step)⟩
  case round =>
   clear H'
   try clear c1
   try clear c2
   try clear p2
   try clear c3
   try clear c3b0
   try clear c3b1
   try clear c3b2
   obtain ⟨x5_1,rfl,HA,HK1,⟨m1,rfl⟩⟩ := hrel
   cases gk with
   | zero => exact absurd HA.out (by simp [privityref05_Same.l0])
   | succ k1 =>
    have H := HA.out
    clear HA
    simp only [privityref05_Same.l0] at H
    by_cases c4 : x5_1 < (l0.length : Int)
    ·rw [if_pos c4] at H
     have c4b0 : decide (x5_1 < (l0.length : Int)) = true := decide_eq_true c4
     clear c4
     by_cases c5 : 0 ≤ x5_1
     ·rw [if_pos c5] at H
      have c5b0 : decide (0 ≤ x5_1) = true := decide_eq_true c5
      clear c5
      by_cases c6 : x5_1 < (l1.length : Int)
      ·rw [if_pos c6] at H
       have c6b0 : decide (x5_1 < (l1.length : Int)) = true := decide_eq_true c6
       clear c6
       by_cases c7 : (rd l0 x5_1) = (rd l1 x5_1)
       ·rw [if_pos c7] at H
        have c7b0 : ((rd l0 x5_1) == (rd l1 x5_1)) = true := beq_iff_eq.mpr c7
        have c7b1 : ((rd l0 x5_1) != (rd l1 x5_1)) = false := bne_eq_false_iff_eq.mpr c7
        clear c7
        have H' := Aside0.mk H
        clear H
        have p149 : 0 ≤ (x5_1 : Int) := of_decide_eq_true (by first|(with_reducible assumption)|assumption)
        have q149 : x5_1 < (l0.length : Int) := of_decide_eq_true (by first|(with_reducible assumption)|assumption)
        obtain ⟨ad149,e149,hx149_0⟩ := Kd.at_int HR0.out x5_1 p149 q149
        cases e149
        replace p149 := eq_true p149
        replace q149 := eq_true q149
        have p150 : 0 ≤ (x5_1 : Int) := of_decide_eq_true (by first|(with_reducible assumption)|assumption)
        have q150 : x5_1 < (l1.length : Int) := of_decide_eq_true (by first|(with_reducible assumption)|assumption)
        obtain ⟨ad150,e150,hx150_0⟩ := Kd.at_int HR1.out x5_1 p150 q150
        cases e150
        replace p150 := eq_true p150
        replace q150 := eq_true q150
        go_wp2
        repeat (go_quiet (fail);try go_wp2)
        go_roundg k1
        case measure => have := HK1.out;omega
        case rel => exact ⟨(wrap64 (x5_1 + 1)),(by first|rfl|(simp;done)|(simp [*];done)),H',⟨by have := HK1.out;omega⟩,by repeat (first|exact Drawn0.refl _|apply Drawn0.step)⟩
       ·rw [if_neg c7] at H
        have c7b0 : ((rd l0 x5_1) == (rd l1 x5_1)) = false := beq_eq_false_iff_ne.mpr c7
        have c7b1 : ((rd l0 x5_1) != (rd l1 x5_1)) = true := bne_iff_ne.mpr c7
        obtain rfl := Option.some.inj H
        have p149 : 0 ≤ (x5_1 : Int) := of_decide_eq_true (by first|(with_reducible assumption)|assumption)
        have q149 : x5_1 < (l0.length : Int) := of_decide_eq_true (by first|(with_reducible assumption)|assumption)
        obtain ⟨ad149,e149,hx149_0⟩ := Kd.at_int HR0.out x5_1 p149 q149
        cases e149
        replace p149 := eq_true p149
        replace q149 := eq_true q149
        have p150 : 0 ≤ (x5_1 : Int) := of_decide_eq_true (by first|(with_reducible assumption)|assumption)
        have q150 : x5_1 < (l1.length : Int) := of_decide_eq_true (by first|(with_reducible assumption)|assumption)
        obtain ⟨ad150,e150,hx150_0⟩ := Kd.at_int HR1.out x5_1 p150 q150
        cases e150
        replace p150 := eq_true p150
        replace q150 := eq_true q150
        go_wp2
        repeat (go_quiet (fail);try go_wp2)
        go_ret
        exact ⟨by first|rfl|(simp;done)|(simp [*];done),by repeat (first|exact Drawn0.refl _|apply Drawn0.step)⟩
      ·rw [if_neg c6] at H
       exact absurd H (by simp)
     ·rw [if_neg c5] at H
      exact absurd H (by simp)
    ·rw [if_neg c4] at H
     have c4b0 : decide (x5_1 < (l0.length : Int)) = false := decide_eq_false c4
     clear c4
     obtain rfl := Option.some.inj H
     go_wp2
     repeat (go_quiet (fail);try go_wp2)
     go_ret
     exact ⟨by first|rfl|(simp;done)|(simp [*];done),by repeat (first|exact Drawn0.refl _|apply Drawn0.step)⟩
 ·rw [if_neg c3] at H
  have c3b0 : ((l0.length : Int) == (l1.length : Int)) = false := beq_eq_false_iff_ne.mpr c3
  have c3b1 : ((l0.length : Int) != (l1.length : Int)) = true := bne_iff_ne.mpr c3
  have c3b2 : (l0.length == l1.length) = false := by first|simpa using c3|(simp at c3 ⊢;omega)
  obtain rfl := Option.some.inj H
  go_enter Tryd.func22,Tryd.ntmps22
  go_wp2
  repeat (go_quiet (fail);try go_wp2)
  go_ret
  exact ⟨by first|rfl|(simp;done)|(simp [*];done),by repeat (first|exact Drawn0.refl _|apply Drawn0.step)⟩
end Go.Proofs.YtakaonojfpkhnaaDoor.Pr
end
