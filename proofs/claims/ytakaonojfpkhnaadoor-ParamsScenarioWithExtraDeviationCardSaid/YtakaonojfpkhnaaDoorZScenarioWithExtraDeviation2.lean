/- Part 2 of the proof's texts, joined in build order. -/
import Derived.Test.YtakaonojfpkhnaaDoorZScenarioWithExtraDeviation1
section
/- Printed by a program of this seat (the kit's printer, with the functions that were proved by hand given to it). What stands here: the functions that the statements reach, as plain functions, and that the Go code computes them. -/
namespace Go.Proofs.YtakaonojfpkhnaaDoor.Pr
open Go.RowKit Go.Proofs.YtakaonojfpkhnaaDoorW.PrintWords Go.Proofs.YtakaonojfpkhnaaDoorW.PrintLast Go.Proofs.YtakaonojfpkhnaaDoorW.PrintMore
attribute [local go_sem] max2_int min2_int max_two min_two max_three min_three max_four min_four   -- for this text's walks alone
set_option linter.unusedVariables false
set_option linter.unusedSimpArgs false

open Go.Proofs.YtakaonojfpkhnaaDoor.Hw
/-! ### privityref12_Deviation: function 25 -/
def privityref12_Deviation.f (a0_0 : Int) (a0_1 : Int) (a0_2 : Int) (a1_0 : Int) (a1_1 : Int) (a1_2 : Int) (a1_3 : Int) (a1_4 : Int) (a1_5 : Int) (a1_6 : Int) (a1_7 : Int) : Option (Bool) := if a1_0 ≥ 0 then (if a1_3 ≥ 0 then (if a1_7 ≥ 0 then (if a1_1 ≥ 1 then (if a1_1 ≤ a0_1 then (if a1_2 ≥ 0 then (if a1_2 ≤ a0_1 then (if a1_4 ≥ 1 then (if a1_4 ≤ 4 then (if a1_6 ≥ 0 then (if a1_6 ≤ a0_1 then (if a1_4 = 3 then (some (decide (a1_6 ≥ 1))) else (some true)) else (some false)) else (some false)) else (some false)) else (some false)) else (some false)) else (some false)) else (some false)) else (some false)) else (some false)) else (some false)) else (some false)
set_option maxHeartbeats 8000000 in
set_option maxRecDepth 100000 in
theorem privityref12_Deviation.calls (a0_0 : Int) (a0_1 : Int) (a0_2 : Int) (a1_0 : Int) (a1_1 : Int) (a1_2 : Int) (a1_3 : Int) (a1_4 : Int) (a1_5 : Int) (a1_6 : Int) (a1_7 : Int) (r : Bool) (w : World) (h : privityref12_Deviation.f a0_0 a0_1 a0_2 a1_0 a1_1 a1_2 a1_3 a1_4 a1_5 a1_6 a1_7 = some r) :
  Calls Tryd.prog 25 #[.agg #[.int .u64 a0_0,.int .i64 a0_1,.int .i64 a0_2],.agg #[.int .i64 a1_0,.int .i64 a1_1,.int .i64 a1_2,.int .i64 a1_3,.int .i64 a1_4,.int .u64 a1_5,.int .i64 a1_6,.int .i64 a1_7]] w fun e w' => e = .returned (.bool r) ∧ Below w.heap.size w w' := by
 have hu24 := Tryd.underlying24
 have hu42 := Tryd.underlying42
 have HB := Aside0.mk (Below.refl w.heap.size w)
 have H : (if a1_0 ≥ 0 then (if a1_3 ≥ 0 then (if a1_7 ≥ 0 then (if a1_1 ≥ 1 then (if a1_1 ≤ a0_1 then (if a1_2 ≥ 0 then (if a1_2 ≤ a0_1 then (if a1_4 ≥ 1 then (if a1_4 ≤ 4 then (if a1_6 ≥ 0 then (if a1_6 ≤ a0_1 then (if a1_4 = 3 then (some (decide (a1_6 ≥ 1))) else (some true)) else (some false)) else (some false)) else (some false)) else (some false)) else (some false)) else (some false)) else (some false)) else (some false)) else (some false)) else (some false)) else (some false)) = some r := h
 clear h
 by_cases c3 : a1_0 ≥ 0
 ·rw [if_pos c3] at H
  have c3b0 : decide (0 ≤ a1_0) = true := decide_eq_true c3
  clear c3
  by_cases c4 : a1_3 ≥ 0
  ·rw [if_pos c4] at H
   have c4b0 : decide (0 ≤ a1_3) = true := decide_eq_true c4
   clear c4
   by_cases c5 : a1_7 ≥ 0
   ·rw [if_pos c5] at H
    have c5b0 : decide (0 ≤ a1_7) = true := decide_eq_true c5
    clear c5
    by_cases c6 : a1_1 ≥ 1
    ·rw [if_pos c6] at H
     have c6b0 : decide (1 ≤ a1_1) = true := decide_eq_true c6
     clear c6
     by_cases c7 : a1_1 ≤ a0_1
     ·rw [if_pos c7] at H
      have c7b0 : decide (a1_1 ≤ a0_1) = true := decide_eq_true c7
      clear c7
      by_cases c8 : a1_2 ≥ 0
      ·rw [if_pos c8] at H
       have c8b0 : decide (0 ≤ a1_2) = true := decide_eq_true c8
       clear c8
       by_cases c9 : a1_2 ≤ a0_1
       ·rw [if_pos c9] at H
        have c9b0 : decide (a1_2 ≤ a0_1) = true := decide_eq_true c9
        clear c9
        by_cases c10 : a1_4 ≥ 1
        ·rw [if_pos c10] at H
         have c10b0 : decide (1 ≤ a1_4) = true := decide_eq_true c10
         clear c10
         by_cases c11 : a1_4 ≤ 4
         ·rw [if_pos c11] at H
          have c11b0 : decide (a1_4 ≤ 4) = true := decide_eq_true c11
          clear c11
          by_cases c12 : a1_6 ≥ 0
          ·rw [if_pos c12] at H
           have c12b0 : decide (0 ≤ a1_6) = true := decide_eq_true c12
           clear c12
           by_cases c13 : a1_6 ≤ a0_1
           ·rw [if_pos c13] at H
            have c13b0 : decide (a1_6 ≤ a0_1) = true := decide_eq_true c13
            clear c13
            by_cases c14 : a1_4 = 3
            ·rw [if_pos c14] at H
             have c14b0 : (a1_4 == 3) = true := beq_iff_eq.mpr c14
             have c14b1 : (a1_4 != 3) = false := bne_eq_false_iff_eq.mpr c14
             clear c14
             obtain rfl := Option.some.inj H
             go_enter Tryd.func25,Tryd.ntmps25
             go_wp2_with (first|((with_reducible refine gate_dst (N := 2) rfl ?_);refine box_event ?hg (N := 2) ?hd (cs := #[.int .u64 a0_0,.int .i64 a0_1,.int .i64 a0_2]) (t := 24) ?hr ?_;(case hd => rfl);(case hg => rfl);(case hr => first|(go_simp;done)|(go_simp;rfl));intro gb215 hg w15 hbox hb;have n0_ := Aside0.mk (below_step (by repeat (first|(with_reducible first|exact HB.out|apply below_alloc|apply pw_below_drewN|apply below_drew1)|exact HB.out)) hb);have n1_ := Aside0.mk (hbox);have n2_ := Aside0.mk ((by rw [hg];exact (below_size (by repeat (first|(with_reducible first|exact HB.out|apply below_alloc|apply pw_below_drewN|apply below_drew1)|exact HB.out))) : w.heap.size ≤ gb215));have n3_ := Aside0.mk ((by rw [hg];exact (below_size (by repeat (first|(with_reducible first|exact HB.out|apply below_alloc|apply pw_below_drewN|apply below_drew1)|exact HB.out))) : w.heap.size ≤ gb215));clear HB;have HB := n0_;have BK215 := n1_;have GW215 := n2_;have GE215 := n3_;clear n0_ n1_ n2_ n3_;clear hb hbox hg)|((with_reducible refine gate_dst (N := 3) rfl ?_);refine box_event ?hg (N := 3) ?hd (cs := #[.int .i64 a1_0,.int .i64 a1_1,.int .i64 a1_2,.int .i64 a1_3,.int .i64 a1_4,.int .u64 a1_5,.int .i64 a1_6,.int .i64 a1_7]) (t := 42) ?hr ?_;(case hd => rfl);(case hg => rfl);(case hr => first|(go_simp;done)|(go_simp;rfl));intro gb216 hg w16 hbox hb;have n0_ := Aside0.mk (blk_below (g := gb215) (o := .cells #[.int .u64 a0_0,.int .i64 a0_1,.int .i64 a0_2] 24 (0,0)) (by (with_reducible repeat (first|refine blk_drewN ?_ _|refine blk_drew ?_|refine blk_alloc ?_ _));exact BK215.out) hb);have n1_ := Aside0.mk (below_step (by repeat (first|(with_reducible first|exact HB.out|apply below_alloc|apply pw_below_drewN|apply below_drew1|refine below_set ?_ GE215.out)|exact HB.out)) hb);have n2_ := Aside0.mk (hbox);have n3_ := Aside0.mk ((by rw [hg];exact (below_size (by repeat (first|(with_reducible first|exact HB.out|apply below_alloc|apply pw_below_drewN|apply below_drew1|refine below_set ?_ GE215.out)|exact HB.out))) : w.heap.size ≤ gb216));have n4_ := Aside0.mk ((by rw [hg];exact (below_size (by repeat (first|(with_reducible first|exact HB.out|apply below_alloc|apply pw_below_drewN|apply below_drew1|refine below_set ?_ GE215.out)|exact HB.out))) : w.heap.size ≤ gb216));have n5_ := Aside0.mk ((by rw [hg];exact Nat.ne_of_lt (blk_lt (g := gb215) (o := .cells #[.int .u64 a0_0,.int .i64 a0_1,.int .i64 a0_2] 24 (0,0)) (by (with_reducible repeat (first|refine blk_drewN ?_ _|refine blk_drew ?_|refine blk_alloc ?_ _));exact BK215.out)) : gb215 ≠ gb216));have n6_ := Aside0.mk ((by rw [hg];exact Nat.ne_of_gt (blk_lt (g := gb215) (o := .cells #[.int .u64 a0_0,.int .i64 a0_1,.int .i64 a0_2] 24 (0,0)) (by (with_reducible repeat (first|refine blk_drewN ?_ _|refine blk_drew ?_|refine blk_alloc ?_ _));exact BK215.out)) : gb216 ≠ gb215));clear BK215;clear HB;have BK215 := n0_;have HB := n1_;have BK216 := n2_;have GW216 := n3_;have GE216 := n4_;have NB215_216 := n5_;have NB216_215 := n6_;clear n0_ n1_ n2_ n3_ n4_ n5_ n6_;clear hb hbox hg;have hnb17 := NB216_215.out;have hnc17 := NB215_216.out;have hcz18_0 : w16.cell? ⟨gb216,0,none⟩ = some (.int .i64 a1_0) := (blk_cell BK216.out 0).trans rfl;have hcz18_1 : w16.cell? ⟨gb216,1,none⟩ = some (.int .i64 a1_1) := (blk_cell BK216.out 1).trans rfl;have hcz18_2 : w16.cell? ⟨gb216,2,none⟩ = some (.int .i64 a1_2) := (blk_cell BK216.out 2).trans rfl;have hcz18_3 : w16.cell? ⟨gb216,3,none⟩ = some (.int .i64 a1_3) := (blk_cell BK216.out 3).trans rfl;have hcz18_4 : w16.cell? ⟨gb216,4,none⟩ = some (.int .i64 a1_4) := (blk_cell BK216.out 4).trans rfl;have hcz18_5 : w16.cell? ⟨gb216,5,none⟩ = some (.int .u64 a1_5) := (blk_cell BK216.out 5).trans rfl;have hcz18_6 : w16.cell? ⟨gb216,6,none⟩ = some (.int .i64 a1_6) := (blk_cell BK216.out 6).trans rfl;have hcz18_7 : w16.cell? ⟨gb216,7,none⟩ = some (.int .i64 a1_7) := (blk_cell BK216.out 7).trans rfl;have hfz18_0 := blk_frozen BK216.out 0;have hfz18_1 := blk_frozen BK216.out 1;have hfz18_2 := blk_frozen BK216.out 2;have hfz18_3 := blk_frozen BK216.out 3;have hfz18_4 := blk_frozen BK216.out 4;have hfz18_5 := blk_frozen BK216.out 5;have hfz18_6 := blk_frozen BK216.out 6;have hfz18_7 := blk_frozen BK216.out 7;have hcz19_0 : w16.cell? ⟨gb215,0,none⟩ = some (.int .u64 a0_0) := (blk_cell BK215.out 0).trans rfl;have hcz19_1 : w16.cell? ⟨gb215,1,none⟩ = some (.int .i64 a0_1) := (blk_cell BK215.out 1).trans rfl;have hcz19_2 : w16.cell? ⟨gb215,2,none⟩ = some (.int .i64 a0_2) := (blk_cell BK215.out 2).trans rfl;have hfz19_0 := blk_frozen BK215.out 0;have hfz19_1 := blk_frozen BK215.out 1;have hfz19_2 := blk_frozen BK215.out 2))
             all_goals go_ret
             all_goals (exact ⟨by first|rfl|(simp [errW_none,errW_some] <;> rfl)|(simp [*,errW_none,errW_some] <;> rfl),by repeat (first|(with_reducible first|exact HB.out|apply below_alloc|apply pw_below_drewN|apply below_drew1|refine below_set ?_ GE215.out|refine below_set ?_ GE216.out)|exact HB.out)⟩)
            ·rw [if_neg c14] at H
             have c14b0 : (a1_4 == 3) = false := beq_eq_false_iff_ne.mpr c14
             have c14b1 : (a1_4 != 3) = true := bne_iff_ne.mpr c14
             obtain rfl := Option.some.inj H
             go_enter Tryd.func25,Tryd.ntmps25
             go_wp2_with (first|((with_reducible refine gate_dst (N := 2) rfl ?_);refine box_event ?hg (N := 2) ?hd (cs := #[.int .u64 a0_0,.int .i64 a0_1,.int .i64 a0_2]) (t := 24) ?hr ?_;(case hd => rfl);(case hg => rfl);(case hr => first|(go_simp;done)|(go_simp;rfl));intro gb215 hg w20 hbox hb;have n0_ := Aside0.mk (below_step (by repeat (first|(with_reducible first|exact HB.out|apply below_alloc|apply pw_below_drewN|apply below_drew1)|exact HB.out)) hb);have n1_ := Aside0.mk (hbox);have n2_ := Aside0.mk ((by rw [hg];exact (below_size (by repeat (first|(with_reducible first|exact HB.out|apply below_alloc|apply pw_below_drewN|apply below_drew1)|exact HB.out))) : w.heap.size ≤ gb215));have n3_ := Aside0.mk ((by rw [hg];exact (below_size (by repeat (first|(with_reducible first|exact HB.out|apply below_alloc|apply pw_below_drewN|apply below_drew1)|exact HB.out))) : w.heap.size ≤ gb215));clear HB;have HB := n0_;have BK215 := n1_;have GW215 := n2_;have GE215 := n3_;clear n0_ n1_ n2_ n3_;clear hb hbox hg)|((with_reducible refine gate_dst (N := 3) rfl ?_);refine box_event ?hg (N := 3) ?hd (cs := #[.int .i64 a1_0,.int .i64 a1_1,.int .i64 a1_2,.int .i64 a1_3,.int .i64 a1_4,.int .u64 a1_5,.int .i64 a1_6,.int .i64 a1_7]) (t := 42) ?hr ?_;(case hd => rfl);(case hg => rfl);(case hr => first|(go_simp;done)|(go_simp;rfl));intro gb216 hg w21 hbox hb;have n0_ := Aside0.mk (blk_below (g := gb215) (o := .cells #[.int .u64 a0_0,.int .i64 a0_1,.int .i64 a0_2] 24 (0,0)) (by (with_reducible repeat (first|refine blk_drewN ?_ _|refine blk_drew ?_|refine blk_alloc ?_ _));exact BK215.out) hb);have n1_ := Aside0.mk (below_step (by repeat (first|(with_reducible first|exact HB.out|apply below_alloc|apply pw_below_drewN|apply below_drew1|refine below_set ?_ GE215.out)|exact HB.out)) hb);have n2_ := Aside0.mk (hbox);have n3_ := Aside0.mk ((by rw [hg];exact (below_size (by repeat (first|(with_reducible first|exact HB.out|apply below_alloc|apply pw_below_drewN|apply below_drew1|refine below_set ?_ GE215.out)|exact HB.out))) : w.heap.size ≤ gb216));have n4_ := Aside0.mk ((by rw [hg];exact (below_size (by repeat (first|(with_reducible first|exact HB.out|apply below_alloc|apply pw_below_drewN|apply below_drew1|refine below_set ?_ GE215.out)|exact HB.out))) : w.heap.size ≤ gb216));have n5_ := Aside0.mk ((by rw [hg];exact Nat.ne_of_lt (blk_lt (g := gb215) (o := .cells #[.int .u64 a0_0,.int .i64 a0_1,.int .i64 a0_2] 24 (0,0)) (by (with_reducible repeat (first|refine blk_drewN ?_ _|refine blk_drew ?_|refine blk_alloc ?_ _));exact BK215.out)) : gb215 ≠ gb216));have n6_ := Aside0.mk ((by rw [hg];exact Nat.ne_of_gt (blk_lt (g := gb215) (o := .cells #[.int .u64 a0_0,.int .i64 a0_1,.int .i64 a0_2] 24 (0,0)) (by (with_reducible repeat (first|refine blk_drewN ?_ _|refine blk_drew ?_|refine blk_alloc ?_ _));exact BK215.out)) : gb216 ≠ gb215));clear BK215;clear HB;have BK215 := n0_;have HB := n1_;have BK216 := n2_;have GW216 := n3_;have GE216 := n4_;have NB215_216 := n5_;have NB216_215 := n6_;clear n0_ n1_ n2_ n3_ n4_ n5_ n6_;clear hb hbox hg;have hnb22 := NB216_215.out;have hnc22 := NB215_216.out;have hcz23_0 : w21.cell? ⟨gb216,0,none⟩ = some (.int .i64 a1_0) := (blk_cell BK216.out 0).trans rfl;have hcz23_1 : w21.cell? ⟨gb216,1,none⟩ = some (.int .i64 a1_1) := (blk_cell BK216.out 1).trans rfl;have hcz23_2 : w21.cell? ⟨gb216,2,none⟩ = some (.int .i64 a1_2) := (blk_cell BK216.out 2).trans rfl;have hcz23_3 : w21.cell? ⟨gb216,3,none⟩ = some (.int .i64 a1_3) := (blk_cell BK216.out 3).trans rfl;have hcz23_4 : w21.cell? ⟨gb216,4,none⟩ = some (.int .i64 a1_4) := (blk_cell BK216.out 4).trans rfl;have hcz23_5 : w21.cell? ⟨gb216,5,none⟩ = some (.int .u64 a1_5) := (blk_cell BK216.out 5).trans rfl;have hcz23_6 : w21.cell? ⟨gb216,6,none⟩ = some (.int .i64 a1_6) := (blk_cell BK216.out 6).trans rfl;have hcz23_7 : w21.cell? ⟨gb216,7,none⟩ = some (.int .i64 a1_7) := (blk_cell BK216.out 7).trans rfl;have hfz23_0 := blk_frozen BK216.out 0;have hfz23_1 := blk_frozen BK216.out 1;have hfz23_2 := blk_frozen BK216.out 2;have hfz23_3 := blk_frozen BK216.out 3;have hfz23_4 := blk_frozen BK216.out 4;have hfz23_5 := blk_frozen BK216.out 5;have hfz23_6 := blk_frozen BK216.out 6;have hfz23_7 := blk_frozen BK216.out 7;have hcz24_0 : w21.cell? ⟨gb215,0,none⟩ = some (.int .u64 a0_0) := (blk_cell BK215.out 0).trans rfl;have hcz24_1 : w21.cell? ⟨gb215,1,none⟩ = some (.int .i64 a0_1) := (blk_cell BK215.out 1).trans rfl;have hcz24_2 : w21.cell? ⟨gb215,2,none⟩ = some (.int .i64 a0_2) := (blk_cell BK215.out 2).trans rfl;have hfz24_0 := blk_frozen BK215.out 0;have hfz24_1 := blk_frozen BK215.out 1;have hfz24_2 := blk_frozen BK215.out 2))
             all_goals go_ret
             all_goals (exact ⟨by first|rfl|(simp [errW_none,errW_some] <;> rfl)|(simp [*,errW_none,errW_some] <;> rfl),by repeat (first|(with_reducible first|exact HB.out|apply below_alloc|apply pw_below_drewN|apply below_drew1|refine below_set ?_ GE215.out|refine below_set ?_ GE216.out)|exact HB.out)⟩)
           ·rw [if_neg c13] at H
            have c13b0 : decide (a1_6 ≤ a0_1) = false := decide_eq_false c13
            clear c13
            obtain rfl := Option.some.inj H
            go_enter Tryd.func25,Tryd.ntmps25
            go_wp2_with (first|((with_reducible refine gate_dst (N := 2) rfl ?_);refine box_event ?hg (N := 2) ?hd (cs := #[.int .u64 a0_0,.int .i64 a0_1,.int .i64 a0_2]) (t := 24) ?hr ?_;(case hd => rfl);(case hg => rfl);(case hr => first|(go_simp;done)|(go_simp;rfl));intro gb215 hg w25 hbox hb;have n0_ := Aside0.mk (below_step (by repeat (first|(with_reducible first|exact HB.out|apply below_alloc|apply pw_below_drewN|apply below_drew1)|exact HB.out)) hb);have n1_ := Aside0.mk (hbox);have n2_ := Aside0.mk ((by rw [hg];exact (below_size (by repeat (first|(with_reducible first|exact HB.out|apply below_alloc|apply pw_below_drewN|apply below_drew1)|exact HB.out))) : w.heap.size ≤ gb215));have n3_ := Aside0.mk ((by rw [hg];exact (below_size (by repeat (first|(with_reducible first|exact HB.out|apply below_alloc|apply pw_below_drewN|apply below_drew1)|exact HB.out))) : w.heap.size ≤ gb215));clear HB;have HB := n0_;have BK215 := n1_;have GW215 := n2_;have GE215 := n3_;clear n0_ n1_ n2_ n3_;clear hb hbox hg)|((with_reducible refine gate_dst (N := 3) rfl ?_);refine box_event ?hg (N := 3) ?hd (cs := #[.int .i64 a1_0,.int .i64 a1_1,.int .i64 a1_2,.int .i64 a1_3,.int .i64 a1_4,.int .u64 a1_5,.int .i64 a1_6,.int .i64 a1_7]) (t := 42) ?hr ?_;(case hd => rfl);(case hg => rfl);(case hr => first|(go_simp;done)|(go_simp;rfl));intro gb216 hg w26 hbox hb;have n0_ := Aside0.mk (blk_below (g := gb215) (o := .cells #[.int .u64 a0_0,.int .i64 a0_1,.int .i64 a0_2] 24 (0,0)) (by (with_reducible repeat (first|refine blk_drewN ?_ _|refine blk_drew ?_|refine blk_alloc ?_ _));exact BK215.out) hb);have n1_ := Aside0.mk (below_step (by repeat (first|(with_reducible first|exact HB.out|apply below_alloc|apply pw_below_drewN|apply below_drew1|refine below_set ?_ GE215.out)|exact HB.out)) hb);have n2_ := Aside0.mk (hbox);have n3_ := Aside0.mk ((by rw [hg];exact (below_size (by repeat (first|(with_reducible first|exact HB.out|apply below_alloc|apply pw_below_drewN|apply below_drew1|refine below_set ?_ GE215.out)|exact HB.out))) : w.heap.size ≤ gb216));have n4_ := Aside0.mk ((by rw [hg];exact (below_size (by repeat (first|(with_reducible first|exact HB.out|apply below_alloc|apply pw_below_drewN|apply below_drew1|refine below_set ?_ GE215.out)|exact HB.out))) : w.heap.size ≤ gb216));have n5_ := Aside0.mk ((by rw [hg];exact Nat.ne_of_lt (blk_lt (g := gb215) (o := .cells #[.int .u64 a0_0,.int .i64 a0_1,.int .i64 a0_2] 24 (0,0)) (by (with_reducible repeat (first|refine blk_drewN ?_ _|refine blk_drew ?_|refine blk_alloc ?_ _));exact BK215.out)) : gb215 ≠ gb216));have n6_ := Aside0.mk ((by rw [hg];exact Nat.ne_of_gt (blk_lt (g := gb215) (o := .cells #[.int .u64 a0_0,.int .i64 a0_1,.int .i64 a0_2] 24 (0,0)) (by (with_reducible repeat (first|refine blk_drewN ?_ _|refine blk_drew ?_|refine blk_alloc ?_ _));exact BK215.out)) : gb216 ≠ gb215));clear BK215;clear HB;have BK215 := n0_;have HB := n1_;have BK216 := n2_;have GW216 := n3_;have GE216 := n4_;have NB215_216 := n5_;have NB216_215 := n6_;clear n0_ n1_ n2_ n3_ n4_ n5_ n6_;clear hb hbox hg;have hnb27 := NB216_215.out;have hnc27 := NB215_216.out;have hcz28_0 : w26.cell? ⟨gb216,0,none⟩ = some (.int .i64 a1_0) := (blk_cell BK216.out 0).trans rfl;have hcz28_1 : w26.cell? ⟨gb216,1,none⟩ = some (.int .i64 a1_1) := (blk_cell BK216.out 1).trans rfl;have hcz28_2 : w26.cell? ⟨gb216,2,none⟩ = some (.int .i64 a1_2) := (blk_cell BK216.out 2).trans rfl;have hcz28_3 : w26.cell? ⟨gb216,3,none⟩ = some (.int .i64 a1_3) := (blk_cell BK216.out 3).trans rfl;have hcz28_4 : w26.cell? ⟨gb216,4,none⟩ = some (.int .i64 a1_4) := (blk_cell BK216.out 4).trans rfl;have hcz28_5 : w26.cell? ⟨gb216,5,none⟩ = some (.int .u64 a1_5) := (blk_cell BK216.out 5).trans rfl;have hcz28_6 : w26.cell? ⟨gb216,6,none⟩ = some (.int .i64 a1_6) := (blk_cell BK216.out 6).trans rfl;have hcz28_7 : w26.cell? ⟨gb216,7,none⟩ = some (.int .i64 a1_7) := (blk_cell BK216.out 7).trans rfl;have hfz28_0 := blk_frozen BK216.out 0;have hfz28_1 := blk_frozen BK216.out 1;have hfz28_2 := blk_frozen BK216.out 2;have hfz28_3 := blk_frozen BK216.out 3;have hfz28_4 := blk_frozen BK216.out 4;have hfz28_5 := blk_frozen BK216.out 5;have hfz28_6 := blk_frozen BK216.out 6;have hfz28_7 := blk_frozen BK216.out 7;have hcz29_0 : w26.cell? ⟨gb215,0,none⟩ = some (.int .u64 a0_0) := (blk_cell BK215.out 0).trans rfl;have hcz29_1 : w26.cell? ⟨gb215,1,none⟩ = some (.int .i64 a0_1) := (blk_cell BK215.out 1).trans rfl;have hcz29_2 : w26.cell? ⟨gb215,2,none⟩ = some (.int .i64 a0_2) := (blk_cell BK215.out 2).trans rfl;have hfz29_0 := blk_frozen BK215.out 0;have hfz29_1 := blk_frozen BK215.out 1;have hfz29_2 := blk_frozen BK215.out 2))
            all_goals go_ret
            all_goals (exact ⟨by first|rfl|(simp [errW_none,errW_some] <;> rfl)|(simp [*,errW_none,errW_some] <;> rfl),by repeat (first|(with_reducible first|exact HB.out|apply below_alloc|apply pw_below_drewN|apply below_drew1|refine below_set ?_ GE215.out|refine below_set ?_ GE216.out)|exact HB.out)⟩)
          ·rw [if_neg c12] at H
           have c12b0 : decide (0 ≤ a1_6) = false := decide_eq_false c12
           clear c12
           obtain rfl := Option.some.inj H
           go_enter Tryd.func25,Tryd.ntmps25
           go_wp2_with (first|((with_reducible refine gate_dst (N := 2) rfl ?_);refine box_event ?hg (N := 2) ?hd (cs := #[.int .u64 a0_0,.int .i64 a0_1,.int .i64 a0_2]) (t := 24) ?hr ?_;(case hd => rfl);(case hg => rfl);(case hr => first|(go_simp;done)|(go_simp;rfl));intro gb215 hg w30 hbox hb;have n0_ := Aside0.mk (below_step (by repeat (first|(with_reducible first|exact HB.out|apply below_alloc|apply pw_below_drewN|apply below_drew1)|exact HB.out)) hb);have n1_ := Aside0.mk (hbox);have n2_ := Aside0.mk ((by rw [hg];exact (below_size (by repeat (first|(with_reducible first|exact HB.out|apply below_alloc|apply pw_below_drewN|apply below_drew1)|exact HB.out))) : w.heap.size ≤ gb215));have n3_ := Aside0.mk ((by rw [hg];exact (below_size (by repeat (first|(with_reducible first|exact HB.out|apply below_alloc|apply pw_below_drewN|apply below_drew1)|exact HB.out))) : w.heap.size ≤ gb215));clear HB;have HB := n0_;have BK215 := n1_;have GW215 := n2_;have GE215 := n3_;clear n0_ n1_ n2_ n3_;clear hb hbox hg)|((with_reducible refine gate_dst (N := 3) rfl ?_);refine box_event ?hg (N := 3) ?hd (cs := #[.int .i64 a1_0,.int .i64 a1_1,.int .i64 a1_2,.int .i64 a1_3,.int .i64 a1_4,.int .u64 a1_5,.int .i64 a1_6,.int .i64 a1_7]) (t := 42) ?hr ?_;(case hd => rfl);(case hg => rfl);(case hr => first|(go_simp;done)|(go_simp;rfl));intro gb216 hg w31 hbox hb;have n0_ := Aside0.mk (blk_below (g := gb215) (o := .cells #[.int .u64 a0_0,.int .i64 a0_1,.int .i64 a0_2] 24 (0,0)) (by (with_reducible repeat (first|refine blk_drewN ?_ _|refine blk_drew ?_|refine blk_alloc ?_ _));exact BK215.out) hb);have n1_ := Aside0.mk (below_step (by repeat (first|(with_reducible first|exact HB.out|apply below_alloc|apply pw_below_drewN|apply below_drew1|refine below_set ?_ GE215.out)|exact HB.out)) hb);have n2_ := Aside0.mk (hbox);have n3_ := Aside0.mk ((by rw [hg];exact (below_size (by repeat (first|(with_reducible first|exact HB.out|apply below_alloc|apply pw_below_drewN|apply below_drew1|refine below_set ?_ GE215.out)|exact HB.out))) : w.heap.size ≤ gb216));have n4_ := Aside0.mk ((by rw [hg];exact (below_size (by repeat (first|(with_reducible first|exact HB.out|apply below_alloc|apply pw_below_drewN|apply below_drew1|refine below_set ?_ GE215.out)|exact HB.out))) : w.heap.size ≤ gb216));have n5_ := Aside0.mk ((by rw [hg];exact Nat.ne_of_lt (blk_lt (g := gb215) (o := .cells #[.int .u64 a0_0,.int .i64 a0_1,.int .i64 a0_2] 24 (0,0)) (by (with_reducible repeat (first|refine blk_drewN ?_ _|refine blk_drew ?_|refine blk_alloc ?_ _));exact BK215.out)) : gb215 ≠ gb216));have n6_ := Aside0.mk ((by rw [hg];exact Nat.ne_of_gt (blk_lt (g := gb215) (o := .cells #[.int .u64 a0_0,.int .i64 a0_1,.int .i64 a0_2] 24 (0,0)) (by (with_reducible repeat (first|refine blk_drewN ?_ _|refine blk_drew ?_|refine blk_alloc ?_ _));exact BK215.out)) : gb216 ≠ gb215));clear BK215;clear HB;have BK215 := n0_;have HB := n1_;have BK216 := n2_;have GW216 := n3_;have GE216 := n4_;have NB215_216 := n5_;have NB216_215 := n6_;clear n0_ n1_ n2_ n3_ n4_ n5_ n6_;clear hb hbox hg;have hnb32 := NB216_215.out;have hnc32 := NB215_216.out;have hcz33_0 : w31.cell? ⟨gb216,0,none⟩ = some (.int .i64 a1_0) := (blk_cell BK216.out 0).trans rfl;have hcz33_1 : w31.cell? ⟨gb216,1,none⟩ = some (.int .i64 a1_1) := (blk_cell BK216.out 1).trans rfl;have hcz33_2 : w31.cell? ⟨gb216,2,none⟩ = some (.int .i64 a1_2) := (blk_cell BK216.out 2).trans rfl;have hcz33_3 : w31.cell? ⟨gb216,3,none⟩ = some (.int .i64 a1_3) := (blk_cell BK216.out 3).trans rfl;have hcz33_4 : w31.cell? ⟨gb216,4,none⟩ = some (.int .i64 a1_4) := (blk_cell BK216.out 4).trans rfl;have hcz33_5 : w31.cell? ⟨gb216,5,none⟩ = some (.int .u64 a1_5) := (blk_cell BK216.out 5).trans rfl;have hcz33_6 : w31.cell? ⟨gb216,6,none⟩ = some (.int .i64 a1_6) := (blk_cell BK216.out 6).trans rfl;have hcz33_7 : w31.cell? ⟨gb216,7,none⟩ = some (.int .i64 a1_7) := (blk_cell BK216.out 7).trans rfl;have hfz33_0 := blk_frozen BK216.out 0;have hfz33_1 := blk_frozen BK216.out 1;have hfz33_2 := blk_frozen BK216.out 2;have hfz33_3 := blk_frozen BK216.out 3;have hfz33_4 := blk_frozen BK216.out 4;have hfz33_5 := blk_frozen BK216.out 5;have hfz33_6 := blk_frozen BK216.out 6;have hfz33_7 := blk_frozen BK216.out 7;have hcz34_0 : w31.cell? ⟨gb215,0,none⟩ = some (.int .u64 a0_0) := (blk_cell BK215.out 0).trans rfl;have hcz34_1 : w31.cell? ⟨gb215,1,none⟩ = some (.int .i64 a0_1) := (blk_cell BK215.out 1).trans rfl;have hcz34_2 : w31.cell? ⟨gb215,2,none⟩ = some (.int .i64 a0_2) := (blk_cell BK215.out 2).trans rfl;have hfz34_0 := blk_frozen BK215.out 0;have hfz34_1 := blk_frozen BK215.out 1;have hfz34_2 := blk_frozen BK215.out 2))
           all_goals go_ret
           all_goals (exact ⟨by first|rfl|(simp [errW_none,errW_some] <;> rfl)|(simp [*,errW_none,errW_some] <;> rfl),by repeat (first|(with_reducible first|exact HB.out|apply below_alloc|apply pw_below_drewN|apply below_drew1|refine below_set ?_ GE215.out|refine below_set ?_ GE216.out)|exact HB.out)⟩)
         ·rw [if_neg c11] at H
          have c11b0 : decide (a1_4 ≤ 4) = false := decide_eq_false c11
          clear c11
          obtain rfl := Option.some.inj H
          go_enter Tryd.func25,Tryd.ntmps25
          go_wp2_with (first|((with_reducible refine gate_dst (N := 2) rfl ?_);refine box_event ?hg (N := 2) ?hd (cs := #[.int .u64 a0_0,.int .i64 a0_1,.int .i64 a0_2]) (t := 24) ?hr ?_;(case hd => rfl);(case hg => rfl);(case hr => first|(go_simp;done)|(go_simp;rfl));intro gb215 hg w35 hbox hb;have n0_ := Aside0.mk (below_step (by repeat (first|(with_reducible first|exact HB.out|apply below_alloc|apply pw_below_drewN|apply below_drew1)|exact HB.out)) hb);have n1_ := Aside0.mk (hbox);have n2_ := Aside0.mk ((by rw [hg];exact (below_size (by repeat (first|(with_reducible first|exact HB.out|apply below_alloc|apply pw_below_drewN|apply below_drew1)|exact HB.out))) : w.heap.size ≤ gb215));have n3_ := Aside0.mk ((by rw [hg];exact (below_size (by repeat (first|(with_reducible first|exact HB.out|apply below_alloc|apply pw_below_drewN|apply below_drew1)|exact HB.out))) : w.heap.size ≤ gb215));clear HB;have HB := n0_;have BK215 := n1_;have GW215 := n2_;have GE215 := n3_;clear n0_ n1_ n2_ n3_;clear hb hbox hg)|((with_reducible refine gate_dst (N := 3) rfl ?_);refine box_event ?hg (N := 3) ?hd (cs := #[.int .i64 a1_0,.int .i64 a1_1,.int .i64 a1_2,.int .i64 a1_3,.int .i64 a1_4,.int .u64 a1_5,.int .i64 a1_6,.int .i64 a1_7]) (t := 42) ?hr ?_;(case hd => rfl);(case hg => rfl);(case hr => first|(go_simp;done)|(go_simp;rfl));intro gb216 hg w36 hbox hb;have n0_ := Aside0.mk (blk_below (g := gb215) (o := .cells #[.int .u64 a0_0,.int .i64 a0_1,.int .i64 a0_2] 24 (0,0)) (by (with_reducible repeat (first|refine blk_drewN ?_ _|refine blk_drew ?_|refine blk_alloc ?_ _));exact BK215.out) hb);have n1_ := Aside0.mk (below_step (by repeat (first|(with_reducible first|exact HB.out|apply below_alloc|apply pw_below_drewN|apply below_drew1|refine below_set ?_ GE215.out)|exact HB.out)) hb);have n2_ := Aside0.mk (hbox);have n3_ := Aside0.mk ((by rw [hg];exact (below_size (by repeat (first|(with_reducible first|exact HB.out|apply below_alloc|apply pw_below_drewN|apply below_drew1|refine below_set ?_ GE215.out)|exact HB.out))) : w.heap.size ≤ gb216));have n4_ := Aside0.mk ((by rw [hg];exact (below_size (by repeat (first|(with_reducible first|exact HB.out|apply below_alloc|apply pw_below_drewN|apply below_drew1|refine below_set ?_ GE215.out)|exact HB.out))) : w.heap.size ≤ gb216));have n5_ := Aside0.mk ((by rw [hg];exact Nat.ne_of_lt (blk_lt (g := gb215) (o := .cells #[.int .u64 a0_0,.int .i64 a0_1,.int .i64 a0_2] 24 (0,0)) (by (with_reducible repeat (first|refine blk_drewN ?_ _|refine blk_drew ?_|refine blk_alloc ?_ _));exact BK215.out)) : gb215 ≠ gb216));have n6_ := Aside0.mk ((by rw [hg];exact Nat.ne_of_gt (blk_lt (g := gb215) (o := .cells #[.int .u64 a0_0,.int .i64 a0_1,.int .i64 a0_2] 24 (0,0)) (by (with_reducible repeat (first|refine blk_drewN ?_ _|refine blk_drew ?_|refine blk_alloc ?_ _));exact BK215.out)) : gb216 ≠ gb215));clear BK215;clear HB;have BK215 := n0_;have HB := n1_;have BK216 := n2_;have GW216 := n3_;have GE216 := n4_;have NB215_216 := n5_;have NB216_215 := n6_;clear n0_ n1_ n2_ n3_ n4_ n5_ n6_;clear hb hbox hg;have hnb37 := NB216_215.out;have hnc37 := NB215_216.out;have hcz38_0 : w36.cell? ⟨gb216,0,none⟩ = some (.int .i64 a1_0) := (blk_cell BK216.out 0).trans rfl;have hcz38_1 : w36.cell? ⟨gb216,1,none⟩ = some (.int .i64 a1_1) := (blk_cell BK216.out 1).trans rfl;have hcz38_2 : w36.cell? ⟨gb216,2,none⟩ = some (.int .i64 a1_2) := (blk_cell BK216.out 2).trans rfl;have hcz38_3 : w36.cell? ⟨gb216,3,none⟩ = some (.int .i64 a1_3) := (blk_cell BK216.out 3).trans rfl;have hcz38_4 : w36.cell? ⟨gb216,4,none⟩ = some (.int .i64 a1_4) := (blk_cell BK216.out 4).trans rfl;have hcz38_5 : w36.cell? ⟨gb216,5,none⟩ = some (.int .u64 a1_5) := (blk_cell BK216.out 5).trans rfl;have hcz38_6 : w36.cell? ⟨gb216,6,none⟩ = some (.int .i64 a1_6) := (blk_cell BK216.out 6).trans rfl;have hcz38_7 : w36.cell? ⟨gb216,7,none⟩ = some (.int .i64 a1_7) := (blk_cell BK216.out 7).trans rfl;have hfz38_0 := blk_frozen BK216.out 0;have hfz38_1 := blk_frozen BK216.out 1;have hfz38_2 := blk_frozen BK216.out 2;have hfz38_3 := blk_frozen BK216.out 3;have hfz38_4 := blk_frozen BK216.out 4;have hfz38_5 := blk_frozen BK216.out 5;have hfz38_6 := blk_frozen BK216.out 6;have hfz38_7 := blk_frozen BK216.out 7;have hcz39_0 : w36.cell? ⟨gb215,0,none⟩ = some (.int .u64 a0_0) := (blk_cell BK215.out 0).trans rfl;have hcz39_1 : w36.cell? ⟨gb215,1,none⟩ = some (.int .i64 a0_1) := (blk_cell BK215.out 1).trans rfl;have hcz39_2 : w36.cell? ⟨gb215,2,none⟩ = some (.int .i64 a0_2) := (blk_cell BK215.out 2).trans rfl;have hfz39_0 := blk_frozen BK215.out 0;have hfz39_1 := blk_frozen BK215.out 1;have hfz39_2 := blk_frozen BK215.out 2))
          all_goals go_ret
          all_goals (exact ⟨by first|rfl|(simp [errW_none,errW_some] <;> rfl)|(simp [*,errW_none,errW_some] <;> rfl),by repeat (first|(with_reducible first|exact HB.out|apply below_alloc|apply pw_below_drewN|apply below_drew1|refine below_set ?_ GE215.out|refine below_set ?_ GE216.out)|exact HB.out)⟩)
        ·rw [if_neg c10] at H
         have c10b0 : decide (1 ≤ a1_4) = false := decide_eq_false c10
         clear c10
         obtain rfl := Option.some.inj H
         go_enter Tryd.func25,Tryd.ntmps25
         go_wp2_with (first|((with_reducible refine gate_dst (N := 2) rfl ?_);refine box_event ?hg (N := 2) ?hd (cs := #[.int .u64 a0_0,.int .i64 a0_1,.int .i64 a0_2]) (t := 24) ?hr ?_;(case hd => rfl);(case hg => rfl);(case hr => first|(go_simp;done)|(go_simp;rfl));intro gb215 hg w40 hbox hb;have n0_ := Aside0.mk (below_step (by repeat (first|(with_reducible first|exact HB.out|apply below_alloc|apply pw_below_drewN|apply below_drew1)|exact HB.out)) hb);have n1_ := Aside0.mk (hbox);have n2_ := Aside0.mk ((by rw [hg];exact (below_size (by repeat (first|(with_reducible first|exact HB.out|apply below_alloc|apply pw_below_drewN|apply below_drew1)|exact HB.out))) : w.heap.size ≤ gb215));have n3_ := Aside0.mk ((by rw [hg];exact (below_size (by repeat (first|(with_reducible first|exact HB.out|apply below_alloc|apply pw_below_drewN|apply below_drew1)|exact HB.out))) : w.heap.size ≤ gb215));clear HB;have HB := n0_;have BK215 := n1_;have GW215 := n2_;have GE215 := n3_;clear n0_ n1_ n2_ n3_;clear hb hbox hg)|((with_reducible refine gate_dst (N := 3) rfl ?_);refine box_event ?hg (N := 3) ?hd (cs := #[.int .i64 a1_0,.int .i64 a1_1,.int .i64 a1_2,.int .i64 a1_3,.int .i64 a1_4,.int .u64 a1_5,.int .i64 a1_6,.int .i64 a1_7]) (t := 42) ?hr ?_;(case hd => rfl);(case hg => rfl);(case hr => first|(go_simp;done)|(go_simp;rfl));intro gb216 hg w41 hbox hb;have n0_ := Aside0.mk (blk_below (g := gb215) (o := .cells #[.int .u64 a0_0,.int .i64 a0_1,.int .i64 a0_2] 24 (0,0)) (by (with_reducible repeat (first|refine blk_drewN ?_ _|refine blk_drew ?_|refine blk_alloc ?_ _));exact BK215.out) hb);have n1_ := Aside0.mk (below_step (by repeat (first|(with_reducible first|exact HB.out|apply below_alloc|apply pw_below_drewN|apply below_drew1|refine below_set ?_ GE215.out)|exact HB.out)) hb);have n2_ := Aside0.mk (hbox);have n3_ := Aside0.mk ((by rw [hg];exact (below_size (by repeat (first|(with_reducible first|exact HB.out|apply below_alloc|apply pw_below_drewN|apply below_drew1|refine below_set ?_ GE215.out)|exact HB.out))) : w.heap.size ≤ gb216));have n4_ := Aside0.mk ((by rw [hg];exact (below_size (by repeat (first|(with_reducible first|exact HB.out|apply below_alloc|apply pw_below_drewN|apply below_drew1|refine below_set ?_ GE215.out)|exact HB.out))) : w.heap.size ≤ gb216));have n5_ := Aside0.mk ((by rw [hg];exact Nat.ne_of_lt (blk_lt (g := gb215) (o := .cells #[.int .u64 a0_0,.int .i64 a0_1,.int .i64 a0_2] 24 (0,0)) (by (with_reducible repeat (first|refine blk_drewN ?_ _|refine blk_drew ?_|refine blk_alloc ?_ _));exact BK215.out)) : gb215 ≠ gb216));have n6_ := Aside0.mk ((by rw [hg];exact Nat.ne_of_gt (blk_lt (g := gb215) (o := .cells #[.int .u64 a0_0,.int .i64 a0_1,.int .i64 a0_2] 24 (0,0)) (by (with_reducible repeat (first|refine blk_drewN ?_ _|refine blk_drew ?_|refine blk_alloc ?_ _));exact BK215.out)) : gb216 ≠ gb215));clear BK215;clear HB;have BK215 := n0_;have HB := n1_;have BK216 := n2_;have GW216 := n3_;have GE216 := n4_;have NB215_216 := n5_;have NB216_215 := n6_;clear n0_ n1_ n2_ n3_ n4_ n5_ n6_;clear hb hbox hg;have hnb42 := NB216_215.out;have hnc42 := NB215_216.out;have hcz43_0 : w41.cell? ⟨gb216,0,none⟩ = some (.int .i64 a1_0) := (blk_cell BK216.out 0).trans rfl;have hcz43_1 : w41.cell? ⟨gb216,1,none⟩ = some (.int .i64 a1_1) := (blk_cell BK216.out 1).trans rfl;have hcz43_2 : w41.cell? ⟨gb216,2,none⟩ = some (.int .i64 a1_2) := (blk_cell BK216.out 2).trans rfl;have hcz43_3 : w41.cell? ⟨gb216,3,none⟩ = some (.int .i64 a1_3) := (blk_cell BK216.out 3).trans rfl;have hcz43_4 : w41.cell? ⟨gb216,4,none⟩ = some (.int .i64 a1_4) := (blk_cell BK216.out 4).trans rfl;have hcz43_5 : w41.cell? ⟨gb216,5,none⟩ = some (.int .u64 a1_5) := (blk_cell BK216.out 5).trans rfl;have hcz43_6 : w41.cell? ⟨gb216,6,none⟩ = some (.int .i64 a1_6) := (blk_cell BK216.out 6).trans rfl;have hcz43_7 : w41.cell? ⟨gb216,7,none⟩ = some (.int .i64 a1_7) := (blk_cell BK216.out 7).trans rfl;have hfz43_0 := blk_frozen BK216.out 0;have hfz43_1 := blk_frozen BK216.out 1;have hfz43_2 := blk_frozen BK216.out 2;have hfz43_3 := blk_frozen BK216.out 3;have hfz43_4 := blk_frozen BK216.out 4;have hfz43_5 := blk_frozen BK216.out 5;have hfz43_6 := blk_frozen BK216.out 6;have hfz43_7 := blk_frozen BK216.out 7;have hcz44_0 : w41.cell? ⟨gb215,0,none⟩ = some (.int .u64 a0_0) := (blk_cell BK215.out 0).trans rfl;have hcz44_1 : w41.cell? ⟨gb215,1,none⟩ = some (.int .i64 a0_1) := (blk_cell BK215.out 1).trans rfl;have hcz44_2 : w41.cell? ⟨gb215,2,none⟩ = some (.int .i64 a0_2) := (blk_cell BK215.out 2).trans rfl;have hfz44_0 := blk_frozen BK215.out 0;have hfz44_1 := blk_frozen BK215.out 1;have hfz44_2 := blk_frozen BK215.out 2))
         all_goals go_ret
         all_goals (exact ⟨by first|rfl|(simp [errW_none,errW_some] <;> rfl)|(simp [*,errW_none,errW_some] <;> rfl),by repeat (first|(with_reducible first|exact HB.out|apply below_alloc|apply pw_below_drewN|apply below_drew1|refine below_set ?_ GE215.out|refine below_set ?_ GE216.out)|exact HB.out)⟩)
       ·rw [if_neg c9] at H
        have c9b0 : decide (a1_2 ≤ a0_1) = false := decide_eq_false c9
        clear c9
        obtain rfl := Option.some.inj H
        go_enter Tryd.func25,Tryd.ntmps25
        go_wp2_with (first|((with_reducible refine gate_dst (N := 2) rfl ?_);refine box_event ?hg (N := 2) ?hd (cs := #[.int .u64 a0_0,.int .i64 a0_1,.int .i64 a0_2]) (t := 24) ?hr ?_;(case hd => rfl);(case hg => rfl);(case hr => first|(go_simp;done)|(go_simp;rfl));intro gb215 hg w45 hbox hb;have n0_ := Aside0.mk (below_step (by repeat (first|(with_reducible first|exact HB.out|apply below_alloc|apply pw_below_drewN|apply below_drew1)|exact HB.out)) hb);have n1_ := Aside0.mk (hbox);have n2_ := Aside0.mk ((by rw [hg];exact (below_size (by repeat (first|(with_reducible first|exact HB.out|apply below_alloc|apply pw_below_drewN|apply below_drew1)|exact HB.out))) : w.heap.size ≤ gb215));have n3_ := Aside0.mk ((by rw [hg];exact (below_size (by repeat (first|(with_reducible first|exact HB.out|apply below_alloc|apply pw_below_drewN|apply below_drew1)|exact HB.out))) : w.heap.size ≤ gb215));clear HB;have HB := n0_;have BK215 := n1_;have GW215 := n2_;have GE215 := n3_;clear n0_ n1_ n2_ n3_;clear hb hbox hg)|((with_reducible refine gate_dst (N := 3) rfl ?_);refine box_event ?hg (N := 3) ?hd (cs := #[.int .i64 a1_0,.int .i64 a1_1,.int .i64 a1_2,.int .i64 a1_3,.int .i64 a1_4,.int .u64 a1_5,.int .i64 a1_6,.int .i64 a1_7]) (t := 42) ?hr ?_;(case hd => rfl);(case hg => rfl);(case hr => first|(go_simp;done)|(go_simp;rfl));intro gb216 hg w46 hbox hb;have n0_ := Aside0.mk (blk_below (g := gb215) (o := .cells #[.int .u64 a0_0,.int .i64 a0_1,.int .i64 a0_2] 24 (0,0)) (by (with_reducible repeat (first|refine blk_drewN ?_ _|refine blk_drew ?_|refine blk_alloc ?_ _));exact BK215.out) hb);have n1_ := Aside0.mk (below_step (by repeat (first|(with_reducible first|exact HB.out|apply below_alloc|apply pw_below_drewN|apply below_drew1|refine below_set ?_ GE215.out)|exact HB.out)) hb);have n2_ := Aside0.mk (hbox);have n3_ := Aside0.mk ((by rw [hg];exact (below_size (by repeat (first|(with_reducible first|exact HB.out|apply below_alloc|apply pw_below_drewN|apply below_drew1|refine below_set ?_ GE215.out)|exact HB.out))) : w.heap.size ≤ gb216));have n4_ := Aside0.mk ((by rw [hg];exact (below_size (by repeat (first|(with_reducible first|exact HB.out|apply below_alloc|apply pw_below_drewN|apply below_drew1|refine below_set ?_ GE215.out)|exact HB.out))) : w.heap.size ≤ gb216));have n5_ := Aside0.mk ((by rw [hg];exact Nat.ne_of_lt (blk_lt (g := gb215) (o := .cells #[.int .u64 a0_0,.int .i64 a0_1,.int .i64 a0_2] 24 (0,0)) (by (with_reducible repeat (first|refine blk_drewN ?_ _|refine blk_drew ?_|refine blk_alloc ?_ _));exact BK215.out)) : gb215 ≠ gb216));have n6_ := Aside0.mk ((by rw [hg];exact Nat.ne_of_gt (blk_lt (g := gb215) (o := .cells #[.int .u64 a0_0,.int .i64 a0_1,.int .i64 a0_2] 24 (0,0)) (by (with_reducible repeat (first|refine blk_drewN ?_ _|refine blk_drew ?_|refine blk_alloc ?_ _));exact BK215.out)) : gb216 ≠ gb215));clear BK215;clear HB;have BK215 := n0_;have HB := n1_;have BK216 := n2_;have GW216 := n3_;have GE216 := n4_;have NB215_216 := n5_;have NB216_215 := n6_;clear n0_ n1_ n2_ n3_ n4_ n5_ n6_;clear hb hbox hg;have hnb47 := NB216_215.out;have hnc47 := NB215_216.out;have hcz48_0 : w46.cell? ⟨gb216,0,none⟩ = some (.int .i64 a1_0) := (blk_cell BK216.out 0).trans rfl;have hcz48_1 : w46.cell? ⟨gb216,1,none⟩ = some (.int .i64 a1_1) := (blk_cell BK216.out 1).trans rfl;have hcz48_2 : w46.cell? ⟨gb216,2,none⟩ = some (.int .i64 a1_2) := (blk_cell BK216.out 2).trans rfl;have hcz48_3 : w46.cell? ⟨gb216,3,none⟩ = some (.int .i64 a1_3) := (blk_cell BK216.out 3).trans rfl;have hcz48_4 : w46.cell? ⟨gb216,4,none⟩ = some (.int .i64 a1_4) := (blk_cell BK216.out 4).trans rfl;have hcz48_5 : w46.cell? ⟨gb216,5,none⟩ = some (.int .u64 a1_5) := (blk_cell BK216.out 5).trans rfl;have hcz48_6 : w46.cell? ⟨gb216,6,none⟩ = some (.int .i64 a1_6) := (blk_cell BK216.out 6).trans rfl;have hcz48_7 : w46.cell? ⟨gb216,7,none⟩ = some (.int .i64 a1_7) := (blk_cell BK216.out 7).trans rfl;have hfz48_0 := blk_frozen BK216.out 0;have hfz48_1 := blk_frozen BK216.out 1;have hfz48_2 := blk_frozen BK216.out 2;have hfz48_3 := blk_frozen BK216.out 3;have hfz48_4 := blk_frozen BK216.out 4;have hfz48_5 := blk_frozen BK216.out 5;have hfz48_6 := blk_frozen BK216.out 6;have hfz48_7 := blk_frozen BK216.out 7;have hcz49_0 : w46.cell? ⟨gb215,0,none⟩ = some (.int .u64 a0_0) := (blk_cell BK215.out 0).trans rfl;have hcz49_1 : w46.cell? ⟨gb215,1,none⟩ = some (.int .i64 a0_1) := (blk_cell BK215.out 1).trans rfl;have hcz49_2 : w46.cell? ⟨gb215,2,none⟩ = some (.int .i64 a0_2) := (blk_cell BK215.out 2).trans rfl;have hfz49_0 := blk_frozen BK215.out 0;have hfz49_1 := blk_frozen BK215.out 1;have hfz49_2 := blk_frozen BK215.out 2))
        all_goals go_ret
        all_goals (exact ⟨by first|rfl|(simp [errW_none,errW_some] <;> rfl)|(simp [*,errW_none,errW_some] <;> rfl),by repeat (first|(with_reducible first|exact HB.out|apply below_alloc|apply pw_below_drewN|apply below_drew1|refine below_set ?_ GE215.out|refine below_set ?_ GE216.out)|exact HB.out)⟩)
      ·rw [if_neg c8] at H
       have c8b0 : decide (0 ≤ a1_2) = false := decide_eq_false c8
       clear c8
       obtain rfl := Option.some.inj H
       go_enter Tryd.func25,Tryd.ntmps25
       go_wp2_with (first|((with_reducible refine gate_dst (N := 2) rfl ?_);refine box_event ?hg (N := 2) ?hd (cs := #[.int .u64 a0_0,.int .i64 a0_1,.int .i64 a0_2]) (t := 24) ?hr ?_;(case hd => rfl);(case hg => rfl);(case hr => first|(go_simp;done)|(go_simp;rfl));intro gb215 hg w50 hbox hb;have n0_ := Aside0.mk (below_step (by repeat (first|(with_reducible first|exact HB.out|apply below_alloc|apply pw_below_drewN|apply below_drew1)|exact HB.out)) hb);have n1_ := Aside0.mk (hbox);have n2_ := Aside0.mk ((by rw [hg];exact (below_size (by repeat (first|(with_reducible first|exact HB.out|apply below_alloc|apply pw_below_drewN|apply below_drew1)|exact HB.out))) : w.heap.size ≤ gb215));have n3_ := Aside0.mk ((by rw [hg];exact (below_size (by repeat (first|(with_reducible first|exact HB.out|apply below_alloc|apply pw_below_drewN|apply below_drew1)|exact HB.out))) : w.heap.size ≤ gb215));clear HB;have HB := n0_;have BK215 := n1_;have GW215 := n2_;have GE215 := n3_;clear n0_ n1_ n2_ n3_;clear hb hbox hg)|((with_reducible refine gate_dst (N := 3) rfl ?_);refine box_event ?hg (N := 3) ?hd (cs := #[.int .i64 a1_0,.int .i64 a1_1,.int .i64 a1_2,.int .i64 a1_3,.int .i64 a1_4,.int .u64 a1_5,.int .i64 a1_6,.int .i64 a1_7]) (t := 42) ?hr ?_;(case hd => rfl);(case hg => rfl);(case hr => first|(go_simp;done)|(go_simp;rfl));intro gb216 hg w51 hbox hb;have n0_ := Aside0.mk (blk_below (g := gb215) (o := .cells #[.int .u64 a0_0,.int .i64 a0_1,.int .i64 a0_2] 24 (0,0)) (by (with_reducible repeat (first|refine blk_drewN ?_ _|refine blk_drew ?_|refine blk_alloc ?_ _));exact BK215.out) hb);have n1_ := Aside0.mk (below_step (by repeat (first|(with_reducible first|exact HB.out|apply below_alloc|apply pw_below_drewN|apply below_drew1|refine below_set ?_ GE215.out)|exact HB.out)) hb);have n2_ := Aside0.mk (hbox);have n3_ := Aside0.mk ((by rw [hg];exact (below_size (by repeat (first|(with_reducible first|exact HB.out|apply below_alloc|apply pw_below_drewN|apply below_drew1|refine below_set ?_ GE215.out)|exact HB.out))) : w.heap.size ≤ gb216));have n4_ := Aside0.mk ((by rw [hg];exact (below_size (by repeat (first|(with_reducible first|exact HB.out|apply below_alloc|apply pw_below_drewN|apply below_drew1|refine below_set ?_ GE215.out)|exact HB.out))) : w.heap.size ≤ gb216));have n5_ := Aside0.mk ((by rw [hg];exact Nat.ne_of_lt (blk_lt (g := gb215) (o := .cells #[.int .u64 a0_0,.int .i64 a0_1,.int .i64 a0_2] 24 (0,0)) (by (with_reducible repeat (first|refine blk_drewN ?_ _|refine blk_drew ?_|refine blk_alloc ?_ _));exact BK215.out)) : gb215 ≠ gb216));have n6_ := Aside0.mk ((by rw [hg];exact Nat.ne_of_gt (blk_lt (g := gb215) (o := .cells #[.int .u64 a0_0,.int .i64 a0_1,.int .i64 a0_2] 24 (0,0)) (by (with_reducible repeat (first|refine blk_drewN ?_ _|refine blk_drew ?_|refine blk_alloc ?_ _));exact BK215.out)) : gb216 ≠ gb215));clear BK215;clear HB;have BK215 := n0_;have HB := n1_;have BK216 := n2_;have GW216 := n3_;have GE216 := n4_;have NB215_216 := n5_;have NB216_215 := n6_;clear n0_ n1_ n2_ n3_ n4_ n5_ n6_;clear hb hbox hg;have hnb52 := NB216_215.out;have hnc52 := NB215_216.out;have hcz53_0 : w51.cell? ⟨gb216,0,none⟩ = some (.int .i64 a1_0) := (blk_cell BK216.out 0).trans rfl;have hcz53_1 : w51.cell? ⟨gb216,1,none⟩ = some (.int .i64 a1_1) := (blk_cell BK216.out 1).trans rfl;have hcz53_2 : w51.cell? ⟨gb216,2,none⟩ = some (.int .i64 a1_2) := (blk_cell BK216.out 2).trans rfl;have hcz53_3 : w51.cell? ⟨gb216,3,none⟩ = some (.int .i64 a1_3) := (blk_cell BK216.out 3).trans rfl;have hcz53_4 : w51.cell? ⟨gb216,4,none⟩ = some (.int .i64 a1_4) := (blk_cell BK216.out 4).trans rfl;have hcz53_5 : w51.cell? ⟨gb216,5,none⟩ = some (.int .u64 a1_5) := (blk_cell BK216.out 5).trans rfl;have hcz53_6 : w51.cell? ⟨gb216,6,none⟩ = some (.int .i64 a1_6) := (blk_cell BK216.out 6).trans rfl;have hcz53_7 : w51.cell? ⟨gb216,7,none⟩ = some (.int .i64 a1_7) := (blk_cell BK216.out 7).trans rfl;have hfz53_0 := blk_frozen BK216.out 0;have hfz53_1 := blk_frozen BK216.out 1;have hfz53_2 := blk_frozen BK216.out 2;have hfz53_3 := blk_frozen BK216.out 3;have hfz53_4 := blk_frozen BK216.out 4;have hfz53_5 := blk_frozen BK216.out 5;have hfz53_6 := blk_frozen BK216.out 6;have hfz53_7 := blk_frozen BK216.out 7;have hcz54_0 : w51.cell? ⟨gb215,0,none⟩ = some (.int .u64 a0_0) := (blk_cell BK215.out 0).trans rfl;have hcz54_1 : w51.cell? ⟨gb215,1,none⟩ = some (.int .i64 a0_1) := (blk_cell BK215.out 1).trans rfl;have hcz54_2 : w51.cell? ⟨gb215,2,none⟩ = some (.int .i64 a0_2) := (blk_cell BK215.out 2).trans rfl;have hfz54_0 := blk_frozen BK215.out 0;have hfz54_1 := blk_frozen BK215.out 1;have hfz54_2 := blk_frozen BK215.out 2))
       all_goals go_ret
       all_goals (exact ⟨by first|rfl|(simp [errW_none,errW_some] <;> rfl)|(simp [*,errW_none,errW_some] <;> rfl),by repeat (first|(with_reducible first|exact HB.out|apply below_alloc|apply pw_below_drewN|apply below_drew1|refine below_set ?_ GE215.out|refine below_set ?_ GE216.out)|exact HB.out)⟩)
     ·rw [if_neg c7] at H
      have c7b0 : decide (a1_1 ≤ a0_1) = false := decide_eq_false c7
      clear c7
      obtain rfl := Option.some.inj H
      go_enter Tryd.func25,Tryd.ntmps25
      go_wp2_with (first|((with_reducible refine gate_dst (N := 2) rfl ?_);refine box_event ?hg (N := 2) ?hd (cs := #[.int .u64 a0_0,.int .i64 a0_1,.int .i64 a0_2]) (t := 24) ?hr ?_;(case hd => rfl);(case hg => rfl);(case hr => first|(go_simp;done)|(go_simp;rfl));intro gb215 hg w55 hbox hb;have n0_ := Aside0.mk (below_step (by repeat (first|(with_reducible first|exact HB.out|apply below_alloc|apply pw_below_drewN|apply below_drew1)|exact HB.out)) hb);have n1_ := Aside0.mk (hbox);have n2_ := Aside0.mk ((by rw [hg];exact (below_size (by repeat (first|(with_reducible first|exact HB.out|apply below_alloc|apply pw_below_drewN|apply below_drew1)|exact HB.out))) : w.heap.size ≤ gb215));have n3_ := Aside0.mk ((by rw [hg];exact (below_size (by repeat (first|(with_reducible first|exact HB.out|apply below_alloc|apply pw_below_drewN|apply below_drew1)|exact HB.out))) : w.heap.size ≤ gb215));clear HB;have HB := n0_;have BK215 := n1_;have GW215 := n2_;have GE215 := n3_;clear n0_ n1_ n2_ n3_;clear hb hbox hg)|((with_reducible refine gate_dst (N := 3) rfl ?_);refine box_event ?hg (N := 3) ?hd (cs := #[.int .i64 a1_0,.int .i64 a1_1,.int .i64 a1_2,.int .i64 a1_3,.int .i64 a1_4,.int .u64 a1_5,.int .i64 a1_6,.int .i64 a1_7]) (t := 42) ?hr ?_;(case hd => rfl);(case hg => rfl);(case hr => first|(go_simp;done)|(go_simp;rfl));intro gb216 hg w56 hbox hb;have n0_ := Aside0.mk (blk_below (g := gb215) (o := .cells #[.int .u64 a0_0,.int .i64 a0_1,.int .i64 a0_2] 24 (0,0)) (by (with_reducible repeat (first|refine blk_drewN ?_ _|refine blk_drew ?_|refine blk_alloc ?_ _));exact BK215.out) hb);have n1_ := Aside0.mk (below_step (by repeat (first|(with_reducible first|exact HB.out|apply below_alloc|apply pw_below_drewN|apply below_drew1|refine below_set ?_ GE215.out)|exact HB.out)) hb);have n2_ := Aside0.mk (hbox);have n3_ := Aside0.mk ((by rw [hg];exact (below_size (by repeat (first|(with_reducible first|exact HB.out|apply below_alloc|apply pw_below_drewN|apply below_drew1|refine below_set ?_ GE215.out)|exact HB.out))) : w.heap.size ≤ gb216));have n4_ := Aside0.mk ((by rw [hg];exact (below_size (by repeat (first|(with_reducible first|exact HB.out|apply below_alloc|apply pw_below_drewN|apply below_drew1|refine below_set ?_ GE215.out)|exact HB.out))) : w.heap.size ≤ gb216));have n5_ := Aside0.mk ((by rw [hg];exact Nat.ne_of_lt (blk_lt (g := gb215) (o := .cells #[.int .u64 a0_0,.int .i64 a0_1,.int .i64 a0_2] 24 (0,0)) (by (with_reducible repeat (first|refine blk_drewN ?_ _|refine blk_drew ?_|refine blk_alloc ?_ _));exact BK215.out)) : gb215 ≠ gb216));have n6_ := Aside0.mk ((by rw [hg];exact Nat.ne_of_gt (blk_lt (g := gb215) (o := .cells #[.int .u64 a0_0,.int .i64 a0_1,.int .i64 a0_2] 24 (0,0)) (by (with_reducible repeat (first|refine blk_drewN ?_ _|refine blk_drew ?_|refine blk_alloc ?_ _));exact BK215.out)) : gb216 ≠ gb215));clear BK215;clear HB;have BK215 := n0_;have HB := n1_;have BK216 := n2_;have GW216 := n3_;have GE216 := n4_;have NB215_216 := n5_;have NB216_215 := n6_;clear n0_ n1_ n2_ n3_ n4_ n5_ n6_;clear hb hbox hg;have hnb57 := NB216_215.out;have hnc57 := NB215_216.out;have hcz58_0 : w56.cell? ⟨gb216,0,none⟩ = some (.int .i64 a1_0) := (blk_cell BK216.out 0).trans rfl;have hcz58_1 : w56.cell? ⟨gb216,1,none⟩ = some (.int .i64 a1_1) := (blk_cell BK216.out 1).trans rfl;have hcz58_2 : w56.cell? ⟨gb216,2,none⟩ = some (.int .i64 a1_2) := (blk_cell BK216.out 2).trans rfl;have hcz58_3 : w56.cell? ⟨gb216,3,none⟩ = some (.int .i64 a1_3) := (blk_cell BK216.out 3).trans rfl;have hcz58_4 : w56.cell? ⟨gb216,4,none⟩ = some (.int .i64 a1_4) := (blk_cell BK216.out 4).trans rfl;have hcz58_5 : w56.cell? ⟨gb216,5,none⟩ = some (.int .u64 a1_5) := (blk_cell BK216.out 5).trans rfl;have hcz58_6 : w56.cell? ⟨gb216,6,none⟩ = some (.int .i64 a1_6) := (blk_cell BK216.out 6).trans rfl;have hcz58_7 : w56.cell? ⟨gb216,7,none⟩ = some (.int .i64 a1_7) := (blk_cell BK216.out 7).trans rfl;have hfz58_0 := blk_frozen BK216.out 0;have hfz58_1 := blk_frozen BK216.out 1;have hfz58_2 := blk_frozen BK216.out 2;have hfz58_3 := blk_frozen BK216.out 3;have hfz58_4 := blk_frozen BK216.out 4;have hfz58_5 := blk_frozen BK216.out 5;have hfz58_6 := blk_frozen BK216.out 6;have hfz58_7 := blk_frozen BK216.out 7;have hcz59_0 : w56.cell? ⟨gb215,0,none⟩ = some (.int .u64 a0_0) := (blk_cell BK215.out 0).trans rfl;have hcz59_1 : w56.cell? ⟨gb215,1,none⟩ = some (.int .i64 a0_1) := (blk_cell BK215.out 1).trans rfl;have hcz59_2 : w56.cell? ⟨gb215,2,none⟩ = some (.int .i64 a0_2) := (blk_cell BK215.out 2).trans rfl;have hfz59_0 := blk_frozen BK215.out 0;have hfz59_1 := blk_frozen BK215.out 1;have hfz59_2 := blk_frozen BK215.out 2))
      all_goals go_ret
      all_goals (exact ⟨by first|rfl|(simp [errW_none,errW_some] <;> rfl)|(simp [*,errW_none,errW_some] <;> rfl),by repeat (first|(with_reducible first|exact HB.out|apply below_alloc|apply pw_below_drewN|apply below_drew1|refine below_set ?_ GE215.out|refine below_set ?_ GE216.out)|exact HB.out)⟩)
    ·rw [if_neg c6] at H
     have c6b0 : decide (1 ≤ a1_1) = false := decide_eq_false c6
     clear c6
     obtain rfl := Option.some.inj H
     go_enter Tryd.func25,Tryd.ntmps25
     go_wp2_with (first|((with_reducible refine gate_dst (N := 2) rfl ?_);refine box_event ?hg (N := 2) ?hd (cs := #[.int .u64 a0_0,.int .i64 a0_1,.int .i64 a0_2]) (t := 24) ?hr ?_;(case hd => rfl);(case hg => rfl);(case hr => first|(go_simp;done)|(go_simp;rfl));intro gb215 hg w60 hbox hb;have n0_ := Aside0.mk (below_step (by repeat (first|(with_reducible first|exact HB.out|apply below_alloc|apply pw_below_drewN|apply below_drew1)|exact HB.out)) hb);have n1_ := Aside0.mk (hbox);have n2_ := Aside0.mk ((by rw [hg];exact (below_size (by repeat (first|(with_reducible first|exact HB.out|apply below_alloc|apply pw_below_drewN|apply below_drew1)|exact HB.out))) : w.heap.size ≤ gb215));have n3_ := Aside0.mk ((by rw [hg];exact (below_size (by repeat (first|(with_reducible first|exact HB.out|apply below_alloc|apply pw_below_drewN|apply below_drew1)|exact HB.out))) : w.heap.size ≤ gb215));clear HB;have HB := n0_;have BK215 := n1_;have GW215 := n2_;have GE215 := n3_;clear n0_ n1_ n2_ n3_;clear hb hbox hg)|((with_reducible refine gate_dst (N := 3) rfl ?_);refine box_event ?hg (N := 3) ?hd (cs := #[.int .i64 a1_0,.int .i64 a1_1,.int .i64 a1_2,.int .i64 a1_3,.int .i64 a1_4,.int .u64 a1_5,.int .i64 a1_6,.int .i64 a1_7]) (t := 42) ?hr ?_;(case hd => rfl);(case hg => rfl);(case hr => first|(go_simp;done)|(go_simp;rfl));intro gb216 hg w61 hbox hb;have n0_ := Aside0.mk (blk_below (g := gb215) (o := .cells #[.int .u64 a0_0,.int .i64 a0_1,.int .i64 a0_2] 24 (0,0)) (by (with_reducible repeat (first|refine blk_drewN ?_ _|refine blk_drew ?_|refine blk_alloc ?_ _));exact BK215.out) hb);have n1_ := Aside0.mk (below_step (by repeat (first|(with_reducible first|exact HB.out|apply below_alloc|apply pw_below_drewN|apply below_drew1|refine below_set ?_ GE215.out)|exact HB.out)) hb);have n2_ := Aside0.mk (hbox);have n3_ := Aside0.mk ((by rw [hg];exact (below_size (by repeat (first|(with_reducible first|exact HB.out|apply below_alloc|apply pw_below_drewN|apply below_drew1|refine below_set ?_ GE215.out)|exact HB.out))) : w.heap.size ≤ gb216));have n4_ := Aside0.mk ((by rw [hg];exact (below_size (by repeat (first|(with_reducible first|exact HB.out|apply below_alloc|apply pw_below_drewN|apply below_drew1|refine below_set ?_ GE215.out)|exact HB.out))) : w.heap.size ≤ gb216));have n5_ := Aside0.mk ((by rw [hg];exact Nat.ne_of_lt (blk_lt (g := gb215) (o := .cells #[.int .u64 a0_0,.int .i64 a0_1,.int .i64 a0_2] 24 (0,0)) (by (with_reducible repeat (first|refine blk_drewN ?_ _|refine blk_drew ?_|refine blk_alloc ?_ _));exact BK215.out)) : gb215 ≠ gb216));have n6_ := Aside0.mk ((by rw [hg];exact Nat.ne_of_gt (blk_lt (g := gb215) (o := .cells #[.int .u64 a0_0,.int .i64 a0_1,.int .i64 a0_2] 24 (0,0)) (by (with_reducible repeat (first|refine blk_drewN ?_ _|refine blk_drew ?_|refine blk_alloc ?_ _));exact BK215.out)) : gb216 ≠ gb215));clear BK215;clear HB;have BK215 := n0_;have HB := n1_;have BK216 := n2_;have GW216 := n3_;have GE216 := n4_;have NB215_216 := n5_;have NB216_215 := n6_;clear n0_ n1_ n2_ n3_ n4_ n5_ n6_;clear hb hbox hg;have hnb62 := NB216_215.out;have hnc62 := NB215_216.out;have hcz63_0 : w61.cell? ⟨gb216,0,none⟩ = some (.int .i64 a1_0) := (blk_cell BK216.out 0).trans rfl;have hcz63_1 : w61.cell? ⟨gb216,1,none⟩ = some (.int .i64 a1_1) := (blk_cell BK216.out 1).trans rfl;have hcz63_2 : w61.cell? ⟨gb216,2,none⟩ = some (.int .i64 a1_2) := (blk_cell BK216.out 2).trans rfl;have hcz63_3 : w61.cell? ⟨gb216,3,none⟩ = some (.int .i64 a1_3) := (blk_cell BK216.out 3).trans rfl;have hcz63_4 : w61.cell? ⟨gb216,4,none⟩ = some (.int .i64 a1_4) := (blk_cell BK216.out 4).trans rfl;have hcz63_5 : w61.cell? ⟨gb216,5,none⟩ = some (.int .u64 a1_5) := (blk_cell BK216.out 5).trans rfl;have hcz63_6 : w61.cell? ⟨gb216,6,none⟩ = some (.int .i64 a1_6) := (blk_cell BK216.out 6).trans rfl;have hcz63_7 : w61.cell? ⟨gb216,7,none⟩ = some (.int .i64 a1_7) := (blk_cell BK216.out 7).trans rfl;have hfz63_0 := blk_frozen BK216.out 0;have hfz63_1 := blk_frozen BK216.out 1;have hfz63_2 := blk_frozen BK216.out 2;have hfz63_3 := blk_frozen BK216.out 3;have hfz63_4 := blk_frozen BK216.out 4;have hfz63_5 := blk_frozen BK216.out 5;have hfz63_6 := blk_frozen BK216.out 6;have hfz63_7 := blk_frozen BK216.out 7))
     all_goals go_ret
     all_goals (exact ⟨by first|rfl|(simp [errW_none,errW_some] <;> rfl)|(simp [*,errW_none,errW_some] <;> rfl),by repeat (first|(with_reducible first|exact HB.out|apply below_alloc|apply pw_below_drewN|apply below_drew1|refine below_set ?_ GE215.out|refine below_set ?_ GE216.out)|exact HB.out)⟩)
   ·rw [if_neg c5] at H
    have c5b0 : decide (0 ≤ a1_7) = false := decide_eq_false c5
    clear c5
    obtain rfl := Option.some.inj H
    go_enter Tryd.func25,Tryd.ntmps25
    go_wp2_with (first|((with_reducible refine gate_dst (N := 2) rfl ?_);refine box_event ?hg (N := 2) ?hd (cs := #[.int .u64 a0_0,.int .i64 a0_1,.int .i64 a0_2]) (t := 24) ?hr ?_;(case hd => rfl);(case hg => rfl);(case hr => first|(go_simp;done)|(go_simp;rfl));intro gb215 hg w64 hbox hb;have n0_ := Aside0.mk (below_step (by repeat (first|(with_reducible first|exact HB.out|apply below_alloc|apply pw_below_drewN|apply below_drew1)|exact HB.out)) hb);have n1_ := Aside0.mk (hbox);have n2_ := Aside0.mk ((by rw [hg];exact (below_size (by repeat (first|(with_reducible first|exact HB.out|apply below_alloc|apply pw_below_drewN|apply below_drew1)|exact HB.out))) : w.heap.size ≤ gb215));have n3_ := Aside0.mk ((by rw [hg];exact (below_size (by repeat (first|(with_reducible first|exact HB.out|apply below_alloc|apply pw_below_drewN|apply below_drew1)|exact HB.out))) : w.heap.size ≤ gb215));clear HB;have HB := n0_;have BK215 := n1_;have GW215 := n2_;have GE215 := n3_;clear n0_ n1_ n2_ n3_;clear hb hbox hg)|((with_reducible refine gate_dst (N := 3) rfl ?_);refine box_event ?hg (N := 3) ?hd (cs := #[.int .i64 a1_0,.int .i64 a1_1,.int .i64 a1_2,.int .i64 a1_3,.int .i64 a1_4,.int .u64 a1_5,.int .i64 a1_6,.int .i64 a1_7]) (t := 42) ?hr ?_;(case hd => rfl);(case hg => rfl);(case hr => first|(go_simp;done)|(go_simp;rfl));intro gb216 hg w65 hbox hb;have n0_ := Aside0.mk (blk_below (g := gb215) (o := .cells #[.int .u64 a0_0,.int .i64 a0_1,.int .i64 a0_2] 24 (0,0)) (by (with_reducible repeat (first|refine blk_drewN ?_ _|refine blk_drew ?_|refine blk_alloc ?_ _));exact BK215.out) hb);have n1_ := Aside0.mk (below_step (by repeat (first|(with_reducible first|exact HB.out|apply below_alloc|apply pw_below_drewN|apply below_drew1|refine below_set ?_ GE215.out)|exact HB.out)) hb);have n2_ := Aside0.mk (hbox);have n3_ := Aside0.mk ((by rw [hg];exact (below_size (by repeat (first|(with_reducible first|exact HB.out|apply below_alloc|apply pw_below_drewN|apply below_drew1|refine below_set ?_ GE215.out)|exact HB.out))) : w.heap.size ≤ gb216));have n4_ := Aside0.mk ((by rw [hg];exact (below_size (by repeat (first|(with_reducible first|exact HB.out|apply below_alloc|apply pw_below_drewN|apply below_drew1|refine below_set ?_ GE215.out)|exact HB.out))) : w.heap.size ≤ gb216));have n5_ := Aside0.mk ((by rw [hg];exact Nat.ne_of_lt (blk_lt (g := gb215) (o := .cells #[.int .u64 a0_0,.int .i64 a0_1,.int .i64 a0_2] 24 (0,0)) (by (with_reducible repeat (first|refine blk_drewN ?_ _|refine blk_drew ?_|refine blk_alloc ?_ _));exact BK215.out)) : gb215 ≠ gb216));have n6_ := Aside0.mk ((by rw [hg];exact Nat.ne_of_gt (blk_lt (g := gb215) (o := .cells #[.int .u64 a0_0,.int .i64 a0_1,.int .i64 a0_2] 24 (0,0)) (by (with_reducible repeat (first|refine blk_drewN ?_ _|refine blk_drew ?_|refine blk_alloc ?_ _));exact BK215.out)) : gb216 ≠ gb215));clear BK215;clear HB;have BK215 := n0_;have HB := n1_;have BK216 := n2_;have GW216 := n3_;have GE216 := n4_;have NB215_216 := n5_;have NB216_215 := n6_;clear n0_ n1_ n2_ n3_ n4_ n5_ n6_;clear hb hbox hg;have hnb66 := NB216_215.out;have hnc66 := NB215_216.out;have hcz67_0 : w65.cell? ⟨gb216,0,none⟩ = some (.int .i64 a1_0) := (blk_cell BK216.out 0).trans rfl;have hcz67_1 : w65.cell? ⟨gb216,1,none⟩ = some (.int .i64 a1_1) := (blk_cell BK216.out 1).trans rfl;have hcz67_2 : w65.cell? ⟨gb216,2,none⟩ = some (.int .i64 a1_2) := (blk_cell BK216.out 2).trans rfl;have hcz67_3 : w65.cell? ⟨gb216,3,none⟩ = some (.int .i64 a1_3) := (blk_cell BK216.out 3).trans rfl;have hcz67_4 : w65.cell? ⟨gb216,4,none⟩ = some (.int .i64 a1_4) := (blk_cell BK216.out 4).trans rfl;have hcz67_5 : w65.cell? ⟨gb216,5,none⟩ = some (.int .u64 a1_5) := (blk_cell BK216.out 5).trans rfl;have hcz67_6 : w65.cell? ⟨gb216,6,none⟩ = some (.int .i64 a1_6) := (blk_cell BK216.out 6).trans rfl;have hcz67_7 : w65.cell? ⟨gb216,7,none⟩ = some (.int .i64 a1_7) := (blk_cell BK216.out 7).trans rfl;have hfz67_0 := blk_frozen BK216.out 0;have hfz67_1 := blk_frozen BK216.out 1;have hfz67_2 := blk_frozen BK216.out 2;have hfz67_3 := blk_frozen BK216.out 3;have hfz67_4 := blk_frozen BK216.out 4;have hfz67_5 := blk_frozen BK216.out 5;have hfz67_6 := blk_frozen BK216.out 6;have hfz67_7 := blk_frozen BK216.out 7))
    all_goals go_ret
    all_goals (exact ⟨by first|rfl|(simp [errW_none,errW_some] <;> rfl)|(simp [*,errW_none,errW_some] <;> rfl),by repeat (first|(with_reducible first|exact HB.out|apply below_alloc|apply pw_below_drewN|apply below_drew1|refine below_set ?_ GE215.out|refine below_set ?_ GE216.out)|exact HB.out)⟩)
  ·rw [if_neg c4] at H
   have c4b0 : decide (0 ≤ a1_3) = false := decide_eq_false c4
   clear c4
   obtain rfl := Option.some.inj H
   go_enter Tryd.func25,Tryd.ntmps25
   go_wp2_with (first|((with_reducible refine gate_dst (N := 2) rfl ?_);refine box_event ?hg (N := 2) ?hd (cs := #[.int .u64 a0_0,.int .i64 a0_1,.int .i64 a0_2]) (t := 24) ?hr ?_;(case hd => rfl);(case hg => rfl);(case hr => first|(go_simp;done)|(go_simp;rfl));intro gb215 hg w68 hbox hb;have n0_ := Aside0.mk (below_step (by repeat (first|(with_reducible first|exact HB.out|apply below_alloc|apply pw_below_drewN|apply below_drew1)|exact HB.out)) hb);have n1_ := Aside0.mk (hbox);have n2_ := Aside0.mk ((by rw [hg];exact (below_size (by repeat (first|(with_reducible first|exact HB.out|apply below_alloc|apply pw_below_drewN|apply below_drew1)|exact HB.out))) : w.heap.size ≤ gb215));have n3_ := Aside0.mk ((by rw [hg];exact (below_size (by repeat (first|(with_reducible first|exact HB.out|apply below_alloc|apply pw_below_drewN|apply below_drew1)|exact HB.out))) : w.heap.size ≤ gb215));clear HB;have HB := n0_;have BK215 := n1_;have GW215 := n2_;have GE215 := n3_;clear n0_ n1_ n2_ n3_;clear hb hbox hg)|((with_reducible refine gate_dst (N := 3) rfl ?_);refine box_event ?hg (N := 3) ?hd (cs := #[.int .i64 a1_0,.int .i64 a1_1,.int .i64 a1_2,.int .i64 a1_3,.int .i64 a1_4,.int .u64 a1_5,.int .i64 a1_6,.int .i64 a1_7]) (t := 42) ?hr ?_;(case hd => rfl);(case hg => rfl);(case hr => first|(go_simp;done)|(go_simp;rfl));intro gb216 hg w69 hbox hb;have n0_ := Aside0.mk (blk_below (g := gb215) (o := .cells #[.int .u64 a0_0,.int .i64 a0_1,.int .i64 a0_2] 24 (0,0)) (by (with_reducible repeat (first|refine blk_drewN ?_ _|refine blk_drew ?_|refine blk_alloc ?_ _));exact BK215.out) hb);have n1_ := Aside0.mk (below_step (by repeat (first|(with_reducible first|exact HB.out|apply below_alloc|apply pw_below_drewN|apply below_drew1|refine below_set ?_ GE215.out)|exact HB.out)) hb);have n2_ := Aside0.mk (hbox);have n3_ := Aside0.mk ((by rw [hg];exact (below_size (by repeat (first|(with_reducible first|exact HB.out|apply below_alloc|apply pw_below_drewN|apply below_drew1|refine below_set ?_ GE215.out)|exact HB.out))) : w.heap.size ≤ gb216));have n4_ := Aside0.mk ((by rw [hg];exact (below_size (by repeat (first|(with_reducible first|exact HB.out|apply below_alloc|apply pw_below_drewN|apply below_drew1|refine below_set ?_ GE215.out)|exact HB.out))) : w.heap.size ≤ gb216));have n5_ := Aside0.mk ((by rw [hg];exact Nat.ne_of_lt (blk_lt (g := gb215) (o := .cells #[.int .u64 a0_0,.int .i64 a0_1,.int .i64 a0_2] 24 (0,0)) (by (with_reducible repeat (first|refine blk_drewN ?_ _|refine blk_drew ?_|refine blk_alloc ?_ _));exact BK215.out)) : gb215 ≠ gb216));have n6_ := Aside0.mk ((by rw [hg];exact Nat.ne_of_gt (blk_lt (g := gb215) (o := .cells #[.int .u64 a0_0,.int .i64 a0_1,.int .i64 a0_2] 24 (0,0)) (by (with_reducible repeat (first|refine blk_drewN ?_ _|refine blk_drew ?_|refine blk_alloc ?_ _));exact BK215.out)) : gb216 ≠ gb215));clear BK215;clear HB;have BK215 := n0_;have HB := n1_;have BK216 := n2_;have GW216 := n3_;have GE216 := n4_;have NB215_216 := n5_;have NB216_215 := n6_;clear n0_ n1_ n2_ n3_ n4_ n5_ n6_;clear hb hbox hg;have hnb70 := NB216_215.out;have hnc70 := NB215_216.out;have hcz71_0 : w69.cell? ⟨gb216,0,none⟩ = some (.int .i64 a1_0) := (blk_cell BK216.out 0).trans rfl;have hcz71_1 : w69.cell? ⟨gb216,1,none⟩ = some (.int .i64 a1_1) := (blk_cell BK216.out 1).trans rfl;have hcz71_2 : w69.cell? ⟨gb216,2,none⟩ = some (.int .i64 a1_2) := (blk_cell BK216.out 2).trans rfl;have hcz71_3 : w69.cell? ⟨gb216,3,none⟩ = some (.int .i64 a1_3) := (blk_cell BK216.out 3).trans rfl;have hcz71_4 : w69.cell? ⟨gb216,4,none⟩ = some (.int .i64 a1_4) := (blk_cell BK216.out 4).trans rfl;have hcz71_5 : w69.cell? ⟨gb216,5,none⟩ = some (.int .u64 a1_5) := (blk_cell BK216.out 5).trans rfl;have hcz71_6 : w69.cell? ⟨gb216,6,none⟩ = some (.int .i64 a1_6) := (blk_cell BK216.out 6).trans rfl;have hcz71_7 : w69.cell? ⟨gb216,7,none⟩ = some (.int .i64 a1_7) := (blk_cell BK216.out 7).trans rfl;have hfz71_0 := blk_frozen BK216.out 0;have hfz71_1 := blk_frozen BK216.out 1;have hfz71_2 := blk_frozen BK216.out 2;have hfz71_3 := blk_frozen BK216.out 3;have hfz71_4 := blk_frozen BK216.out 4;have hfz71_5 := blk_frozen BK216.out 5;have hfz71_6 := blk_frozen BK216.out 6;have hfz71_7 := blk_frozen BK216.out 7))
   all_goals go_ret
   all_goals (exact ⟨by first|rfl|(simp [errW_none,errW_some] <;> rfl)|(simp [*,errW_none,errW_some] <;> rfl),by repeat (first|(with_reducible first|exact HB.out|apply below_alloc|apply pw_below_drewN|apply below_drew1|refine below_set ?_ GE215.out|refine below_set ?_ GE216.out)|exact HB.out)⟩)
 ·rw [if_neg c3] at H
  have c3b0 : decide (0 ≤ a1_0) = false := decide_eq_false c3
  clear c3
  obtain rfl := Option.some.inj H
  go_enter Tryd.func25,Tryd.ntmps25
  go_wp2_with (first|((with_reducible refine gate_dst (N := 2) rfl ?_);refine box_event ?hg (N := 2) ?hd (cs := #[.int .u64 a0_0,.int .i64 a0_1,.int .i64 a0_2]) (t := 24) ?hr ?_;(case hd => rfl);(case hg => rfl);(case hr => first|(go_simp;done)|(go_simp;rfl));intro gb215 hg w72 hbox hb;have n0_ := Aside0.mk (below_step (by repeat (first|(with_reducible first|exact HB.out|apply below_alloc|apply pw_below_drewN|apply below_drew1)|exact HB.out)) hb);have n1_ := Aside0.mk (hbox);have n2_ := Aside0.mk ((by rw [hg];exact (below_size (by repeat (first|(with_reducible first|exact HB.out|apply below_alloc|apply pw_below_drewN|apply below_drew1)|exact HB.out))) : w.heap.size ≤ gb215));have n3_ := Aside0.mk ((by rw [hg];exact (below_size (by repeat (first|(with_reducible first|exact HB.out|apply below_alloc|apply pw_below_drewN|apply below_drew1)|exact HB.out))) : w.heap.size ≤ gb215));clear HB;have HB := n0_;have BK215 := n1_;have GW215 := n2_;have GE215 := n3_;clear n0_ n1_ n2_ n3_;clear hb hbox hg)|((with_reducible refine gate_dst (N := 3) rfl ?_);refine box_event ?hg (N := 3) ?hd (cs := #[.int .i64 a1_0,.int .i64 a1_1,.int .i64 a1_2,.int .i64 a1_3,.int .i64 a1_4,.int .u64 a1_5,.int .i64 a1_6,.int .i64 a1_7]) (t := 42) ?hr ?_;(case hd => rfl);(case hg => rfl);(case hr => first|(go_simp;done)|(go_simp;rfl));intro gb216 hg w73 hbox hb;have n0_ := Aside0.mk (blk_below (g := gb215) (o := .cells #[.int .u64 a0_0,.int .i64 a0_1,.int .i64 a0_2] 24 (0,0)) (by (with_reducible repeat (first|refine blk_drewN ?_ _|refine blk_drew ?_|refine blk_alloc ?_ _));exact BK215.out) hb);have n1_ := Aside0.mk (below_step (by repeat (first|(with_reducible first|exact HB.out|apply below_alloc|apply pw_below_drewN|apply below_drew1|refine below_set ?_ GE215.out)|exact HB.out)) hb);have n2_ := Aside0.mk (hbox);have n3_ := Aside0.mk ((by rw [hg];exact (below_size (by repeat (first|(with_reducible first|exact HB.out|apply below_alloc|apply pw_below_drewN|apply below_drew1|refine below_set ?_ GE215.out)|exact HB.out))) : w.heap.size ≤ gb216));have n4_ := Aside0.mk ((by rw [hg];exact (below_size (by repeat (first|(with_reducible first|exact HB.out|apply below_alloc|apply pw_below_drewN|apply below_drew1|refine below_set ?_ GE215.out)|exact HB.out))) : w.heap.size ≤ gb216));have n5_ := Aside0.mk ((by rw [hg];exact Nat.ne_of_lt (blk_lt (g := gb215) (o := .cells #[.int .u64 a0_0,.int .i64 a0_1,.int .i64 a0_2] 24 (0,0)) (by (with_reducible repeat (first|refine blk_drewN ?_ _|refine blk_drew ?_|refine blk_alloc ?_ _));exact BK215.out)) : gb215 ≠ gb216));have n6_ := Aside0.mk ((by rw [hg];exact Nat.ne_of_gt (blk_lt (g := gb215) (o := .cells #[.int .u64 a0_0,.int .i64 a0_1,.int .i64 a0_2] 24 (0,0)) (by (with_reducible repeat (first|refine blk_drewN ?_ _|refine blk_drew ?_|refine blk_alloc ?_ _));exact BK215.out)) : gb216 ≠ gb215));clear BK215;clear HB;have BK215 := n0_;have HB := n1_;have BK216 := n2_;have GW216 := n3_;have GE216 := n4_;have NB215_216 := n5_;have NB216_215 := n6_;clear n0_ n1_ n2_ n3_ n4_ n5_ n6_;clear hb hbox hg;have hnb74 := NB216_215.out;have hnc74 := NB215_216.out;have hcz75_0 : w73.cell? ⟨gb216,0,none⟩ = some (.int .i64 a1_0) := (blk_cell BK216.out 0).trans rfl;have hcz75_1 : w73.cell? ⟨gb216,1,none⟩ = some (.int .i64 a1_1) := (blk_cell BK216.out 1).trans rfl;have hcz75_2 : w73.cell? ⟨gb216,2,none⟩ = some (.int .i64 a1_2) := (blk_cell BK216.out 2).trans rfl;have hcz75_3 : w73.cell? ⟨gb216,3,none⟩ = some (.int .i64 a1_3) := (blk_cell BK216.out 3).trans rfl;have hcz75_4 : w73.cell? ⟨gb216,4,none⟩ = some (.int .i64 a1_4) := (blk_cell BK216.out 4).trans rfl;have hcz75_5 : w73.cell? ⟨gb216,5,none⟩ = some (.int .u64 a1_5) := (blk_cell BK216.out 5).trans rfl;have hcz75_6 : w73.cell? ⟨gb216,6,none⟩ = some (.int .i64 a1_6) := (blk_cell BK216.out 6).trans rfl;have hcz75_7 : w73.cell? ⟨gb216,7,none⟩ = some (.int .i64 a1_7) := (blk_cell BK216.out 7).trans rfl;have hfz75_0 := blk_frozen BK216.out 0;have hfz75_1 := blk_frozen BK216.out 1;have hfz75_2 := blk_frozen BK216.out 2;have hfz75_3 := blk_frozen BK216.out 3;have hfz75_4 := blk_frozen BK216.out 4;have hfz75_5 := blk_frozen BK216.out 5;have hfz75_6 := blk_frozen BK216.out 6;have hfz75_7 := blk_frozen BK216.out 7))
  all_goals go_ret
  all_goals (exact ⟨by first|rfl|(simp [errW_none,errW_some] <;> rfl)|(simp [*,errW_none,errW_some] <;> rfl),by repeat (first|(with_reducible first|exact HB.out|apply below_alloc|apply pw_below_drewN|apply below_drew1|refine below_set ?_ GE215.out|refine below_set ?_ GE216.out)|exact HB.out)⟩)
/-! ### privityref05_Below: function 37 -/
def privityref05_Below.l0 : Nat → Int → List Int → Int → Option (Bool)
 | 0,_,_,_ => none
 | k + 1,x0,x1,x5 => if x5 < (x1.length : Int) then (if 0 ≤ x5 then (if (rd x1 x5) ≥ x0 then (some false) else (privityref05_Below.l0 k x0 x1 (wrap64 (x5 + 1)))) else (none)) else (some true)
def privityref05_Below.f (k : Nat) (a0 : Int) (l1 : List Int) : Option (Bool) := privityref05_Below.l0 k a0 l1 0
set_option maxHeartbeats 8000000 in
set_option maxRecDepth 100000 in
theorem privityref05_Below.calls (k : Nat) (a0 : Int) (A1 : Option Addr) (c1 : Nat) (l1 : List Int) (r : Bool) (w : World) (hr1 : Kd.C (Kd.int .u64) w A1 l1.length l1) (hc1 : l1.length ≤ c1) (h : privityref05_Below.f k a0 l1 = some r) :
  Calls Tryd.prog 37 #[.int .u64 a0,.slice A1 l1.length c1] w fun e w' => e = .returned (.bool r) ∧ Drawn0 w w' := by
 have HR1 := Aside0.mk hr1
 have HC1 := Aside0.mk hc1
 clear hr1 hc1
 have H : (privityref05_Below.l0 k a0 l1 0) = some r := h
 clear h
 have H' := Aside0.mk H
 clear H
 go_enter Tryd.func37,Tryd.ntmps37
 go_wp2
 go_loopg [5] k (fun kq v5 w' => ∃ (x5_1 : Int),v5 = .int .i64 x5_1 ∧ Aside0 (privityref05_Below.l0 kq a0 l1 x5_1 = some r) ∧ Aside0 (kq ≤ k) ∧ Drawn0 w w')
 case atStart => exact ⟨(0),(by first|rfl|(simp;done)|(simp [*];done)),H',⟨Nat.le_refl _⟩,by repeat (first|exact Drawn0.refl _|apply Drawn0.step)⟩
 case round =>
  clear H'
  try clear c1
  try clear p2
  obtain ⟨x5_1,rfl,HA,HK1,⟨m1,rfl⟩⟩ := hrel
  cases gk with
  | zero => exact absurd HA.out (by simp [privityref05_Below.l0])
  | succ k1 =>
   have H := HA.out
   clear HA
   simp only [privityref05_Below.l0] at H
   by_cases c3 : x5_1 < (l1.length : Int)
   ·rw [if_pos c3] at H
    have c3b0 : decide (x5_1 < (l1.length : Int)) = true := decide_eq_true c3
    clear c3
    by_cases c4 : 0 ≤ x5_1
    ·rw [if_pos c4] at H
     have c4b0 : decide (0 ≤ x5_1) = true := decide_eq_true c4
     clear c4
     by_cases c5 : (rd l1 x5_1) ≥ a0
     ·rw [if_pos c5] at H
      have c5b0 : decide (a0 ≤ (rd l1 x5_1)) = true := decide_eq_true c5
      clear c5
      obtain rfl := Option.some.inj H
      have p217 : 0 ≤ (x5_1 : Int) := of_decide_eq_true (by first|(with_reducible assumption)|assumption)
      have q217 : x5_1 < (l1.length : Int) := of_decide_eq_true (by first|(with_reducible assumption)|assumption)
      obtain ⟨ad217,e217,hx217_0⟩ := Kd.at_int HR1.out x5_1 p217 q217
      cases e217
      replace p217 := eq_true p217
      replace q217 := eq_true q217
      go_wp2
      go_ret
      exact ⟨by first|rfl|(simp;done)|(simp [*];done),by repeat (first|exact Drawn0.refl _|apply Drawn0.step)⟩
     ·rw [if_neg c5] at H
      have c5b0 : decide (a0 ≤ (rd l1 x5_1)) = false := decide_eq_false c5
      clear c5
      have H' := Aside0.mk H
      clear H
      have p217 : 0 ≤ (x5_1 : Int) := of_decide_eq_true (by first|(with_reducible assumption)|assumption)
      have q217 : x5_1 < (l1.length : Int) := of_decide_eq_true (by first|(with_reducible assumption)|assumption)
      obtain ⟨ad217,e217,hx217_0⟩ := Kd.at_int HR1.out x5_1 p217 q217
      cases e217
      replace p217 := eq_true p217
      replace q217 := eq_true q217
      go_wp2
      go_roundg k1
      case measure => have := HK1.out;omega
      case rel => exact ⟨(wrap64 (x5_1 + 1)),(by first|rfl|(simp;done)|(simp [*];done)),H',⟨by have := HK1.out;omega⟩,by repeat (first|exact Drawn0.refl _|apply Drawn0.step)⟩
    ·rw [if_neg c4] at H
     exact absurd H (by simp)
   ·rw [if_neg c3] at H
    have c3b0 : decide (x5_1 < (l1.length : Int)) = false := decide_eq_false c3
    clear c3
    obtain rfl := Option.some.inj H
    go_wp2
    go_ret
    exact ⟨by first|rfl|(simp;done)|(simp [*];done),by repeat (first|exact Drawn0.refl _|apply Drawn0.step)⟩
end Go.Proofs.YtakaonojfpkhnaaDoor.Pr
end
section
/- Printed by a program of this seat (the kit's printer, with the functions that were proved by hand given to it). What stands here: the functions that the statements reach, as plain functions, and that the Go code computes them. -/
namespace Go.Proofs.YtakaonojfpkhnaaDoor.Pr
open Go.RowKit Go.Proofs.YtakaonojfpkhnaaDoorW.PrintWords Go.Proofs.YtakaonojfpkhnaaDoorW.PrintLast Go.Proofs.YtakaonojfpkhnaaDoorW.PrintMore
attribute [local go_sem] max2_int min2_int max_two min_two max_three min_three max_four min_four   -- for this text's walks alone
set_option linter.unusedVariables false
set_option linter.unusedSimpArgs false

open Go.Proofs.YtakaonojfpkhnaaDoor.Hw
/-! ### privityref01_exps: function 66 -/
def privityref01_exps.f  : Option (List Int) := some (([5, 7, 13, 17, 19, 31, 61] : List Int))
set_option maxHeartbeats 8000000 in
set_option maxRecDepth 100000 in
theorem privityref01_exps.calls  (r : List Int) (w : World) (h : privityref01_exps.f  = some r) :
  Calls Tryd.prog 66 #[] w fun e w' => ∃ v0_ : Value,e = .returned (v0_) ∧ Kd.R (Kd.int .i64) 3 w' w.heap.size (fun _ => True) v0_ r ∧ Below w.heap.size w w' := by
 have HB := Aside0.mk (Below.refl w.heap.size w)
 have H : (some (([5,7,13,17,19,31,61] : List Int))) = some r := h
 clear h
 obtain ⟨y192,hy192⟩ : ∃ y_ : List Int,y_ = (([5,7,13,17,19,31,61] : List Int)) := ⟨_,rfl⟩
 replace H : (some y192) = some r := by first|(rw [hy192];with_reducible exact H)|(have H2_ := (Option.bind_some _ _).symm.trans H;rw [hy192];with_reducible exact H2_)|(have H2_ := (Option.bind_some _ _).symm.trans H;with_reducible exact H2_)|with_reducible exact H|(rw [hy192];exact H)|exact H
 have Ny192 := Aside0.mk hy192
 clear hy192
 obtain rfl := Option.some.inj H
 go_enter Tryd.func66,Tryd.ntmps66
 go_wp2_with (first|((with_reducible refine gate_dst (N := 1) rfl ?_);refine Kd.R_lit (Kd.int .i64) _ 3 ?hg (N := 1) ?hd (xs := ([5,7,13,17,19,31,61] : List Int)) (inner := [.int .i64 5,.int .i64 7,.int .i64 13,.int .i64 17,.int .i64 19,.int .i64 31,.int .i64 61]) (ok := fun _ => True) (okp := fun _ => True) ?hr ?hp (fun _ hk => hk) trivial (Below.refl _ _) (Nat.le_refl _) (by simp) ?_;(case hd => rfl);(case hg => rfl);(case hr => first|(go_simp;done)|(go_simp;rfl));(case hp => exact (Reps.one (show Kd.M (Kd.int .i64) _ _ _ 5 [.int .i64 5] from rfl) (Reps.one (show Kd.M (Kd.int .i64) _ _ _ 7 [.int .i64 7] from rfl) (Reps.one (show Kd.M (Kd.int .i64) _ _ _ 13 [.int .i64 13] from rfl) (Reps.one (show Kd.M (Kd.int .i64) _ _ _ 17 [.int .i64 17] from rfl) (Reps.one (show Kd.M (Kd.int .i64) _ _ _ 19 [.int .i64 19] from rfl) (Reps.one (show Kd.M (Kd.int .i64) _ _ _ 31 [.int .i64 31] from rfl) (Reps.one (show Kd.M (Kd.int .i64) _ _ _ 61 [.int .i64 61] from rfl) (Reps.none _ _)))))))));intro v193 w1 ho2 hb hg_ hnew_;clear hg_ hnew_;(first|rw [← Ny192.out] at ho2|(simp only [Int.reduceToNat] at ho2;rw [← Ny192.out] at ho2));have n0_ := Aside0.mk (Kd.R_lower ho2 (below_size (by repeat (first|(with_reducible first|exact HB.out|apply below_alloc|apply pw_below_drewN|apply below_drew1)|exact HB.out))));have n1_ := Aside0.mk (below_step (by repeat (first|(with_reducible first|exact HB.out|apply below_alloc|apply pw_below_drewN|apply below_drew1)|exact HB.out)) hb);clear HB;have HO194 := n0_;have HB := n1_;clear n0_ n1_;clear hb ho2))
 go_ret
 exact ⟨_,by first|rfl|(simp [errW_none,errW_some] <;> rfl)|(simp [*,errW_none,errW_some] <;> rfl),by (with_reducible repeat (first|apply Kd.R_alloc|apply Kd.R_drewN|apply Kd.R_drew));exact HO194.out,by repeat (first|(with_reducible first|exact HB.out|apply below_alloc|apply pw_below_drewN|apply below_drew1)|exact HB.out)⟩
/-! ### privityref01_Exponent: function 46 -/
def privityref01_Exponent.l0 : Nat → Int → List Int → Int → Option (Int)
 | 0,_,_,_ => none
 | k + 1,x0,x3,x4 => if x4 < (x3.length : Int) then (if 0 ≤ x4 then (if 0 ≤ (IntKind.u64.wrap (rd x3 x4)) then (if x0 = (IntKind.u64.wrap ((shl .u64 1 (IntKind.u64.wrap (rd x3 x4))) - 1)) then (some (rd x3 x4)) else (privityref01_Exponent.l0 k x0 x3 (wrap64 (x4 + 1)))) else (none)) else (none)) else (some 0)
def privityref01_Exponent.f (k : Nat) (a0 : Int) : Option (Int) := (privityref01_exps.f).bind fun t195 => (privityref01_Exponent.l0 k a0 t195 0)
theorem privityref01_Exponent.mono_l : ∀ k, (∀ y0 y1 y2, LeO (privityref01_Exponent.l0 k y0 y1 y2) (privityref01_Exponent.l0 (k + 1) y0 y1 y2))
 | 0 => fun _ _ _ r h => by simp [privityref01_Exponent.l0] at h
 | k + 1 => by
  have ih0 := privityref01_Exponent.mono_l k
  ·intro y0 y1 y2
   unfold privityref01_Exponent.l0
   repeat' first
   | (with_reducible exact ih0 _ _ _)
   | (with_reducible exact LeO.refl _)
   | (with_reducible exact LeO.none _)
   | (with_reducible refine LeO.ite ?_ ?_)
   | (with_reducible refine LeO.bind ?_ (fun _ => ?_))
   | exact ih0 _ _ _
   | exact LeO.none _
   | refine LeO.ite ?_ ?_
   | refine LeO.bind ?_ (fun _ => ?_)
theorem privityref01_Exponent.mono : ∀ a0 k, LeO (privityref01_Exponent.f k a0) (privityref01_Exponent.f (k + 1) a0) := by
 intro a0 k
 have ih0 := privityref01_Exponent.mono_l k
 unfold privityref01_Exponent.f
 repeat' first
   | (with_reducible exact ih0 _ _ _)
   | (with_reducible exact LeO.refl _)
   | (with_reducible exact LeO.none _)
   | (with_reducible refine LeO.ite ?_ ?_)
   | (with_reducible refine LeO.bind ?_ (fun _ => ?_))
   | exact ih0 _ _ _
   | exact LeO.none _
   | refine LeO.ite ?_ ?_
   | refine LeO.bind ?_ (fun _ => ?_)
set_option maxHeartbeats 8000000 in
set_option maxRecDepth 100000 in
theorem privityref01_Exponent.calls (k : Nat) (a0 : Int) (r : Int) (w : World) (h : privityref01_Exponent.f k a0 = some r) :
  Calls Tryd.prog 46 #[.int .u64 a0] w fun e w' => e = .returned (.int .i64 r) ∧ Below w.heap.size w w' := by
 have HB := Aside0.mk (Below.refl w.heap.size w)
 have H : ((privityref01_exps.f).bind fun t195 => (privityref01_Exponent.l0 k a0 t195 0)) = some r := h
 clear h
 replace H := Option.bind_eq_some_iff.mp H
 obtain ⟨t195,A20,H⟩ := H
 replace H : (privityref01_Exponent.l0 k a0 t195 0) = some r := H
 have A2 := Aside0.mk A20
 clear A20
 have H' := Aside0.mk H
 clear H
 go_enter Tryd.func46,Tryd.ntmps46
 go_wp2_with (first|((with_reducible refine gate_callee (f := 66) rfl ?_);refine goesL_ (some 5) rfl rfl Tryd.func66 (by kernel_rfl) rfl #[] rfl (by (try simp only [List.map_toArray,List.map_cons,List.map_nil]);first|done|rfl|(simp only [List.length_drop,List.length_take];rfl)) ?_;(with_reducible refine (privityref01_exps.calls  t195 _ A2.out).mono ?_);rintro e w3 ⟨v196,rfl,ho0,hb⟩;refine ⟨_,rfl,?_⟩;have n0_ := Aside0.mk (Kd.R_lower ho0 (below_size (by repeat (first|(with_reducible first|exact HB.out|apply below_alloc|apply pw_below_drewN|apply below_drew1)|exact HB.out))));have n1_ := Aside0.mk (below_step (by repeat (first|(with_reducible first|exact HB.out|apply below_alloc|apply pw_below_drewN|apply below_drew1)|exact HB.out)) hb);clear HB;have HO197 := n0_;have HB := n1_;clear n0_ n1_;(try clear hb);(try clear hb2);(try clear hk);(try clear hi);(try clear ho0)))
 go_loopg [4] k (fun kq v4 w' => ∃ (x4_1 : Int),v4 = .int .i64 x4_1 ∧ Aside0 (privityref01_Exponent.l0 kq a0 t195 x4_1 = some r) ∧ Aside0 (kq ≤ k) ∧ Aside0 (Kd.R (Kd.int .i64) 3 w' w.heap.size (fun _ => True) v196 t195) ∧ Aside0 (Below w.heap.size w w'))
 case atStart => exact ⟨(0),(by first|rfl|(simp;done)|(simp [*];done)),H',⟨Nat.le_refl _⟩,⟨by (with_reducible repeat (first|apply Kd.R_alloc|apply Kd.R_drewN|apply Kd.R_drew));exact HO197.out⟩,⟨by repeat (first|(with_reducible first|exact HB.out|apply below_alloc|apply pw_below_drewN|apply below_drew1)|exact HB.out)⟩⟩
 case round =>
  clear H'
  try clear p2
  obtain ⟨x4_1,rfl,HA,HK1,HO_3,HB⟩ := hrel
  cases gk with
  | zero => exact absurd HA.out (by simp [privityref01_Exponent.l0])
  | succ k1 =>
   have H := HA.out
   clear HA
   simp only [privityref01_Exponent.l0] at H
   by_cases c4 : x4_1 < (t195.length : Int)
   ·rw [if_pos c4] at H
    have c4b0 : decide (x4_1 < (t195.length : Int)) = true := decide_eq_true c4
    clear c4
    by_cases c5 : 0 ≤ x4_1
    ·rw [if_pos c5] at H
     have c5b0 : decide (0 ≤ x4_1) = true := decide_eq_true c5
     clear c5
     obtain ⟨ji6,hji6⟩ : ∃ j_ : Int,(IntKind.u64.wrap (rd t195 x4_1)) = j_ := ⟨_,rfl⟩
     replace H : (if 0 ≤ (ji6) then (if a0 = (IntKind.u64.wrap ((shl .u64 1 (ji6)) - 1)) then (some (rd t195 x4_1)) else (privityref01_Exponent.l0 k1 a0 t195 (wrap64 (x4_1 + 1)))) else (none)) = some r := by first|(rw [hji6] at H;exact H)|(simp only [hji6] at H ⊢;exact H)
     by_cases c7 : 0 ≤ (ji6)
     ·rw [if_pos c7] at H
      have c7b0 := eq_true c7
      have c7b1 : decide (0 ≤ (ji6)) = true := decide_eq_true c7
      clear c7
      obtain ⟨ji8,hji8⟩ : ∃ j_ : Int,(shl .u64 1 (ji6)) = j_ := ⟨_,rfl⟩
      replace H : (if a0 = (IntKind.u64.wrap ((ji8) - 1)) then (some (rd t195 x4_1)) else (privityref01_Exponent.l0 k1 a0 t195 (wrap64 (x4_1 + 1)))) = some r := by first|(rw [hji8] at H;exact H)|(simp only [hji8] at H ⊢;exact H)
      have hji8_ : (IntKind.u64.wrap (1 * 2 ^ min (ji6).toNat 64)) = ji8 := hji8
      have hji8z : (ji6) ≤ 64 → (IntKind.u64.wrap (1 * 2 ^ (ji6).toNat)) = ji8 := shl_small hji8
      have hji8u : (IntKind.u64.wrap (2 ^ min (ji6).toNat 64)) = ji8 := by have h_ := hji8_;rw [Int.one_mul] at h_;exact h_
      have hji8v : (ji6) ≤ 64 → (IntKind.u64.wrap (2 ^ (ji6).toNat)) = ji8 := fun hle_ => by have h_ := hji8z hle_;rw [Int.one_mul] at h_;exact h_
      by_cases c9 : a0 = (IntKind.u64.wrap ((ji8) - 1))
      ·rw [if_pos c9] at H
       have c9b0 : (a0 == (IntKind.u64.wrap ((ji8) - 1))) = true := beq_iff_eq.mpr c9
       have c9b1 : (a0 != (IntKind.u64.wrap ((ji8) - 1))) = false := bne_eq_false_iff_eq.mpr c9
       clear c9
       obtain rfl := Option.some.inj H
       obtain ⟨Ao10,co10,eo10⟩ := Kd.R_slice HO_3.out
       subst eo10
       have p198 : 0 ≤ (x4_1 : Int) := of_decide_eq_true (by first|(with_reducible assumption)|assumption)
       have q198 : x4_1 < (t195.length : Int) := of_decide_eq_true (by first|(with_reducible assumption)|assumption)
       obtain ⟨ad198,e198,hx198_0⟩ := Kd.at_int (Kd.R_reads' HO_3.out).2.2 x4_1 p198 q198
       cases e198
       replace p198 := eq_true p198
       replace q198 := eq_true q198
       have p199 : 0 ≤ (x4_1 : Int) := of_decide_eq_true (by first|(with_reducible assumption)|assumption)
       have q199 : x4_1 < (t195.length : Int) := of_decide_eq_true (by first|(with_reducible assumption)|assumption)
       obtain ⟨ad199,e199,hx199_0⟩ := Kd.at_int (Kd.R_reads' HO_3.out).2.2 x4_1 p199 q199
       obtain rfl : ad198 = ad199 := (by injection e199)
       replace p199 := eq_true p199
       replace q199 := eq_true q199
       go_wp2
       go_ret
       exact ⟨by first|rfl|(simp [errW_none,errW_some] <;> rfl)|(simp only [← hji6,← hji8];first|rfl|(simp [errW_none,errW_some] <;> rfl))|(simp [*,errW_none,errW_some] <;> rfl),by repeat (first|(with_reducible first|exact HB.out|apply below_alloc|apply pw_below_drewN|apply below_drew1)|exact HB.out)⟩
      ·rw [if_neg c9] at H
       have c9b0 : (a0 == (IntKind.u64.wrap ((ji8) - 1))) = false := beq_eq_false_iff_ne.mpr c9
       have c9b1 : (a0 != (IntKind.u64.wrap ((ji8) - 1))) = true := bne_iff_ne.mpr c9
       have H' := Aside0.mk H
       clear H
       obtain ⟨Ao11,co11,eo11⟩ := Kd.R_slice HO_3.out
       subst eo11
       have p198 : 0 ≤ (x4_1 : Int) := of_decide_eq_true (by first|(with_reducible assumption)|assumption)
       have q198 : x4_1 < (t195.length : Int) := of_decide_eq_true (by first|(with_reducible assumption)|assumption)
       obtain ⟨ad198,e198,hx198_0⟩ := Kd.at_int (Kd.R_reads' HO_3.out).2.2 x4_1 p198 q198
       cases e198
       replace p198 := eq_true p198
       replace q198 := eq_true q198
       go_wp2
       go_roundg k1
       case measure => have := HK1.out;omega
       case rel => exact ⟨(wrap64 (x4_1 + 1)),(by first|rfl|(simp;done)|(simp [*];done)),H',⟨by have := HK1.out;omega⟩,⟨by (with_reducible repeat (first|apply Kd.R_alloc|apply Kd.R_drewN|apply Kd.R_drew));exact HO_3.out⟩,⟨by repeat (first|(with_reducible first|exact HB.out|apply below_alloc|apply pw_below_drewN|apply below_drew1)|exact HB.out)⟩⟩
     ·rw [if_neg c7] at H
      exact absurd H (by simp)
    ·rw [if_neg c5] at H
     exact absurd H (by simp)
   ·rw [if_neg c4] at H
    have c4b0 : decide (x4_1 < (t195.length : Int)) = false := decide_eq_false c4
    clear c4
    obtain rfl := Option.some.inj H
    obtain ⟨Ao12,co12,eo12⟩ := Kd.R_slice HO_3.out
    subst eo12
    go_wp2
    go_ret
    exact ⟨by first|rfl|(simp [errW_none,errW_some] <;> rfl)|(simp [*,errW_none,errW_some] <;> rfl),by repeat (first|(with_reducible first|exact HB.out|apply below_alloc|apply pw_below_drewN|apply below_drew1)|exact HB.out)⟩
/-! ### privityref01_Supported: function 29 -/
def privityref01_Supported.f (k : Nat) (a0 : Int) : Option (Bool) := (privityref01_Exponent.f k a0).bind fun t200 => (some (decide (t200 > 0)))
theorem privityref01_Supported.mono : ∀ a0 k, LeO (privityref01_Supported.f k a0) (privityref01_Supported.f (k + 1) a0) := by
 intro a0 k
 unfold privityref01_Supported.f
 repeat' first
   | (with_reducible exact privityref01_Exponent.mono _ _)
   | (with_reducible exact LeO.refl _)
   | (with_reducible exact LeO.none _)
   | (with_reducible refine LeO.ite ?_ ?_)
   | (with_reducible refine LeO.bind ?_ (fun _ => ?_))
   | exact privityref01_Exponent.mono _ _
   | exact LeO.none _
   | refine LeO.ite ?_ ?_
   | refine LeO.bind ?_ (fun _ => ?_)
set_option maxHeartbeats 8000000 in
set_option maxRecDepth 100000 in
theorem privityref01_Supported.calls (k : Nat) (a0 : Int) (r : Bool) (w : World) (h : privityref01_Supported.f k a0 = some r) :
  Calls Tryd.prog 29 #[.int .u64 a0] w fun e w' => e = .returned (.bool r) ∧ Below w.heap.size w w' := by
 have HB := Aside0.mk (Below.refl w.heap.size w)
 have H : ((privityref01_Exponent.f k a0).bind fun t200 => (some (decide (t200 > 0)))) = some r := h
 clear h
 replace H := Option.bind_eq_some_iff.mp H
 obtain ⟨t200,A20,H⟩ := H
 replace H : (some (decide (t200 > 0))) = some r := H
 have A2 := Aside0.mk A20
 clear A20
 obtain rfl := Option.some.inj H
 go_enter Tryd.func29,Tryd.ntmps29
 go_wp2_with (first|((with_reducible refine gate_callee (f := 46) rfl ?_);refine goesL_ (some 4) rfl rfl Tryd.func46 (by kernel_rfl) rfl #[.int .u64 a0] rfl (by (try simp only [List.map_toArray,List.map_cons,List.map_nil]);first|done|rfl|(simp only [List.length_drop,List.length_take];rfl)) ?_;(with_reducible refine (privityref01_Exponent.calls k a0 t200 _ A2.out).mono ?_);rintro e w3 ⟨rfl,hb⟩;refine ⟨_,rfl,?_⟩;have n0_ := Aside0.mk (below_step (by repeat (first|(with_reducible first|exact HB.out|apply below_alloc|apply pw_below_drewN|apply below_drew1)|exact HB.out)) hb);clear HB;have HB := n0_;clear n0_;(try clear hb);(try clear hb2);(try clear hk);(try clear hi)))
 go_ret
 exact ⟨by first|rfl|(simp [errW_none,errW_some] <;> rfl)|(simp [*,errW_none,errW_some] <;> rfl),by repeat (first|(with_reducible first|exact HB.out|apply below_alloc|apply pw_below_drewN|apply below_drew1)|exact HB.out)⟩
/-! ### privityref12_Valid: function 11 -/
def privityref12_Valid.f (k : Nat) (a0_0 : Int) (a0_1 : Int) (a0_2 : Int) : Option (Bool) := (privityref01_Supported.f k a0_0).bind fun t202 => (if t202 = true then (if a0_1 ≥ 4 then (if a0_1 ≤ 13 then (if (IntKind.u64.wrap (a0_1)) < a0_0 then (if a0_2 ≥ 1 then (if a0_2 < a0_1 then (some (decide ((wrap64 (3 * a0_2)) < a0_1))) else (some false)) else (some false)) else (some false)) else (some false)) else (some false)) else (some false))
set_option maxHeartbeats 8000000 in
set_option maxRecDepth 100000 in
theorem privityref12_Valid.calls (k : Nat) (a0_0 : Int) (a0_1 : Int) (a0_2 : Int) (r : Bool) (w : World) (h : privityref12_Valid.f k a0_0 a0_1 a0_2 = some r) :
  Calls Tryd.prog 11 #[.agg #[.int .u64 a0_0,.int .i64 a0_1,.int .i64 a0_2]] w fun e w' => e = .returned (.bool r) ∧ Below w.heap.size w w' := by
 have hu24 := Tryd.underlying24
 have HB := Aside0.mk (Below.refl w.heap.size w)
 have H : ((privityref01_Supported.f k a0_0).bind fun t202 => (if t202 = true then (if a0_1 ≥ 4 then (if a0_1 ≤ 13 then (if (IntKind.u64.wrap (a0_1)) < a0_0 then (if a0_2 ≥ 1 then (if a0_2 < a0_1 then (some (decide ((wrap64 (3 * a0_2)) < a0_1))) else (some false)) else (some false)) else (some false)) else (some false)) else (some false)) else (some false))) = some r := h
 clear h
 replace H := Option.bind_eq_some_iff.mp H
 obtain ⟨t202,A20,H⟩ := H
 replace H : (if t202 = true then (if a0_1 ≥ 4 then (if a0_1 ≤ 13 then (if (IntKind.u64.wrap (a0_1)) < a0_0 then (if a0_2 ≥ 1 then (if a0_2 < a0_1 then (some (decide ((wrap64 (3 * a0_2)) < a0_1))) else (some false)) else (some false)) else (some false)) else (some false)) else (some false)) else (some false)) = some r := H
 have A2 := Aside0.mk A20
 clear A20
 by_cases c3 : t202 = true
 ·subst c3
  have H1 : (if a0_1 ≥ 4 then (if a0_1 ≤ 13 then (if (IntKind.u64.wrap (a0_1)) < a0_0 then (if a0_2 ≥ 1 then (if a0_2 < a0_1 then (some (decide ((wrap64 (3 * a0_2)) < a0_1))) else (some false)) else (some false)) else (some false)) else (some false)) else (some false)) = some r := by rw [if_pos rfl] at H;exact H
  clear H
  have H := H1
  clear H1
  by_cases c4 : a0_1 ≥ 4
  ·rw [if_pos c4] at H
   have c4b0 : decide (4 ≤ a0_1) = true := decide_eq_true c4
   clear c4
   by_cases c5 : a0_1 ≤ 13
   ·rw [if_pos c5] at H
    have c5b0 : decide (a0_1 ≤ 13) = true := decide_eq_true c5
    clear c5
    by_cases c6 : (IntKind.u64.wrap (a0_1)) < a0_0
    ·rw [if_pos c6] at H
     have c6b0 : decide ((IntKind.u64.wrap (a0_1)) < a0_0) = true := decide_eq_true c6
     clear c6
     by_cases c7 : a0_2 ≥ 1
     ·rw [if_pos c7] at H
      have c7b0 : decide (1 ≤ a0_2) = true := decide_eq_true c7
      clear c7
      by_cases c8 : a0_2 < a0_1
      ·rw [if_pos c8] at H
       have c8b0 : decide (a0_2 < a0_1) = true := decide_eq_true c8
       clear c8
       obtain rfl := Option.some.inj H
       go_enter Tryd.func11,Tryd.ntmps11
       go_wp2_with (first|((with_reducible refine gate_dst (N := 1) rfl ?_);refine box_event ?hg (N := 1) ?hd (cs := #[.int .u64 a0_0,.int .i64 a0_1,.int .i64 a0_2]) (t := 24) ?hr ?_;(case hd => rfl);(case hg => rfl);(case hr => first|(go_simp;done)|(go_simp;rfl));intro gb201 hg w9 hbox hb;have n0_ := Aside0.mk (below_step (by repeat (first|(with_reducible first|exact HB.out|apply below_alloc|apply pw_below_drewN|apply below_drew1)|exact HB.out)) hb);have n1_ := Aside0.mk (hbox);have n2_ := Aside0.mk ((by rw [hg];exact (below_size (by repeat (first|(with_reducible first|exact HB.out|apply below_alloc|apply pw_below_drewN|apply below_drew1)|exact HB.out))) : w.heap.size ≤ gb201));have n3_ := Aside0.mk ((by rw [hg];exact (below_size (by repeat (first|(with_reducible first|exact HB.out|apply below_alloc|apply pw_below_drewN|apply below_drew1)|exact HB.out))) : w.heap.size ≤ gb201));clear HB;have HB := n0_;have BK201 := n1_;have GW201 := n2_;have GE201 := n3_;clear n0_ n1_ n2_ n3_;clear hb hbox hg;have hcz10_0 : w9.cell? ⟨gb201,0,none⟩ = some (.int .u64 a0_0) := (blk_cell BK201.out 0).trans rfl;have hcz10_1 : w9.cell? ⟨gb201,1,none⟩ = some (.int .i64 a0_1) := (blk_cell BK201.out 1).trans rfl;have hcz10_2 : w9.cell? ⟨gb201,2,none⟩ = some (.int .i64 a0_2) := (blk_cell BK201.out 2).trans rfl;have hfz10_0 := blk_frozen BK201.out 0;have hfz10_1 := blk_frozen BK201.out 1;have hfz10_2 := blk_frozen BK201.out 2)|((with_reducible refine gate_callee (f := 29) rfl ?_);refine goesL_ (some 5) rfl rfl Tryd.func29 (by kernel_rfl) rfl #[.int .u64 a0_0] rfl (by (try simp only [List.map_toArray,List.map_cons,List.map_nil]);first|done|rfl|(simp only [List.length_drop,List.length_take];rfl)) ?_;(with_reducible refine (privityref01_Supported.calls k a0_0 true _ A2.out).mono ?_);rintro e w11 ⟨rfl,hb⟩;refine ⟨_,rfl,?_⟩;have n0_ := Aside0.mk (blk_below (g := gb201) (o := .cells #[.int .u64 a0_0,.int .i64 a0_1,.int .i64 a0_2] 24 (0,0)) (by (with_reducible repeat (first|refine blk_drewN ?_ _|refine blk_drew ?_|refine blk_alloc ?_ _));exact BK201.out) hb);have n1_ := Aside0.mk (below_step (by repeat (first|(with_reducible first|exact HB.out|apply below_alloc|apply pw_below_drewN|apply below_drew1|refine below_set ?_ GE201.out)|exact HB.out)) hb);clear BK201;clear HB;have BK201 := n0_;have HB := n1_;clear n0_ n1_;(try clear hb);(try clear hb2);(try clear hk);(try clear hi);have hcz12_0 : w11.cell? ⟨gb201,0,none⟩ = some (.int .u64 a0_0) := (blk_cell BK201.out 0).trans rfl;have hcz12_1 : w11.cell? ⟨gb201,1,none⟩ = some (.int .i64 a0_1) := (blk_cell BK201.out 1).trans rfl;have hcz12_2 : w11.cell? ⟨gb201,2,none⟩ = some (.int .i64 a0_2) := (blk_cell BK201.out 2).trans rfl;have hfz12_0 := blk_frozen BK201.out 0;have hfz12_1 := blk_frozen BK201.out 1;have hfz12_2 := blk_frozen BK201.out 2))
       go_ret
       exact ⟨by first|rfl|(simp [errW_none,errW_some] <;> rfl)|(simp [*,errW_none,errW_some] <;> rfl),by repeat (first|(with_reducible first|exact HB.out|apply below_alloc|apply pw_below_drewN|apply below_drew1|refine below_set ?_ GE201.out)|exact HB.out)⟩
      ·rw [if_neg c8] at H
       have c8b0 : decide (a0_2 < a0_1) = false := decide_eq_false c8
       clear c8
       obtain rfl := Option.some.inj H
       go_enter Tryd.func11,Tryd.ntmps11
       go_wp2_with (first|((with_reducible refine gate_dst (N := 1) rfl ?_);refine box_event ?hg (N := 1) ?hd (cs := #[.int .u64 a0_0,.int .i64 a0_1,.int .i64 a0_2]) (t := 24) ?hr ?_;(case hd => rfl);(case hg => rfl);(case hr => first|(go_simp;done)|(go_simp;rfl));intro gb201 hg w13 hbox hb;have n0_ := Aside0.mk (below_step (by repeat (first|(with_reducible first|exact HB.out|apply below_alloc|apply pw_below_drewN|apply below_drew1)|exact HB.out)) hb);have n1_ := Aside0.mk (hbox);have n2_ := Aside0.mk ((by rw [hg];exact (below_size (by repeat (first|(with_reducible first|exact HB.out|apply below_alloc|apply pw_below_drewN|apply below_drew1)|exact HB.out))) : w.heap.size ≤ gb201));have n3_ := Aside0.mk ((by rw [hg];exact (below_size (by repeat (first|(with_reducible first|exact HB.out|apply below_alloc|apply pw_below_drewN|apply below_drew1)|exact HB.out))) : w.heap.size ≤ gb201));clear HB;have HB := n0_;have BK201 := n1_;have GW201 := n2_;have GE201 := n3_;clear n0_ n1_ n2_ n3_;clear hb hbox hg;have hcz14_0 : w13.cell? ⟨gb201,0,none⟩ = some (.int .u64 a0_0) := (blk_cell BK201.out 0).trans rfl;have hcz14_1 : w13.cell? ⟨gb201,1,none⟩ = some (.int .i64 a0_1) := (blk_cell BK201.out 1).trans rfl;have hcz14_2 : w13.cell? ⟨gb201,2,none⟩ = some (.int .i64 a0_2) := (blk_cell BK201.out 2).trans rfl;have hfz14_0 := blk_frozen BK201.out 0;have hfz14_1 := blk_frozen BK201.out 1;have hfz14_2 := blk_frozen BK201.out 2)|((with_reducible refine gate_callee (f := 29) rfl ?_);refine goesL_ (some 5) rfl rfl Tryd.func29 (by kernel_rfl) rfl #[.int .u64 a0_0] rfl (by (try simp only [List.map_toArray,List.map_cons,List.map_nil]);first|done|rfl|(simp only [List.length_drop,List.length_take];rfl)) ?_;(with_reducible refine (privityref01_Supported.calls k a0_0 true _ A2.out).mono ?_);rintro e w15 ⟨rfl,hb⟩;refine ⟨_,rfl,?_⟩;have n0_ := Aside0.mk (blk_below (g := gb201) (o := .cells #[.int .u64 a0_0,.int .i64 a0_1,.int .i64 a0_2] 24 (0,0)) (by (with_reducible repeat (first|refine blk_drewN ?_ _|refine blk_drew ?_|refine blk_alloc ?_ _));exact BK201.out) hb);have n1_ := Aside0.mk (below_step (by repeat (first|(with_reducible first|exact HB.out|apply below_alloc|apply pw_below_drewN|apply below_drew1|refine below_set ?_ GE201.out)|exact HB.out)) hb);clear BK201;clear HB;have BK201 := n0_;have HB := n1_;clear n0_ n1_;(try clear hb);(try clear hb2);(try clear hk);(try clear hi);have hcz16_0 : w15.cell? ⟨gb201,0,none⟩ = some (.int .u64 a0_0) := (blk_cell BK201.out 0).trans rfl;have hcz16_1 : w15.cell? ⟨gb201,1,none⟩ = some (.int .i64 a0_1) := (blk_cell BK201.out 1).trans rfl;have hcz16_2 : w15.cell? ⟨gb201,2,none⟩ = some (.int .i64 a0_2) := (blk_cell BK201.out 2).trans rfl;have hfz16_0 := blk_frozen BK201.out 0;have hfz16_1 := blk_frozen BK201.out 1;have hfz16_2 := blk_frozen BK201.out 2))
       go_ret
       exact ⟨by first|rfl|(simp [errW_none,errW_some] <;> rfl)|(simp [*,errW_none,errW_some] <;> rfl),by repeat (first|(with_reducible first|exact HB.out|apply below_alloc|apply pw_below_drewN|apply below_drew1|refine below_set ?_ GE201.out)|exact HB.out)⟩
     ·rw [if_neg c7] at H
      have c7b0 : decide (1 ≤ a0_2) = false := decide_eq_false c7
      clear c7
      obtain rfl := Option.some.inj H
      go_enter Tryd.func11,Tryd.ntmps11
      go_wp2_with (first|((with_reducible refine gate_dst (N := 1) rfl ?_);refine box_event ?hg (N := 1) ?hd (cs := #[.int .u64 a0_0,.int .i64 a0_1,.int .i64 a0_2]) (t := 24) ?hr ?_;(case hd => rfl);(case hg => rfl);(case hr => first|(go_simp;done)|(go_simp;rfl));intro gb201 hg w17 hbox hb;have n0_ := Aside0.mk (below_step (by repeat (first|(with_reducible first|exact HB.out|apply below_alloc|apply pw_below_drewN|apply below_drew1)|exact HB.out)) hb);have n1_ := Aside0.mk (hbox);have n2_ := Aside0.mk ((by rw [hg];exact (below_size (by repeat (first|(with_reducible first|exact HB.out|apply below_alloc|apply pw_below_drewN|apply below_drew1)|exact HB.out))) : w.heap.size ≤ gb201));have n3_ := Aside0.mk ((by rw [hg];exact (below_size (by repeat (first|(with_reducible first|exact HB.out|apply below_alloc|apply pw_below_drewN|apply below_drew1)|exact HB.out))) : w.heap.size ≤ gb201));clear HB;have HB := n0_;have BK201 := n1_;have GW201 := n2_;have GE201 := n3_;clear n0_ n1_ n2_ n3_;clear hb hbox hg;have hcz18_0 : w17.cell? ⟨gb201,0,none⟩ = some (.int .u64 a0_0) := (blk_cell BK201.out 0).trans rfl;have hcz18_1 : w17.cell? ⟨gb201,1,none⟩ = some (.int .i64 a0_1) := (blk_cell BK201.out 1).trans rfl;have hcz18_2 : w17.cell? ⟨gb201,2,none⟩ = some (.int .i64 a0_2) := (blk_cell BK201.out 2).trans rfl;have hfz18_0 := blk_frozen BK201.out 0;have hfz18_1 := blk_frozen BK201.out 1;have hfz18_2 := blk_frozen BK201.out 2)|((with_reducible refine gate_callee (f := 29) rfl ?_);refine goesL_ (some 5) rfl rfl Tryd.func29 (by kernel_rfl) rfl #[.int .u64 a0_0] rfl (by (try simp only [List.map_toArray,List.map_cons,List.map_nil]);first|done|rfl|(simp only [List.length_drop,List.length_take];rfl)) ?_;(with_reducible refine (privityref01_Supported.calls k a0_0 true _ A2.out).mono ?_);rintro e w19 ⟨rfl,hb⟩;refine ⟨_,rfl,?_⟩;have n0_ := Aside0.mk (blk_below (g := gb201) (o := .cells #[.int .u64 a0_0,.int .i64 a0_1,.int .i64 a0_2] 24 (0,0)) (by (with_reducible repeat (first|refine blk_drewN ?_ _|refine blk_drew ?_|refine blk_alloc ?_ _));exact BK201.out) hb);have n1_ := Aside0.mk (below_step (by repeat (first|(with_reducible first|exact HB.out|apply below_alloc|apply pw_below_drewN|apply below_drew1|refine below_set ?_ GE201.out)|exact HB.out)) hb);clear BK201;clear HB;have BK201 := n0_;have HB := n1_;clear n0_ n1_;(try clear hb);(try clear hb2);(try clear hk);(try clear hi);have hcz20_0 : w19.cell? ⟨gb201,0,none⟩ = some (.int .u64 a0_0) := (blk_cell BK201.out 0).trans rfl;have hcz20_1 : w19.cell? ⟨gb201,1,none⟩ = some (.int .i64 a0_1) := (blk_cell BK201.out 1).trans rfl;have hcz20_2 : w19.cell? ⟨gb201,2,none⟩ = some (.int .i64 a0_2) := (blk_cell BK201.out 2).trans rfl;have hfz20_0 := blk_frozen BK201.out 0;have hfz20_1 := blk_frozen BK201.out 1;have hfz20_2 := blk_frozen BK201.out 2))
      go_ret
      exact ⟨by first|rfl|(simp [errW_none,errW_some] <;> rfl)|(simp [*,errW_none,errW_some] <;> rfl),by repeat (first|(with_reducible first|exact HB.out|apply below_alloc|apply pw_below_drewN|apply below_drew1|refine below_set ?_ GE201.out)|exact HB.out)⟩
    ·rw [if_neg c6] at H
     have c6b0 : decide ((IntKind.u64.wrap (a0_1)) < a0_0) = false := decide_eq_false c6
     clear c6
     obtain rfl := Option.some.inj H
     go_enter Tryd.func11,Tryd.ntmps11
     go_wp2_with (first|((with_reducible refine gate_dst (N := 1) rfl ?_);refine box_event ?hg (N := 1) ?hd (cs := #[.int .u64 a0_0,.int .i64 a0_1,.int .i64 a0_2]) (t := 24) ?hr ?_;(case hd => rfl);(case hg => rfl);(case hr => first|(go_simp;done)|(go_simp;rfl));intro gb201 hg w21 hbox hb;have n0_ := Aside0.mk (below_step (by repeat (first|(with_reducible first|exact HB.out|apply below_alloc|apply pw_below_drewN|apply below_drew1)|exact HB.out)) hb);have n1_ := Aside0.mk (hbox);have n2_ := Aside0.mk ((by rw [hg];exact (below_size (by repeat (first|(with_reducible first|exact HB.out|apply below_alloc|apply pw_below_drewN|apply below_drew1)|exact HB.out))) : w.heap.size ≤ gb201));have n3_ := Aside0.mk ((by rw [hg];exact (below_size (by repeat (first|(with_reducible first|exact HB.out|apply below_alloc|apply pw_below_drewN|apply below_drew1)|exact HB.out))) : w.heap.size ≤ gb201));clear HB;have HB := n0_;have BK201 := n1_;have GW201 := n2_;have GE201 := n3_;clear n0_ n1_ n2_ n3_;clear hb hbox hg;have hcz22_0 : w21.cell? ⟨gb201,0,none⟩ = some (.int .u64 a0_0) := (blk_cell BK201.out 0).trans rfl;have hcz22_1 : w21.cell? ⟨gb201,1,none⟩ = some (.int .i64 a0_1) := (blk_cell BK201.out 1).trans rfl;have hcz22_2 : w21.cell? ⟨gb201,2,none⟩ = some (.int .i64 a0_2) := (blk_cell BK201.out 2).trans rfl;have hfz22_0 := blk_frozen BK201.out 0;have hfz22_1 := blk_frozen BK201.out 1;have hfz22_2 := blk_frozen BK201.out 2)|((with_reducible refine gate_callee (f := 29) rfl ?_);refine goesL_ (some 5) rfl rfl Tryd.func29 (by kernel_rfl) rfl #[.int .u64 a0_0] rfl (by (try simp only [List.map_toArray,List.map_cons,List.map_nil]);first|done|rfl|(simp only [List.length_drop,List.length_take];rfl)) ?_;(with_reducible refine (privityref01_Supported.calls k a0_0 true _ A2.out).mono ?_);rintro e w23 ⟨rfl,hb⟩;refine ⟨_,rfl,?_⟩;have n0_ := Aside0.mk (blk_below (g := gb201) (o := .cells #[.int .u64 a0_0,.int .i64 a0_1,.int .i64 a0_2] 24 (0,0)) (by (with_reducible repeat (first|refine blk_drewN ?_ _|refine blk_drew ?_|refine blk_alloc ?_ _));exact BK201.out) hb);have n1_ := Aside0.mk (below_step (by repeat (first|(with_reducible first|exact HB.out|apply below_alloc|apply pw_below_drewN|apply below_drew1|refine below_set ?_ GE201.out)|exact HB.out)) hb);clear BK201;clear HB;have BK201 := n0_;have HB := n1_;clear n0_ n1_;(try clear hb);(try clear hb2);(try clear hk);(try clear hi);have hcz24_0 : w23.cell? ⟨gb201,0,none⟩ = some (.int .u64 a0_0) := (blk_cell BK201.out 0).trans rfl;have hcz24_1 : w23.cell? ⟨gb201,1,none⟩ = some (.int .i64 a0_1) := (blk_cell BK201.out 1).trans rfl;have hcz24_2 : w23.cell? ⟨gb201,2,none⟩ = some (.int .i64 a0_2) := (blk_cell BK201.out 2).trans rfl;have hfz24_0 := blk_frozen BK201.out 0;have hfz24_1 := blk_frozen BK201.out 1;have hfz24_2 := blk_frozen BK201.out 2))
     go_ret
     exact ⟨by first|rfl|(simp [errW_none,errW_some] <;> rfl)|(simp [*,errW_none,errW_some] <;> rfl),by repeat (first|(with_reducible first|exact HB.out|apply below_alloc|apply pw_below_drewN|apply below_drew1|refine below_set ?_ GE201.out)|exact HB.out)⟩
   ·rw [if_neg c5] at H
    have c5b0 : decide (a0_1 ≤ 13) = false := decide_eq_false c5
    clear c5
    obtain rfl := Option.some.inj H
    go_enter Tryd.func11,Tryd.ntmps11
    go_wp2_with (first|((with_reducible refine gate_dst (N := 1) rfl ?_);refine box_event ?hg (N := 1) ?hd (cs := #[.int .u64 a0_0,.int .i64 a0_1,.int .i64 a0_2]) (t := 24) ?hr ?_;(case hd => rfl);(case hg => rfl);(case hr => first|(go_simp;done)|(go_simp;rfl));intro gb201 hg w25 hbox hb;have n0_ := Aside0.mk (below_step (by repeat (first|(with_reducible first|exact HB.out|apply below_alloc|apply pw_below_drewN|apply below_drew1)|exact HB.out)) hb);have n1_ := Aside0.mk (hbox);have n2_ := Aside0.mk ((by rw [hg];exact (below_size (by repeat (first|(with_reducible first|exact HB.out|apply below_alloc|apply pw_below_drewN|apply below_drew1)|exact HB.out))) : w.heap.size ≤ gb201));have n3_ := Aside0.mk ((by rw [hg];exact (below_size (by repeat (first|(with_reducible first|exact HB.out|apply below_alloc|apply pw_below_drewN|apply below_drew1)|exact HB.out))) : w.heap.size ≤ gb201));clear HB;have HB := n0_;have BK201 := n1_;have GW201 := n2_;have GE201 := n3_;clear n0_ n1_ n2_ n3_;clear hb hbox hg;have hcz26_0 : w25.cell? ⟨gb201,0,none⟩ = some (.int .u64 a0_0) := (blk_cell BK201.out 0).trans rfl;have hcz26_1 : w25.cell? ⟨gb201,1,none⟩ = some (.int .i64 a0_1) := (blk_cell BK201.out 1).trans rfl;have hcz26_2 : w25.cell? ⟨gb201,2,none⟩ = some (.int .i64 a0_2) := (blk_cell BK201.out 2).trans rfl;have hfz26_0 := blk_frozen BK201.out 0;have hfz26_1 := blk_frozen BK201.out 1;have hfz26_2 := blk_frozen BK201.out 2)|((with_reducible refine gate_callee (f := 29) rfl ?_);refine goesL_ (some 5) rfl rfl Tryd.func29 (by kernel_rfl) rfl #[.int .u64 a0_0] rfl (by (try simp only [List.map_toArray,List.map_cons,List.map_nil]);first|done|rfl|(simp only [List.length_drop,List.length_take];rfl)) ?_;(with_reducible refine (privityref01_Supported.calls k a0_0 true _ A2.out).mono ?_);rintro e w27 ⟨rfl,hb⟩;refine ⟨_,rfl,?_⟩;have n0_ := Aside0.mk (blk_below (g := gb201) (o := .cells #[.int .u64 a0_0,.int .i64 a0_1,.int .i64 a0_2] 24 (0,0)) (by (with_reducible repeat (first|refine blk_drewN ?_ _|refine blk_drew ?_|refine blk_alloc ?_ _));exact BK201.out) hb);have n1_ := Aside0.mk (below_step (by repeat (first|(with_reducible first|exact HB.out|apply below_alloc|apply pw_below_drewN|apply below_drew1|refine below_set ?_ GE201.out)|exact HB.out)) hb);clear BK201;clear HB;have BK201 := n0_;have HB := n1_;clear n0_ n1_;(try clear hb);(try clear hb2);(try clear hk);(try clear hi);have hcz28_0 : w27.cell? ⟨gb201,0,none⟩ = some (.int .u64 a0_0) := (blk_cell BK201.out 0).trans rfl;have hcz28_1 : w27.cell? ⟨gb201,1,none⟩ = some (.int .i64 a0_1) := (blk_cell BK201.out 1).trans rfl;have hcz28_2 : w27.cell? ⟨gb201,2,none⟩ = some (.int .i64 a0_2) := (blk_cell BK201.out 2).trans rfl;have hfz28_0 := blk_frozen BK201.out 0;have hfz28_1 := blk_frozen BK201.out 1;have hfz28_2 := blk_frozen BK201.out 2))
    go_ret
    exact ⟨by first|rfl|(simp [errW_none,errW_some] <;> rfl)|(simp [*,errW_none,errW_some] <;> rfl),by repeat (first|(with_reducible first|exact HB.out|apply below_alloc|apply pw_below_drewN|apply below_drew1|refine below_set ?_ GE201.out)|exact HB.out)⟩
  ·rw [if_neg c4] at H
   have c4b0 : decide (4 ≤ a0_1) = false := decide_eq_false c4
   clear c4
   obtain rfl := Option.some.inj H
   go_enter Tryd.func11,Tryd.ntmps11
   go_wp2_with (first|((with_reducible refine gate_dst (N := 1) rfl ?_);refine box_event ?hg (N := 1) ?hd (cs := #[.int .u64 a0_0,.int .i64 a0_1,.int .i64 a0_2]) (t := 24) ?hr ?_;(case hd => rfl);(case hg => rfl);(case hr => first|(go_simp;done)|(go_simp;rfl));intro gb201 hg w29 hbox hb;have n0_ := Aside0.mk (below_step (by repeat (first|(with_reducible first|exact HB.out|apply below_alloc|apply pw_below_drewN|apply below_drew1)|exact HB.out)) hb);have n1_ := Aside0.mk (hbox);have n2_ := Aside0.mk ((by rw [hg];exact (below_size (by repeat (first|(with_reducible first|exact HB.out|apply below_alloc|apply pw_below_drewN|apply below_drew1)|exact HB.out))) : w.heap.size ≤ gb201));have n3_ := Aside0.mk ((by rw [hg];exact (below_size (by repeat (first|(with_reducible first|exact HB.out|apply below_alloc|apply pw_below_drewN|apply below_drew1)|exact HB.out))) : w.heap.size ≤ gb201));clear HB;have HB := n0_;have BK201 := n1_;have GW201 := n2_;have GE201 := n3_;clear n0_ n1_ n2_ n3_;clear hb hbox hg;have hcz30_0 : w29.cell? ⟨gb201,0,none⟩ = some (.int .u64 a0_0) := (blk_cell BK201.out 0).trans rfl;have hcz30_1 : w29.cell? ⟨gb201,1,none⟩ = some (.int .i64 a0_1) := (blk_cell BK201.out 1).trans rfl;have hcz30_2 : w29.cell? ⟨gb201,2,none⟩ = some (.int .i64 a0_2) := (blk_cell BK201.out 2).trans rfl;have hfz30_0 := blk_frozen BK201.out 0;have hfz30_1 := blk_frozen BK201.out 1;have hfz30_2 := blk_frozen BK201.out 2)|((with_reducible refine gate_callee (f := 29) rfl ?_);refine goesL_ (some 5) rfl rfl Tryd.func29 (by kernel_rfl) rfl #[.int .u64 a0_0] rfl (by (try simp only [List.map_toArray,List.map_cons,List.map_nil]);first|done|rfl|(simp only [List.length_drop,List.length_take];rfl)) ?_;(with_reducible refine (privityref01_Supported.calls k a0_0 true _ A2.out).mono ?_);rintro e w31 ⟨rfl,hb⟩;refine ⟨_,rfl,?_⟩;have n0_ := Aside0.mk (blk_below (g := gb201) (o := .cells #[.int .u64 a0_0,.int .i64 a0_1,.int .i64 a0_2] 24 (0,0)) (by (with_reducible repeat (first|refine blk_drewN ?_ _|refine blk_drew ?_|refine blk_alloc ?_ _));exact BK201.out) hb);have n1_ := Aside0.mk (below_step (by repeat (first|(with_reducible first|exact HB.out|apply below_alloc|apply pw_below_drewN|apply below_drew1|refine below_set ?_ GE201.out)|exact HB.out)) hb);clear BK201;clear HB;have BK201 := n0_;have HB := n1_;clear n0_ n1_;(try clear hb);(try clear hb2);(try clear hk);(try clear hi);have hcz32_0 : w31.cell? ⟨gb201,0,none⟩ = some (.int .u64 a0_0) := (blk_cell BK201.out 0).trans rfl;have hcz32_1 : w31.cell? ⟨gb201,1,none⟩ = some (.int .i64 a0_1) := (blk_cell BK201.out 1).trans rfl;have hcz32_2 : w31.cell? ⟨gb201,2,none⟩ = some (.int .i64 a0_2) := (blk_cell BK201.out 2).trans rfl;have hfz32_0 := blk_frozen BK201.out 0;have hfz32_1 := blk_frozen BK201.out 1;have hfz32_2 := blk_frozen BK201.out 2))
   go_ret
   exact ⟨by first|rfl|(simp [errW_none,errW_some] <;> rfl)|(simp [*,errW_none,errW_some] <;> rfl),by repeat (first|(with_reducible first|exact HB.out|apply below_alloc|apply pw_below_drewN|apply below_drew1|refine below_set ?_ GE201.out)|exact HB.out)⟩
 ·replace c3 := Bool.eq_false_iff.mpr c3
  subst c3
  have H1 : (some false) = some r := by rw [if_neg (show ¬ (false = true) by decide)] at H;exact H
  clear H
  have H := H1
  clear H1
  obtain rfl := Option.some.inj H
  go_enter Tryd.func11,Tryd.ntmps11
  go_wp2_with (first|((with_reducible refine gate_dst (N := 1) rfl ?_);refine box_event ?hg (N := 1) ?hd (cs := #[.int .u64 a0_0,.int .i64 a0_1,.int .i64 a0_2]) (t := 24) ?hr ?_;(case hd => rfl);(case hg => rfl);(case hr => first|(go_simp;done)|(go_simp;rfl));intro gb201 hg w33 hbox hb;have n0_ := Aside0.mk (below_step (by repeat (first|(with_reducible first|exact HB.out|apply below_alloc|apply pw_below_drewN|apply below_drew1)|exact HB.out)) hb);have n1_ := Aside0.mk (hbox);have n2_ := Aside0.mk ((by rw [hg];exact (below_size (by repeat (first|(with_reducible first|exact HB.out|apply below_alloc|apply pw_below_drewN|apply below_drew1)|exact HB.out))) : w.heap.size ≤ gb201));have n3_ := Aside0.mk ((by rw [hg];exact (below_size (by repeat (first|(with_reducible first|exact HB.out|apply below_alloc|apply pw_below_drewN|apply below_drew1)|exact HB.out))) : w.heap.size ≤ gb201));clear HB;have HB := n0_;have BK201 := n1_;have GW201 := n2_;have GE201 := n3_;clear n0_ n1_ n2_ n3_;clear hb hbox hg;have hcz34_0 : w33.cell? ⟨gb201,0,none⟩ = some (.int .u64 a0_0) := (blk_cell BK201.out 0).trans rfl;have hcz34_1 : w33.cell? ⟨gb201,1,none⟩ = some (.int .i64 a0_1) := (blk_cell BK201.out 1).trans rfl;have hcz34_2 : w33.cell? ⟨gb201,2,none⟩ = some (.int .i64 a0_2) := (blk_cell BK201.out 2).trans rfl;have hfz34_0 := blk_frozen BK201.out 0;have hfz34_1 := blk_frozen BK201.out 1;have hfz34_2 := blk_frozen BK201.out 2)|((with_reducible refine gate_callee (f := 29) rfl ?_);refine goesL_ (some 5) rfl rfl Tryd.func29 (by kernel_rfl) rfl #[.int .u64 a0_0] rfl (by (try simp only [List.map_toArray,List.map_cons,List.map_nil]);first|done|rfl|(simp only [List.length_drop,List.length_take];rfl)) ?_;(with_reducible refine (privityref01_Supported.calls k a0_0 false _ A2.out).mono ?_);rintro e w35 ⟨rfl,hb⟩;refine ⟨_,rfl,?_⟩;have n0_ := Aside0.mk (blk_below (g := gb201) (o := .cells #[.int .u64 a0_0,.int .i64 a0_1,.int .i64 a0_2] 24 (0,0)) (by (with_reducible repeat (first|refine blk_drewN ?_ _|refine blk_drew ?_|refine blk_alloc ?_ _));exact BK201.out) hb);have n1_ := Aside0.mk (below_step (by repeat (first|(with_reducible first|exact HB.out|apply below_alloc|apply pw_below_drewN|apply below_drew1|refine below_set ?_ GE201.out)|exact HB.out)) hb);clear BK201;clear HB;have BK201 := n0_;have HB := n1_;clear n0_ n1_;(try clear hb);(try clear hb2);(try clear hk);(try clear hi)))
  go_ret
  exact ⟨by first|rfl|(simp [errW_none,errW_some] <;> rfl)|(simp [*,errW_none,errW_some] <;> rfl),by repeat (first|(with_reducible first|exact HB.out|apply below_alloc|apply pw_below_drewN|apply below_drew1|refine below_set ?_ GE201.out)|exact HB.out)⟩
end Go.Proofs.YtakaonojfpkhnaaDoor.Pr
end
section
/- Printed by a program of this seat (the kit's printer, with the functions that were proved by hand given to it). What stands here: the functions that the statements reach, as plain functions, and that the Go code computes them. -/
namespace Go.Proofs.YtakaonojfpkhnaaDoor.Pr
open Go.RowKit Go.Proofs.YtakaonojfpkhnaaDoorW.PrintWords Go.Proofs.YtakaonojfpkhnaaDoorW.PrintLast Go.Proofs.YtakaonojfpkhnaaDoorW.PrintMore
attribute [local go_sem] max2_int min2_int max_two min_two max_three min_three max_four min_four   -- for this text's walks alone
set_option linter.unusedVariables false
set_option linter.unusedSimpArgs false

open Go.Proofs.YtakaonojfpkhnaaDoor.Hw
/-! ### privityref12_ValidCoalition: function 13 -/
mutual
def privityref12_ValidCoalition.j0 : Nat → List Int → Bool → Int → Int → Int → Option (Bool)
 | 0,_,_,_,_,_ => none
 | k + 1,x1,x15,x204000,x204001,x204002 => if x15 = true then (some false) else (privityref12_ValidCoalition.l0 k x1 0 x204000 x204001 x204002)
def privityref12_ValidCoalition.l0 : Nat → List Int → Int → Int → Int → Int → Option (Bool)
 | 0,_,_,_,_,_ => none
 | k + 1,x1,x5,x204000,x204001,x204002 => if x5 < (x1.length : Int) then (if 0 ≤ x5 then (if (rd x1 x5) < 1 then (some false) else (if (rd x1 x5) > x204001 then (some false) else (if x5 > 0 then (if 0 ≤ (wrap64 (x5 - 1)) then (if (wrap64 (x5 - 1)) < (x1.length : Int) then (if (rd x1 x5) ≤ (rd x1 (wrap64 (x5 - 1))) then (some false) else (privityref12_ValidCoalition.l0 k x1 (wrap64 (x5 + 1)) x204000 x204001 x204002)) else (none)) else (none)) else (privityref12_ValidCoalition.l0 k x1 (wrap64 (x5 + 1)) x204000 x204001 x204002)))) else (none)) else (some true)
end
def privityref12_ValidCoalition.f (k : Nat) (a0_0 : Int) (a0_1 : Int) (a0_2 : Int) (l1 : List Int) : Option (Bool) := (privityref12_Valid.f k a0_0 a0_1 a0_2).bind fun t204 => (if t204 = true then (privityref12_ValidCoalition.j0 k l1 (decide ((l1.length : Int) > a0_2)) a0_0 a0_1 a0_2) else (privityref12_ValidCoalition.j0 k l1 true a0_0 a0_1 a0_2))
set_option maxHeartbeats 8000000 in
set_option maxRecDepth 100000 in
theorem privityref12_ValidCoalition.calls (k : Nat) (a0_0 : Int) (a0_1 : Int) (a0_2 : Int) (A1 : Option Addr) (c1 : Nat) (l1 : List Int) (r : Bool) (w : World) (hr1 : Kd.C (Kd.int .i64) w A1 l1.length l1) (hc1 : l1.length ≤ c1) (h : privityref12_ValidCoalition.f k a0_0 a0_1 a0_2 l1 = some r) :
  Calls Tryd.prog 13 #[.agg #[.int .u64 a0_0,.int .i64 a0_1,.int .i64 a0_2],.slice A1 l1.length c1] w fun e w' => e = .returned (.bool r) ∧ Below w.heap.size w w' := by
 have hu24 := Tryd.underlying24
 have HR1 := Aside0.mk hr1
 have HC1 := Aside0.mk hc1
 clear hr1 hc1
 have HB := Aside0.mk (Below.refl w.heap.size w)
 have H : ((privityref12_Valid.f k a0_0 a0_1 a0_2).bind fun t204 => (if t204 = true then (privityref12_ValidCoalition.j0 k l1 (decide ((l1.length : Int) > a0_2)) a0_0 a0_1 a0_2) else (privityref12_ValidCoalition.j0 k l1 true a0_0 a0_1 a0_2))) = some r := h
 clear h
 have HC3 := Aside0.mk H
 clear H
 go_enter Tryd.func13,Tryd.ntmps13
 go_upto_region 1 with (first|((with_reducible refine gate_dst (N := 2) rfl ?_);(try (refine gate_guard (by rfl) ?_;dsimp only));refine box_event ?hg (N := 2) ?hd (cs := #[.int .u64 a0_0,.int .i64 a0_1,.int .i64 a0_2]) (t := 24) ?hr ?_;(case hd => rfl);(case hg => rfl);(case hr => first|(go_simp;done)|(go_simp;rfl));intro gb203 hg w4 hbox hb;have n0_ := Aside0.mk (below_step (by repeat (first|(with_reducible first|exact HB.out|apply below_alloc|apply pw_below_drewN|apply below_drew1)|exact HB.out)) hb);have n1_ := Aside0.mk (hbox);have n2_ := Aside0.mk ((by rw [hg];exact (below_size (by repeat (first|(with_reducible first|exact HB.out|apply below_alloc|apply pw_below_drewN|apply below_drew1)|exact HB.out))) : w.heap.size ≤ gb203));have n3_ := Aside0.mk ((by rw [hg];exact (below_size (by repeat (first|(with_reducible first|exact HB.out|apply below_alloc|apply pw_below_drewN|apply below_drew1)|exact HB.out))) : w.heap.size ≤ gb203));clear HB;have HB := n0_;have BK203 := n1_;have GW203 := n2_;have GE203 := n3_;clear n0_ n1_ n2_ n3_;clear hb hbox hg))
 repeat (go_quiet (first|((with_reducible refine gate_dst (N := 2) rfl ?_);(try (refine gate_guard (by rfl) ?_;dsimp only));refine box_event ?hg (N := 2) ?hd (cs := #[.int .u64 a0_0,.int .i64 a0_1,.int .i64 a0_2]) (t := 24) ?hr ?_;(case hd => rfl);(case hg => rfl);(case hr => first|(go_simp;done)|(go_simp;rfl));intro gb203 hg w4 hbox hb;have n0_ := Aside0.mk (below_step (by repeat (first|(with_reducible first|exact HB.out|apply below_alloc|apply pw_below_drewN|apply below_drew1)|exact HB.out)) hb);have n1_ := Aside0.mk (hbox);have n2_ := Aside0.mk ((by rw [hg];exact (below_size (by repeat (first|(with_reducible first|exact HB.out|apply below_alloc|apply pw_below_drewN|apply below_drew1)|exact HB.out))) : w.heap.size ≤ gb203));have n3_ := Aside0.mk ((by rw [hg];exact (below_size (by repeat (first|(with_reducible first|exact HB.out|apply below_alloc|apply pw_below_drewN|apply below_drew1)|exact HB.out))) : w.heap.size ≤ gb203));clear HB;have HB := n0_;have BK203 := n1_;have GW203 := n2_;have GE203 := n3_;clear n0_ n1_ n2_ n3_;clear hb hbox hg));go_upto_region 1 with (first|((with_reducible refine gate_dst (N := 2) rfl ?_);(try (refine gate_guard (by rfl) ?_;dsimp only));refine box_event ?hg (N := 2) ?hd (cs := #[.int .u64 a0_0,.int .i64 a0_1,.int .i64 a0_2]) (t := 24) ?hr ?_;(case hd => rfl);(case hg => rfl);(case hr => first|(go_simp;done)|(go_simp;rfl));intro gb203 hg w4 hbox hb;have n0_ := Aside0.mk (below_step (by repeat (first|(with_reducible first|exact HB.out|apply below_alloc|apply pw_below_drewN|apply below_drew1)|exact HB.out)) hb);have n1_ := Aside0.mk (hbox);have n2_ := Aside0.mk ((by rw [hg];exact (below_size (by repeat (first|(with_reducible first|exact HB.out|apply below_alloc|apply pw_below_drewN|apply below_drew1)|exact HB.out))) : w.heap.size ≤ gb203));have n3_ := Aside0.mk ((by rw [hg];exact (below_size (by repeat (first|(with_reducible first|exact HB.out|apply below_alloc|apply pw_below_drewN|apply below_drew1)|exact HB.out))) : w.heap.size ≤ gb203));clear HB;have HB := n0_;have BK203 := n1_;have GW203 := n2_;have GE203 := n3_;clear n0_ n1_ n2_ n3_;clear hb hbox hg)))
 (try simp only [Act.put,List.setIfInBounds_toArray,List.set_cons_zero,List.set_cons_succ])
 go_cut [15] (fun v15 wc => ∃ (kq : Nat) (x15_2 : Bool),v15 = .bool x15_2 ∧ Aside0 (privityref12_ValidCoalition.j0 kq l1 x15_2 a0_0 a0_1 a0_2 = some r) ∧ Aside0 (kq ≤ k) ∧ Aside0 (wc.heap[gb203]? = some (.cells #[.int .u64 a0_0,.int .i64 a0_1,.int .i64 a0_2] 24 (0,0))) ∧ Aside0 (Below w.heap.size w wc))
 case first =>
  have H := HC3.out
  clear HC3
  replace H := Option.bind_eq_some_iff.mp H
  obtain ⟨t204,A50,H⟩ := H
  replace H : (if t204 = true then (privityref12_ValidCoalition.j0 k l1 (decide ((l1.length : Int) > a0_2)) a0_0 a0_1 a0_2) else (privityref12_ValidCoalition.j0 k l1 true a0_0 a0_1 a0_2)) = some r := H
  have A5 := Aside0.mk A50
  clear A50
  by_cases c6 : t204 = true
  ·subst c6
   have H1 : (privityref12_ValidCoalition.j0 k l1 (decide ((l1.length : Int) > a0_2)) a0_0 a0_1 a0_2) = some r := by rw [if_pos rfl] at H;exact H
   clear H
   have H := H1
   clear H1
   have H' := Aside0.mk H
   clear H
   have hcz7_0 : w4.cell? ⟨gb203,0,none⟩ = some (.int .u64 a0_0) := (blk_cell BK203.out 0).trans rfl
   have hcz7_1 : w4.cell? ⟨gb203,1,none⟩ = some (.int .i64 a0_1) := (blk_cell BK203.out 1).trans rfl
   have hcz7_2 : w4.cell? ⟨gb203,2,none⟩ = some (.int .i64 a0_2) := (blk_cell BK203.out 2).trans rfl
   have hfz7_0 := blk_frozen BK203.out 0
   have hfz7_1 := blk_frozen BK203.out 1
   have hfz7_2 := blk_frozen BK203.out 2
   go_wp2_with (first|(go_at_call 11;(with_reducible refine (privityref12_Valid.calls k a0_0 a0_1 a0_2 true _ A5.out).mono ?_);rintro e w8 ⟨rfl,hb⟩;have n0_ := Aside0.mk (blk_below (g := gb203) (o := .cells #[.int .u64 a0_0,.int .i64 a0_1,.int .i64 a0_2] 24 (0,0)) (by (with_reducible repeat (first|refine blk_drewN ?_ _|refine blk_drew ?_|refine blk_alloc ?_ _));exact BK203.out) hb);have n1_ := Aside0.mk (below_step (by repeat (first|(with_reducible first|exact HB.out|apply below_alloc|apply pw_below_drewN|apply below_drew1|refine below_set ?_ GE203.out)|exact HB.out)) hb);clear BK203;clear HB;have BK203 := n0_;have HB := n1_;clear n0_ n1_;(try clear hb);(try clear hb2);(try clear hk);(try clear hi);have hcz9_0 : w8.cell? ⟨gb203,0,none⟩ = some (.int .u64 a0_0) := (blk_cell BK203.out 0).trans rfl;have hcz9_1 : w8.cell? ⟨gb203,1,none⟩ = some (.int .i64 a0_1) := (blk_cell BK203.out 1).trans rfl;have hcz9_2 : w8.cell? ⟨gb203,2,none⟩ = some (.int .i64 a0_2) := (blk_cell BK203.out 2).trans rfl;have hfz9_0 := blk_frozen BK203.out 0;have hfz9_1 := blk_frozen BK203.out 1;have hfz9_2 := blk_frozen BK203.out 2))
   repeat (go_quiet (first|(go_at_call 11;(with_reducible refine (privityref12_Valid.calls k a0_0 a0_1 a0_2 true _ A5.out).mono ?_);rintro e w8 ⟨rfl,hb⟩;have n0_ := Aside0.mk (blk_below (g := gb203) (o := .cells #[.int .u64 a0_0,.int .i64 a0_1,.int .i64 a0_2] 24 (0,0)) (by (with_reducible repeat (first|refine blk_drewN ?_ _|refine blk_drew ?_|refine blk_alloc ?_ _));exact BK203.out) hb);have n1_ := Aside0.mk (below_step (by repeat (first|(with_reducible first|exact HB.out|apply below_alloc|apply pw_below_drewN|apply below_drew1|refine below_set ?_ GE203.out)|exact HB.out)) hb);clear BK203;clear HB;have BK203 := n0_;have HB := n1_;clear n0_ n1_;(try clear hb);(try clear hb2);(try clear hk);(try clear hi);have hcz9_0 : w8.cell? ⟨gb203,0,none⟩ = some (.int .u64 a0_0) := (blk_cell BK203.out 0).trans rfl;have hcz9_1 : w8.cell? ⟨gb203,1,none⟩ = some (.int .i64 a0_1) := (blk_cell BK203.out 1).trans rfl;have hcz9_2 : w8.cell? ⟨gb203,2,none⟩ = some (.int .i64 a0_2) := (blk_cell BK203.out 2).trans rfl;have hfz9_0 := blk_frozen BK203.out 0;have hfz9_1 := blk_frozen BK203.out 1;have hfz9_2 := blk_frozen BK203.out 2));try go_wp2_with (first|(go_at_call 11;(with_reducible refine (privityref12_Valid.calls k a0_0 a0_1 a0_2 true _ A5.out).mono ?_);rintro e w8 ⟨rfl,hb⟩;have n0_ := Aside0.mk (blk_below (g := gb203) (o := .cells #[.int .u64 a0_0,.int .i64 a0_1,.int .i64 a0_2] 24 (0,0)) (by (with_reducible repeat (first|refine blk_drewN ?_ _|refine blk_drew ?_|refine blk_alloc ?_ _));exact BK203.out) hb);have n1_ := Aside0.mk (below_step (by repeat (first|(with_reducible first|exact HB.out|apply below_alloc|apply pw_below_drewN|apply below_drew1|refine below_set ?_ GE203.out)|exact HB.out)) hb);clear BK203;clear HB;have BK203 := n0_;have HB := n1_;clear n0_ n1_;(try clear hb);(try clear hb2);(try clear hk);(try clear hi);have hcz9_0 : w8.cell? ⟨gb203,0,none⟩ = some (.int .u64 a0_0) := (blk_cell BK203.out 0).trans rfl;have hcz9_1 : w8.cell? ⟨gb203,1,none⟩ = some (.int .i64 a0_1) := (blk_cell BK203.out 1).trans rfl;have hcz9_2 : w8.cell? ⟨gb203,2,none⟩ = some (.int .i64 a0_2) := (blk_cell BK203.out 2).trans rfl;have hfz9_0 := blk_frozen BK203.out 0;have hfz9_1 := blk_frozen BK203.out 1;have hfz9_2 := blk_frozen BK203.out 2)))
   go_meet
   case rel => exact ⟨_,(decide ((l1.length : Int) > a0_2)),(by first|rfl|(simp;done)|(simp [*];done)),H',⟨by first|omega|exact Nat.le_refl _⟩,⟨by (with_reducible repeat (first|refine blk_drewN ?_ _|refine blk_drew ?_|refine blk_alloc ?_ _));exact BK203.out⟩,⟨by repeat (first|(with_reducible first|exact HB.out|apply below_alloc|apply pw_below_drewN|apply below_drew1|refine below_set ?_ GE203.out)|exact HB.out)⟩⟩
  ·replace c6 := Bool.eq_false_iff.mpr c6
   subst c6
   have H1 : (privityref12_ValidCoalition.j0 k l1 true a0_0 a0_1 a0_2) = some r := by rw [if_neg (show ¬ (false = true) by decide)] at H;exact H
   clear H
   have H := H1
   clear H1
   have H' := Aside0.mk H
   clear H
   have hcz10_0 : w4.cell? ⟨gb203,0,none⟩ = some (.int .u64 a0_0) := (blk_cell BK203.out 0).trans rfl
   have hcz10_1 : w4.cell? ⟨gb203,1,none⟩ = some (.int .i64 a0_1) := (blk_cell BK203.out 1).trans rfl
   have hcz10_2 : w4.cell? ⟨gb203,2,none⟩ = some (.int .i64 a0_2) := (blk_cell BK203.out 2).trans rfl
   have hfz10_0 := blk_frozen BK203.out 0
   have hfz10_1 := blk_frozen BK203.out 1
   have hfz10_2 := blk_frozen BK203.out 2
   go_wp2_with (first|(go_at_call 11;(with_reducible refine (privityref12_Valid.calls k a0_0 a0_1 a0_2 false _ A5.out).mono ?_);rintro e w11 ⟨rfl,hb⟩;have n0_ := Aside0.mk (blk_below (g := gb203) (o := .cells #[.int .u64 a0_0,.int .i64 a0_1,.int .i64 a0_2] 24 (0,0)) (by (with_reducible repeat (first|refine blk_drewN ?_ _|refine blk_drew ?_|refine blk_alloc ?_ _));exact BK203.out) hb);have n1_ := Aside0.mk (below_step (by repeat (first|(with_reducible first|exact HB.out|apply below_alloc|apply pw_below_drewN|apply below_drew1|refine below_set ?_ GE203.out)|exact HB.out)) hb);clear BK203;clear HB;have BK203 := n0_;have HB := n1_;clear n0_ n1_;(try clear hb);(try clear hb2);(try clear hk);(try clear hi)))
   repeat (go_quiet (first|(go_at_call 11;(with_reducible refine (privityref12_Valid.calls k a0_0 a0_1 a0_2 false _ A5.out).mono ?_);rintro e w11 ⟨rfl,hb⟩;have n0_ := Aside0.mk (blk_below (g := gb203) (o := .cells #[.int .u64 a0_0,.int .i64 a0_1,.int .i64 a0_2] 24 (0,0)) (by (with_reducible repeat (first|refine blk_drewN ?_ _|refine blk_drew ?_|refine blk_alloc ?_ _));exact BK203.out) hb);have n1_ := Aside0.mk (below_step (by repeat (first|(with_reducible first|exact HB.out|apply below_alloc|apply pw_below_drewN|apply below_drew1|refine below_set ?_ GE203.out)|exact HB.out)) hb);clear BK203;clear HB;have BK203 := n0_;have HB := n1_;clear n0_ n1_;(try clear hb);(try clear hb2);(try clear hk);(try clear hi)));try go_wp2_with (first|(go_at_call 11;(with_reducible refine (privityref12_Valid.calls k a0_0 a0_1 a0_2 false _ A5.out).mono ?_);rintro e w11 ⟨rfl,hb⟩;have n0_ := Aside0.mk (blk_below (g := gb203) (o := .cells #[.int .u64 a0_0,.int .i64 a0_1,.int .i64 a0_2] 24 (0,0)) (by (with_reducible repeat (first|refine blk_drewN ?_ _|refine blk_drew ?_|refine blk_alloc ?_ _));exact BK203.out) hb);have n1_ := Aside0.mk (below_step (by repeat (first|(with_reducible first|exact HB.out|apply below_alloc|apply pw_below_drewN|apply below_drew1|refine below_set ?_ GE203.out)|exact HB.out)) hb);clear BK203;clear HB;have BK203 := n0_;have HB := n1_;clear n0_ n1_;(try clear hb);(try clear hb2);(try clear hk);(try clear hi))))
   go_meet
   case rel => exact ⟨_,(true),(by first|rfl|(simp;done)|(simp [*];done)),H',⟨by first|omega|exact Nat.le_refl _⟩,⟨by (with_reducible repeat (first|refine blk_drewN ?_ _|refine blk_drew ?_|refine blk_alloc ?_ _));exact BK203.out⟩,⟨by repeat (first|(with_reducible first|exact HB.out|apply below_alloc|apply pw_below_drewN|apply below_drew1|refine below_set ?_ GE203.out)|exact HB.out)⟩⟩
 case rest =>
  clear HC3
  try clear c1
  try clear p2
  try clear c6
  try clear hcz10_0
  try clear hcz10_1
  try clear hcz10_2
  try clear hcz7_0
  try clear hcz7_1
  try clear hcz7_2
  try clear hcz9_0
  try clear hcz9_1
  try clear hcz9_2
  try clear hfz10_0
  try clear hfz10_1
  try clear hfz10_2
  try clear hfz7_0
  try clear hfz7_1
  try clear hfz7_2
  try clear hfz9_0
  try clear hfz9_1
  try clear hfz9_2
  obtain ⟨kq,x15_2,rfl,HA,HJ2,BK203,HB⟩ := hcut
  cases kq with
  | zero => exact absurd HA.out (by simp [privityref12_ValidCoalition.j0])
  | succ kj2 =>
   have H := HA.out
   clear HA
   simp only [privityref12_ValidCoalition.j0] at H
   by_cases c12 : x15_2 = true
   ·subst c12
    have H1 : (some false) = some r := by rw [if_pos rfl] at H;exact H
    clear H
    have H := H1
    clear H1
    obtain rfl := Option.some.inj H
    go_wp2
    repeat (go_quiet (fail);try go_wp2)
    go_ret
    exact ⟨by first|rfl|(simp [errW_none,errW_some] <;> rfl)|(simp [*,errW_none,errW_some] <;> rfl),by repeat (first|(with_reducible first|exact HB.out|apply below_alloc|apply pw_below_drewN|apply below_drew1|refine below_set ?_ GE203.out)|exact HB.out)⟩
   ·replace c12 := Bool.eq_false_iff.mpr c12
    subst c12
    have H1 : (privityref12_ValidCoalition.l0 kj2 l1 0 a0_0 a0_1 a0_2) = some r := by rw [if_neg (show ¬ (false = true) by decide)] at H;exact H
    clear H
    have H := H1
    clear H1
    have H' := Aside0.mk H
    clear H
    go_wp2
    repeat (go_quiet (fail);try go_wp2)
    go_loopg [5] kj2 (fun kq v5 w' => ∃ (x5_2 : Int),v5 = .int .i64 x5_2 ∧ Aside0 (privityref12_ValidCoalition.l0 kq l1 x5_2 a0_0 a0_1 a0_2 = some r) ∧ Aside0 (kq ≤ kj2) ∧ Aside0 (w'.heap[gb203]? = some (.cells #[.int .u64 a0_0,.int .i64 a0_1,.int .i64 a0_2] 24 (0,0))) ∧ Aside0 (Below w.heap.size w w'))
    case atStart => exact ⟨(0),(by first|rfl|(simp;done)|(simp [*];done)),H',⟨Nat.le_refl _⟩,⟨by (with_reducible repeat (first|refine blk_drewN ?_ _|refine blk_drew ?_|refine blk_alloc ?_ _));exact BK203.out⟩,⟨by repeat (first|(with_reducible first|exact HB.out|apply below_alloc|apply pw_below_drewN|apply below_drew1|refine below_set ?_ GE203.out)|exact HB.out)⟩⟩
    case round =>
     clear H'
     try clear c1
     try clear p2
     try clear c6
     try clear c12
     try clear hcz10_0
     try clear hcz10_1
     try clear hcz10_2
     try clear hcz7_0
     try clear hcz7_1
     try clear hcz7_2
     try clear hcz9_0
     try clear hcz9_1
     try clear hcz9_2
     try clear hfz10_0
     try clear hfz10_1
     try clear hfz10_2
     try clear hfz7_0
     try clear hfz7_1
     try clear hfz7_2
     try clear hfz9_0
     try clear hfz9_1
     try clear hfz9_2
     try clear p2
     obtain ⟨x5_2,rfl,HA,HK2,BK203,HB⟩ := hrel
     cases gk with
     | zero => exact absurd HA.out (by simp [privityref12_ValidCoalition.l0])
     | succ k2 =>
      have H := HA.out
      clear HA
      simp only [privityref12_ValidCoalition.l0] at H
      by_cases c13 : x5_2 < (l1.length : Int)
      ·rw [if_pos c13] at H
       have c13b0 : decide (x5_2 < (l1.length : Int)) = true := decide_eq_true c13
       clear c13
       by_cases c14 : 0 ≤ x5_2
       ·rw [if_pos c14] at H
        have c14b0 : decide (0 ≤ x5_2) = true := decide_eq_true c14
        clear c14
        by_cases c15 : (rd l1 x5_2) < 1
        ·rw [if_pos c15] at H
         have c15b0 : decide ((rd l1 x5_2) < 1) = true := decide_eq_true c15
         clear c15
         obtain rfl := Option.some.inj H
         have p205 : 0 ≤ (x5_2 : Int) := of_decide_eq_true (by first|(with_reducible assumption)|assumption)
         have q205 : x5_2 < (l1.length : Int) := of_decide_eq_true (by first|(with_reducible assumption)|assumption)
         obtain ⟨ad205,e205,hx205_0⟩ := Kd.at_int HR1.out x5_2 p205 q205
         cases e205
         replace hx205_0 := (HB.out.cell (World.block_lt_of_cell? w _ hx205_0)).trans hx205_0
         replace p205 := eq_true p205
         replace q205 := eq_true q205
         go_wp2
         repeat (go_quiet (fail);try go_wp2)
         go_ret
         exact ⟨by first|rfl|(simp [errW_none,errW_some] <;> rfl)|(simp [*,errW_none,errW_some] <;> rfl),by repeat (first|(with_reducible first|exact HB.out|apply below_alloc|apply pw_below_drewN|apply below_drew1|refine below_set ?_ GE203.out)|exact HB.out)⟩
        ·rw [if_neg c15] at H
         have c15b0 : decide ((rd l1 x5_2) < 1) = false := decide_eq_false c15
         clear c15
         by_cases c16 : (rd l1 x5_2) > a0_1
         ·rw [if_pos c16] at H
          have c16b0 : decide (a0_1 < (rd l1 x5_2)) = true := decide_eq_true c16
          clear c16
          obtain rfl := Option.some.inj H
          have p205 : 0 ≤ (x5_2 : Int) := of_decide_eq_true (by first|(with_reducible assumption)|assumption)
          have q205 : x5_2 < (l1.length : Int) := of_decide_eq_true (by first|(with_reducible assumption)|assumption)
          obtain ⟨ad205,e205,hx205_0⟩ := Kd.at_int HR1.out x5_2 p205 q205
          cases e205
          replace hx205_0 := (HB.out.cell (World.block_lt_of_cell? w _ hx205_0)).trans hx205_0
          replace p205 := eq_true p205
          replace q205 := eq_true q205
          have p206 : 0 ≤ (x5_2 : Int) := of_decide_eq_true (by first|(with_reducible assumption)|assumption)
          have q206 : x5_2 < (l1.length : Int) := of_decide_eq_true (by first|(with_reducible assumption)|assumption)
          obtain ⟨ad206,e206,hx206_0⟩ := Kd.at_int HR1.out x5_2 p206 q206
          obtain rfl : ad205 = ad206 := (by injection e206)
          replace hx206_0 := (HB.out.cell (World.block_lt_of_cell? w _ hx206_0)).trans hx206_0
          replace p206 := eq_true p206
          replace q206 := eq_true q206
          have hcz17_0 : wr.cell? ⟨gb203,0,none⟩ = some (.int .u64 a0_0) := (blk_cell BK203.out 0).trans rfl
          have hcz17_1 : wr.cell? ⟨gb203,1,none⟩ = some (.int .i64 a0_1) := (blk_cell BK203.out 1).trans rfl
          have hcz17_2 : wr.cell? ⟨gb203,2,none⟩ = some (.int .i64 a0_2) := (blk_cell BK203.out 2).trans rfl
          have hfz17_0 := blk_frozen BK203.out 0
          have hfz17_1 := blk_frozen BK203.out 1
          have hfz17_2 := blk_frozen BK203.out 2
          go_wp2
          repeat (go_quiet (fail);try go_wp2)
          go_ret
          exact ⟨by first|rfl|(simp [errW_none,errW_some] <;> rfl)|(simp [*,errW_none,errW_some] <;> rfl),by repeat (first|(with_reducible first|exact HB.out|apply below_alloc|apply pw_below_drewN|apply below_drew1|refine below_set ?_ GE203.out)|exact HB.out)⟩
         ·rw [if_neg c16] at H
          have c16b0 : decide (a0_1 < (rd l1 x5_2)) = false := decide_eq_false c16
          clear c16
          by_cases c18 : x5_2 > 0
          ·rw [if_pos c18] at H
           have c18b0 : decide (0 < x5_2) = true := decide_eq_true c18
           clear c18
           obtain ⟨ji19,hji19⟩ : ∃ j_ : Int,(wrap64 (x5_2 - 1)) = j_ := ⟨_,rfl⟩
           replace H : (if 0 ≤ (ji19) then (if (ji19) < (l1.length : Int) then (if (rd l1 x5_2) ≤ (rd l1 (ji19)) then (some false) else (privityref12_ValidCoalition.l0 k2 l1 (wrap64 (x5_2 + 1)) a0_0 a0_1 a0_2)) else (none)) else (none)) = some r := by first|(rw [hji19] at H;exact H)|(simp only [hji19] at H ⊢;exact H)
           have hji19w : (IntKind.i64.wrap (x5_2 - 1)) = ji19 := (i64_w _).trans hji19
           by_cases c20 : 0 ≤ (ji19)
           ·rw [if_pos c20] at H
            have c20b0 : decide (0 ≤ (ji19)) = true := decide_eq_true c20
            clear c20
            by_cases c21 : (ji19) < (l1.length : Int)
            ·rw [if_pos c21] at H
             have c21b0 : decide ((ji19) < (l1.length : Int)) = true := decide_eq_true c21
             clear c21
             by_cases c22 : (rd l1 x5_2) ≤ (rd l1 (ji19))
             ·rw [if_pos c22] at H
              have c22b0 : decide ((rd l1 x5_2) ≤ (rd l1 (ji19))) = true := decide_eq_true c22
              clear c22
              obtain rfl := Option.some.inj H
              have p205 : 0 ≤ (x5_2 : Int) := of_decide_eq_true (by first|(with_reducible assumption)|assumption)
              have q205 : x5_2 < (l1.length : Int) := of_decide_eq_true (by first|(with_reducible assumption)|assumption)
              obtain ⟨ad205,e205,hx205_0⟩ := Kd.at_int HR1.out x5_2 p205 q205
              cases e205
              replace hx205_0 := (HB.out.cell (World.block_lt_of_cell? w _ hx205_0)).trans hx205_0
              replace p205 := eq_true p205
              replace q205 := eq_true q205
              have p206 : 0 ≤ (x5_2 : Int) := of_decide_eq_true (by first|(with_reducible assumption)|assumption)
              have q206 : x5_2 < (l1.length : Int) := of_decide_eq_true (by first|(with_reducible assumption)|assumption)
              obtain ⟨ad206,e206,hx206_0⟩ := Kd.at_int HR1.out x5_2 p206 q206
              obtain rfl : ad205 = ad206 := (by injection e206)
              replace hx206_0 := (HB.out.cell (World.block_lt_of_cell? w _ hx206_0)).trans hx206_0
              replace p206 := eq_true p206
              replace q206 := eq_true q206
              have hcz23_0 : wr.cell? ⟨gb203,0,none⟩ = some (.int .u64 a0_0) := (blk_cell BK203.out 0).trans rfl
              have hcz23_1 : wr.cell? ⟨gb203,1,none⟩ = some (.int .i64 a0_1) := (blk_cell BK203.out 1).trans rfl
              have hcz23_2 : wr.cell? ⟨gb203,2,none⟩ = some (.int .i64 a0_2) := (blk_cell BK203.out 2).trans rfl
              have hfz23_0 := blk_frozen BK203.out 0
              have hfz23_1 := blk_frozen BK203.out 1
              have hfz23_2 := blk_frozen BK203.out 2
              have p207 : 0 ≤ (x5_2 : Int) := of_decide_eq_true (by first|(with_reducible assumption)|assumption)
              have q207 : x5_2 < (l1.length : Int) := of_decide_eq_true (by first|(with_reducible assumption)|assumption)
              obtain ⟨ad207,e207,hx207_0⟩ := Kd.at_int HR1.out x5_2 p207 q207
              obtain rfl : ad205 = ad207 := (by injection e207)
              replace hx207_0 := (HB.out.cell (World.block_lt_of_cell? w _ hx207_0)).trans hx207_0
              replace p207 := eq_true p207
              replace q207 := eq_true q207
              have p208 : 0 ≤ ((ji19) : Int) := of_decide_eq_true (by first|(with_reducible assumption)|assumption)
              have q208 : (ji19) < (l1.length : Int) := of_decide_eq_true (by first|(with_reducible assumption)|assumption)
              obtain ⟨ad208,e208,hx208_0⟩ := Kd.at_int HR1.out (ji19) p208 q208
              obtain rfl : ad205 = ad208 := (by injection e208)
              replace hx208_0 := (HB.out.cell (World.block_lt_of_cell? w _ hx208_0)).trans hx208_0
              replace p208 := eq_true p208
              replace q208 := eq_true q208
              go_wp2
              repeat (go_quiet (fail);try go_wp2)
              go_ret
              exact ⟨by first|rfl|(simp [errW_none,errW_some] <;> rfl)|(simp only [← hji19];first|rfl|(simp [errW_none,errW_some] <;> rfl))|(simp [*,errW_none,errW_some] <;> rfl),by repeat (first|(with_reducible first|exact HB.out|apply below_alloc|apply pw_below_drewN|apply below_drew1|refine below_set ?_ GE203.out)|exact HB.out)⟩
             ·rw [if_neg c22] at H
              have c22b0 : decide ((rd l1 x5_2) ≤ (rd l1 (ji19))) = false := decide_eq_false c22
              clear c22
              have H' := Aside0.mk H
              clear H
              have p205 : 0 ≤ (x5_2 : Int) := of_decide_eq_true (by first|(with_reducible assumption)|assumption)
              have q205 : x5_2 < (l1.length : Int) := of_decide_eq_true (by first|(with_reducible assumption)|assumption)
              obtain ⟨ad205,e205,hx205_0⟩ := Kd.at_int HR1.out x5_2 p205 q205
              cases e205
              replace hx205_0 := (HB.out.cell (World.block_lt_of_cell? w _ hx205_0)).trans hx205_0
              replace p205 := eq_true p205
              replace q205 := eq_true q205
              have p206 : 0 ≤ (x5_2 : Int) := of_decide_eq_true (by first|(with_reducible assumption)|assumption)
              have q206 : x5_2 < (l1.length : Int) := of_decide_eq_true (by first|(with_reducible assumption)|assumption)
              obtain ⟨ad206,e206,hx206_0⟩ := Kd.at_int HR1.out x5_2 p206 q206
              obtain rfl : ad205 = ad206 := (by injection e206)
              replace hx206_0 := (HB.out.cell (World.block_lt_of_cell? w _ hx206_0)).trans hx206_0
              replace p206 := eq_true p206
              replace q206 := eq_true q206
              have hcz24_0 : wr.cell? ⟨gb203,0,none⟩ = some (.int .u64 a0_0) := (blk_cell BK203.out 0).trans rfl
              have hcz24_1 : wr.cell? ⟨gb203,1,none⟩ = some (.int .i64 a0_1) := (blk_cell BK203.out 1).trans rfl
              have hcz24_2 : wr.cell? ⟨gb203,2,none⟩ = some (.int .i64 a0_2) := (blk_cell BK203.out 2).trans rfl
              have hfz24_0 := blk_frozen BK203.out 0
              have hfz24_1 := blk_frozen BK203.out 1
              have hfz24_2 := blk_frozen BK203.out 2
              have p207 : 0 ≤ (x5_2 : Int) := of_decide_eq_true (by first|(with_reducible assumption)|assumption)
              have q207 : x5_2 < (l1.length : Int) := of_decide_eq_true (by first|(with_reducible assumption)|assumption)
              obtain ⟨ad207,e207,hx207_0⟩ := Kd.at_int HR1.out x5_2 p207 q207
              obtain rfl : ad205 = ad207 := (by injection e207)
              replace hx207_0 := (HB.out.cell (World.block_lt_of_cell? w _ hx207_0)).trans hx207_0
              replace p207 := eq_true p207
              replace q207 := eq_true q207
              have p208 : 0 ≤ ((ji19) : Int) := of_decide_eq_true (by first|(with_reducible assumption)|assumption)
              have q208 : (ji19) < (l1.length : Int) := of_decide_eq_true (by first|(with_reducible assumption)|assumption)
              obtain ⟨ad208,e208,hx208_0⟩ := Kd.at_int HR1.out (ji19) p208 q208
              obtain rfl : ad205 = ad208 := (by injection e208)
              replace hx208_0 := (HB.out.cell (World.block_lt_of_cell? w _ hx208_0)).trans hx208_0
              replace p208 := eq_true p208
              replace q208 := eq_true q208
              go_wp2
              repeat (go_quiet (fail);try go_wp2)
              go_roundg k2
              case measure => have := HJ2.out;have := HK2.out;omega
              case rel => exact ⟨(wrap64 (x5_2 + 1)),(by first|rfl|(simp;done)|(simp [*];done)),H',⟨by have := HJ2.out;have := HK2.out;omega⟩,⟨by (with_reducible repeat (first|refine blk_drewN ?_ _|refine blk_drew ?_|refine blk_alloc ?_ _));exact BK203.out⟩,⟨by repeat (first|(with_reducible first|exact HB.out|apply below_alloc|apply pw_below_drewN|apply below_drew1|refine below_set ?_ GE203.out)|exact HB.out)⟩⟩
            ·rw [if_neg c21] at H
             exact absurd H (by simp)
           ·rw [if_neg c20] at H
            exact absurd H (by simp)
          ·rw [if_neg c18] at H
           have c18b0 : decide (0 < x5_2) = false := decide_eq_false c18
           clear c18
           have H' := Aside0.mk H
           clear H
           have p205 : 0 ≤ (x5_2 : Int) := of_decide_eq_true (by first|(with_reducible assumption)|assumption)
           have q205 : x5_2 < (l1.length : Int) := of_decide_eq_true (by first|(with_reducible assumption)|assumption)
           obtain ⟨ad205,e205,hx205_0⟩ := Kd.at_int HR1.out x5_2 p205 q205
           cases e205
           replace hx205_0 := (HB.out.cell (World.block_lt_of_cell? w _ hx205_0)).trans hx205_0
           replace p205 := eq_true p205
           replace q205 := eq_true q205
           have p206 : 0 ≤ (x5_2 : Int) := of_decide_eq_true (by first|(with_reducible assumption)|assumption)
           have q206 : x5_2 < (l1.length : Int) := of_decide_eq_true (by first|(with_reducible assumption)|assumption)
           obtain ⟨ad206,e206,hx206_0⟩ := Kd.at_int HR1.out x5_2 p206 q206
           obtain rfl : ad205 = ad206 := (by injection e206)
           replace hx206_0 := (HB.out.cell (World.block_lt_of_cell? w _ hx206_0)).trans hx206_0
           replace p206 := eq_true p206
           replace q206 := eq_true q206
           have hcz25_0 : wr.cell? ⟨gb203,0,none⟩ = some (.int .u64 a0_0) := (blk_cell BK203.out 0).trans rfl
           have hcz25_1 : wr.cell? ⟨gb203,1,none⟩ = some (.int .i64 a0_1) := (blk_cell BK203.out 1).trans rfl
           have hcz25_2 : wr.cell? ⟨gb203,2,none⟩ = some (.int .i64 a0_2) := (blk_cell BK203.out 2).trans rfl
           have hfz25_0 := blk_frozen BK203.out 0
           have hfz25_1 := blk_frozen BK203.out 1
           have hfz25_2 := blk_frozen BK203.out 2
           go_wp2
           repeat (go_quiet (fail);try go_wp2)
           go_roundg k2
           case measure => have := HJ2.out;have := HK2.out;omega
           case rel => exact ⟨(wrap64 (x5_2 + 1)),(by first|rfl|(simp;done)|(simp [*];done)),H',⟨by have := HJ2.out;have := HK2.out;omega⟩,⟨by (with_reducible repeat (first|refine blk_drewN ?_ _|refine blk_drew ?_|refine blk_alloc ?_ _));exact BK203.out⟩,⟨by repeat (first|(with_reducible first|exact HB.out|apply below_alloc|apply pw_below_drewN|apply below_drew1|refine below_set ?_ GE203.out)|exact HB.out)⟩⟩
       ·rw [if_neg c14] at H
        exact absurd H (by simp)
      ·rw [if_neg c13] at H
       have c13b0 : decide (x5_2 < (l1.length : Int)) = false := decide_eq_false c13
       clear c13
       obtain rfl := Option.some.inj H
       go_wp2
       repeat (go_quiet (fail);try go_wp2)
       go_ret
       exact ⟨by first|rfl|(simp [errW_none,errW_some] <;> rfl)|(simp [*,errW_none,errW_some] <;> rfl),by repeat (first|(with_reducible first|exact HB.out|apply below_alloc|apply pw_below_drewN|apply below_drew1|refine below_set ?_ GE203.out)|exact HB.out)⟩
end Go.Proofs.YtakaonojfpkhnaaDoor.Pr
end
