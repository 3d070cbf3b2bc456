/- Part 4 of the proof's texts, joined in build order. -/
import Derived.Test.YtakaonojfpkhnaaDoorZValidScenarioMatchesReference1
import Derived.Test.YtakaonojfpkhnaaDoorZValidScenarioMatchesReference3
import Derived.Test.YtakaonojfpkhnaaDoorZValidScenarioMatchesReference0
import Derived.Laws.CopyOwn
import Derived.Deep.WholeRow
section
/- Printed by a program of this seat (the kit's printer, with the functions that were proved by hand given to it). What stands here: the functions that the statements reach, as plain functions, and that the Go code computes them. -/
namespace Go.Proofs.YtakaonojfpkhnaaDoor.Pr
open Go.RowKit Go.Proofs.YtakaonojfpkhnaaDoorW.PrintWords Go.Proofs.YtakaonojfpkhnaaDoorW.PrintLast Go.Proofs.YtakaonojfpkhnaaDoorW.PrintMore
attribute [local go_sem] max2_int min2_int max_two min_two max_three min_three max_four min_four   -- for this text's walks alone
set_option linter.unusedVariables false
set_option linter.unusedSimpArgs false

open Go.Proofs.YtakaonojfpkhnaaDoor.Hw
/-! ### field_Supported: function 28 -/
def field_Supported.f (a0 : Int) : Option (Bool) := (field_Exponent.f a0).bind fun t140 => (some (t140 != 0))
set_option maxHeartbeats 8000000 in
set_option maxRecDepth 100000 in
theorem field_Supported.calls (a0 : Int) (r : Bool) (w : World) (hx_ : Hx w) (h : field_Supported.f a0 = some r) :
  Calls Tryd.prog 28 #[.int .u64 a0] w fun e w' => e = .returned (.bool r) ∧ Drawn0 w w' := by
 have HX_ := Aside0.mk hx_
 clear hx_
 have H : ((field_Exponent.f a0).bind fun t140 => (some (t140 != 0))) = some r := h
 clear h
 replace H := Option.bind_eq_some_iff.mp H
 obtain ⟨t140,A20,H⟩ := H
 replace H : (some (t140 != 0)) = some r := H
 have A2 := Aside0.mk A20
 clear A20
 obtain rfl := Option.some.inj H
 go_enter Tryd.func28,Tryd.ntmps28
 go_wp2_with (first|((with_reducible refine gate_callee (f := 45) rfl ?_);refine goesL_ (some 4) rfl rfl Tryd.func45 (by kernel_rfl) rfl #[.int .u64 a0] rfl (by (try simp only [List.map_toArray,List.map_cons,List.map_nil]);first|done|rfl|(simp only [List.length_drop,List.length_take];rfl)) ?_;(with_reducible refine (field_Exponent.calls a0 t140 _ ?sidehx A2.out).mono ?_);(case sidehx => repeat (first|exact HX_.out|exact (Hx_below HX_.out HB.out)|(with_reducible refine Hx_alloc ?_ _)|(with_reducible refine Hx_drewN ?_ _)|(with_reducible refine Hx_drew ?_)));rintro e w' ⟨rfl,⟨nd,rfl⟩⟩;refine ⟨_,rfl,?_⟩))
 go_ret
 exact ⟨by first|rfl|(simp;done)|(simp [*];done),by repeat (first|exact Drawn0.refl _|apply Drawn0.step)⟩
/-! ### params_Valid: function 10 -/
def params_Valid.f (a0_0 : Int) (a0_1 : Int) (a0_2 : Int) : Option (Bool) := (field_Supported.f a0_0).bind fun t142 => (if t142 = true then (if a0_1 ≥ 4 then (if a0_1 ≤ 13 then (if (IntKind.u64.wrap (a0_1)) < a0_0 then (if a0_2 ≥ 1 then (if a0_2 < a0_1 then (some (decide ((wrap64 (3 * a0_2)) < a0_1))) else (some false)) else (some false)) else (some false)) else (some false)) else (some false)) else (some false))
set_option maxHeartbeats 8000000 in
set_option maxRecDepth 100000 in
theorem params_Valid.calls (a0_0 : Int) (a0_1 : Int) (a0_2 : Int) (r : Bool) (w : World) (hx_ : Hx w) (h : params_Valid.f a0_0 a0_1 a0_2 = some r) :
  Calls Tryd.prog 10 #[.agg #[.int .u64 a0_0,.int .i64 a0_1,.int .i64 a0_2]] w fun e w' => e = .returned (.bool r) ∧ Below w.heap.size w w' := by
 have HX_ := Aside0.mk hx_
 clear hx_
 have hu24 := Tryd.underlying24
 have HB := Aside0.mk (Below.refl w.heap.size w)
 have H : ((field_Supported.f a0_0).bind fun t142 => (if t142 = true then (if a0_1 ≥ 4 then (if a0_1 ≤ 13 then (if (IntKind.u64.wrap (a0_1)) < a0_0 then (if a0_2 ≥ 1 then (if a0_2 < a0_1 then (some (decide ((wrap64 (3 * a0_2)) < a0_1))) else (some false)) else (some false)) else (some false)) else (some false)) else (some false)) else (some false))) = some r := h
 clear h
 replace H := Option.bind_eq_some_iff.mp H
 obtain ⟨t142,A20,H⟩ := H
 replace H : (if t142 = true then (if a0_1 ≥ 4 then (if a0_1 ≤ 13 then (if (IntKind.u64.wrap (a0_1)) < a0_0 then (if a0_2 ≥ 1 then (if a0_2 < a0_1 then (some (decide ((wrap64 (3 * a0_2)) < a0_1))) else (some false)) else (some false)) else (some false)) else (some false)) else (some false)) else (some false)) = some r := H
 have A2 := Aside0.mk A20
 clear A20
 by_cases c3 : t142 = true
 ·subst c3
  have H1 : (if a0_1 ≥ 4 then (if a0_1 ≤ 13 then (if (IntKind.u64.wrap (a0_1)) < a0_0 then (if a0_2 ≥ 1 then (if a0_2 < a0_1 then (some (decide ((wrap64 (3 * a0_2)) < a0_1))) else (some false)) else (some false)) else (some false)) else (some false)) else (some false)) = some r := by rw [if_pos rfl] at H;exact H
  clear H
  have H := H1
  clear H1
  by_cases c4 : a0_1 ≥ 4
  ·rw [if_pos c4] at H
   have c4b0 : decide (4 ≤ a0_1) = true := decide_eq_true c4
   clear c4
   by_cases c5 : a0_1 ≤ 13
   ·rw [if_pos c5] at H
    have c5b0 : decide (a0_1 ≤ 13) = true := decide_eq_true c5
    clear c5
    by_cases c6 : (IntKind.u64.wrap (a0_1)) < a0_0
    ·rw [if_pos c6] at H
     have c6b0 : decide ((IntKind.u64.wrap (a0_1)) < a0_0) = true := decide_eq_true c6
     clear c6
     by_cases c7 : a0_2 ≥ 1
     ·rw [if_pos c7] at H
      have c7b0 : decide (1 ≤ a0_2) = true := decide_eq_true c7
      clear c7
      by_cases c8 : a0_2 < a0_1
      ·rw [if_pos c8] at H
       have c8b0 : decide (a0_2 < a0_1) = true := decide_eq_true c8
       clear c8
       obtain rfl := Option.some.inj H
       go_enter Tryd.func10,Tryd.ntmps10
       go_wp2_with (first|((with_reducible refine gate_dst (N := 1) rfl ?_);refine box_event ?hg (N := 1) ?hd (cs := #[.int .u64 a0_0,.int .i64 a0_1,.int .i64 a0_2]) (t := 24) ?hr ?_;(case hd => rfl);(case hg => rfl);(case hr => first|(go_simp;done)|(go_simp;rfl));intro gb141 hg w9 hbox hb;have n0_ := Aside0.mk (below_step (by repeat (first|(with_reducible first|exact HB.out|apply below_alloc|apply pw_below_drewN|apply below_drew1)|exact HB.out)) hb);have n1_ := Aside0.mk (hbox);have n2_ := Aside0.mk ((by rw [hg];exact (below_size (by repeat (first|(with_reducible first|exact HB.out|apply below_alloc|apply pw_below_drewN|apply below_drew1)|exact HB.out))) : w.heap.size ≤ gb141));have n3_ := Aside0.mk ((by rw [hg];exact (below_size (by repeat (first|(with_reducible first|exact HB.out|apply below_alloc|apply pw_below_drewN|apply below_drew1)|exact HB.out))) : w.heap.size ≤ gb141));clear HB;have HB := n0_;have BK141 := n1_;have GW141 := n2_;have GE141 := n3_;clear n0_ n1_ n2_ n3_;clear hb hbox hg;have hcz10_0 : w9.cell? ⟨gb141,0,none⟩ = some (.int .u64 a0_0) := (blk_cell BK141.out 0).trans rfl;have hcz10_1 : w9.cell? ⟨gb141,1,none⟩ = some (.int .i64 a0_1) := (blk_cell BK141.out 1).trans rfl;have hcz10_2 : w9.cell? ⟨gb141,2,none⟩ = some (.int .i64 a0_2) := (blk_cell BK141.out 2).trans rfl;have hfz10_0 := blk_frozen BK141.out 0;have hfz10_1 := blk_frozen BK141.out 1;have hfz10_2 := blk_frozen BK141.out 2)|((with_reducible refine gate_callee (f := 28) rfl ?_);refine goesL_ (some 5) rfl rfl Tryd.func28 (by kernel_rfl) rfl #[.int .u64 a0_0] rfl (by (try simp only [List.map_toArray,List.map_cons,List.map_nil]);first|done|rfl|(simp only [List.length_drop,List.length_take];rfl)) ?_;(with_reducible refine (field_Supported.calls a0_0 true _ ?sidehx A2.out).mono ?_);(case sidehx => repeat (first|exact HX_.out|exact (Hx_below HX_.out HB.out)|(with_reducible refine Hx_alloc ?_ _)|(with_reducible refine Hx_drewN ?_ _)|(with_reducible refine Hx_drew ?_)));rintro e w' ⟨rfl,⟨nd,rfl⟩⟩;refine ⟨_,rfl,?_⟩))
       go_ret
       exact ⟨by first|rfl|(simp [errW_none,errW_some] <;> rfl)|(simp [*,errW_none,errW_some] <;> rfl),by repeat (first|(with_reducible first|exact HB.out|apply below_alloc|apply pw_below_drewN|apply below_drew1|refine below_set ?_ GE141.out)|exact HB.out)⟩
      ·rw [if_neg c8] at H
       have c8b0 : decide (a0_2 < a0_1) = false := decide_eq_false c8
       clear c8
       obtain rfl := Option.some.inj H
       go_enter Tryd.func10,Tryd.ntmps10
       go_wp2_with (first|((with_reducible refine gate_dst (N := 1) rfl ?_);refine box_event ?hg (N := 1) ?hd (cs := #[.int .u64 a0_0,.int .i64 a0_1,.int .i64 a0_2]) (t := 24) ?hr ?_;(case hd => rfl);(case hg => rfl);(case hr => first|(go_simp;done)|(go_simp;rfl));intro gb141 hg w11 hbox hb;have n0_ := Aside0.mk (below_step (by repeat (first|(with_reducible first|exact HB.out|apply below_alloc|apply pw_below_drewN|apply below_drew1)|exact HB.out)) hb);have n1_ := Aside0.mk (hbox);have n2_ := Aside0.mk ((by rw [hg];exact (below_size (by repeat (first|(with_reducible first|exact HB.out|apply below_alloc|apply pw_below_drewN|apply below_drew1)|exact HB.out))) : w.heap.size ≤ gb141));have n3_ := Aside0.mk ((by rw [hg];exact (below_size (by repeat (first|(with_reducible first|exact HB.out|apply below_alloc|apply pw_below_drewN|apply below_drew1)|exact HB.out))) : w.heap.size ≤ gb141));clear HB;have HB := n0_;have BK141 := n1_;have GW141 := n2_;have GE141 := n3_;clear n0_ n1_ n2_ n3_;clear hb hbox hg;have hcz12_0 : w11.cell? ⟨gb141,0,none⟩ = some (.int .u64 a0_0) := (blk_cell BK141.out 0).trans rfl;have hcz12_1 : w11.cell? ⟨gb141,1,none⟩ = some (.int .i64 a0_1) := (blk_cell BK141.out 1).trans rfl;have hcz12_2 : w11.cell? ⟨gb141,2,none⟩ = some (.int .i64 a0_2) := (blk_cell BK141.out 2).trans rfl;have hfz12_0 := blk_frozen BK141.out 0;have hfz12_1 := blk_frozen BK141.out 1;have hfz12_2 := blk_frozen BK141.out 2)|((with_reducible refine gate_callee (f := 28) rfl ?_);refine goesL_ (some 5) rfl rfl Tryd.func28 (by kernel_rfl) rfl #[.int .u64 a0_0] rfl (by (try simp only [List.map_toArray,List.map_cons,List.map_nil]);first|done|rfl|(simp only [List.length_drop,List.length_take];rfl)) ?_;(with_reducible refine (field_Supported.calls a0_0 true _ ?sidehx A2.out).mono ?_);(case sidehx => repeat (first|exact HX_.out|exact (Hx_below HX_.out HB.out)|(with_reducible refine Hx_alloc ?_ _)|(with_reducible refine Hx_drewN ?_ _)|(with_reducible refine Hx_drew ?_)));rintro e w' ⟨rfl,⟨nd,rfl⟩⟩;refine ⟨_,rfl,?_⟩))
       go_ret
       exact ⟨by first|rfl|(simp [errW_none,errW_some] <;> rfl)|(simp [*,errW_none,errW_some] <;> rfl),by repeat (first|(with_reducible first|exact HB.out|apply below_alloc|apply pw_below_drewN|apply below_drew1|refine below_set ?_ GE141.out)|exact HB.out)⟩
     ·rw [if_neg c7] at H
      have c7b0 : decide (1 ≤ a0_2) = false := decide_eq_false c7
      clear c7
      obtain rfl := Option.some.inj H
      go_enter Tryd.func10,Tryd.ntmps10
      go_wp2_with (first|((with_reducible refine gate_dst (N := 1) rfl ?_);refine box_event ?hg (N := 1) ?hd (cs := #[.int .u64 a0_0,.int .i64 a0_1,.int .i64 a0_2]) (t := 24) ?hr ?_;(case hd => rfl);(case hg => rfl);(case hr => first|(go_simp;done)|(go_simp;rfl));intro gb141 hg w13 hbox hb;have n0_ := Aside0.mk (below_step (by repeat (first|(with_reducible first|exact HB.out|apply below_alloc|apply pw_below_drewN|apply below_drew1)|exact HB.out)) hb);have n1_ := Aside0.mk (hbox);have n2_ := Aside0.mk ((by rw [hg];exact (below_size (by repeat (first|(with_reducible first|exact HB.out|apply below_alloc|apply pw_below_drewN|apply below_drew1)|exact HB.out))) : w.heap.size ≤ gb141));have n3_ := Aside0.mk ((by rw [hg];exact (below_size (by repeat (first|(with_reducible first|exact HB.out|apply below_alloc|apply pw_below_drewN|apply below_drew1)|exact HB.out))) : w.heap.size ≤ gb141));clear HB;have HB := n0_;have BK141 := n1_;have GW141 := n2_;have GE141 := n3_;clear n0_ n1_ n2_ n3_;clear hb hbox hg;have hcz14_0 : w13.cell? ⟨gb141,0,none⟩ = some (.int .u64 a0_0) := (blk_cell BK141.out 0).trans rfl;have hcz14_1 : w13.cell? ⟨gb141,1,none⟩ = some (.int .i64 a0_1) := (blk_cell BK141.out 1).trans rfl;have hcz14_2 : w13.cell? ⟨gb141,2,none⟩ = some (.int .i64 a0_2) := (blk_cell BK141.out 2).trans rfl;have hfz14_0 := blk_frozen BK141.out 0;have hfz14_1 := blk_frozen BK141.out 1;have hfz14_2 := blk_frozen BK141.out 2)|((with_reducible refine gate_callee (f := 28) rfl ?_);refine goesL_ (some 5) rfl rfl Tryd.func28 (by kernel_rfl) rfl #[.int .u64 a0_0] rfl (by (try simp only [List.map_toArray,List.map_cons,List.map_nil]);first|done|rfl|(simp only [List.length_drop,List.length_take];rfl)) ?_;(with_reducible refine (field_Supported.calls a0_0 true _ ?sidehx A2.out).mono ?_);(case sidehx => repeat (first|exact HX_.out|exact (Hx_below HX_.out HB.out)|(with_reducible refine Hx_alloc ?_ _)|(with_reducible refine Hx_drewN ?_ _)|(with_reducible refine Hx_drew ?_)));rintro e w' ⟨rfl,⟨nd,rfl⟩⟩;refine ⟨_,rfl,?_⟩))
      go_ret
      exact ⟨by first|rfl|(simp [errW_none,errW_some] <;> rfl)|(simp [*,errW_none,errW_some] <;> rfl),by repeat (first|(with_reducible first|exact HB.out|apply below_alloc|apply pw_below_drewN|apply below_drew1|refine below_set ?_ GE141.out)|exact HB.out)⟩
    ·rw [if_neg c6] at H
     have c6b0 : decide ((IntKind.u64.wrap (a0_1)) < a0_0) = false := decide_eq_false c6
     clear c6
     obtain rfl := Option.some.inj H
     go_enter Tryd.func10,Tryd.ntmps10
     go_wp2_with (first|((with_reducible refine gate_dst (N := 1) rfl ?_);refine box_event ?hg (N := 1) ?hd (cs := #[.int .u64 a0_0,.int .i64 a0_1,.int .i64 a0_2]) (t := 24) ?hr ?_;(case hd => rfl);(case hg => rfl);(case hr => first|(go_simp;done)|(go_simp;rfl));intro gb141 hg w15 hbox hb;have n0_ := Aside0.mk (below_step (by repeat (first|(with_reducible first|exact HB.out|apply below_alloc|apply pw_below_drewN|apply below_drew1)|exact HB.out)) hb);have n1_ := Aside0.mk (hbox);have n2_ := Aside0.mk ((by rw [hg];exact (below_size (by repeat (first|(with_reducible first|exact HB.out|apply below_alloc|apply pw_below_drewN|apply below_drew1)|exact HB.out))) : w.heap.size ≤ gb141));have n3_ := Aside0.mk ((by rw [hg];exact (below_size (by repeat (first|(with_reducible first|exact HB.out|apply below_alloc|apply pw_below_drewN|apply below_drew1)|exact HB.out))) : w.heap.size ≤ gb141));clear HB;have HB := n0_;have BK141 := n1_;have GW141 := n2_;have GE141 := n3_;clear n0_ n1_ n2_ n3_;clear hb hbox hg;have hcz16_0 : w15.cell? ⟨gb141,0,none⟩ = some (.int .u64 a0_0) := (blk_cell BK141.out 0).trans rfl;have hcz16_1 : w15.cell? ⟨gb141,1,none⟩ = some (.int .i64 a0_1) := (blk_cell BK141.out 1).trans rfl;have hcz16_2 : w15.cell? ⟨gb141,2,none⟩ = some (.int .i64 a0_2) := (blk_cell BK141.out 2).trans rfl;have hfz16_0 := blk_frozen BK141.out 0;have hfz16_1 := blk_frozen BK141.out 1;have hfz16_2 := blk_frozen BK141.out 2)|((with_reducible refine gate_callee (f := 28) rfl ?_);refine goesL_ (some 5) rfl rfl Tryd.func28 (by kernel_rfl) rfl #[.int .u64 a0_0] rfl (by (try simp only [List.map_toArray,List.map_cons,List.map_nil]);first|done|rfl|(simp only [List.length_drop,List.length_take];rfl)) ?_;(with_reducible refine (field_Supported.calls a0_0 true _ ?sidehx A2.out).mono ?_);(case sidehx => repeat (first|exact HX_.out|exact (Hx_below HX_.out HB.out)|(with_reducible refine Hx_alloc ?_ _)|(with_reducible refine Hx_drewN ?_ _)|(with_reducible refine Hx_drew ?_)));rintro e w' ⟨rfl,⟨nd,rfl⟩⟩;refine ⟨_,rfl,?_⟩))
     go_ret
     exact ⟨by first|rfl|(simp [errW_none,errW_some] <;> rfl)|(simp [*,errW_none,errW_some] <;> rfl),by repeat (first|(with_reducible first|exact HB.out|apply below_alloc|apply pw_below_drewN|apply below_drew1|refine below_set ?_ GE141.out)|exact HB.out)⟩
   ·rw [if_neg c5] at H
    have c5b0 : decide (a0_1 ≤ 13) = false := decide_eq_false c5
    clear c5
    obtain rfl := Option.some.inj H
    go_enter Tryd.func10,Tryd.ntmps10
    go_wp2_with (first|((with_reducible refine gate_dst (N := 1) rfl ?_);refine box_event ?hg (N := 1) ?hd (cs := #[.int .u64 a0_0,.int .i64 a0_1,.int .i64 a0_2]) (t := 24) ?hr ?_;(case hd => rfl);(case hg => rfl);(case hr => first|(go_simp;done)|(go_simp;rfl));intro gb141 hg w17 hbox hb;have n0_ := Aside0.mk (below_step (by repeat (first|(with_reducible first|exact HB.out|apply below_alloc|apply pw_below_drewN|apply below_drew1)|exact HB.out)) hb);have n1_ := Aside0.mk (hbox);have n2_ := Aside0.mk ((by rw [hg];exact (below_size (by repeat (first|(with_reducible first|exact HB.out|apply below_alloc|apply pw_below_drewN|apply below_drew1)|exact HB.out))) : w.heap.size ≤ gb141));have n3_ := Aside0.mk ((by rw [hg];exact (below_size (by repeat (first|(with_reducible first|exact HB.out|apply below_alloc|apply pw_below_drewN|apply below_drew1)|exact HB.out))) : w.heap.size ≤ gb141));clear HB;have HB := n0_;have BK141 := n1_;have GW141 := n2_;have GE141 := n3_;clear n0_ n1_ n2_ n3_;clear hb hbox hg;have hcz18_0 : w17.cell? ⟨gb141,0,none⟩ = some (.int .u64 a0_0) := (blk_cell BK141.out 0).trans rfl;have hcz18_1 : w17.cell? ⟨gb141,1,none⟩ = some (.int .i64 a0_1) := (blk_cell BK141.out 1).trans rfl;have hcz18_2 : w17.cell? ⟨gb141,2,none⟩ = some (.int .i64 a0_2) := (blk_cell BK141.out 2).trans rfl;have hfz18_0 := blk_frozen BK141.out 0;have hfz18_1 := blk_frozen BK141.out 1;have hfz18_2 := blk_frozen BK141.out 2)|((with_reducible refine gate_callee (f := 28) rfl ?_);refine goesL_ (some 5) rfl rfl Tryd.func28 (by kernel_rfl) rfl #[.int .u64 a0_0] rfl (by (try simp only [List.map_toArray,List.map_cons,List.map_nil]);first|done|rfl|(simp only [List.length_drop,List.length_take];rfl)) ?_;(with_reducible refine (field_Supported.calls a0_0 true _ ?sidehx A2.out).mono ?_);(case sidehx => repeat (first|exact HX_.out|exact (Hx_below HX_.out HB.out)|(with_reducible refine Hx_alloc ?_ _)|(with_reducible refine Hx_drewN ?_ _)|(with_reducible refine Hx_drew ?_)));rintro e w' ⟨rfl,⟨nd,rfl⟩⟩;refine ⟨_,rfl,?_⟩))
    go_ret
    exact ⟨by first|rfl|(simp [errW_none,errW_some] <;> rfl)|(simp [*,errW_none,errW_some] <;> rfl),by repeat (first|(with_reducible first|exact HB.out|apply below_alloc|apply pw_below_drewN|apply below_drew1|refine below_set ?_ GE141.out)|exact HB.out)⟩
  ·rw [if_neg c4] at H
   have c4b0 : decide (4 ≤ a0_1) = false := decide_eq_false c4
   clear c4
   obtain rfl := Option.some.inj H
   go_enter Tryd.func10,Tryd.ntmps10
   go_wp2_with (first|((with_reducible refine gate_dst (N := 1) rfl ?_);refine box_event ?hg (N := 1) ?hd (cs := #[.int .u64 a0_0,.int .i64 a0_1,.int .i64 a0_2]) (t := 24) ?hr ?_;(case hd => rfl);(case hg => rfl);(case hr => first|(go_simp;done)|(go_simp;rfl));intro gb141 hg w19 hbox hb;have n0_ := Aside0.mk (below_step (by repeat (first|(with_reducible first|exact HB.out|apply below_alloc|apply pw_below_drewN|apply below_drew1)|exact HB.out)) hb);have n1_ := Aside0.mk (hbox);have n2_ := Aside0.mk ((by rw [hg];exact (below_size (by repeat (first|(with_reducible first|exact HB.out|apply below_alloc|apply pw_below_drewN|apply below_drew1)|exact HB.out))) : w.heap.size ≤ gb141));have n3_ := Aside0.mk ((by rw [hg];exact (below_size (by repeat (first|(with_reducible first|exact HB.out|apply below_alloc|apply pw_below_drewN|apply below_drew1)|exact HB.out))) : w.heap.size ≤ gb141));clear HB;have HB := n0_;have BK141 := n1_;have GW141 := n2_;have GE141 := n3_;clear n0_ n1_ n2_ n3_;clear hb hbox hg;have hcz20_0 : w19.cell? ⟨gb141,0,none⟩ = some (.int .u64 a0_0) := (blk_cell BK141.out 0).trans rfl;have hcz20_1 : w19.cell? ⟨gb141,1,none⟩ = some (.int .i64 a0_1) := (blk_cell BK141.out 1).trans rfl;have hcz20_2 : w19.cell? ⟨gb141,2,none⟩ = some (.int .i64 a0_2) := (blk_cell BK141.out 2).trans rfl;have hfz20_0 := blk_frozen BK141.out 0;have hfz20_1 := blk_frozen BK141.out 1;have hfz20_2 := blk_frozen BK141.out 2)|((with_reducible refine gate_callee (f := 28) rfl ?_);refine goesL_ (some 5) rfl rfl Tryd.func28 (by kernel_rfl) rfl #[.int .u64 a0_0] rfl (by (try simp only [List.map_toArray,List.map_cons,List.map_nil]);first|done|rfl|(simp only [List.length_drop,List.length_take];rfl)) ?_;(with_reducible refine (field_Supported.calls a0_0 true _ ?sidehx A2.out).mono ?_);(case sidehx => repeat (first|exact HX_.out|exact (Hx_below HX_.out HB.out)|(with_reducible refine Hx_alloc ?_ _)|(with_reducible refine Hx_drewN ?_ _)|(with_reducible refine Hx_drew ?_)));rintro e w' ⟨rfl,⟨nd,rfl⟩⟩;refine ⟨_,rfl,?_⟩))
   go_ret
   exact ⟨by first|rfl|(simp [errW_none,errW_some] <;> rfl)|(simp [*,errW_none,errW_some] <;> rfl),by repeat (first|(with_reducible first|exact HB.out|apply below_alloc|apply pw_below_drewN|apply below_drew1|refine below_set ?_ GE141.out)|exact HB.out)⟩
 ·replace c3 := Bool.eq_false_iff.mpr c3
  subst c3
  have H1 : (some false) = some r := by rw [if_neg (show ¬ (false = true) by decide)] at H;exact H
  clear H
  have H := H1
  clear H1
  obtain rfl := Option.some.inj H
  go_enter Tryd.func10,Tryd.ntmps10
  go_wp2_with (first|((with_reducible refine gate_dst (N := 1) rfl ?_);refine box_event ?hg (N := 1) ?hd (cs := #[.int .u64 a0_0,.int .i64 a0_1,.int .i64 a0_2]) (t := 24) ?hr ?_;(case hd => rfl);(case hg => rfl);(case hr => first|(go_simp;done)|(go_simp;rfl));intro gb141 hg w21 hbox hb;have n0_ := Aside0.mk (below_step (by repeat (first|(with_reducible first|exact HB.out|apply below_alloc|apply pw_below_drewN|apply below_drew1)|exact HB.out)) hb);have n1_ := Aside0.mk (hbox);have n2_ := Aside0.mk ((by rw [hg];exact (below_size (by repeat (first|(with_reducible first|exact HB.out|apply below_alloc|apply pw_below_drewN|apply below_drew1)|exact HB.out))) : w.heap.size ≤ gb141));have n3_ := Aside0.mk ((by rw [hg];exact (below_size (by repeat (first|(with_reducible first|exact HB.out|apply below_alloc|apply pw_below_drewN|apply below_drew1)|exact HB.out))) : w.heap.size ≤ gb141));clear HB;have HB := n0_;have BK141 := n1_;have GW141 := n2_;have GE141 := n3_;clear n0_ n1_ n2_ n3_;clear hb hbox hg;have hcz22_0 : w21.cell? ⟨gb141,0,none⟩ = some (.int .u64 a0_0) := (blk_cell BK141.out 0).trans rfl;have hcz22_1 : w21.cell? ⟨gb141,1,none⟩ = some (.int .i64 a0_1) := (blk_cell BK141.out 1).trans rfl;have hcz22_2 : w21.cell? ⟨gb141,2,none⟩ = some (.int .i64 a0_2) := (blk_cell BK141.out 2).trans rfl;have hfz22_0 := blk_frozen BK141.out 0;have hfz22_1 := blk_frozen BK141.out 1;have hfz22_2 := blk_frozen BK141.out 2)|((with_reducible refine gate_callee (f := 28) rfl ?_);refine goesL_ (some 5) rfl rfl Tryd.func28 (by kernel_rfl) rfl #[.int .u64 a0_0] rfl (by (try simp only [List.map_toArray,List.map_cons,List.map_nil]);first|done|rfl|(simp only [List.length_drop,List.length_take];rfl)) ?_;(with_reducible refine (field_Supported.calls a0_0 false _ ?sidehx A2.out).mono ?_);(case sidehx => repeat (first|exact HX_.out|exact (Hx_below HX_.out HB.out)|(with_reducible refine Hx_alloc ?_ _)|(with_reducible refine Hx_drewN ?_ _)|(with_reducible refine Hx_drew ?_)));rintro e w' ⟨rfl,⟨nd,rfl⟩⟩;refine ⟨_,rfl,?_⟩))
  go_ret
  exact ⟨by first|rfl|(simp [errW_none,errW_some] <;> rfl)|(simp [*,errW_none,errW_some] <;> rfl),by repeat (first|(with_reducible first|exact HB.out|apply below_alloc|apply pw_below_drewN|apply below_drew1|refine below_set ?_ GE141.out)|exact HB.out)⟩
end Go.Proofs.YtakaonojfpkhnaaDoor.Pr
end
section
/- Printed by a program of this seat (the kit's printer, with the functions that were proved by hand given to it). What stands here: the functions that the statements reach, as plain functions, and that the Go code computes them. -/
namespace Go.Proofs.YtakaonojfpkhnaaDoor.Pr
open Go.RowKit Go.Proofs.YtakaonojfpkhnaaDoorW.PrintWords Go.Proofs.YtakaonojfpkhnaaDoorW.PrintLast Go.Proofs.YtakaonojfpkhnaaDoorW.PrintMore
attribute [local go_sem] max2_int min2_int max_two min_two max_three min_three max_four min_four   -- for this text's walks alone
set_option linter.unusedVariables false
set_option linter.unusedSimpArgs false

open Go.Proofs.YtakaonojfpkhnaaDoor.Hw
/-! ### params_ValidCoalition: function 12 -/
mutual
def params_ValidCoalition.j0 : Nat → List Int → Bool → Int → Int → Int → Option (Bool)
 | 0,_,_,_,_,_ => none
 | k + 1,x1,x16,x144000,x144001,x144002 => if x16 = true then (some false) else (params_ValidCoalition.l0 k x1 x1 (x1.length : Int) 0 x144000 x144001 x144002)
def params_ValidCoalition.l0 : Nat → List Int → List Int → Int → Int → Int → Int → Int → Option (Bool)
 | 0,_,_,_,_,_,_,_ => none
 | k + 1,x1,x17,x18,x19,x144000,x144001,x144002 => if x19 < x18 then (if 0 ≤ x19 then (if x19 < (x17.length : Int) then (if (rd x17 x19) < 1 then (some false) else (if (rd x17 x19) > x144001 then (some false) else (if x19 > 0 then (if 0 ≤ (wrap64 (x19 - 1)) then (if (wrap64 (x19 - 1)) < (x1.length : Int) then (if (rd x1 (wrap64 (x19 - 1))) ≥ (rd x17 x19) then (some false) else (params_ValidCoalition.l0 k x1 x17 x18 (wrap64 (x19 + 1)) x144000 x144001 x144002)) else (none)) else (none)) else (params_ValidCoalition.l0 k x1 x17 x18 (wrap64 (x19 + 1)) x144000 x144001 x144002)))) else (none)) else (none)) else (some true)
end
def params_ValidCoalition.f (k : Nat) (a0_0 : Int) (a0_1 : Int) (a0_2 : Int) (l1 : List Int) : Option (Bool) := (params_Valid.f a0_0 a0_1 a0_2).bind fun t144 => (if t144 = true then (params_ValidCoalition.j0 k l1 (decide ((l1.length : Int) > a0_2)) a0_0 a0_1 a0_2) else (params_ValidCoalition.j0 k l1 true a0_0 a0_1 a0_2))
set_option maxHeartbeats 8000000 in
set_option maxRecDepth 100000 in
theorem params_ValidCoalition.calls (k : Nat) (a0_0 : Int) (a0_1 : Int) (a0_2 : Int) (A1 : Option Addr) (c1 : Nat) (l1 : List Int) (r : Bool) (w : World) (hr1 : Kd.C (Kd.int .i64) w A1 l1.length l1) (hc1 : l1.length ≤ c1) (hx_ : Hx w) (h : params_ValidCoalition.f k a0_0 a0_1 a0_2 l1 = some r) :
  Calls Tryd.prog 12 #[.agg #[.int .u64 a0_0,.int .i64 a0_1,.int .i64 a0_2],.slice A1 l1.length c1] w fun e w' => e = .returned (.bool r) ∧ Below w.heap.size w w' := by
 have HX_ := Aside0.mk hx_
 clear hx_
 have hu24 := Tryd.underlying24
 have HR1 := Aside0.mk hr1
 have HC1 := Aside0.mk hc1
 clear hr1 hc1
 have HB := Aside0.mk (Below.refl w.heap.size w)
 have H : ((params_Valid.f a0_0 a0_1 a0_2).bind fun t144 => (if t144 = true then (params_ValidCoalition.j0 k l1 (decide ((l1.length : Int) > a0_2)) a0_0 a0_1 a0_2) else (params_ValidCoalition.j0 k l1 true a0_0 a0_1 a0_2))) = some r := h
 clear h
 have HC3 := Aside0.mk H
 clear H
 go_enter Tryd.func12,Tryd.ntmps12
 go_upto_region 1 with (first|((with_reducible refine gate_dst (N := 2) rfl ?_);(try (refine gate_guard (by rfl) ?_;dsimp only));refine box_event ?hg (N := 2) ?hd (cs := #[.int .u64 a0_0,.int .i64 a0_1,.int .i64 a0_2]) (t := 24) ?hr ?_;(case hd => rfl);(case hg => rfl);(case hr => first|(go_simp;done)|(go_simp;rfl));intro gb143 hg w4 hbox hb;have n0_ := Aside0.mk (below_step (by repeat (first|(with_reducible first|exact HB.out|apply below_alloc|apply pw_below_drewN|apply below_drew1)|exact HB.out)) hb);have n1_ := Aside0.mk (hbox);have n2_ := Aside0.mk ((by rw [hg];exact (below_size (by repeat (first|(with_reducible first|exact HB.out|apply below_alloc|apply pw_below_drewN|apply below_drew1)|exact HB.out))) : w.heap.size ≤ gb143));have n3_ := Aside0.mk ((by rw [hg];exact (below_size (by repeat (first|(with_reducible first|exact HB.out|apply below_alloc|apply pw_below_drewN|apply below_drew1)|exact HB.out))) : w.heap.size ≤ gb143));clear HB;have HB := n0_;have BK143 := n1_;have GW143 := n2_;have GE143 := n3_;clear n0_ n1_ n2_ n3_;clear hb hbox hg))
 (try simp only [Act.put,List.setIfInBounds_toArray,List.set_cons_zero,List.set_cons_succ])
 go_cut [16] (fun v16 wc => ∃ (kq : Nat) (x16_2 : Bool),v16 = .bool x16_2 ∧ Aside0 (params_ValidCoalition.j0 kq l1 x16_2 a0_0 a0_1 a0_2 = some r) ∧ Aside0 (kq ≤ k) ∧ Aside0 (wc.heap[gb143]? = some (.cells #[.int .u64 a0_0,.int .i64 a0_1,.int .i64 a0_2] 24 (0,0))) ∧ Aside0 (Below w.heap.size w wc))
 case first =>
  have H := HC3.out
  clear HC3
  replace H := Option.bind_eq_some_iff.mp H
  obtain ⟨t144,A50,H⟩ := H
  replace H : (if t144 = true then (params_ValidCoalition.j0 k l1 (decide ((l1.length : Int) > a0_2)) a0_0 a0_1 a0_2) else (params_ValidCoalition.j0 k l1 true a0_0 a0_1 a0_2)) = some r := H
  have A5 := Aside0.mk A50
  clear A50
  by_cases c6 : t144 = true
  ·subst c6
   have H1 : (params_ValidCoalition.j0 k l1 (decide ((l1.length : Int) > a0_2)) a0_0 a0_1 a0_2) = some r := by rw [if_pos rfl] at H;exact H
   clear H
   have H := H1
   clear H1
   have H' := Aside0.mk H
   clear H
   have hcz7_0 : w4.cell? ⟨gb143,0,none⟩ = some (.int .u64 a0_0) := (blk_cell BK143.out 0).trans rfl
   have hcz7_1 : w4.cell? ⟨gb143,1,none⟩ = some (.int .i64 a0_1) := (blk_cell BK143.out 1).trans rfl
   have hcz7_2 : w4.cell? ⟨gb143,2,none⟩ = some (.int .i64 a0_2) := (blk_cell BK143.out 2).trans rfl
   have hfz7_0 := blk_frozen BK143.out 0
   have hfz7_1 := blk_frozen BK143.out 1
   have hfz7_2 := blk_frozen BK143.out 2
   go_wp2_with (first|((with_reducible refine gate_callee (f := 10) rfl ?_);refine goesL_ (some 8) rfl rfl Tryd.func10 (by kernel_rfl) rfl #[.agg #[.int .u64 a0_0,.int .i64 a0_1,.int .i64 a0_2]] rfl (by (try simp only [List.map_toArray,List.map_cons,List.map_nil]);first|done|rfl|(simp only [List.length_drop,List.length_take];rfl)) ?_;(with_reducible refine (params_Valid.calls a0_0 a0_1 a0_2 true _ ?sidehx A5.out).mono ?_);(case sidehx => repeat (first|exact HX_.out|exact (Hx_below HX_.out HB.out)|(with_reducible refine Hx_alloc ?_ _)|(with_reducible refine Hx_drewN ?_ _)|(with_reducible refine Hx_drew ?_)));rintro e w8 ⟨rfl,hb⟩;refine ⟨_,rfl,?_⟩;have n0_ := Aside0.mk (blk_below (g := gb143) (o := .cells #[.int .u64 a0_0,.int .i64 a0_1,.int .i64 a0_2] 24 (0,0)) (by (with_reducible repeat (first|refine blk_drewN ?_ _|refine blk_drew ?_|refine blk_alloc ?_ _));exact BK143.out) hb);have n1_ := Aside0.mk (below_step (by repeat (first|(with_reducible first|exact HB.out|apply below_alloc|apply pw_below_drewN|apply below_drew1|refine below_set ?_ GE143.out)|exact HB.out)) hb);clear BK143;clear HB;have BK143 := n0_;have HB := n1_;clear n0_ n1_;(try clear hb);(try clear hb2);(try clear hk);(try clear hi);have hcz9_0 : w8.cell? ⟨gb143,0,none⟩ = some (.int .u64 a0_0) := (blk_cell BK143.out 0).trans rfl;have hcz9_1 : w8.cell? ⟨gb143,1,none⟩ = some (.int .i64 a0_1) := (blk_cell BK143.out 1).trans rfl;have hcz9_2 : w8.cell? ⟨gb143,2,none⟩ = some (.int .i64 a0_2) := (blk_cell BK143.out 2).trans rfl;have hfz9_0 := blk_frozen BK143.out 0;have hfz9_1 := blk_frozen BK143.out 1;have hfz9_2 := blk_frozen BK143.out 2))
   go_meet
   case rel => exact ⟨_,(decide ((l1.length : Int) > a0_2)),(by first|rfl|(simp;done)|(simp [*];done)),H',⟨by first|omega|exact Nat.le_refl _⟩,⟨by (with_reducible repeat (first|refine blk_drewN ?_ _|refine blk_drew ?_|refine blk_alloc ?_ _));exact BK143.out⟩,⟨by repeat (first|(with_reducible first|exact HB.out|apply below_alloc|apply pw_below_drewN|apply below_drew1|refine below_set ?_ GE143.out)|exact HB.out)⟩⟩
  ·replace c6 := Bool.eq_false_iff.mpr c6
   subst c6
   have H1 : (params_ValidCoalition.j0 k l1 true a0_0 a0_1 a0_2) = some r := by rw [if_neg (show ¬ (false = true) by decide)] at H;exact H
   clear H
   have H := H1
   clear H1
   have H' := Aside0.mk H
   clear H
   have hcz10_0 : w4.cell? ⟨gb143,0,none⟩ = some (.int .u64 a0_0) := (blk_cell BK143.out 0).trans rfl
   have hcz10_1 : w4.cell? ⟨gb143,1,none⟩ = some (.int .i64 a0_1) := (blk_cell BK143.out 1).trans rfl
   have hcz10_2 : w4.cell? ⟨gb143,2,none⟩ = some (.int .i64 a0_2) := (blk_cell BK143.out 2).trans rfl
   have hfz10_0 := blk_frozen BK143.out 0
   have hfz10_1 := blk_frozen BK143.out 1
   have hfz10_2 := blk_frozen BK143.out 2
   go_wp2_with (first|((with_reducible refine gate_callee (f := 10) rfl ?_);refine goesL_ (some 8) rfl rfl Tryd.func10 (by kernel_rfl) rfl #[.agg #[.int .u64 a0_0,.int .i64 a0_1,.int .i64 a0_2]] rfl (by (try simp only [List.map_toArray,List.map_cons,List.map_nil]);first|done|rfl|(simp only [List.length_drop,List.length_take];rfl)) ?_;(with_reducible refine (params_Valid.calls a0_0 a0_1 a0_2 false _ ?sidehx A5.out).mono ?_);(case sidehx => repeat (first|exact HX_.out|exact (Hx_below HX_.out HB.out)|(with_reducible refine Hx_alloc ?_ _)|(with_reducible refine Hx_drewN ?_ _)|(with_reducible refine Hx_drew ?_)));rintro e w11 ⟨rfl,hb⟩;refine ⟨_,rfl,?_⟩;have n0_ := Aside0.mk (blk_below (g := gb143) (o := .cells #[.int .u64 a0_0,.int .i64 a0_1,.int .i64 a0_2] 24 (0,0)) (by (with_reducible repeat (first|refine blk_drewN ?_ _|refine blk_drew ?_|refine blk_alloc ?_ _));exact BK143.out) hb);have n1_ := Aside0.mk (below_step (by repeat (first|(with_reducible first|exact HB.out|apply below_alloc|apply pw_below_drewN|apply below_drew1|refine below_set ?_ GE143.out)|exact HB.out)) hb);clear BK143;clear HB;have BK143 := n0_;have HB := n1_;clear n0_ n1_;(try clear hb);(try clear hb2);(try clear hk);(try clear hi)))
   go_meet
   case rel => exact ⟨_,(true),(by first|rfl|(simp;done)|(simp [*];done)),H',⟨by first|omega|exact Nat.le_refl _⟩,⟨by (with_reducible repeat (first|refine blk_drewN ?_ _|refine blk_drew ?_|refine blk_alloc ?_ _));exact BK143.out⟩,⟨by repeat (first|(with_reducible first|exact HB.out|apply below_alloc|apply pw_below_drewN|apply below_drew1|refine below_set ?_ GE143.out)|exact HB.out)⟩⟩
 case rest =>
  clear HC3
  try clear c1
  try clear p2
  try clear c6
  try clear c10
  try clear hcz10_0
  try clear hcz10_1
  try clear hcz10_2
  try clear hcz7_0
  try clear hcz7_1
  try clear hcz7_2
  try clear hcz9_0
  try clear hcz9_1
  try clear hcz9_2
  try clear hfz10_0
  try clear hfz10_1
  try clear hfz10_2
  try clear hfz7_0
  try clear hfz7_1
  try clear hfz7_2
  try clear hfz9_0
  try clear hfz9_1
  try clear hfz9_2
  obtain ⟨kq,x16_2,rfl,HA,HJ2,BK143,HB⟩ := hcut
  cases kq with
  | zero => exact absurd HA.out (by simp [params_ValidCoalition.j0])
  | succ kj2 =>
   have H := HA.out
   clear HA
   simp only [params_ValidCoalition.j0] at H
   by_cases c12 : x16_2 = true
   ·subst c12
    have H1 : (some false) = some r := by rw [if_pos rfl] at H;exact H
    clear H
    have H := H1
    clear H1
    obtain rfl := Option.some.inj H
    go_wp2
    go_ret
    exact ⟨by first|rfl|(simp [errW_none,errW_some] <;> rfl)|(simp [*,errW_none,errW_some] <;> rfl),by repeat (first|(with_reducible first|exact HB.out|apply below_alloc|apply pw_below_drewN|apply below_drew1|refine below_set ?_ GE143.out)|exact HB.out)⟩
   ·replace c12 := Bool.eq_false_iff.mpr c12
    subst c12
    have H1 : (params_ValidCoalition.l0 kj2 l1 l1 (l1.length : Int) 0 a0_0 a0_1 a0_2) = some r := by rw [if_neg (show ¬ (false = true) by decide)] at H;exact H
    clear H
    have H := H1
    clear H1
    have H' := Aside0.mk H
    clear H
    go_wp2
    go_loopg [19] kj2 (fun kq v19 w' => ∃ (x19_2 : Int),v19 = .int .i64 x19_2 ∧ Aside0 (params_ValidCoalition.l0 kq l1 l1 (l1.length : Int) x19_2 a0_0 a0_1 a0_2 = some r) ∧ Aside0 (kq ≤ kj2) ∧ Aside0 (w'.heap[gb143]? = some (.cells #[.int .u64 a0_0,.int .i64 a0_1,.int .i64 a0_2] 24 (0,0))) ∧ Aside0 (Below w.heap.size w w'))
    case atStart => exact ⟨(0),(by first|rfl|(simp;done)|(simp [*];done)),H',⟨Nat.le_refl _⟩,⟨by (with_reducible repeat (first|refine blk_drewN ?_ _|refine blk_drew ?_|refine blk_alloc ?_ _));exact BK143.out⟩,⟨by repeat (first|(with_reducible first|exact HB.out|apply below_alloc|apply pw_below_drewN|apply below_drew1|refine below_set ?_ GE143.out)|exact HB.out)⟩⟩
    case round =>
     clear H'
     try clear c1
     try clear p2
     try clear c6
     try clear c10
     try clear c12
     try clear hcz10_0
     try clear hcz10_1
     try clear hcz10_2
     try clear hcz7_0
     try clear hcz7_1
     try clear hcz7_2
     try clear hcz9_0
     try clear hcz9_1
     try clear hcz9_2
     try clear hfz10_0
     try clear hfz10_1
     try clear hfz10_2
     try clear hfz7_0
     try clear hfz7_1
     try clear hfz7_2
     try clear hfz9_0
     try clear hfz9_1
     try clear hfz9_2
     try clear p2
     obtain ⟨x19_2,rfl,HA,HK2,BK143,HB⟩ := hrel
     cases gk with
     | zero => exact absurd HA.out (by simp [params_ValidCoalition.l0])
     | succ k2 =>
      have H := HA.out
      clear HA
      simp only [params_ValidCoalition.l0] at H
      by_cases c13 : x19_2 < (l1.length : Int)
      ·rw [if_pos c13] at H
       have c13b0 : decide (x19_2 < (l1.length : Int)) = true := decide_eq_true c13
       clear c13
       by_cases c14 : 0 ≤ x19_2
       ·rw [if_pos c14] at H
        have c14b0 : decide (0 ≤ x19_2) = true := decide_eq_true c14
        clear c14
        by_cases c15 : x19_2 < (l1.length : Int)
        ·rw [if_pos c15] at H
         have c15b0 : decide (x19_2 < (l1.length : Int)) = true := decide_eq_true c15
         clear c15
         by_cases c16 : (rd l1 x19_2) < 1
         ·rw [if_pos c16] at H
          have c16b0 : decide ((rd l1 x19_2) < 1) = true := decide_eq_true c16
          clear c16
          obtain rfl := Option.some.inj H
          have p145 : 0 ≤ (x19_2 : Int) := of_decide_eq_true (by first|(with_reducible assumption)|assumption)
          have q145 : x19_2 < (l1.length : Int) := of_decide_eq_true (by first|(with_reducible assumption)|assumption)
          obtain ⟨ad145,e145,hx145_0⟩ := Kd.at_int HR1.out x19_2 p145 q145
          cases e145
          replace hx145_0 := (HB.out.cell (World.block_lt_of_cell? w _ hx145_0)).trans hx145_0
          replace p145 := eq_true p145
          replace q145 := eq_true q145
          go_wp2
          go_ret
          exact ⟨by first|rfl|(simp [errW_none,errW_some] <;> rfl)|(simp [*,errW_none,errW_some] <;> rfl),by repeat (first|(with_reducible first|exact HB.out|apply below_alloc|apply pw_below_drewN|apply below_drew1|refine below_set ?_ GE143.out)|exact HB.out)⟩
         ·rw [if_neg c16] at H
          have c16b0 : decide ((rd l1 x19_2) < 1) = false := decide_eq_false c16
          clear c16
          by_cases c17 : (rd l1 x19_2) > a0_1
          ·rw [if_pos c17] at H
           have c17b0 : decide (a0_1 < (rd l1 x19_2)) = true := decide_eq_true c17
           clear c17
           obtain rfl := Option.some.inj H
           have p145 : 0 ≤ (x19_2 : Int) := of_decide_eq_true (by first|(with_reducible assumption)|assumption)
           have q145 : x19_2 < (l1.length : Int) := of_decide_eq_true (by first|(with_reducible assumption)|assumption)
           obtain ⟨ad145,e145,hx145_0⟩ := Kd.at_int HR1.out x19_2 p145 q145
           cases e145
           replace hx145_0 := (HB.out.cell (World.block_lt_of_cell? w _ hx145_0)).trans hx145_0
           replace p145 := eq_true p145
           replace q145 := eq_true q145
           have hcz18_0 : wr.cell? ⟨gb143,0,none⟩ = some (.int .u64 a0_0) := (blk_cell BK143.out 0).trans rfl
           have hcz18_1 : wr.cell? ⟨gb143,1,none⟩ = some (.int .i64 a0_1) := (blk_cell BK143.out 1).trans rfl
           have hcz18_2 : wr.cell? ⟨gb143,2,none⟩ = some (.int .i64 a0_2) := (blk_cell BK143.out 2).trans rfl
           have hfz18_0 := blk_frozen BK143.out 0
           have hfz18_1 := blk_frozen BK143.out 1
           have hfz18_2 := blk_frozen BK143.out 2
           go_wp2
           go_ret
           exact ⟨by first|rfl|(simp [errW_none,errW_some] <;> rfl)|(simp [*,errW_none,errW_some] <;> rfl),by repeat (first|(with_reducible first|exact HB.out|apply below_alloc|apply pw_below_drewN|apply below_drew1|refine below_set ?_ GE143.out)|exact HB.out)⟩
          ·rw [if_neg c17] at H
           have c17b0 : decide (a0_1 < (rd l1 x19_2)) = false := decide_eq_false c17
           clear c17
           by_cases c19 : x19_2 > 0
           ·rw [if_pos c19] at H
            have c19b0 : decide (0 < x19_2) = true := decide_eq_true c19
            clear c19
            obtain ⟨ji20,hji20⟩ : ∃ j_ : Int,(wrap64 (x19_2 - 1)) = j_ := ⟨_,rfl⟩
            replace H : (if 0 ≤ (ji20) then (if (ji20) < (l1.length : Int) then (if (rd l1 (ji20)) ≥ (rd l1 x19_2) then (some false) else (params_ValidCoalition.l0 k2 l1 l1 (l1.length : Int) (wrap64 (x19_2 + 1)) a0_0 a0_1 a0_2)) else (none)) else (none)) = some r := by first|(rw [hji20] at H;exact H)|(simp only [hji20] at H ⊢;exact H)
            have hji20w : (IntKind.i64.wrap (x19_2 - 1)) = ji20 := (i64_w _).trans hji20
            by_cases c21 : 0 ≤ (ji20)
            ·rw [if_pos c21] at H
             have c21b0 : decide (0 ≤ (ji20)) = true := decide_eq_true c21
             clear c21
             by_cases c22 : (ji20) < (l1.length : Int)
             ·rw [if_pos c22] at H
              have c22b0 : decide ((ji20) < (l1.length : Int)) = true := decide_eq_true c22
              clear c22
              by_cases c23 : (rd l1 (ji20)) ≥ (rd l1 x19_2)
              ·rw [if_pos c23] at H
               have c23b0 : decide ((rd l1 x19_2) ≤ (rd l1 (ji20))) = true := decide_eq_true c23
               clear c23
               obtain rfl := Option.some.inj H
               have p145 : 0 ≤ (x19_2 : Int) := of_decide_eq_true (by first|(with_reducible assumption)|assumption)
               have q145 : x19_2 < (l1.length : Int) := of_decide_eq_true (by first|(with_reducible assumption)|assumption)
               obtain ⟨ad145,e145,hx145_0⟩ := Kd.at_int HR1.out x19_2 p145 q145
               cases e145
               replace hx145_0 := (HB.out.cell (World.block_lt_of_cell? w _ hx145_0)).trans hx145_0
               replace p145 := eq_true p145
               replace q145 := eq_true q145
               have hcz24_0 : wr.cell? ⟨gb143,0,none⟩ = some (.int .u64 a0_0) := (blk_cell BK143.out 0).trans rfl
               have hcz24_1 : wr.cell? ⟨gb143,1,none⟩ = some (.int .i64 a0_1) := (blk_cell BK143.out 1).trans rfl
               have hcz24_2 : wr.cell? ⟨gb143,2,none⟩ = some (.int .i64 a0_2) := (blk_cell BK143.out 2).trans rfl
               have hfz24_0 := blk_frozen BK143.out 0
               have hfz24_1 := blk_frozen BK143.out 1
               have hfz24_2 := blk_frozen BK143.out 2
               have p146 : 0 ≤ ((ji20) : Int) := of_decide_eq_true (by first|(with_reducible assumption)|assumption)
               have q146 : (ji20) < (l1.length : Int) := of_decide_eq_true (by first|(with_reducible assumption)|assumption)
               obtain ⟨ad146,e146,hx146_0⟩ := Kd.at_int HR1.out (ji20) p146 q146
               obtain rfl : ad145 = ad146 := (by injection e146)
               replace hx146_0 := (HB.out.cell (World.block_lt_of_cell? w _ hx146_0)).trans hx146_0
               replace p146 := eq_true p146
               replace q146 := eq_true q146
               go_wp2
               go_ret
               exact ⟨by first|rfl|(simp [errW_none,errW_some] <;> rfl)|(simp only [← hji20];first|rfl|(simp [errW_none,errW_some] <;> rfl))|(simp [*,errW_none,errW_some] <;> rfl),by repeat (first|(with_reducible first|exact HB.out|apply below_alloc|apply pw_below_drewN|apply below_drew1|refine below_set ?_ GE143.out)|exact HB.out)⟩
              ·rw [if_neg c23] at H
               have c23b0 : decide ((rd l1 x19_2) ≤ (rd l1 (ji20))) = false := decide_eq_false c23
               clear c23
               have H' := Aside0.mk H
               clear H
               have p145 : 0 ≤ (x19_2 : Int) := of_decide_eq_true (by first|(with_reducible assumption)|assumption)
               have q145 : x19_2 < (l1.length : Int) := of_decide_eq_true (by first|(with_reducible assumption)|assumption)
               obtain ⟨ad145,e145,hx145_0⟩ := Kd.at_int HR1.out x19_2 p145 q145
               cases e145
               replace hx145_0 := (HB.out.cell (World.block_lt_of_cell? w _ hx145_0)).trans hx145_0
               replace p145 := eq_true p145
               replace q145 := eq_true q145
               have hcz25_0 : wr.cell? ⟨gb143,0,none⟩ = some (.int .u64 a0_0) := (blk_cell BK143.out 0).trans rfl
               have hcz25_1 : wr.cell? ⟨gb143,1,none⟩ = some (.int .i64 a0_1) := (blk_cell BK143.out 1).trans rfl
               have hcz25_2 : wr.cell? ⟨gb143,2,none⟩ = some (.int .i64 a0_2) := (blk_cell BK143.out 2).trans rfl
               have hfz25_0 := blk_frozen BK143.out 0
               have hfz25_1 := blk_frozen BK143.out 1
               have hfz25_2 := blk_frozen BK143.out 2
               have p146 : 0 ≤ ((ji20) : Int) := of_decide_eq_true (by first|(with_reducible assumption)|assumption)
               have q146 : (ji20) < (l1.length : Int) := of_decide_eq_true (by first|(with_reducible assumption)|assumption)
               obtain ⟨ad146,e146,hx146_0⟩ := Kd.at_int HR1.out (ji20) p146 q146
               obtain rfl : ad145 = ad146 := (by injection e146)
               replace hx146_0 := (HB.out.cell (World.block_lt_of_cell? w _ hx146_0)).trans hx146_0
               replace p146 := eq_true p146
               replace q146 := eq_true q146
               go_wp2
               go_roundg k2
               case measure => have := HJ2.out;have := HK2.out;omega
               case rel => exact ⟨(wrap64 (x19_2 + 1)),(by first|rfl|(simp;done)|(simp [*];done)),H',⟨by have := HJ2.out;have := HK2.out;omega⟩,⟨by (with_reducible repeat (first|refine blk_drewN ?_ _|refine blk_drew ?_|refine blk_alloc ?_ _));exact BK143.out⟩,⟨by repeat (first|(with_reducible first|exact HB.out|apply below_alloc|apply pw_below_drewN|apply below_drew1|refine below_set ?_ GE143.out)|exact HB.out)⟩⟩
             ·rw [if_neg c22] at H
              exact absurd H (by simp)
            ·rw [if_neg c21] at H
             exact absurd H (by simp)
           ·rw [if_neg c19] at H
            have c19b0 : decide (0 < x19_2) = false := decide_eq_false c19
            clear c19
            have H' := Aside0.mk H
            clear H
            have p145 : 0 ≤ (x19_2 : Int) := of_decide_eq_true (by first|(with_reducible assumption)|assumption)
            have q145 : x19_2 < (l1.length : Int) := of_decide_eq_true (by first|(with_reducible assumption)|assumption)
            obtain ⟨ad145,e145,hx145_0⟩ := Kd.at_int HR1.out x19_2 p145 q145
            cases e145
            replace hx145_0 := (HB.out.cell (World.block_lt_of_cell? w _ hx145_0)).trans hx145_0
            replace p145 := eq_true p145
            replace q145 := eq_true q145
            have hcz26_0 : wr.cell? ⟨gb143,0,none⟩ = some (.int .u64 a0_0) := (blk_cell BK143.out 0).trans rfl
            have hcz26_1 : wr.cell? ⟨gb143,1,none⟩ = some (.int .i64 a0_1) := (blk_cell BK143.out 1).trans rfl
            have hcz26_2 : wr.cell? ⟨gb143,2,none⟩ = some (.int .i64 a0_2) := (blk_cell BK143.out 2).trans rfl
            have hfz26_0 := blk_frozen BK143.out 0
            have hfz26_1 := blk_frozen BK143.out 1
            have hfz26_2 := blk_frozen BK143.out 2
            go_wp2
            go_roundg k2
            case measure => have := HJ2.out;have := HK2.out;omega
            case rel => exact ⟨(wrap64 (x19_2 + 1)),(by first|rfl|(simp;done)|(simp [*];done)),H',⟨by have := HJ2.out;have := HK2.out;omega⟩,⟨by (with_reducible repeat (first|refine blk_drewN ?_ _|refine blk_drew ?_|refine blk_alloc ?_ _));exact BK143.out⟩,⟨by repeat (first|(with_reducible first|exact HB.out|apply below_alloc|apply pw_below_drewN|apply below_drew1|refine below_set ?_ GE143.out)|exact HB.out)⟩⟩
        ·rw [if_neg c15] at H
         exact absurd H (by simp)
       ·rw [if_neg c14] at H
        exact absurd H (by simp)
      ·rw [if_neg c13] at H
       have c13b0 : decide (x19_2 < (l1.length : Int)) = false := decide_eq_false c13
       clear c13
       obtain rfl := Option.some.inj H
       go_wp2
       go_ret
       exact ⟨by first|rfl|(simp [errW_none,errW_some] <;> rfl)|(simp [*,errW_none,errW_some] <;> rfl),by repeat (first|(with_reducible first|exact HB.out|apply below_alloc|apply pw_below_drewN|apply below_drew1|refine below_set ?_ GE143.out)|exact HB.out)⟩
-- NOT PRINTED: function 47 (api_Deviation_47)

-- NOT PRINTED: function 30 (api_Deviation_30)

-- NOT PRINTED: function 48 (slices_IndexFunc_uint64_uint64)

-- NOT PRINTED: function 33 (slices_ContainsFunc_uint64_uint64)

end Go.Proofs.YtakaonojfpkhnaaDoor.Pr
end
section
/-
  Valid and ValidCoalition of package params, plainly.
-/
namespace Go.Proofs.YtakaonojfpkhnaaDoor.E
open Go.RowKit Go.Proofs.YtakaonojfpkhnaaDoor.Pr Go.Proofs.YtakaonojfpkhnaaDoor.Hw Go.Proofs.YtakaonojfpkhnaaDoor.Pl Go.Proofs.YtakaonojfpkhnaaDoorW.PrintWords Go.Proofs.YtakaonojfpkhnaaDoorW.PrintLast Go.Proofs.YtakaonojfpkhnaaDoorW.PrintMore
set_option linter.unusedVariables false
set_option linter.unusedSimpArgs false

/-- A loop that asks one thing of each index. -/
theorem allQ {F : Nat → Int → Option Bool} {n : Nat} {Q : Nat → Prop} [DecidablePred Q] {e : Bool} (hend : Ev (fun k => F k (n : Int)) e) (hyes : ∀ i, i < n → Q i → ∀ r, Ev (fun k => F k ((i + 1 : Nat) : Int)) r → Ev (fun k => F k (i : Int)) r)
    (hno : ∀ i, i < n → ¬ Q i → Ev (fun k => F k (i : Int)) false) (r : Bool) (hr : r = true ↔ ((∀ i, i < n → Q i) ∧ e = true)) : Ev (fun k => F k ((0 : Nat) : Int)) r := by
  by_cases hall : ∀ i, i < n → Q i
  · have : r = e := by
      cases e with
      | true => exact hr.2 ⟨hall, rfl⟩
      | false => exact Bool.eq_false_iff.mpr fun h => by have := (hr.1 h).2; cases this
    rw [this]
    exact up (Q := fun i => Ev (fun k => F k (i : Int)) e) (n := n) hend fun i hi h => hyes i hi (hall i hi) e h
  · have hf : r = false := Bool.eq_false_iff.mpr fun h => hall (hr.1 h).1
    rw [hf]
    obtain ⟨i, hi, hq⟩ : ∃ i, i < n ∧ ¬ Q i := Classical.byContradiction fun h => hall fun i hi => Classical.byContradiction fun hq => h ⟨i, hi, hq⟩
    refine up (Q := fun i => Ev (fun k => F k (i : Int)) false) (n := i) (hno i hi hq) fun j hj h => ?_
    by_cases hqj : Q j
    · exact hyes j (by omega) hqj false h
    · exact hno j (by omega) hqj
def val12B (p N T : Int) : Bool := supB p && decide (4 ≤ N ∧ N ≤ 13 ∧ N < p ∧ 1 ≤ T ∧ T < N ∧ 3 * T < N)
theorem expL_sup (p : Int) : (expL p expT != 0) = supB p := by
  unfold expT supB
  simp only [expL]
  repeat (split; · next h => subst h; decide)
  simp only [*, decide_false, Bool.or_false]
  rfl
theorem supP_eq (p : Int) : field_Supported.f p = some (supB p) := by
  unfold field_Supported.f field_Exponent.f
  rw [Option.bind_some, expL_sup]
theorem valP_ev (p N T : Int) : Ev (fun _ => params_Valid.f p N T) (val12B p N T) := by
  unfold params_Valid.f
  refine ev_if (A := fun _ => field_Supported.f p) (Ev.congr (fun _ => supP_eq p) (Ev.now _)) (fun h => ?_) (fun h => ?_)
  · unfold val12B
    rw [h, Bool.true_and]
    refine Ev.congr (fun _ => ?_) (Ev.now _)
    by_cases h1 : 4 ≤ N
    · rw [if_pos h1]
      by_cases h2 : N ≤ 13
      · rw [if_pos h2, wrapU_id (by omega) (by omega)]
        by_cases h3 : N < p
        · rw [if_pos h3]
          by_cases h4 : 1 ≤ T
          · rw [if_pos h4]
            by_cases h5 : T < N
            · rw [if_pos h5, w64' (by omega) (by omega)]
              by_cases h6 : 3 * T < N
              · rw [decide_eq_true h6, decide_eq_true ⟨h1, h2, h3, h4, h5, h6⟩]
              · rw [decide_eq_false h6, decide_eq_false fun h => h6 h.2.2.2.2.2]
            · rw [if_neg h5, decide_eq_false fun h => h5 h.2.2.2.2.1]
          · rw [if_neg h4, decide_eq_false fun h => h4 h.2.2.2.1]
        · rw [if_neg h3, decide_eq_false fun h => h3 h.2.2.1]
      · rw [if_neg h2, decide_eq_false fun h => h2 h.2.1]
    · rw [if_neg h1, decide_eq_false fun h => h1 h.1]
  · have : val12B p N T = false := by unfold val12B; rw [h]; rfl
    rw [this]; exact Ev.now _
/-- Increasing numbers of parties. -/
def IncAt (N : Int) (l : List Int) (i : Nat) : Prop := 1 ≤ l.getD i 0 ∧ l.getD i 0 ≤ N ∧ (i = 0 ∨ l.getD (i - 1) 0 < l.getD i 0)
instance (N : Int) (l : List Int) : DecidablePred (IncAt N l) := fun i => by unfold IncAt; infer_instance
def incB (N : Int) (l : List Int) : Bool := decide (∀ i, i < l.length → IncAt N l i)
def coaB (p N T : Int) (l : List Int) : Bool := val12B p N T && (decide ((l.length : Int) ≤ T) && incB N l)
theorem coaP_ev (p N T : Int) (l : List Int) : Ev (fun k => params_ValidCoalition.f k p N T l) (coaB p N T l) := by
  unfold params_ValidCoalition.f
  have hno : ∀ r, r = false → Ev (fun k => params_ValidCoalition.j0 k l true p N T) r := fun r hr => by
    subst hr
    refine Ev.step (fun k => ?_) (Ev.now _)
    simp only [params_ValidCoalition.j0]
    rw [if_pos trivial]
  refine ev_if (valP_ev p N T) (fun h => ?_) (fun h => hno _ (by unfold coaB; rw [h]; rfl))
  unfold coaB
  rw [h, Bool.true_and]
  unfold val12B at h
  rw [Bool.and_eq_true, decide_eq_true_eq] at h
  obtain ⟨_, a1, a2, a3, a4, a5, a6⟩ := h
  by_cases hl : (l.length : Int) > T
  · rw [decide_eq_true hl]
    exact hno _ (by rw [decide_eq_false (by omega)]; rfl)
  · rw [decide_eq_false hl, decide_eq_true (by omega), Bool.true_and]
    refine Ev.step (f := fun k => params_ValidCoalition.l0 k l l (l.length : Int) ((0 : Nat) : Int) p N T) (fun k => ?_) ?_
    · simp only [params_ValidCoalition.j0]
      rw [if_neg (by simp)]; rfl
    · refine allQ (F := fun k i => params_ValidCoalition.l0 k l l (l.length : Int) i p N T) (n := l.length) (Q := IncAt N l) (e := true) ?_ (fun i hi hq r h => ?_) (fun i hi hq => ?_) (incB N l) (by unfold incB; rw [decide_eq_true_iff]; exact ⟨fun h => ⟨h, rfl⟩, fun h => h.1⟩)
      · refine Ev.step (fun k => ?_) (Ev.now _)
        simp only [params_ValidCoalition.l0]
        rw [if_neg (by omega)]
      · obtain ⟨q1, q2, q3⟩ := hq
        refine Ev.step (fun k => ?_) h
        simp only [params_ValidCoalition.l0]
        rw [if_pos (by omega), if_pos (by omega), if_pos (by omega), rd_nat, if_neg (by omega), if_neg (by omega), wnat (by omega)]
        by_cases h0 : i = 0
        · rw [if_neg (by omega)]
        · rw [if_pos (by omega), w64' (n := (i : Int) - 1) (by omega) (by omega), if_pos (by omega), if_pos (by omega), show (i : Int) - 1 = ((i - 1 : Nat) : Int) from by omega, rd_nat, if_neg (by have := q3.resolve_left h0; omega)]
      · refine Ev.step (fun k => ?_) (Ev.now _)
        simp only [params_ValidCoalition.l0]
        rw [if_pos (by omega), if_pos (by omega), if_pos (by omega), rd_nat]
        by_cases q1 : l.getD i 0 < 1
        · rw [if_pos q1]
        · rw [if_neg q1]
          by_cases q2 : l.getD i 0 > N
          · rw [if_pos q2]
          · have h0 : i ≠ 0 := fun e => hq ⟨by omega, by omega, .inl e⟩
            rw [if_neg q2, if_pos (by omega), w64' (n := (i : Int) - 1) (by omega) (by omega), if_pos (by omega), if_pos (by omega), show (i : Int) - 1 = ((i - 1 : Nat) : Int) from by omega, rd_nat, if_pos (Int.not_lt.1 fun h => hq ⟨by omega, by omega, .inr h⟩)]
end Go.Proofs.YtakaonojfpkhnaaDoor.E
end
section
/-
  Coalitions: their extension, the honest parties, the vanishing polynomial; plainly.
-/
namespace Go.Proofs.YtakaonojfpkhnaaDoor.E
open Go.RowKit Go.Proofs.YtakaonojfpkhnaaDoor.Pr Go.Proofs.YtakaonojfpkhnaaDoor.Hw Go.Proofs.YtakaonojfpkhnaaDoor.Pl Go.Proofs.YtakaonojfpkhnaaDoorW.PrintWords Go.Proofs.YtakaonojfpkhnaaDoorW.PrintLast Go.Proofs.YtakaonojfpkhnaaDoorW.PrintMore
set_option linter.unusedVariables false
set_option linter.unusedSimpArgs false

theorem vsub_len : ∀ (l m : List Int), l.Nodup → (∀ x ∈ l, x ∈ m) → l.length ≤ m.length
  | [], m, _, _ => Nat.zero_le _
  | a :: l, m, hn, h => by
    have hn' := List.nodup_cons.1 hn
    have ha := h a (by simp)
    have h1 := vsub_len l (m.erase a) hn'.2 (fun x hx => (List.mem_erase_of_ne (fun e => hn'.1 (by rw [← e]; exact hx))).2 (h x (List.mem_cons_of_mem _ hx)))
    rw [List.length_erase_of_mem ha] at h1
    have := List.length_pos_of_mem ha
    simp only [List.length_cons]; omega
/-- The numbers k, k + 1, .., n of them. -/
def runL : Nat → Int → List Int
  | 0, _ => []
  | n + 1, k => k :: runL n (k + 1)
theorem runL_mem : ∀ (n : Nat) (k x : Int), x ∈ runL n k ↔ k ≤ x ∧ x < k + n
  | 0, k, x => by simp [runL]
  | n + 1, k, x => by rw [runL, List.mem_cons, runL_mem n (k + 1) x]; omega
theorem runL_nodup : ∀ (n : Nat) (k : Int), (runL n k).Nodup
  | 0, k => List.nodup_nil
  | n + 1, k => List.nodup_cons.2 ⟨fun h => by rw [runL_mem] at h; omega, runL_nodup n (k + 1)⟩
theorem runL_length : ∀ (n : Nat) (k : Int), (runL n k).length = n
  | 0, k => rfl
  | n + 1, k => by rw [runL, List.length_cons, runL_length n]
/-- The coalition, extended by the least other numbers. -/
def extL (bad : List Int) : Nat → Int → Int → List Int
  | 0, _, _ => []
  | n + 1, k, lack => if k ∈ bad then k :: extL bad n (k + 1) lack else if lack > 0 then k :: extL bad n (k + 1) (lack - 1) else extL bad n (k + 1) lack
def honL (bad : List Int) (n : Nat) (k : Int) : List Int := (runL n k).filter fun x => decide (x ∉ bad)
theorem extL_length {bad : List Int} : ∀ (n : Nat) (k lack : Int), 0 ≤ lack → lack ≤ (honL bad n k).length → ((extL bad n k lack).length : Int) = (((runL n k).filter fun x => decide (x ∈ bad)).length : Int) + lack
  | 0, k, lack, h0, h1 => by simp [extL, runL, honL] at *; omega
  | n + 1, k, lack, h0, h1 => by
    rw [extL]
    unfold honL at h1
    rw [runL] at h1 ⊢
    by_cases hb : k ∈ bad
    · rw [if_pos hb, List.filter_cons_of_pos (by simpa using hb), List.length_cons, List.length_cons]
      rw [List.filter_cons_of_neg (by simpa using hb)] at h1
      have := extL_length n (k + 1) lack h0 h1
      omega
    · rw [if_neg hb, List.filter_cons_of_neg (by simpa using hb)]
      rw [List.filter_cons_of_pos (by simpa using hb), List.length_cons] at h1
      by_cases hl : lack > 0
      · rw [if_pos hl, List.length_cons]
        have := extL_length (bad := bad) n (k + 1) (lack - 1) (by omega) (by unfold honL; omega)
        omega
      · rw [if_neg hl]
        exact extL_length n (k + 1) lack h0 (by omega)
theorem filter_split (bad : List Int) : ∀ (l : List Int), (l.filter fun x => decide (x ∈ bad)).length + (l.filter fun x => decide (x ∉ bad)).length = l.length
  | [] => rfl
  | a :: l => by
    have ih := filter_split bad l
    by_cases h : a ∈ bad
    · rw [List.filter_cons_of_pos (by simpa using h), List.filter_cons_of_neg (by simpa using h)]; simp only [List.length_cons]; omega
    · rw [List.filter_cons_of_neg (by simpa using h), List.filter_cons_of_pos (by simpa using h)]; simp only [List.length_cons]; omega
theorem runL_count {bad : List Int} (hn : bad.Nodup) {n : Nat} {k : Int} (hr : ∀ x ∈ bad, k ≤ x ∧ x < k + n) : ((runL n k).filter fun x => decide (x ∈ bad)).length = bad.length := by
  refine Nat.le_antisymm (vsub_len _ _ ((runL_nodup n k).filter _) fun x hx => ?_) (vsub_len _ _ hn fun x hx => ?_)
  · exact of_decide_eq_true (List.mem_filter.1 hx).2
  · exact List.mem_filter.2 ⟨(runL_mem n k x).2 (hr x hx), decide_eq_true hx⟩
/-- A valid coalition. -/
structure CoaB (N T : Int) (bad : List Int) : Prop where
  n0 : 4 ≤ N
  n1 : N ≤ 13
  t0 : 1 ≤ T
  t1 : 3 * T < N
  len : (bad.length : Int) ≤ T
  nd : bad.Nodup
  rng : ∀ x ∈ bad, 1 ≤ x ∧ x ≤ N
def extB (N T : Int) (bad : List Int) : List Int := extL bad N.toNat 1 (T - bad.length)
section
variable {N T : Int} {bad : List Int} (h : CoaB N T bad)
include h
theorem CoaB.rng' : ∀ x ∈ bad, (1 : Int) ≤ x ∧ x < 1 + (N.toNat : Nat) := fun x hx => by have := h.rng x hx; omega
theorem CoaB.hon_len : ((honL bad N.toNat 1).length : Int) = N - bad.length := by
  have h1 := filter_split bad (runL N.toNat 1)
  rw [runL_count h.nd h.rng', runL_length] at h1
  have := h.n0
  unfold honL; omega
theorem extB_length : ((extB N T bad).length : Int) = T := by
  have h1 := h.hon_len
  have h2 := h.len
  have h3 := h.t1
  have h4 := h.t0
  unfold extB
  rw [extL_length N.toNat 1 (T - bad.length) (by omega) (by omega), runL_count h.nd h.rng']; omega
end

/-- Points that are distinct, nonzero residues. -/
structure VanOk (p : Int) (l : List Int) : Prop where
  res : ∀ x ∈ l, Res p x
  nz : ∀ x ∈ l, x ≠ 0
  nd : l.Nodup
section
variable {p : Int} (hp : Supp p) {l : List Int} (h : VanOk p l)
include hp h
end
end Go.Proofs.YtakaonojfpkhnaaDoor.E
end
section
/-
  members and ExtendCoalition of package params, proved by hand.
-/
namespace Go.Proofs.YtakaonojfpkhnaaDoor.Hw
open Go.RowKit Go.Proofs.YtakaonojfpkhnaaDoor.Pr Go.Proofs.YtakaonojfpkhnaaDoorW.PrintWords Go.Proofs.YtakaonojfpkhnaaDoorW.PrintLast Go.Proofs.YtakaonojfpkhnaaDoorW.PrintMore Go.Proofs.YtakaonojfpkhnaaDoor.E
set_option linter.unusedVariables false
set_option linter.unusedSimpArgs false

section
variable {P : Program} {ops : Array Oper} {Q : Exit → Act → World → Prop}
/-- A whole array into its block. -/
theorem st_row {rest : List Oper} {op : Oper} {a : Act} {w : World} (hgd : op.guard = none) (ty : TypeId) (x y : Operand) (ho : op.op = .store ty x y) (g : Nat) (cells : Array Value) (hx : a.eval x = .pointer (some ⟨g, 0, none⟩)) (hy : a.eval y = .agg cells)
    (t : TypeId) (old : Array Value) (hg : w.heap[g]? = some (.cells old t (0, 0))) (hi : (P.info? ty).map (·.size) = some cells.size) (hold : old.size = cells.size) (h1 : cells.all (·.oneCell') = true)
    (h : ∀ w', w'.heap[g]? = some (.cells cells t (0, 0)) → (∀ B w0, B ≤ g → Below B w0 w → Below B w0 w') → (∀ b o, b ≠ g → w.heap[b]? = some o → w'.heap[b]? = some o) → wpList P ops Q rest (a.put op.dst undef) w') : wpList P ops Q (op :: rest) a w :=
  wpList_plain hgd fun _ hK => wp_store_row ty x y ho g cells hx hy t old hg hi hold h1 (hK _ _ (h _ (setRow_heap _ g _ _ t _ hg) (fun B w0 hB hb => Go.below_setRow hb hB _) (fun b o hb h => (setRow_other w g b cells (by omega)).trans h)))
/-- A whole array out of its block. -/
theorem ld_row {rest : List Oper} {op : Oper} {a : Act} {w : World} (hgd : op.guard = none) (ty : TypeId) (x : Operand) (ho : op.op = .load ty x) (g : Nat) (hx : a.eval x = .pointer (some ⟨g, 0, none⟩)) (t : TypeId) (cs : Array Value) (fr : Nat × Nat) (d : TypeDesc)
    (hg : w.heap[g]? = some (.cells cs t fr)) (hu : P.underlying ty = some d) (hd : (match d with | .struct _ | .array _ _ => true | _ => false) = true) (hi : (P.info? ty).map (·.size) = some cs.size)
    (h : wpList P ops Q rest (a.put op.dst (.agg cs)) w) : wpList P ops Q (op :: rest) a w :=
  wpList_plain hgd fun _ hK => wp_load_row ty x ho g hx t cs fr d hg hu hd hi (hK _ _ h)
theorem results_c {fn : Func} {p : Tmp} {ty : TypeId} (h : fn.results = #[.cell p ty]) (tmps : Array Value) (w : World) (g : Nat) (t : TypeId) (cs : Array Value) (fr : Nat × Nat) (d : TypeDesc)
    (hp : tmps.getD p undef = .pointer (some ⟨g, 0, none⟩)) (hg : w.heap[g]? = some (.cells cs t fr))
    (hu : P.underlying ty = some d) (hd : (match d with | .struct _ | .array _ _ => true | _ => false) = true) (hi : (P.info? ty).map (·.size) = some cs.size) :
    (results fn tmps).run P w = .ok (.agg cs) w := by
  have hp' : tmps[p]?.getD undef = .pointer (some ⟨g, 0, none⟩) := by simpa using hp
  simp [results, h, hp', asAddr, run_loadVar_row w g t ty cs fr d hg hu hd hi]
end

/-- Which of the numbers 0 to 13 are in the list. -/
def markL (l : List Int) : List Bool := (List.range 14).map fun (i : Nat) => decide ((i : Int) ∈ l)
def boolC (m : List Bool) : List Value := m.map Value.bool
theorem markL_length (l : List Int) : (markL l).length = 14 := by simp [markL]
theorem boolC_length (m : List Bool) : (boolC m).length = m.length := by simp [boolC]
theorem boolC_one (m : List Bool) : (boolC m).toArray.all (·.oneCell') = true := by
  simp only [boolC, List.all_toArray, List.all_map, List.all_eq_true]
  intro x _; rfl
theorem markL_get {l : List Int} {i : Nat} (h : i < 14) : (markL l)[i]? = some (decide ((i : Int) ∈ l)) := by unfold markL; rw [List.getElem?_map, List.getElem?_range h]; rfl
theorem boolC_get {m : List Bool} {i : Nat} {b : Bool} (h : m[i]? = some b) : (boolC m)[i]? = some (.bool b) := by unfold boolC; rw [List.getElem?_map, h]; rfl
theorem boolC_set (m : List Bool) (i : Nat) (b : Bool) : (boolC m).set i (.bool b) = boolC (m.set i b) := by unfold boolC; rw [List.map_set]
theorem markL_more (l : List Int) {x : Int} (h0 : 0 ≤ x) (h1 : x < 14) : (markL l).set x.toNat true = markL (l ++ [x]) := by
  refine List.ext_getElem? fun i => ?_
  by_cases hi : i < 14
  · rw [markL_get hi]
    by_cases e : i = x.toNat
    · subst e
      rw [List.getElem?_set_self (by rw [markL_length]; exact hi), show ((x.toNat : Nat) : Int) = x from by omega]
      simp
    · rw [List.getElem?_set_ne (Ne.symm e), markL_get hi]
      have : (i : Int) ≠ x := by omega
      simp [this]
  · rw [List.getElem?_eq_none (by rw [List.length_set, markL_length]; omega), List.getElem?_eq_none (by rw [markL_length]; omega)]
theorem infoA : (Tryd.prog.info? 54).map (·.size) = some 14 := by kernel_rfl
set_option maxHeartbeats 2000000 in
set_option maxRecDepth 100000 in
theorem members_walk (A : Option Addr) (c : Nat) (l : List Int) (w : World) (hr : Kd.C (Kd.int .i64) w A l.length l) (hc : l.length ≤ c) (hl : l.length ≤ 1000) (hx : ∀ i : Nat, i < l.length → 0 ≤ rd l (i : Int) ∧ rd l (i : Int) < 14) :
    Calls Tryd.prog 38 #[.slice A l.length c] w fun e w' => e = .returned (.agg (boolC (markL l)).toArray) ∧ Below w.heap.size w w' := by
  have HR := Aside0.mk hr
  have HX := Aside0.mk hx
  have hz := (zero_of_info (P := Tryd.prog) (t := 54) (v := .agg (boolC (markL [])).toArray) (n := 14) (by kernel_rfl)).1
  have hu := Tryd.underlying54
  clear hr hx
  go_enter Tryd.func38, Tryd.ntmps38
  go_wp2
  obtain ⟨g, hg⟩ : ∃ y, y = w.heap.size := ⟨_, rfl⟩
  rw [← hg]
  have HG := Aside0.mk hg
  clear hg hz
  go_loopg [7] l.length (fun kq v7 w' => ∃ i : Nat, v7 = .int .i64 (i : Int) ∧ Aside0 (kq + i = l.length) ∧ Aside0 (w'.heap[g]? = some (.cells (boolC (markL (l.take i))).toArray 54 (0, 0))) ∧ Aside0 (Below w.heap.size w w'))
  case atStart => exact ⟨0, rfl, ⟨rfl⟩, ⟨by rw [HG.out, List.take_zero]; exact blk_new w _⟩, ⟨below_alloc (Below.refl _ _) _⟩⟩
  case round =>
    obtain ⟨i, rfl, HK, HM, HB⟩ := hrel
    by_cases hlt : i < l.length
    · have q1 : decide ((i : Int) < (l.length : Int)) = true := decide_eq_true (by omega)
      have q2 : decide (i < l.length) = true := decide_eq_true hlt
      obtain ⟨ad, e, hy⟩ := Kd.at_int (Kd.C_below HR.out HB.out) (i : Int) (by omega) (by omega)
      cases e
      rw [Int.toNat_natCast] at hy
      obtain ⟨x0, x1⟩ := HX.out i hlt
      have hsn : l.take (i + 1) = l.take i ++ [rd l (i : Int)] := by
        rw [List.take_add_one, List.getElem?_eq_getElem hlt]
        have : rd l (i : Int) = l[i] := by unfold rd; rw [Int.toNat_natCast, List.getD_eq_getElem?_getD, List.getElem?_eq_getElem hlt]; rfl
        rw [this]; rfl
      obtain ⟨x, hxe⟩ : ∃ y, y = rd l (i : Int) := ⟨_, rfl⟩
      rw [← hxe] at hy x0 x1 hsn
      have p1 : ((0 : Int) ≤ (i : Int)) = True := eq_true (by omega)
      have p2 : ((i : Int) < (l.length : Int)) = True := eq_true (by omega)
      have p3 : ((0 : Int) ≤ x) = True := eq_true x0
      have p4 : (x < 14) = True := eq_true x1
      have c1 := blk_cell HM.out x.toNat
      rw [List.getElem?_toArray, boolC_get (markL_get (by omega))] at c1
      have f1 := blk_frozen HM.out x.toNat
      have HSN := Aside0.mk hsn
      have HX0 := Aside0.mk (And.intro x0 x1)
      clear hsn hxe x0 x1
      go_wp2
      go_roundg (l.length - (i + 1))
      case measure => have := HK.out; omega
      case rel =>
        refine ⟨i + 1, by go_num, ⟨by omega⟩, ⟨blk_put HM.out x.toNat _ ?_⟩, ⟨Below.setCell HB.out (p := ⟨g, x.toNat, none⟩) (by rw [HG.out]; exact Nat.le_refl _) _⟩⟩
        rw [List.setIfInBounds_toArray, boolC_set, markL_more _ HX0.out.1 HX0.out.2, ← HSN.out]
    · have q1 : decide ((i : Int) < (l.length : Int)) = false := decide_eq_false (by omega)
      have q2 : decide (i < l.length) = false := decide_eq_false hlt
      have hil : l.take i = l := List.take_of_length_le (by omega)
      have hm := HM.out
      rw [hil] at hm
      have hsz : (Tryd.prog.info? 54).map (·.size) = some (boolC (markL l)).toArray.size := by rw [infoA, List.size_toArray, boolC_length, markL_length]
      have HM2 := Aside0.mk hm
      have HSZ := Aside0.mk hsz
      clear hm hil hsz
      go_wp2_with (first
        | ((with_reducible refine gate_dst (N := 14) rfl ?_); refine ld_row rfl 54 (.tmp 2) rfl g (by rfl) 54 (boolC (markL l)).toArray (0, 0) _ HM2.out Tryd.underlying54 rfl HSZ.out ?_)
        | ((with_reducible refine gate_store (p := 2) rfl ?_); refine st_row rfl 54 (.tmp 2) (.tmp 14) rfl g (boolC (markL l)).toArray (by rfl) (by rfl) 54 (boolC (markL l)).toArray HM2.out HSZ.out rfl (boolC_one _) ?_; intro w6 hb6 hbw hbo; have HB6 := Aside0.mk (hbw _ _ (by rw [HG.out]; exact Nat.le_refl _) HB.out); have HM6 := Aside0.mk hb6; clear hb6 hbw hbo))
      (try simp only [Exit.inBlock, Exit.then])
      refine bodyPost_ret (results_c rfl _ _ g 54 (boolC (markL l)).toArray (0, 0) _ (by rfl) HM6.out Tryd.underlying54 rfl HSZ.out) rfl ?_
      exact ⟨rfl, HB6.out⟩
theorem ext_yes {bad : List Int} {n : Nat} {k lack : Int} (h : k ∈ bad) : extL bad (n + 1) k lack = k :: extL bad n (k + 1) lack := by rw [extL, if_pos h]
theorem ext_more {bad : List Int} {n : Nat} {k lack : Int} (h : k ∉ bad) (hl : lack > 0) : extL bad (n + 1) k lack = k :: extL bad n (k + 1) (lack - 1) := by rw [extL, if_neg h, if_pos hl]
theorem ext_skip {bad : List Int} {n : Nat} {k lack : Int} (h : k ∉ bad) (hl : ¬ lack > 0) : extL bad (n + 1) k lack = extL bad n (k + 1) lack := by rw [extL, if_neg h, if_neg hl]
set_option maxHeartbeats 4000000 in
set_option maxRecDepth 100000 in
theorem ext_walk (p : Int) (N : Nat) (T : Int) (A : Option Addr) (c : Nat) (l : List Int) (w : World) (hr : Kd.C (Kd.int .i64) w A l.length l) (hc : l.length ≤ c) (hl : l.length ≤ 1000) (hx : ∀ i : Nat, i < l.length → 0 ≤ rd l (i : Int) ∧ rd l (i : Int) < 14) (hN : N ≤ 13) :
    Calls Tryd.prog 16 #[.agg #[.int .u64 p, .int .i64 (N : Int), .int .i64 T], .slice A l.length c] w fun e w' => ∃ v0_ : Value, e = .returned (v0_) ∧ Kd.R (Kd.int .i64) 3 w' w.heap.size (fun _ => True) v0_ (extL l N 1 (T - l.length)) ∧ Below w.heap.size w w' := by
  have HR := Aside0.mk hr
  have HX := Aside0.mk hx
  have HC := Aside0.mk hc
  have HL := Aside0.mk hl
  have hz := (zero_of_info (P := Tryd.prog) (t := 54) (v := .agg (boolC (markL [])).toArray) (n := 14) (by kernel_rfl)).1
  have hu := Tryd.underlying54
  have hu2 := Tryd.underlying24
  have hsz : (Tryd.prog.info? 54).map (·.size) = some (boolC (markL l)).toArray.size := by rw [infoA, List.size_toArray, boolC_length, markL_length]
  have HSZ := Aside0.mk hsz
  clear hr hx hc hl hsz
  go_enter Tryd.func16, Tryd.ntmps16
  go_wp2_with (first
    | ((with_reducible refine gate_dst (N := 2) rfl ?_); refine box_event ?hg (N := 2) ?hd (cs := #[.int .u64 p, .int .i64 (N : Int), .int .i64 T]) (t := 24) ?hr ?_; (case hd => rfl); (case hg => rfl); (case hr => first | (go_simp; done) | (go_simp; rfl)); intro gb hgb w4 hbox hb4; have GB := Aside0.mk hgb; have BK4 := Aside0.mk hbox; have HB4 := Aside0.mk hb4; clear hbox hb4 hgb)
    | (go_at_call 38; (refine (members_walk A c l _ (Kd.C_below HR.out HB4.out) HC.out HL.out HX.out).mono ?_); rintro e w5 ⟨rfl, hb5⟩; have BK5 := Aside0.mk (blk_below BK4.out hb5); have HB5 := Aside0.mk (below_step HB4.out hb5); clear hb5)
    | ((with_reducible refine gate_store (p := 5) rfl ?_); refine st_row rfl 54 (.tmp 5) (.tmp 10) rfl w5.heap.size (boolC (markL l)).toArray (by rfl) (by rfl) 54 (boolC (markL [])).toArray (blk_new w5 _) HSZ.out (by rw [List.size_toArray, List.size_toArray, boolC_length, boolC_length, markL_length, markL_length]) (boolC_one _) ?_; intro w6 hb6 hbw hbo; have BK6 := Aside0.mk (hbo gb _ (by have := blk_lt BK5.out; omega) (blk_alloc BK5.out _)); have HB6 := Aside0.mk (hbw _ _ (below_size HB5.out) (below_alloc HB5.out _)); have HM6 := Aside0.mk hb6; clear hb6 hbw hbo))
  obtain ⟨g, hg⟩ : ∃ y, y = w5.heap.size := ⟨_, rfl⟩
  rw [← hg] at HM6 ⊢
  have HG := Aside0.mk (show w.heap.size ≤ g by rw [hg]; exact below_size HB5.out)
  have HGB := Aside0.mk (show w.heap.size ≤ gb by rw [GB.out]; exact Nat.le_refl _)
  clear hg hz BK4 BK5 HB4 HB5 GB
  go_loopg [6, 7, 8] N (fun kq v6 v7 v8 w' => ∃ (k : Nat) (n : Int) (m : List Bool) (dn : List Int), v6 = .int .i64 n ∧ v8 = .int .i64 (k : Int) ∧ Aside0 (kq + k = N + 1 ∧ 1 ≤ k) ∧ Aside0 (0 ≤ n ∧ n + 1 ≤ l.length + k) ∧ Aside0 (m.length = 14 ∧ ∀ i : Nat, k ≤ i → i < 14 → m[i]? = some (decide ((i : Int) ∈ l))) ∧ Aside0 (dn ++ extL l (N + 1 - k) (k : Int) (T - n) = extL l N 1 (T - l.length)) ∧ Aside0 (dn.length + 1 ≤ k) ∧ Aside0 (Kd.R (Kd.int .i64) 3 w' w.heap.size (fun _ => True) v7 dn) ∧ Aside0 (w'.heap[g]? = some (.cells (boolC m).toArray 54 (0, 0))) ∧ Aside0 (w'.heap[gb]? = some (.cells #[.int .u64 p, .int .i64 (N : Int), .int .i64 T] 24 (0, 0))) ∧ Aside0 (Below w.heap.size w w'))
  case atStart => exact ⟨1, (l.length : Int), markL l, [], rfl, rfl, ⟨rfl, Nat.le_refl _⟩, ⟨by omega, by omega⟩, ⟨markL_length l, fun i _ hi => markL_get hi⟩, ⟨rfl⟩, ⟨Nat.le_refl _⟩, ⟨Kd.R_nil _ _ _ _ _⟩, HM6, BK6, HB6⟩
  case round =>
    clear HM6 BK6 HB6
    obtain ⟨k, n, m, dn, rfl, rfl, HK, HN, HM, HD, HDL, HO, HMB, BK, HB⟩ := hrel
    have cN := blk_cell BK.out 1
    have cT := blk_cell BK.out 2
    simp only [List.getElem?_toArray, List.getElem?_cons_zero, List.getElem?_cons_succ] at cN cT
    obtain ⟨hk0, hk1⟩ := HK.out
    obtain ⟨hn0, hn1⟩ := HN.out
    have hl := HL.out
    by_cases hlt : k ≤ N
    · have q1 : decide ((k : Int) ≤ (N : Int)) = true := decide_eq_true (by omega)
      have q2 : decide (k ≤ N) = true := decide_eq_true hlt
      have p1 : ((0 : Int) ≤ (k : Int)) = True := eq_true (by omega)
      have p2 : ((k : Int) < 14) = True := eq_true (by omega)
      have p3 : (k < 14) = True := eq_true (by omega)
      have c1 := blk_cell HMB.out k
      rw [List.getElem?_toArray, boolC_get (HM.out.2 k (Nat.le_refl _) (by omega))] at c1
      have f1 := blk_frozen HMB.out k
      have hrun : N + 1 - k = (N + 1 - (k + 1)) + 1 := by omega
      by_cases hb : (k : Int) ∈ l
      · have hd : decide ((k : Int) ∈ l) = true := decide_eq_true hb
        rw [hd] at c1
        have HE := Aside0.mk (show dn ++ [(k : Int)] ++ extL l (N + 1 - (k + 1)) ((k : Int) + 1) (T - n) = extL l N 1 (T - l.length) by rw [← HD.out, hrun, ext_yes hb, List.append_assoc]; rfl)
        obtain ⟨m1, hm1⟩ : ∃ y : List Int, y = dn ++ [(k : Int)] := ⟨_, rfl⟩
        have NM := Aside0.mk hm1
        obtain ⟨A7, c7, rfl⟩ := Kd.R_slice HO.out
        clear hm1 hd hb hrun hk0 hn1
        go_wp2_with (first
          | ((with_reducible refine gate_builtin (b := .append) (xs := #[.tmp 36, .tmp 38]) rfl ?_); at_builtin; refine Kd.R_append (Kd.int .i64) (w0 := w) w.heap.size rfl (.tmp 36) (.tmp 38) 25 3 (.int .i64 0) 8 rfl Tryd.underlying25 info3 rfl (by decide) (by omega) (.slice A7 dn.length c7) dn (k : Int) [.int .i64 (k : Int)] (fun _ => True) (fun _ => False) rfl rfl rfl (fun _ hk => hk.elim) (fun _ _ => trivial) HO.out HB.out (below_size HB.out) (by have := HDL.out; omega) ?_; intro v1 w1 ho hb hg hat; rw [← NM.out] at ho; have HMB1 := Aside0.mk (blk_grown HMB.out hg (Kd.R_ne HO.out HMB.out (by decide))); have BK1 := Aside0.mk (blk_grown BK.out hg (Kd.R_ne HO.out BK.out (by decide))); have HO1 := Aside0.mk ho; have HB1 := Aside0.mk hb; clear ho hb hg hat))
        go_roundg (N - k)
        case measure => have := HK.out; omega
        case rel => exact ⟨k + 1, n, m, m1, rfl, by go_num, ⟨by omega⟩, ⟨by have := HN.out; omega⟩, ⟨HM.out.1, fun i h1 h2 => HM.out.2 i (by omega) h2⟩, ⟨by rw [NM.out]; exact HE.out⟩, ⟨by rw [NM.out, List.length_append]; have := HDL.out; simp only [List.length_cons, List.length_nil]; omega⟩, HO1, HMB1, BK1, HB1⟩
      · have hd : decide ((k : Int) ∈ l) = false := decide_eq_false hb
        rw [hd] at c1
        by_cases hln : n < T
        · have q3 : decide (n < T) = true := decide_eq_true hln
          have HE := Aside0.mk (show dn ++ [(k : Int)] ++ extL l (N + 1 - (k + 1)) ((k : Int) + 1) (T - (n + 1)) = extL l N 1 (T - l.length) by rw [← HD.out, hrun, ext_more hb (by omega), List.append_assoc, show T - (n + 1) = T - n - 1 from by omega]; rfl)
          obtain ⟨m1, hm1⟩ : ∃ y : List Int, y = dn ++ [(k : Int)] := ⟨_, rfl⟩
          have NM := Aside0.mk hm1
          obtain ⟨A7, c7, rfl⟩ := Kd.R_slice HO.out
          have hb2 : (wr.setCell ⟨g, k, none⟩ (.bool true)).heap[g]? = some (.cells (boolC (m.set k true)).toArray 54 (0, 0)) := blk_put HMB.out k _ (by rw [List.setIfInBounds_toArray, boolC_set])
          have hgg : gb ≠ g := blk_ne BK.out HMB.out (by decide)
          have hb3 : (wr.setCell ⟨g, k, none⟩ (.bool true)).heap[gb]? = some (.cells #[.int .u64 p, .int .i64 (N : Int), .int .i64 T] 24 (0, 0)) := blk_far (p := ⟨g, k, none⟩) BK.out hgg _
          have hb4 := Kd.R_set HO.out HMB.out (by decide) k (.bool true)
          have hb5 := Below.setCell HB.out (p := ⟨g, k, none⟩) HG.out (.bool true)
          have c2 := blk_cell hb2 k
          rw [List.getElem?_toArray, boolC_get (b := true) (by rw [List.getElem?_set_self (by rw [HM.out.1]; omega)])] at c2
          have HB2 := Aside0.mk hb2
          have HB3 := Aside0.mk hb3
          have HB4 := Aside0.mk hb4
          have HB5 := Aside0.mk hb5
          clear hm1 hd hb hrun hk0 hn1 hb2 hb3 hb4 hb5 hgg
          go_wp2_with (first
            | ((with_reducible refine gate_builtin (b := .append) (xs := #[.tmp 36, .tmp 38]) rfl ?_); at_builtin; refine Kd.R_append (Kd.int .i64) (w0 := w) w.heap.size rfl (.tmp 36) (.tmp 38) 25 3 (.int .i64 0) 8 rfl Tryd.underlying25 info3 rfl (by decide) (by omega) (.slice A7 dn.length c7) dn (k : Int) [.int .i64 (k : Int)] (fun _ => True) (fun _ => False) rfl (by rw [show (wr.setCell ⟨g, k, none⟩ (.bool true)).heap.size = wr.heap.size from by simp [World.setCell]]; rfl) rfl (fun _ hk => hk.elim) (fun _ _ => trivial) HB4.out HB5.out (below_size HB5.out) (by have := HDL.out; omega) ?_; intro v1 w1 ho hb hg hat; rw [← NM.out] at ho; have HMB1 := Aside0.mk (blk_grown HB2.out hg (Kd.R_ne HB4.out HB2.out (by decide))); have BK1 := Aside0.mk (blk_grown HB3.out hg (Kd.R_ne HB4.out HB3.out (by decide))); have HO1 := Aside0.mk ho; have HB1 := Aside0.mk hb; clear ho hb hg hat))
          go_roundg (N - k)
          case measure => have := HK.out; omega
          case rel => exact ⟨k + 1, n + 1, m.set k true, m1, by rw [show wrap64 (n + 1) = n + 1 from w64' (by have := HN.out; have := HL.out; omega) (by have := HN.out; have := HL.out; omega)], by go_num, ⟨by omega⟩, ⟨by have := HN.out; omega⟩, ⟨by rw [List.length_set]; exact HM.out.1, fun i h1 h2 => by rw [List.getElem?_set_ne (by omega)]; exact HM.out.2 i (by omega) h2⟩, ⟨by rw [NM.out]; exact HE.out⟩, ⟨by rw [NM.out, List.length_append]; have := HDL.out; simp only [List.length_cons, List.length_nil]; omega⟩, HO1, HMB1, BK1, HB1⟩
        · have q3 : decide (n < T) = false := decide_eq_false hln
          have HE := Aside0.mk (show dn ++ extL l (N + 1 - (k + 1)) ((k : Int) + 1) (T - n) = extL l N 1 (T - l.length) by rw [← HD.out, hrun, ext_skip hb (by omega)])
          clear hd hb hrun hk0 hn1
          go_wp2
          go_roundg (N - k)
          case measure => have := HK.out; omega
          case rel => exact ⟨k + 1, n, m, dn, rfl, by go_num, ⟨by omega⟩, ⟨by have := HN.out; omega⟩, ⟨HM.out.1, fun i h1 h2 => HM.out.2 i (by omega) h2⟩, HE, ⟨by have := HDL.out; omega⟩, HO, HMB, BK, HB⟩
    · have q1 : decide ((k : Int) ≤ (N : Int)) = false := decide_eq_false (by omega)
      have q2 : decide (k ≤ N) = false := decide_eq_false hlt
      have hz : N + 1 - k = 0 := by omega
      have HE := Aside0.mk (show dn = extL l N 1 (T - l.length) by rw [← HD.out, hz]; simp [extL])
      clear hz
      go_wp2
      first | go_ret | ((try simp only [Exit.inBlock, Exit.then]); refine bodyPost_ret (results_tmp rfl _ _ rfl) rfl ?_)
      exact ⟨_, rfl, by rw [← HE.out]; exact HO.out, HB.out⟩
def params_ExtendCoalition.f (a0 a1 a2 : Int) (l : List Int) : Option (List Int) :=
  if 0 ≤ a1 then (if a1 ≤ 13 then (if l.length ≤ 1000 then (if (l.all fun x => decide (0 ≤ x) && decide (x < 14)) = true then some (extL l a1.toNat 1 (a2 - l.length)) else none) else none) else none) else none
theorem params_ExtendCoalition.calls (a0 a1 a2 : Int) (A1 : Option Addr) (c1 : Nat) (l1 : List Int) (r : List Int) (w : World) (hr1 : Kd.C (Kd.int .i64) w A1 l1.length l1) (hc1 : l1.length ≤ c1) (h : params_ExtendCoalition.f a0 a1 a2 l1 = some r) :
    Calls Tryd.prog 16 #[.agg #[.int .u64 a0, .int .i64 a1, .int .i64 a2], .slice A1 l1.length c1] w fun e w' => ∃ v0_ : Value, e = .returned (v0_) ∧ Kd.R (Kd.int .i64) 3 w' w.heap.size (fun _ => True) v0_ r ∧ Below w.heap.size w w' := by
  unfold params_ExtendCoalition.f at h
  obtain ⟨h1, h⟩ := ifs h
  obtain ⟨h2, h⟩ := ifs h
  obtain ⟨h3, h⟩ := ifs h
  obtain ⟨h4, h⟩ := ifs h
  rw [← Option.some.inj h]
  have e : ((a1.toNat : Nat) : Int) = a1 := Int.toNat_of_nonneg h1
  have hg := ext_walk a0 a1.toNat a2 A1 c1 l1 w hr1 hc1 h3 (fun i hi => by
    have hm := List.all_eq_true.1 h4 (l1[i]) (List.getElem_mem _)
    rw [Bool.and_eq_true, decide_eq_true_eq, decide_eq_true_eq] at hm
    have : rd l1 (i : Int) = l1[i] := by unfold rd; rw [Int.toNat_natCast, List.getD_eq_getElem?_getD, List.getElem?_eq_getElem hi]; rfl
    rw [this]; exact hm) (by omega)
  rw [e] at hg
  exact hg
end Go.Proofs.YtakaonojfpkhnaaDoor.Hw
end
section
/-
  HonestParties of package params, proved by hand.
-/
namespace Go.Proofs.YtakaonojfpkhnaaDoor.Hw
open Go.RowKit Go.Proofs.YtakaonojfpkhnaaDoor.Pr Go.Proofs.YtakaonojfpkhnaaDoorW.PrintWords Go.Proofs.YtakaonojfpkhnaaDoorW.PrintLast Go.Proofs.YtakaonojfpkhnaaDoorW.PrintMore Go.Proofs.YtakaonojfpkhnaaDoor.E
set_option linter.unusedVariables false
set_option linter.unusedSimpArgs false

theorem hon_skip {bad : List Int} {n : Nat} {k : Int} (h : k ∈ bad) : honL bad (n + 1) k = honL bad n (k + 1) := by unfold honL; rw [runL, List.filter_cons_of_neg (by simpa using h)]
theorem hon_more {bad : List Int} {n : Nat} {k : Int} (h : k ∉ bad) : honL bad (n + 1) k = k :: honL bad n (k + 1) := by unfold honL; rw [runL, List.filter_cons_of_pos (by simpa using h)]
set_option maxHeartbeats 4000000 in
set_option maxRecDepth 100000 in
theorem hon_walk (p : Int) (N : Nat) (T : Int) (A : Option Addr) (c : Nat) (l : List Int) (w : World) (hr : Kd.C (Kd.int .i64) w A l.length l) (hc : l.length ≤ c) (hl : l.length ≤ 1000) (hx : ∀ i : Nat, i < l.length → 0 ≤ rd l (i : Int) ∧ rd l (i : Int) < 14) (hN : N ≤ 13) :
    Calls Tryd.prog 17 #[.agg #[.int .u64 p, .int .i64 (N : Int), .int .i64 T], .slice A l.length c] w fun e w' => ∃ v0_ : Value, e = .returned (v0_) ∧ Kd.R (Kd.int .i64) 3 w' w.heap.size (fun _ => True) v0_ (honL l N 1) ∧ Below w.heap.size w w' := by
  have HR := Aside0.mk hr
  have HX := Aside0.mk hx
  have HC := Aside0.mk hc
  have HL := Aside0.mk hl
  have hz := (zero_of_info (P := Tryd.prog) (t := 54) (v := .agg (boolC (markL [])).toArray) (n := 14) (by kernel_rfl)).1
  have hu := Tryd.underlying54
  have hu2 := Tryd.underlying24
  have hsz : (Tryd.prog.info? 54).map (·.size) = some (boolC (markL l)).toArray.size := by rw [infoA, List.size_toArray, boolC_length, markL_length]
  have HSZ := Aside0.mk hsz
  clear hr hx hc hl hsz
  go_enter Tryd.func17, Tryd.ntmps17
  go_wp2_with (first
    | ((with_reducible refine gate_dst (N := 2) rfl ?_); refine box_event ?hg (N := 2) ?hd (cs := #[.int .u64 p, .int .i64 (N : Int), .int .i64 T]) (t := 24) ?hr ?_; (case hd => rfl); (case hg => rfl); (case hr => first | (go_simp; done) | (go_simp; rfl)); intro gb hgb w4 hbox hb4; have GB := Aside0.mk hgb; have BK4 := Aside0.mk hbox; have HB4 := Aside0.mk hb4; clear hbox hb4 hgb)
    | (go_at_call 38; (refine (members_walk A c l _ (Kd.C_below HR.out HB4.out) HC.out HL.out HX.out).mono ?_); rintro e w5 ⟨rfl, hb5⟩; have BK5 := Aside0.mk (blk_below BK4.out hb5); have HB5 := Aside0.mk (below_step HB4.out hb5); clear hb5)
    | ((with_reducible refine gate_store (p := 5) rfl ?_); refine st_row rfl 54 (.tmp 5) (.tmp 9) rfl w5.heap.size (boolC (markL l)).toArray (by rfl) (by rfl) 54 (boolC (markL [])).toArray (blk_new w5 _) HSZ.out (by rw [List.size_toArray, List.size_toArray, boolC_length, boolC_length, markL_length, markL_length]) (boolC_one _) ?_; intro w6 hb6 hbw hbo; have BK6 := Aside0.mk (hbo gb _ (by have := blk_lt BK5.out; omega) (blk_alloc BK5.out _)); have HB6 := Aside0.mk (hbw _ _ (below_size HB5.out) (below_alloc HB5.out _)); have HM6 := Aside0.mk hb6; clear hb6 hbw hbo))
  obtain ⟨g, hg⟩ : ∃ y, y = w5.heap.size := ⟨_, rfl⟩
  rw [← hg] at HM6 ⊢
  have HG := Aside0.mk (show w.heap.size ≤ g by rw [hg]; exact below_size HB5.out)
  clear hg hz BK4 BK5 HB4 HB5 GB
  go_loopg [6, 7] N (fun kq v6 v7 w' => ∃ (k : Nat) (dn : List Int), v7 = .int .i64 (k : Int) ∧ Aside0 (kq + k = N + 1 ∧ 1 ≤ k) ∧ Aside0 (dn ++ honL l (N + 1 - k) (k : Int) = honL l N 1) ∧ Aside0 (dn.length + 1 ≤ k) ∧ Aside0 (Kd.R (Kd.int .i64) 3 w' w.heap.size (fun _ => True) v6 dn) ∧ Aside0 (w'.heap[g]? = some (.cells (boolC (markL l)).toArray 54 (0, 0))) ∧ Aside0 (w'.heap[gb]? = some (.cells #[.int .u64 p, .int .i64 (N : Int), .int .i64 T] 24 (0, 0))) ∧ Aside0 (Below w.heap.size w w'))
  case atStart => exact ⟨1, [], rfl, ⟨rfl, Nat.le_refl _⟩, ⟨rfl⟩, ⟨Nat.le_refl _⟩, ⟨Kd.R_nil _ _ _ _ _⟩, HM6, BK6, HB6⟩
  case round =>
    clear HM6 BK6 HB6
    obtain ⟨k, dn, rfl, HK, HD, HDL, HO, HMB, BK, HB⟩ := hrel
    have cN := blk_cell BK.out 1
    simp only [List.getElem?_toArray, List.getElem?_cons_zero, List.getElem?_cons_succ] at cN
    obtain ⟨hk0, hk1⟩ := HK.out
    have hl := HL.out
    by_cases hlt : k ≤ N
    · have q1 : decide ((k : Int) ≤ (N : Int)) = true := decide_eq_true (by omega)
      have q2 : decide (k ≤ N) = true := decide_eq_true hlt
      have p1 : ((0 : Int) ≤ (k : Int)) = True := eq_true (by omega)
      have p2 : ((k : Int) < 14) = True := eq_true (by omega)
      have p3 : (k < 14) = True := eq_true (by omega)
      have c1 := blk_cell HMB.out k
      rw [List.getElem?_toArray, boolC_get (markL_get (by omega))] at c1
      have hrun : N + 1 - k = (N + 1 - (k + 1)) + 1 := by omega
      by_cases hb : (k : Int) ∈ l
      · have hd : decide ((k : Int) ∈ l) = true := decide_eq_true hb
        rw [hd] at c1
        have HE := Aside0.mk (show dn ++ honL l (N + 1 - (k + 1)) ((k : Int) + 1) = honL l N 1 by rw [← HD.out, hrun, hon_skip hb])
        clear hd hb hrun hk0
        go_wp2
        go_roundg (N - k)
        case measure => have := HK.out; omega
        case rel => exact ⟨k + 1, dn, by go_num, ⟨by omega⟩, HE, ⟨by have := HDL.out; omega⟩, HO, HMB, BK, HB⟩
      · have hd : decide ((k : Int) ∈ l) = false := decide_eq_false hb
        rw [hd] at c1
        have HE := Aside0.mk (show dn ++ [(k : Int)] ++ honL l (N + 1 - (k + 1)) ((k : Int) + 1) = honL l N 1 by rw [← HD.out, hrun, hon_more hb, List.append_assoc]; rfl)
        obtain ⟨m1, hm1⟩ : ∃ y : List Int, y = dn ++ [(k : Int)] := ⟨_, rfl⟩
        have NM := Aside0.mk hm1
        obtain ⟨A7, c7, rfl⟩ := Kd.R_slice HO.out
        clear hm1 hd hb hrun hk0
        go_wp2_with (first
          | ((with_reducible refine gate_builtin (b := .append) (xs := #[.tmp 20, .tmp 22]) rfl ?_); at_builtin; refine Kd.R_append (Kd.int .i64) (w0 := w) w.heap.size rfl (.tmp 20) (.tmp 22) 25 3 (.int .i64 0) 8 rfl Tryd.underlying25 info3 rfl (by decide) (by omega) (.slice A7 dn.length c7) dn (k : Int) [.int .i64 (k : Int)] (fun _ => True) (fun _ => False) rfl rfl rfl (fun _ hk => hk.elim) (fun _ _ => trivial) HO.out HB.out (below_size HB.out) (by have := HDL.out; omega) ?_; intro v1 w1 ho hb hg hat; rw [← NM.out] at ho; have HMB1 := Aside0.mk (blk_grown HMB.out hg (Kd.R_ne HO.out HMB.out (by decide))); have BK1 := Aside0.mk (blk_grown BK.out hg (Kd.R_ne HO.out BK.out (by decide))); have HO1 := Aside0.mk ho; have HB1 := Aside0.mk hb; clear ho hb hg hat))
        go_roundg (N - k)
        case measure => have := HK.out; omega
        case rel => exact ⟨k + 1, m1, by go_num, ⟨by omega⟩, ⟨by rw [NM.out]; exact HE.out⟩, ⟨by rw [NM.out, List.length_append]; have := HDL.out; simp only [List.length_cons, List.length_nil]; omega⟩, HO1, HMB1, BK1, HB1⟩
    · have q1 : decide ((k : Int) ≤ (N : Int)) = false := decide_eq_false (by omega)
      have q2 : decide (k ≤ N) = false := decide_eq_false hlt
      have hz : N + 1 - k = 0 := by omega
      have HE := Aside0.mk (show dn = honL l N 1 by rw [← HD.out, hz]; simp [honL, runL])
      clear hz
      go_wp2
      first | go_ret | ((try simp only [Exit.inBlock, Exit.then]); refine bodyPost_ret (results_tmp rfl _ _ rfl) rfl ?_)
      exact ⟨_, rfl, by rw [← HE.out]; exact HO.out, HB.out⟩
def params_HonestParties.f (a0 a1 a2 : Int) (l : List Int) : Option (List Int) :=
  if 0 ≤ a1 then (if a1 ≤ 13 then (if l.length ≤ 1000 then (if (l.all fun x => decide (0 ≤ x) && decide (x < 14)) = true then some (honL l a1.toNat 1) else none) else none) else none) else none
theorem params_HonestParties.calls (a0 a1 a2 : Int) (A1 : Option Addr) (c1 : Nat) (l1 : List Int) (r : List Int) (w : World) (hr1 : Kd.C (Kd.int .i64) w A1 l1.length l1) (hc1 : l1.length ≤ c1) (h : params_HonestParties.f a0 a1 a2 l1 = some r) :
    Calls Tryd.prog 17 #[.agg #[.int .u64 a0, .int .i64 a1, .int .i64 a2], .slice A1 l1.length c1] w fun e w' => ∃ v0_ : Value, e = .returned (v0_) ∧ Kd.R (Kd.int .i64) 3 w' w.heap.size (fun _ => True) v0_ r ∧ Below w.heap.size w w' := by
  unfold params_HonestParties.f at h
  obtain ⟨h1, h⟩ := ifs h
  obtain ⟨h2, h⟩ := ifs h
  obtain ⟨h3, h⟩ := ifs h
  obtain ⟨h4, h⟩ := ifs h
  rw [← Option.some.inj h]
  have e : ((a1.toNat : Nat) : Int) = a1 := Int.toNat_of_nonneg h1
  have hg := hon_walk a0 a1.toNat a2 A1 c1 l1 w hr1 hc1 h3 (fun i hi => by
    have hm := List.all_eq_true.1 h4 (l1[i]) (List.getElem_mem _)
    rw [Bool.and_eq_true, decide_eq_true_eq, decide_eq_true_eq] at hm
    have : rd l1 (i : Int) = l1[i] := by unfold rd; rw [Int.toNat_natCast, List.getD_eq_getElem?_getD, List.getElem?_eq_getElem hi]; rfl
    rw [this]; exact hm) (by omega)
  rw [e] at hg
  exact hg
end Go.Proofs.YtakaonojfpkhnaaDoor.Hw
end
