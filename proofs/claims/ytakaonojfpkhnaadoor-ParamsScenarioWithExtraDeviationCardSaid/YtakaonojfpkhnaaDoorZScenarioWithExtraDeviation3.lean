/- Part 3 of the proof's texts, joined in build order. -/
import Derived.Test.YtakaonojfpkhnaaDoorZScenarioWithExtraDeviation1
import Derived.Test.YtakaonojfpkhnaaDoorZScenarioWithExtraDeviation2
import Derived.Lib.Hide
section
/- Printed by a program of this seat (the kit's printer, with the functions that were proved by hand given to it). What stands here: the functions that the statements reach, as plain functions, and that the Go code computes them. -/
namespace Go.Proofs.YtakaonojfpkhnaaDoor.Pr
open Go.RowKit Go.Proofs.YtakaonojfpkhnaaDoorW.PrintWords Go.Proofs.YtakaonojfpkhnaaDoorW.PrintLast Go.Proofs.YtakaonojfpkhnaaDoorW.PrintMore
attribute [local go_sem] max2_int min2_int max_two min_two max_three min_three max_four min_four   -- for this text's walks alone
set_option linter.unusedVariables false
set_option linter.unusedSimpArgs false

open Go.Proofs.YtakaonojfpkhnaaDoor.Hw
/-! ### privityref12_ValidScenario: function 15 -/
mutual
def privityref12_ValidScenario.j0 : Nat → Bool → Int → Int → Int → List Int → List (S42) → List (List Int) → Option (Bool)
 | 0,_,_,_,_,_,_,_ => none
 | k + 1,x25,x219000,x219001,x219002,x219003,x219004,x219005 => if x25 = true then (some false) else (privityref12_ValidScenario.l0 k 0 x219000 x219001 x219002 x219003 x219004 x219005)
def privityref12_ValidScenario.l0 : Nat → Int → Int → Int → Int → List Int → List (S42) → List (List Int) → Option (Bool)
 | 0,_,_,_,_,_,_,_ => none
 | k + 1,x3,x219000,x219001,x219002,x219003,x219004,x219005 => if x3 < (x219004.length : Int) then (if 0 ≤ x3 then ((privityref12_Deviation.f x219000 x219001 x219002 ((rd_T42 x219004 x3).f0) ((rd_T42 x219004 x3).f1) ((rd_T42 x219004 x3).f2) ((rd_T42 x219004 x3).f3) ((rd_T42 x219004 x3).f4) ((rd_T42 x219004 x3).f5) ((rd_T42 x219004 x3).f6) ((rd_T42 x219004 x3).f7)).bind fun t222 => (if t222 = true then (privityref12_ValidScenario.l0 k (wrap64 (x3 + 1)) x219000 x219001 x219002 x219003 x219004 x219005) else (some false))) else (none)) else (privityref12_ValidScenario.l1 k 0 x219000 x219001 x219002 x219003 x219004 x219005)
def privityref12_ValidScenario.l1 : Nat → Int → Int → Int → Int → List Int → List (S42) → List (List Int) → Option (Bool)
 | 0,_,_,_,_,_,_,_ => none
 | k + 1,x4,x219000,x219001,x219002,x219003,x219004,x219005 => if x4 < (x219005.length : Int) then (if 0 ≤ x4 then ((privityref05_Below.f k x219000 (rd_L6 x219005 x4)).bind fun t224 => (if t224 = true then (privityref12_ValidScenario.l1 k (wrap64 (x4 + 1)) x219000 x219001 x219002 x219003 x219004 x219005) else (some false))) else (none)) else (some true)
end
def privityref12_ValidScenario.f (k : Nat) (a0_0 : Int) (a0_1 : Int) (a0_2 : Int) (l0_3 : List Int) (l0_4 : List (S42)) (l0_5 : List (List Int)) : Option (Bool) := (privityref12_Valid.f k a0_0 a0_1 a0_2).bind fun t219 => (if t219 = true then ((privityref12_ValidCoalition.f k a0_0 a0_1 a0_2 l0_3).bind fun t220 => (if t220 = true then (privityref12_ValidScenario.j0 k ((l0_5.length : Int) != a0_1) a0_0 a0_1 a0_2 l0_3 l0_4 l0_5) else (privityref12_ValidScenario.j0 k true a0_0 a0_1 a0_2 l0_3 l0_4 l0_5))) else (privityref12_ValidScenario.j0 k true a0_0 a0_1 a0_2 l0_3 l0_4 l0_5))
def privityref12_ValidScenario.T6 : Bool × List (List Nat × List Nat) := (true, [([], []), ([0], [0]), ([], []), ([2], [2]), ([], []), ([3, 4], [3, 4]), ([5], [5]), ([1, 6], [1, 6]), ([7], [7])])
def privityref12_ValidScenario.B6 : List Nat := [0, 1, 0, 4, 0, 28, 60, 127, 255]
theorem privityref12_ValidScenario.tab6 : rtab .any (opsOf Tryd.f15 6) = privityref12_ValidScenario.T6 := by kernel_rfl
theorem privityref12_ValidScenario.bits6 : waitsOk privityref12_ValidScenario.T6.2 privityref12_ValidScenario.B6 = true := by kernel_rfl
def privityref12_ValidScenario.T11 : Bool × List (List Nat × List Nat) := (true, [([], []), ([0], [0]), ([1], [1]), ([], []), ([3], [3]), ([], []), ([4, 5], [4, 5]), ([6], [6]), ([2, 7], [2, 7]), ([8], [8])])
def privityref12_ValidScenario.B11 : List Nat := [0, 1, 3, 0, 8, 0, 56, 120, 255, 511]
theorem privityref12_ValidScenario.tab11 : rtab .any (opsOf Tryd.f15 11) = privityref12_ValidScenario.T11 := by kernel_rfl
theorem privityref12_ValidScenario.bits11 : waitsOk privityref12_ValidScenario.T11.2 privityref12_ValidScenario.B11 = true := by kernel_rfl
set_option maxHeartbeats 8000000 in
set_option maxRecDepth 100000 in
theorem privityref12_ValidScenario.calls (k : Nat) (a0_0 : Int) (a0_1 : Int) (a0_2 : Int) (A0_3 : Option Addr) (c0_3 : Nat) (l0_3 : List Int) (A0_4 : Option Addr) (c0_4 : Nat) (l0_4 : List (S42)) (A0_5 : Option Addr) (c0_5 : Nat) (l0_5 : List (List Int)) (r : Bool) (w : World) (hr0_3 : Kd.C (Kd.int .i64) w A0_3 l0_3.length l0_3) (hc0_3 : l0_3.length ≤ c0_3) (hr0_4 : Kd.C k42 w A0_4 l0_4.length l0_4) (hc0_4 : l0_4.length ≤ c0_4) (hr0_5 : Kd.C (Kd.slice 22 (Kd.int .u64)) w A0_5 l0_5.length l0_5) (hc0_5 : l0_5.length ≤ c0_5) (h : privityref12_ValidScenario.f k a0_0 a0_1 a0_2 l0_3 l0_4 l0_5 = some r) :
  Calls Tryd.prog 15 #[.agg #[.int .u64 a0_0,.int .i64 a0_1,.int .i64 a0_2,.slice A0_3 l0_3.length c0_3,.slice A0_4 l0_4.length c0_4,.slice A0_5 l0_5.length c0_5]] w fun e w' => e = .returned (.bool r) ∧ Below w.heap.size w w' := by
 have hu32 := Tryd.underlying32
 have hu24 := Tryd.underlying24
 have hu42 := Tryd.underlying42
 have HR0_3 := Aside0.mk hr0_3
 have HC0_3 := Aside0.mk hc0_3
 clear hr0_3 hc0_3
 have HR0_4 := Aside0.mk hr0_4
 have HC0_4 := Aside0.mk hc0_4
 clear hr0_4 hc0_4
 have HR0_5 := Aside0.mk hr0_5
 have HC0_5 := Aside0.mk hc0_5
 clear hr0_5 hc0_5
 have HB := Aside0.mk (Below.refl w.heap.size w)
 have H : ((privityref12_Valid.f k a0_0 a0_1 a0_2).bind fun t219 => (if t219 = true then ((privityref12_ValidCoalition.f k a0_0 a0_1 a0_2 l0_3).bind fun t220 => (if t220 = true then (privityref12_ValidScenario.j0 k ((l0_5.length : Int) != a0_1) a0_0 a0_1 a0_2 l0_3 l0_4 l0_5) else (privityref12_ValidScenario.j0 k true a0_0 a0_1 a0_2 l0_3 l0_4 l0_5))) else (privityref12_ValidScenario.j0 k true a0_0 a0_1 a0_2 l0_3 l0_4 l0_5))) = some r := h
 clear h
 have HC2 := Aside0.mk H
 clear H
 go_enter Tryd.func15,Tryd.ntmps15
 go_upto_region 1 with (first|((with_reducible refine gate_dst (N := 1) rfl ?_);(try (refine gate_guard (by rfl) ?_;dsimp only));refine box_event ?hg (N := 1) ?hd (cs := #[.int .u64 a0_0,.int .i64 a0_1,.int .i64 a0_2,.slice A0_3 l0_3.length c0_3,.slice A0_4 l0_4.length c0_4,.slice A0_5 l0_5.length c0_5]) (t := 32) ?hr ?_;(case hd => rfl);(case hg => rfl);(case hr => first|(go_simp;done)|(go_simp;rfl));intro gb218 hg w3 hbox hb;have n0_ := Aside0.mk (below_step (by repeat (first|(with_reducible first|exact HB.out|apply below_alloc|apply pw_below_drewN|apply below_drew1)|exact HB.out)) hb);have n1_ := Aside0.mk (hbox);have n2_ := Aside0.mk ((by rw [hg];exact (below_size (by repeat (first|(with_reducible first|exact HB.out|apply below_alloc|apply pw_below_drewN|apply below_drew1)|exact HB.out))) : w.heap.size ≤ gb218));have n3_ := Aside0.mk ((by rw [hg];exact (below_size (by repeat (first|(with_reducible first|exact HB.out|apply below_alloc|apply pw_below_drewN|apply below_drew1)|exact HB.out))) : w.heap.size ≤ gb218));clear HB;have HB := n0_;have BK218 := n1_;have GW218 := n2_;have GE218 := n3_;clear n0_ n1_ n2_ n3_;clear hb hbox hg))
 (try simp only [Act.put,List.setIfInBounds_toArray,List.set_cons_zero,List.set_cons_succ])
 go_cut [25] (fun v25 wc => ∃ (kq : Nat) (x25_1 : Bool),v25 = .bool x25_1 ∧ Aside0 (privityref12_ValidScenario.j0 kq x25_1 a0_0 a0_1 a0_2 l0_3 l0_4 l0_5 = some r) ∧ Aside0 (kq ≤ k) ∧ Aside0 (wc.heap[gb218]? = some (.cells #[.int .u64 a0_0,.int .i64 a0_1,.int .i64 a0_2,(.slice A0_3 l0_3.length c0_3),(.slice A0_4 l0_4.length c0_4),(.slice A0_5 l0_5.length c0_5)] 32 (0,0))) ∧ Aside0 (Below w.heap.size w wc))
 case first =>
  have H := HC2.out
  clear HC2
  replace H := Option.bind_eq_some_iff.mp H
  obtain ⟨t219,A40,H⟩ := H
  replace H : (if t219 = true then ((privityref12_ValidCoalition.f k a0_0 a0_1 a0_2 l0_3).bind fun t220 => (if t220 = true then (privityref12_ValidScenario.j0 k ((l0_5.length : Int) != a0_1) a0_0 a0_1 a0_2 l0_3 l0_4 l0_5) else (privityref12_ValidScenario.j0 k true a0_0 a0_1 a0_2 l0_3 l0_4 l0_5))) else (privityref12_ValidScenario.j0 k true a0_0 a0_1 a0_2 l0_3 l0_4 l0_5)) = some r := H
  have A4 := Aside0.mk A40
  clear A40
  by_cases c5 : t219 = true
  ·subst c5
   have H1 : ((privityref12_ValidCoalition.f k a0_0 a0_1 a0_2 l0_3).bind fun t220 => (if t220 = true then (privityref12_ValidScenario.j0 k ((l0_5.length : Int) != a0_1) a0_0 a0_1 a0_2 l0_3 l0_4 l0_5) else (privityref12_ValidScenario.j0 k true a0_0 a0_1 a0_2 l0_3 l0_4 l0_5))) = some r := by rw [if_pos rfl] at H;exact H
   clear H
   have H := H1
   clear H1
   replace H := Option.bind_eq_some_iff.mp H
   obtain ⟨t220,A60,H⟩ := H
   replace H : (if t220 = true then (privityref12_ValidScenario.j0 k ((l0_5.length : Int) != a0_1) a0_0 a0_1 a0_2 l0_3 l0_4 l0_5) else (privityref12_ValidScenario.j0 k true a0_0 a0_1 a0_2 l0_3 l0_4 l0_5)) = some r := H
   have A6 := Aside0.mk A60
   clear A60
   by_cases c7 : t220 = true
   ·subst c7
    have H1 : (privityref12_ValidScenario.j0 k ((l0_5.length : Int) != a0_1) a0_0 a0_1 a0_2 l0_3 l0_4 l0_5) = some r := by rw [if_pos rfl] at H;exact H
    clear H
    have H := H1
    clear H1
    have H' := Aside0.mk H
    clear H
    have hcz8_0 : w3.cell? ⟨gb218,0,none⟩ = some (.int .u64 a0_0) := (blk_cell BK218.out 0).trans rfl
    have hcz8_1 : w3.cell? ⟨gb218,1,none⟩ = some (.int .i64 a0_1) := (blk_cell BK218.out 1).trans rfl
    have hcz8_2 : w3.cell? ⟨gb218,2,none⟩ = some (.int .i64 a0_2) := (blk_cell BK218.out 2).trans rfl
    have hcz8_3 : w3.cell? ⟨gb218,3,none⟩ = some (.slice A0_3 l0_3.length c0_3) := (blk_cell BK218.out 3).trans rfl
    have hcz8_4 : w3.cell? ⟨gb218,4,none⟩ = some (.slice A0_4 l0_4.length c0_4) := (blk_cell BK218.out 4).trans rfl
    have hcz8_5 : w3.cell? ⟨gb218,5,none⟩ = some (.slice A0_5 l0_5.length c0_5) := (blk_cell BK218.out 5).trans rfl
    have hfz8_0 := blk_frozen BK218.out 0
    have hfz8_1 := blk_frozen BK218.out 1
    have hfz8_2 := blk_frozen BK218.out 2
    have hfz8_3 := blk_frozen BK218.out 3
    have hfz8_4 := blk_frozen BK218.out 4
    have hfz8_5 := blk_frozen BK218.out 5
    go_wp2_with (first|((with_reducible refine gate_callee (f := 11) rfl ?_);refine goesL_ (some 7) rfl rfl Tryd.func11 (by kernel_rfl) rfl #[.agg #[.int .u64 a0_0,.int .i64 a0_1,.int .i64 a0_2]] rfl (by (try simp only [List.map_toArray,List.map_cons,List.map_nil]);first|done|rfl|(simp only [List.length_drop,List.length_take];rfl)) ?_;(with_reducible refine (privityref12_Valid.calls k a0_0 a0_1 a0_2 true _ A4.out).mono ?_);rintro e w9 ⟨rfl,hb⟩;refine ⟨_,rfl,?_⟩;have n0_ := Aside0.mk (blk_below (g := gb218) (o := .cells #[.int .u64 a0_0,.int .i64 a0_1,.int .i64 a0_2,.slice A0_3 l0_3.length c0_3,.slice A0_4 l0_4.length c0_4,.slice A0_5 l0_5.length c0_5] 32 (0,0)) (by (with_reducible repeat (first|refine blk_drewN ?_ _|refine blk_drew ?_|refine blk_alloc ?_ _));exact BK218.out) hb);have n1_ := Aside0.mk (below_step (by repeat (first|(with_reducible first|exact HB.out|apply below_alloc|apply pw_below_drewN|apply below_drew1|refine below_set ?_ GE218.out)|exact HB.out)) hb);clear BK218;clear HB;have BK218 := n0_;have HB := n1_;clear n0_ n1_;(try clear hb);(try clear hb2);(try clear hk);(try clear hi);have hcz10_0 : w9.cell? ⟨gb218,0,none⟩ = some (.int .u64 a0_0) := (blk_cell BK218.out 0).trans rfl;have hcz10_1 : w9.cell? ⟨gb218,1,none⟩ = some (.int .i64 a0_1) := (blk_cell BK218.out 1).trans rfl;have hcz10_2 : w9.cell? ⟨gb218,2,none⟩ = some (.int .i64 a0_2) := (blk_cell BK218.out 2).trans rfl;have hcz10_3 : w9.cell? ⟨gb218,3,none⟩ = some (.slice A0_3 l0_3.length c0_3) := (blk_cell BK218.out 3).trans rfl;have hcz10_4 : w9.cell? ⟨gb218,4,none⟩ = some (.slice A0_4 l0_4.length c0_4) := (blk_cell BK218.out 4).trans rfl;have hcz10_5 : w9.cell? ⟨gb218,5,none⟩ = some (.slice A0_5 l0_5.length c0_5) := (blk_cell BK218.out 5).trans rfl;have hfz10_0 := blk_frozen BK218.out 0;have hfz10_1 := blk_frozen BK218.out 1;have hfz10_2 := blk_frozen BK218.out 2;have hfz10_3 := blk_frozen BK218.out 3;have hfz10_4 := blk_frozen BK218.out 4;have hfz10_5 := blk_frozen BK218.out 5)|(go_at_call 13;(with_reducible refine (privityref12_ValidCoalition.calls k a0_0 a0_1 a0_2 _ _ l0_3 true _ ?side1 ?side2 A6.out).mono ?_);(case side1 => repeat (first|exact (Kd.C_below HR0_3.out HB.out)|(with_reducible refine Kd.C_alloc ?_ _)|(with_reducible refine Kd.C_drewN ?_ _)|(with_reducible refine Kd.C_drew ?_)));(case side2 => exact HC0_3.out);rintro e w11 ⟨rfl,hb⟩;have n0_ := Aside0.mk (blk_below (g := gb218) (o := .cells #[.int .u64 a0_0,.int .i64 a0_1,.int .i64 a0_2,.slice A0_3 l0_3.length c0_3,.slice A0_4 l0_4.length c0_4,.slice A0_5 l0_5.length c0_5] 32 (0,0)) (by (with_reducible repeat (first|refine blk_drewN ?_ _|refine blk_drew ?_|refine blk_alloc ?_ _));exact BK218.out) hb);have n1_ := Aside0.mk (below_step (by repeat (first|(with_reducible first|exact HB.out|apply below_alloc|apply pw_below_drewN|apply below_drew1|refine below_set ?_ GE218.out)|exact HB.out)) hb);clear BK218;clear HB;have BK218 := n0_;have HB := n1_;clear n0_ n1_;(try clear hb);(try clear hb2);(try clear hk);(try clear hi);have hcz12_0 : w11.cell? ⟨gb218,0,none⟩ = some (.int .u64 a0_0) := (blk_cell BK218.out 0).trans rfl;have hcz12_1 : w11.cell? ⟨gb218,1,none⟩ = some (.int .i64 a0_1) := (blk_cell BK218.out 1).trans rfl;have hcz12_2 : w11.cell? ⟨gb218,2,none⟩ = some (.int .i64 a0_2) := (blk_cell BK218.out 2).trans rfl;have hcz12_3 : w11.cell? ⟨gb218,3,none⟩ = some (.slice A0_3 l0_3.length c0_3) := (blk_cell BK218.out 3).trans rfl;have hcz12_4 : w11.cell? ⟨gb218,4,none⟩ = some (.slice A0_4 l0_4.length c0_4) := (blk_cell BK218.out 4).trans rfl;have hcz12_5 : w11.cell? ⟨gb218,5,none⟩ = some (.slice A0_5 l0_5.length c0_5) := (blk_cell BK218.out 5).trans rfl;have hfz12_0 := blk_frozen BK218.out 0;have hfz12_1 := blk_frozen BK218.out 1;have hfz12_2 := blk_frozen BK218.out 2;have hfz12_3 := blk_frozen BK218.out 3;have hfz12_4 := blk_frozen BK218.out 4;have hfz12_5 := blk_frozen BK218.out 5))
    go_meet
    case rel => exact ⟨_,(((l0_5.length : Int) != a0_1)),(by first|rfl|(simp;done)|(simp [*];done)),H',⟨by first|omega|exact Nat.le_refl _⟩,⟨by (with_reducible repeat (first|refine blk_drewN ?_ _|refine blk_drew ?_|refine blk_alloc ?_ _));exact BK218.out⟩,⟨by repeat (first|(with_reducible first|exact HB.out|apply below_alloc|apply pw_below_drewN|apply below_drew1|refine below_set ?_ GE218.out)|exact HB.out)⟩⟩
   ·replace c7 := Bool.eq_false_iff.mpr c7
    subst c7
    have H1 : (privityref12_ValidScenario.j0 k true a0_0 a0_1 a0_2 l0_3 l0_4 l0_5) = some r := by rw [if_neg (show ¬ (false = true) by decide)] at H;exact H
    clear H
    have H := H1
    clear H1
    have H' := Aside0.mk H
    clear H
    have hcz13_0 : w3.cell? ⟨gb218,0,none⟩ = some (.int .u64 a0_0) := (blk_cell BK218.out 0).trans rfl
    have hcz13_1 : w3.cell? ⟨gb218,1,none⟩ = some (.int .i64 a0_1) := (blk_cell BK218.out 1).trans rfl
    have hcz13_2 : w3.cell? ⟨gb218,2,none⟩ = some (.int .i64 a0_2) := (blk_cell BK218.out 2).trans rfl
    have hcz13_3 : w3.cell? ⟨gb218,3,none⟩ = some (.slice A0_3 l0_3.length c0_3) := (blk_cell BK218.out 3).trans rfl
    have hcz13_4 : w3.cell? ⟨gb218,4,none⟩ = some (.slice A0_4 l0_4.length c0_4) := (blk_cell BK218.out 4).trans rfl
    have hcz13_5 : w3.cell? ⟨gb218,5,none⟩ = some (.slice A0_5 l0_5.length c0_5) := (blk_cell BK218.out 5).trans rfl
    have hfz13_0 := blk_frozen BK218.out 0
    have hfz13_1 := blk_frozen BK218.out 1
    have hfz13_2 := blk_frozen BK218.out 2
    have hfz13_3 := blk_frozen BK218.out 3
    have hfz13_4 := blk_frozen BK218.out 4
    have hfz13_5 := blk_frozen BK218.out 5
    go_wp2_with (first|((with_reducible refine gate_callee (f := 11) rfl ?_);refine goesL_ (some 7) rfl rfl Tryd.func11 (by kernel_rfl) rfl #[.agg #[.int .u64 a0_0,.int .i64 a0_1,.int .i64 a0_2]] rfl (by (try simp only [List.map_toArray,List.map_cons,List.map_nil]);first|done|rfl|(simp only [List.length_drop,List.length_take];rfl)) ?_;(with_reducible refine (privityref12_Valid.calls k a0_0 a0_1 a0_2 true _ A4.out).mono ?_);rintro e w14 ⟨rfl,hb⟩;refine ⟨_,rfl,?_⟩;have n0_ := Aside0.mk (blk_below (g := gb218) (o := .cells #[.int .u64 a0_0,.int .i64 a0_1,.int .i64 a0_2,.slice A0_3 l0_3.length c0_3,.slice A0_4 l0_4.length c0_4,.slice A0_5 l0_5.length c0_5] 32 (0,0)) (by (with_reducible repeat (first|refine blk_drewN ?_ _|refine blk_drew ?_|refine blk_alloc ?_ _));exact BK218.out) hb);have n1_ := Aside0.mk (below_step (by repeat (first|(with_reducible first|exact HB.out|apply below_alloc|apply pw_below_drewN|apply below_drew1|refine below_set ?_ GE218.out)|exact HB.out)) hb);clear BK218;clear HB;have BK218 := n0_;have HB := n1_;clear n0_ n1_;(try clear hb);(try clear hb2);(try clear hk);(try clear hi);have hcz15_0 : w14.cell? ⟨gb218,0,none⟩ = some (.int .u64 a0_0) := (blk_cell BK218.out 0).trans rfl;have hcz15_1 : w14.cell? ⟨gb218,1,none⟩ = some (.int .i64 a0_1) := (blk_cell BK218.out 1).trans rfl;have hcz15_2 : w14.cell? ⟨gb218,2,none⟩ = some (.int .i64 a0_2) := (blk_cell BK218.out 2).trans rfl;have hcz15_3 : w14.cell? ⟨gb218,3,none⟩ = some (.slice A0_3 l0_3.length c0_3) := (blk_cell BK218.out 3).trans rfl;have hcz15_4 : w14.cell? ⟨gb218,4,none⟩ = some (.slice A0_4 l0_4.length c0_4) := (blk_cell BK218.out 4).trans rfl;have hcz15_5 : w14.cell? ⟨gb218,5,none⟩ = some (.slice A0_5 l0_5.length c0_5) := (blk_cell BK218.out 5).trans rfl;have hfz15_0 := blk_frozen BK218.out 0;have hfz15_1 := blk_frozen BK218.out 1;have hfz15_2 := blk_frozen BK218.out 2;have hfz15_3 := blk_frozen BK218.out 3;have hfz15_4 := blk_frozen BK218.out 4;have hfz15_5 := blk_frozen BK218.out 5)|(go_at_call 13;(with_reducible refine (privityref12_ValidCoalition.calls k a0_0 a0_1 a0_2 _ _ l0_3 false _ ?side1 ?side2 A6.out).mono ?_);(case side1 => repeat (first|exact (Kd.C_below HR0_3.out HB.out)|(with_reducible refine Kd.C_alloc ?_ _)|(with_reducible refine Kd.C_drewN ?_ _)|(with_reducible refine Kd.C_drew ?_)));(case side2 => exact HC0_3.out);rintro e w16 ⟨rfl,hb⟩;have n0_ := Aside0.mk (blk_below (g := gb218) (o := .cells #[.int .u64 a0_0,.int .i64 a0_1,.int .i64 a0_2,.slice A0_3 l0_3.length c0_3,.slice A0_4 l0_4.length c0_4,.slice A0_5 l0_5.length c0_5] 32 (0,0)) (by (with_reducible repeat (first|refine blk_drewN ?_ _|refine blk_drew ?_|refine blk_alloc ?_ _));exact BK218.out) hb);have n1_ := Aside0.mk (below_step (by repeat (first|(with_reducible first|exact HB.out|apply below_alloc|apply pw_below_drewN|apply below_drew1|refine below_set ?_ GE218.out)|exact HB.out)) hb);clear BK218;clear HB;have BK218 := n0_;have HB := n1_;clear n0_ n1_;(try clear hb);(try clear hb2);(try clear hk);(try clear hi)))
    go_meet
    case rel => exact ⟨_,(true),(by first|rfl|(simp;done)|(simp [*];done)),H',⟨by first|omega|exact Nat.le_refl _⟩,⟨by (with_reducible repeat (first|refine blk_drewN ?_ _|refine blk_drew ?_|refine blk_alloc ?_ _));exact BK218.out⟩,⟨by repeat (first|(with_reducible first|exact HB.out|apply below_alloc|apply pw_below_drewN|apply below_drew1|refine below_set ?_ GE218.out)|exact HB.out)⟩⟩
  ·replace c5 := Bool.eq_false_iff.mpr c5
   subst c5
   have H1 : (privityref12_ValidScenario.j0 k true a0_0 a0_1 a0_2 l0_3 l0_4 l0_5) = some r := by rw [if_neg (show ¬ (false = true) by decide)] at H;exact H
   clear H
   have H := H1
   clear H1
   have H' := Aside0.mk H
   clear H
   have hcz17_0 : w3.cell? ⟨gb218,0,none⟩ = some (.int .u64 a0_0) := (blk_cell BK218.out 0).trans rfl
   have hcz17_1 : w3.cell? ⟨gb218,1,none⟩ = some (.int .i64 a0_1) := (blk_cell BK218.out 1).trans rfl
   have hcz17_2 : w3.cell? ⟨gb218,2,none⟩ = some (.int .i64 a0_2) := (blk_cell BK218.out 2).trans rfl
   have hcz17_3 : w3.cell? ⟨gb218,3,none⟩ = some (.slice A0_3 l0_3.length c0_3) := (blk_cell BK218.out 3).trans rfl
   have hcz17_4 : w3.cell? ⟨gb218,4,none⟩ = some (.slice A0_4 l0_4.length c0_4) := (blk_cell BK218.out 4).trans rfl
   have hcz17_5 : w3.cell? ⟨gb218,5,none⟩ = some (.slice A0_5 l0_5.length c0_5) := (blk_cell BK218.out 5).trans rfl
   have hfz17_0 := blk_frozen BK218.out 0
   have hfz17_1 := blk_frozen BK218.out 1
   have hfz17_2 := blk_frozen BK218.out 2
   have hfz17_3 := blk_frozen BK218.out 3
   have hfz17_4 := blk_frozen BK218.out 4
   have hfz17_5 := blk_frozen BK218.out 5
   go_wp2_with (first|((with_reducible refine gate_callee (f := 11) rfl ?_);refine goesL_ (some 7) rfl rfl Tryd.func11 (by kernel_rfl) rfl #[.agg #[.int .u64 a0_0,.int .i64 a0_1,.int .i64 a0_2]] rfl (by (try simp only [List.map_toArray,List.map_cons,List.map_nil]);first|done|rfl|(simp only [List.length_drop,List.length_take];rfl)) ?_;(with_reducible refine (privityref12_Valid.calls k a0_0 a0_1 a0_2 false _ A4.out).mono ?_);rintro e w18 ⟨rfl,hb⟩;refine ⟨_,rfl,?_⟩;have n0_ := Aside0.mk (blk_below (g := gb218) (o := .cells #[.int .u64 a0_0,.int .i64 a0_1,.int .i64 a0_2,.slice A0_3 l0_3.length c0_3,.slice A0_4 l0_4.length c0_4,.slice A0_5 l0_5.length c0_5] 32 (0,0)) (by (with_reducible repeat (first|refine blk_drewN ?_ _|refine blk_drew ?_|refine blk_alloc ?_ _));exact BK218.out) hb);have n1_ := Aside0.mk (below_step (by repeat (first|(with_reducible first|exact HB.out|apply below_alloc|apply pw_below_drewN|apply below_drew1|refine below_set ?_ GE218.out)|exact HB.out)) hb);clear BK218;clear HB;have BK218 := n0_;have HB := n1_;clear n0_ n1_;(try clear hb);(try clear hb2);(try clear hk);(try clear hi)))
   go_meet
   case rel => exact ⟨_,(true),(by first|rfl|(simp;done)|(simp [*];done)),H',⟨by first|omega|exact Nat.le_refl _⟩,⟨by (with_reducible repeat (first|refine blk_drewN ?_ _|refine blk_drew ?_|refine blk_alloc ?_ _));exact BK218.out⟩,⟨by repeat (first|(with_reducible first|exact HB.out|apply below_alloc|apply pw_below_drewN|apply below_drew1|refine below_set ?_ GE218.out)|exact HB.out)⟩⟩
 case rest =>
  clear HC2
  try clear c1
  try clear p2
  try clear c5
  try clear c7
  try clear c11
  try clear c15
  try clear hcz10_0
  try clear hcz10_1
  try clear hcz10_2
  try clear hcz10_3
  try clear hcz10_4
  try clear hcz10_5
  try clear hcz12_0
  try clear hcz12_1
  try clear hcz12_2
  try clear hcz12_3
  try clear hcz12_4
  try clear hcz12_5
  try clear hcz13_0
  try clear hcz13_1
  try clear hcz13_2
  try clear hcz13_3
  try clear hcz13_4
  try clear hcz13_5
  try clear hcz15_0
  try clear hcz15_1
  try clear hcz15_2
  try clear hcz15_3
  try clear hcz15_4
  try clear hcz15_5
  try clear hcz17_0
  try clear hcz17_1
  try clear hcz17_2
  try clear hcz17_3
  try clear hcz17_4
  try clear hcz17_5
  try clear hcz8_0
  try clear hcz8_1
  try clear hcz8_2
  try clear hcz8_3
  try clear hcz8_4
  try clear hcz8_5
  try clear hfz10_0
  try clear hfz10_1
  try clear hfz10_2
  try clear hfz10_3
  try clear hfz10_4
  try clear hfz10_5
  try clear hfz12_0
  try clear hfz12_1
  try clear hfz12_2
  try clear hfz12_3
  try clear hfz12_4
  try clear hfz12_5
  try clear hfz13_0
  try clear hfz13_1
  try clear hfz13_2
  try clear hfz13_3
  try clear hfz13_4
  try clear hfz13_5
  try clear hfz15_0
  try clear hfz15_1
  try clear hfz15_2
  try clear hfz15_3
  try clear hfz15_4
  try clear hfz15_5
  try clear hfz17_0
  try clear hfz17_1
  try clear hfz17_2
  try clear hfz17_3
  try clear hfz17_4
  try clear hfz17_5
  try clear hfz8_0
  try clear hfz8_1
  try clear hfz8_2
  try clear hfz8_3
  try clear hfz8_4
  try clear hfz8_5
  obtain ⟨kq,x25_1,rfl,HA,HJ1,BK218,HB⟩ := hcut
  cases kq with
  | zero => exact absurd HA.out (by simp [privityref12_ValidScenario.j0])
  | succ kj1 =>
   have H := HA.out
   clear HA
   simp only [privityref12_ValidScenario.j0] at H
   by_cases c19 : x25_1 = true
   ·subst c19
    have H1 : (some false) = some r := by rw [if_pos rfl] at H;exact H
    clear H
    have H := H1
    clear H1
    obtain rfl := Option.some.inj H
    go_wp2
    go_ret
    exact ⟨by first|rfl|(simp [errW_none,errW_some] <;> rfl)|(simp [*,errW_none,errW_some] <;> rfl),by repeat (first|(with_reducible first|exact HB.out|apply below_alloc|apply pw_below_drewN|apply below_drew1|refine below_set ?_ GE218.out)|exact HB.out)⟩
   ·replace c19 := Bool.eq_false_iff.mpr c19
    subst c19
    have H1 : (privityref12_ValidScenario.l0 kj1 0 a0_0 a0_1 a0_2 l0_3 l0_4 l0_5) = some r := by rw [if_neg (show ¬ (false = true) by decide)] at H;exact H
    clear H
    have H := H1
    clear H1
    have H' := Aside0.mk H
    clear H
    go_wp2
    go_loopg [3] kj1 (fun kq v3 w' => ∃ (x3_2 : Int),v3 = .int .i64 x3_2 ∧ Aside0 (privityref12_ValidScenario.l0 kq x3_2 a0_0 a0_1 a0_2 l0_3 l0_4 l0_5 = some r) ∧ Aside0 (kq ≤ kj1) ∧ Aside0 (w'.heap[gb218]? = some (.cells #[.int .u64 a0_0,.int .i64 a0_1,.int .i64 a0_2,(.slice A0_3 l0_3.length c0_3),(.slice A0_4 l0_4.length c0_4),(.slice A0_5 l0_5.length c0_5)] 32 (0,0))) ∧ Aside0 (Below w.heap.size w w'))
    case atStart => exact ⟨(0),(by first|rfl|(simp;done)|(simp [*];done)),H',⟨Nat.le_refl _⟩,⟨by (with_reducible repeat (first|refine blk_drewN ?_ _|refine blk_drew ?_|refine blk_alloc ?_ _));exact BK218.out⟩,⟨by repeat (first|(with_reducible first|exact HB.out|apply below_alloc|apply pw_below_drewN|apply below_drew1|refine below_set ?_ GE218.out)|exact HB.out)⟩⟩
    case round =>
     clear H'
     try clear c1
     try clear p2
     try clear c5
     try clear c7
     try clear c11
     try clear c15
     try clear c19
     try clear hcz10_0
     try clear hcz10_1
     try clear hcz10_2
     try clear hcz10_3
     try clear hcz10_4
     try clear hcz10_5
     try clear hcz12_0
     try clear hcz12_1
     try clear hcz12_2
     try clear hcz12_3
     try clear hcz12_4
     try clear hcz12_5
     try clear hcz13_0
     try clear hcz13_1
     try clear hcz13_2
     try clear hcz13_3
     try clear hcz13_4
     try clear hcz13_5
     try clear hcz15_0
     try clear hcz15_1
     try clear hcz15_2
     try clear hcz15_3
     try clear hcz15_4
     try clear hcz15_5
     try clear hcz17_0
     try clear hcz17_1
     try clear hcz17_2
     try clear hcz17_3
     try clear hcz17_4
     try clear hcz17_5
     try clear hcz8_0
     try clear hcz8_1
     try clear hcz8_2
     try clear hcz8_3
     try clear hcz8_4
     try clear hcz8_5
     try clear hfz10_0
     try clear hfz10_1
     try clear hfz10_2
     try clear hfz10_3
     try clear hfz10_4
     try clear hfz10_5
     try clear hfz12_0
     try clear hfz12_1
     try clear hfz12_2
     try clear hfz12_3
     try clear hfz12_4
     try clear hfz12_5
     try clear hfz13_0
     try clear hfz13_1
     try clear hfz13_2
     try clear hfz13_3
     try clear hfz13_4
     try clear hfz13_5
     try clear hfz15_0
     try clear hfz15_1
     try clear hfz15_2
     try clear hfz15_3
     try clear hfz15_4
     try clear hfz15_5
     try clear hfz17_0
     try clear hfz17_1
     try clear hfz17_2
     try clear hfz17_3
     try clear hfz17_4
     try clear hfz17_5
     try clear hfz8_0
     try clear hfz8_1
     try clear hfz8_2
     try clear hfz8_3
     try clear hfz8_4
     try clear hfz8_5
     try clear p2
     obtain ⟨x3_2,rfl,HA,HK2,BK218,HB⟩ := hrel
     cases gk with
     | zero => exact absurd HA.out (by simp [privityref12_ValidScenario.l0])
     | succ k2 =>
      have H := HA.out
      clear HA
      simp only [privityref12_ValidScenario.l0] at H
      by_cases c20 : x3_2 < (l0_4.length : Int)
      ·rw [if_pos c20] at H
       have c20b0 : decide (x3_2 < (l0_4.length : Int)) = true := decide_eq_true c20
       clear c20
       by_cases c21 : 0 ≤ x3_2
       ·rw [if_pos c21] at H
        have c21b0 : decide (0 ≤ x3_2) = true := decide_eq_true c21
        clear c21
        replace H := Option.bind_eq_some_iff.mp H
        obtain ⟨t222,A220,H⟩ := H
        replace H : (if t222 = true then (privityref12_ValidScenario.l0 k2 (wrap64 (x3_2 + 1)) a0_0 a0_1 a0_2 l0_3 l0_4 l0_5) else (some false)) = some r := H
        have A22 := Aside0.mk A220
        clear A220
        by_cases c23 : t222 = true
        ·subst c23
         have H1 : (privityref12_ValidScenario.l0 k2 (wrap64 (x3_2 + 1)) a0_0 a0_1 a0_2 l0_3 l0_4 l0_5) = some r := by rw [if_pos rfl] at H;exact H
         clear H
         have H := H1
         clear H1
         have H' := Aside0.mk H
         clear H
         have hcz24_0 : wr.cell? ⟨gb218,0,none⟩ = some (.int .u64 a0_0) := (blk_cell BK218.out 0).trans rfl
         have hcz24_1 : wr.cell? ⟨gb218,1,none⟩ = some (.int .i64 a0_1) := (blk_cell BK218.out 1).trans rfl
         have hcz24_2 : wr.cell? ⟨gb218,2,none⟩ = some (.int .i64 a0_2) := (blk_cell BK218.out 2).trans rfl
         have hcz24_3 : wr.cell? ⟨gb218,3,none⟩ = some (.slice A0_3 l0_3.length c0_3) := (blk_cell BK218.out 3).trans rfl
         have hcz24_4 : wr.cell? ⟨gb218,4,none⟩ = some (.slice A0_4 l0_4.length c0_4) := (blk_cell BK218.out 4).trans rfl
         have hcz24_5 : wr.cell? ⟨gb218,5,none⟩ = some (.slice A0_5 l0_5.length c0_5) := (blk_cell BK218.out 5).trans rfl
         have hfz24_0 := blk_frozen BK218.out 0
         have hfz24_1 := blk_frozen BK218.out 1
         have hfz24_2 := blk_frozen BK218.out 2
         have hfz24_3 := blk_frozen BK218.out 3
         have hfz24_4 := blk_frozen BK218.out 4
         have hfz24_5 := blk_frozen BK218.out 5
         try go_wp2
         have n0_ := Aside0.mk (blk_drew BK218.out)
         have n1_ := Aside0.mk (below_drew1 HB.out)
         clear BK218
         clear HB
         have BK218 := n0_
         have HB := n1_
         clear n0_ n1_
         have p221 : 0 ≤ (x3_2 : Int) := of_decide_eq_true (by first|(with_reducible assumption)|assumption)
         have q221 : x3_2 < (l0_4.length : Int) := of_decide_eq_true (by first|(with_reducible assumption)|assumption)
         obtain ⟨ad221,e221,hx221_0,hx221_1,hx221_2,hx221_3,hx221_4,hx221_5,hx221_6,hx221_7⟩ := at_T42 HR0_4.out x3_2 p221 q221
         have hw221_7 := hx221_7
         have hw221_6 := hx221_6
         have hw221_5 := hx221_5
         have hw221_4 := hx221_4
         have hw221_3 := hx221_3
         have hw221_2 := hx221_2
         have hw221_1 := hx221_1
         have hw221_0 := hx221_0
         cases e221
         replace hx221_0 := (HB.out.cell (World.block_lt_of_cell? w _ hx221_0)).trans hx221_0
         replace hx221_1 := (HB.out.cell (World.block_lt_of_cell? w _ hx221_1)).trans hx221_1
         replace hx221_2 := (HB.out.cell (World.block_lt_of_cell? w _ hx221_2)).trans hx221_2
         replace hx221_3 := (HB.out.cell (World.block_lt_of_cell? w _ hx221_3)).trans hx221_3
         replace hx221_4 := (HB.out.cell (World.block_lt_of_cell? w _ hx221_4)).trans hx221_4
         replace hx221_5 := (HB.out.cell (World.block_lt_of_cell? w _ hx221_5)).trans hx221_5
         replace hx221_6 := (HB.out.cell (World.block_lt_of_cell? w _ hx221_6)).trans hx221_6
         replace hx221_7 := (HB.out.cell (World.block_lt_of_cell? w _ hx221_7)).trans hx221_7
         replace p221 := eq_true p221
         replace q221 := eq_true q221
         refine start_ (n := 9) (S := fun w' => w'.cell? ⟨gb218,0,none⟩ = some (.int .u64 a0_0) ∧ w'.cell? ⟨gb218,1,none⟩ = some (.int .i64 a0_1) ∧ w'.cell? ⟨gb218,2,none⟩ = some (.int .i64 a0_2) ∧ w'.cell? ⟨gb218,3,none⟩ = some (.slice A0_3 l0_3.length c0_3) ∧ w'.cell? ⟨gb218,4,none⟩ = some (.slice (some ad221) l0_4.length c0_4) ∧ w'.cell? ⟨gb218,5,none⟩ = some (.slice A0_5 l0_5.length c0_5) ∧ w'.cell? (ad221.add ((x3_2).toNat * 8)) = some (.int .i64 ((rd_T42 l0_4 x3_2).f0)) ∧ w'.cell? ⟨(ad221.add ((x3_2).toNat * 8)).block,(ad221.add ((x3_2).toNat * 8)).off + 1,none⟩ = some (.int .i64 ((rd_T42 l0_4 x3_2).f1)) ∧ w'.cell? ⟨(ad221.add ((x3_2).toNat * 8)).block,(ad221.add ((x3_2).toNat * 8)).off + 2,none⟩ = some (.int .i64 ((rd_T42 l0_4 x3_2).f2)) ∧ w'.cell? ⟨(ad221.add ((x3_2).toNat * 8)).block,(ad221.add ((x3_2).toNat * 8)).off + 3,none⟩ = some (.int .i64 ((rd_T42 l0_4 x3_2).f3)) ∧ w'.cell? ⟨(ad221.add ((x3_2).toNat * 8)).block,(ad221.add ((x3_2).toNat * 8)).off + 4,none⟩ = some (.int .i64 ((rd_T42 l0_4 x3_2).f4)) ∧ w'.cell? ⟨(ad221.add ((x3_2).toNat * 8)).block,(ad221.add ((x3_2).toNat * 8)).off + 5,none⟩ = some (.int .u64 ((rd_T42 l0_4 x3_2).f5)) ∧ w'.cell? ⟨(ad221.add ((x3_2).toNat * 8)).block,(ad221.add ((x3_2).toNat * 8)).off + 6,none⟩ = some (.int .i64 ((rd_T42 l0_4 x3_2).f6)) ∧ w'.cell? ⟨(ad221.add ((x3_2).toNat * 8)).block,(ad221.add ((x3_2).toNat * 8)).off + 7,none⟩ = some (.int .i64 ((rd_T42 l0_4 x3_2).f7))) (ds := []) #[false,false,false,false,false,false,false,false,false] (by kernel_rfl) rfl rfl ⟨(blk_cell BK218.out 0).trans rfl,(blk_cell BK218.out 1).trans rfl,(blk_cell BK218.out 2).trans rfl,(blk_cell BK218.out 3).trans rfl,(blk_cell BK218.out 4).trans rfl,(blk_cell BK218.out 5).trans rfl,((HB.out.cell (World.block_lt_of_cell? w _ hw221_0)).trans hw221_0),((HB.out.cell (World.block_lt_of_cell? w _ hw221_1)).trans hw221_1),((HB.out.cell (World.block_lt_of_cell? w _ hw221_2)).trans hw221_2),((HB.out.cell (World.block_lt_of_cell? w _ hw221_3)).trans hw221_3),((HB.out.cell (World.block_lt_of_cell? w _ hw221_4)).trans hw221_4),((HB.out.cell (World.block_lt_of_cell? w _ hw221_5)).trans hw221_5),((HB.out.cell (World.block_lt_of_cell? w _ hw221_6)).trans hw221_6),((HB.out.cell (World.block_lt_of_cell? w _ hw221_7)).trans hw221_7)⟩ (fun hHeld => ?_);refine with_tabW privityref12_ValidScenario.tab6 privityref12_ValidScenario.bits6 (fun HT_ HW_ => ?_)
         generalize wr.drew = w25 at BK218 HB hx221_0 hx221_1 hx221_2 hx221_3 hx221_4 hx221_5 hx221_6 hx221_7 hHeld ⊢
         refine pure_ (i := 0) (N := some 33) (v := ?_) (a' := ?_) #[true,false,false,false,false,false,false,false,false] rfl rfl (any_of HT_.out (by kernel_rfl)) (fun _ _ _ h => h) (Or.inl ⟨by rfl,?_⟩) ?_ ?_
         rotate_left
         ·intro w'
          go_simp
          with_reducible rfl
         rotate_left
         ·simp only [Act.put,List.setIfInBounds_toArray,List.set_cons_zero,List.set_cons_succ,i64_w,i32_w]
          rfl
         refine pure_ (i := 2) (N := some 35) (v := ?_) (a' := ?_) #[true,false,true,false,false,false,false,false,false] rfl rfl (any_of HT_.out (by kernel_rfl)) (fun _ _ _ h => h) (Or.inl ⟨by rfl,?_⟩) ?_ ?_
         rotate_left
         ·intro w'
          go_simp
          with_reducible rfl
         rotate_left
         ·simp only [Act.put,List.setIfInBounds_toArray,List.set_cons_zero,List.set_cons_succ,i64_w,i32_w]
          rfl
         refine pure_ (i := 4) (N := some 37) (v := ?_) (a' := ?_) #[true,false,true,false,true,false,false,false,false] rfl rfl (any_of HT_.out (by kernel_rfl)) (fun _ _ _ h => h) (Or.inl ⟨by rfl,?_⟩) ?_ ?_
         rotate_left
         ·intro w'
          go_simp
          with_reducible rfl
         rotate_left
         ·simp only [Act.put,List.setIfInBounds_toArray,List.set_cons_zero,List.set_cons_succ,i64_w,i32_w]
          rfl
         refine take_ (i := 1) (N := some 34) (v := ?_) (a' := ?_) #[true,true,true,false,true,false,false,false,false] rfl rfl (take_ofW HT_.out HW_.out (by kernel_rfl)) (fun _ _ _ h => h) (Or.inl ⟨by rfl,?_⟩) hHeld ?_ ?_
         rotate_left
         ·rintro w' ⟨s0,s1,s2,s3,s4,s5,s6,s7,s8,s9,s10,s11,s12,s13⟩
          go_simp
          with_reducible rfl
         rotate_left
         ·simp only [Act.put,List.setIfInBounds_toArray,List.set_cons_zero,List.set_cons_succ,i64_w,i32_w]
          rfl
         refine take_ (i := 3) (N := some 36) (v := ?_) (a' := ?_) #[true,true,true,true,true,false,false,false,false] rfl rfl (take_ofW HT_.out HW_.out (by kernel_rfl)) (fun _ _ _ h => h) (Or.inl ⟨by rfl,?_⟩) hHeld ?_ ?_
         rotate_left
         ·rintro w' ⟨s0,s1,s2,s3,s4,s5,s6,s7,s8,s9,s10,s11,s12,s13⟩
          go_simp
          with_reducible rfl
         rotate_left
         ·simp only [Act.put,List.setIfInBounds_toArray,List.set_cons_zero,List.set_cons_succ,i64_w,i32_w]
          rfl
         refine pure_ (i := 5) (N := some 38) (v := ?_) (a' := ?_) #[true,true,true,true,true,true,false,false,false] rfl rfl (any_of HT_.out (by kernel_rfl)) (fun _ _ _ h => h) (Or.inl ⟨by rfl,?_⟩) ?_ ?_
         rotate_left
         ·intro w'
          go_simp
          with_reducible rfl
         rotate_left
         ·simp only [Act.put,List.setIfInBounds_toArray,List.set_cons_zero,List.set_cons_succ,i64_w,i32_w]
          rfl
         refine take_ (i := 6) (N := some 39) (v := ?_) (a' := ?_) #[true,true,true,true,true,true,true,false,false] rfl rfl (take_ofW HT_.out HW_.out (by kernel_rfl)) (fun _ _ _ h => h) (Or.inl ⟨by rfl,?_⟩) hHeld ?_ ?_
         rotate_left
         ·rintro w' ⟨s0,s1,s2,s3,s4,s5,s6,s7,s8,s9,s10,s11,s12,s13⟩
          go_simp
          with_reducible rfl
         rotate_left
         ·simp only [Act.put,List.setIfInBounds_toArray,List.set_cons_zero,List.set_cons_succ,i64_w,i32_w]
          rfl
         refine one_ (i := 7) (N := some 40) #[true,true,true,true,true,true,true,true,false] rfl rfl (one_of HT_.out (by kernel_rfl)) (by decide) (fun K hK => ?_)
         refine goes_ Tryd.func25 (by kernel_rfl) rfl #[.agg #[.int .u64 a0_0,.int .i64 a0_1,.int .i64 a0_2],.agg #[.int .i64 ((rd_T42 l0_4 x3_2).f0),.int .i64 ((rd_T42 l0_4 x3_2).f1),.int .i64 ((rd_T42 l0_4 x3_2).f2),.int .i64 ((rd_T42 l0_4 x3_2).f3),.int .i64 ((rd_T42 l0_4 x3_2).f4),.int .u64 ((rd_T42 l0_4 x3_2).f5),.int .i64 ((rd_T42 l0_4 x3_2).f6),.int .i64 ((rd_T42 l0_4 x3_2).f7)]] (by rfl) rfl rfl (by (try simp only [List.map_toArray,List.map_cons,List.map_nil]);first|done|rfl|(simp only [List.length_drop,List.length_take];rfl)) ?_
         with_reducible refine (privityref12_Deviation.calls a0_0 a0_1 a0_2 ((rd_T42 l0_4 x3_2).f0) ((rd_T42 l0_4 x3_2).f1) ((rd_T42 l0_4 x3_2).f2) ((rd_T42 l0_4 x3_2).f3) ((rd_T42 l0_4 x3_2).f4) ((rd_T42 l0_4 x3_2).f5) ((rd_T42 l0_4 x3_2).f6) ((rd_T42 l0_4 x3_2).f7) true _ A22.out).mono ?_
         rintro e w26 ⟨rfl,hb⟩
         refine ⟨_,rfl,?_⟩
         have n0_ := Aside0.mk (blk_below (g := gb218) (o := .cells #[.int .u64 a0_0,.int .i64 a0_1,.int .i64 a0_2,.slice A0_3 l0_3.length c0_3,.slice (some ad221) l0_4.length c0_4,.slice A0_5 l0_5.length c0_5] 32 (0,0)) (by (with_reducible repeat (first|refine blk_drewN ?_ _|refine blk_drew ?_|refine blk_alloc ?_ _));exact BK218.out) hb)
         have n1_ := Aside0.mk (below_step (by repeat (first|(with_reducible first|exact HB.out|apply below_alloc|apply pw_below_drewN|apply below_drew1|refine below_set ?_ GE218.out)|exact HB.out)) hb)
         clear BK218
         clear HB
         have BK218 := n0_
         have HB := n1_
         clear n0_ n1_
         (try clear hb)
         (try clear hb2)
         (try clear hk)
         (try clear hi)
         refine hK.out _ _ ⟨(blk_cell BK218.out 0).trans rfl,(blk_cell BK218.out 1).trans rfl,(blk_cell BK218.out 2).trans rfl,(blk_cell BK218.out 3).trans rfl,(blk_cell BK218.out 4).trans rfl,(blk_cell BK218.out 5).trans rfl,((HB.out.cell (World.block_lt_of_cell? w _ hw221_0)).trans hw221_0),((HB.out.cell (World.block_lt_of_cell? w _ hw221_1)).trans hw221_1),((HB.out.cell (World.block_lt_of_cell? w _ hw221_2)).trans hw221_2),((HB.out.cell (World.block_lt_of_cell? w _ hw221_3)).trans hw221_3),((HB.out.cell (World.block_lt_of_cell? w _ hw221_4)).trans hw221_4),((HB.out.cell (World.block_lt_of_cell? w _ hw221_5)).trans hw221_5),((HB.out.cell (World.block_lt_of_cell? w _ hw221_6)).trans hw221_6),((HB.out.cell (World.block_lt_of_cell? w _ hw221_7)).trans hw221_7)⟩ (fun hHeld => ?_)
         clear hK K
         refine norm_ (a' := ?_) ?_ ?_
         rotate_left
         ·show Act.put _ (some 40) _ = _
          simp only [Act.put,List.setIfInBounds_toArray,List.set_cons_zero,List.set_cons_succ,i64_w,i32_w]
          rfl
         refine pure_ (i := 8) (N := some 41) (v := ?_) (a' := ?_) #[true,true,true,true,true,true,true,true,true] rfl rfl (any_of HT_.out (by kernel_rfl)) (fun _ _ _ h => h) (Or.inl ⟨by rfl,?_⟩) ?_ ?_
         rotate_left
         ·intro w'
          go_simp
          with_reducible rfl
         rotate_left
         ·simp only [Act.put,List.setIfInBounds_toArray,List.set_cons_zero,List.set_cons_succ,i64_w,i32_w]
          rfl
         refine done_ (done_of HT_.out (by kernel_rfl)) ?_
         try go_wp2
         go_roundg k2
         case measure => have := HJ1.out;have := HK2.out;omega
         case rel => exact ⟨(wrap64 (x3_2 + 1)),(by first|rfl|(simp;done)|(simp [*];done)),H',⟨by have := HJ1.out;have := HK2.out;omega⟩,⟨by (with_reducible repeat (first|refine blk_drewN ?_ _|refine blk_drew ?_|refine blk_alloc ?_ _));exact BK218.out⟩,⟨by repeat (first|(with_reducible first|exact HB.out|apply below_alloc|apply pw_below_drewN|apply below_drew1|refine below_set ?_ GE218.out)|exact HB.out)⟩⟩
        ·replace c23 := Bool.eq_false_iff.mpr c23
         subst c23
         have H1 : (some false) = some r := by rw [if_neg (show ¬ (false = true) by decide)] at H;exact H
         clear H
         have H := H1
         clear H1
         obtain rfl := Option.some.inj H
         have hcz27_0 : wr.cell? ⟨gb218,0,none⟩ = some (.int .u64 a0_0) := (blk_cell BK218.out 0).trans rfl
         have hcz27_1 : wr.cell? ⟨gb218,1,none⟩ = some (.int .i64 a0_1) := (blk_cell BK218.out 1).trans rfl
         have hcz27_2 : wr.cell? ⟨gb218,2,none⟩ = some (.int .i64 a0_2) := (blk_cell BK218.out 2).trans rfl
         have hcz27_3 : wr.cell? ⟨gb218,3,none⟩ = some (.slice A0_3 l0_3.length c0_3) := (blk_cell BK218.out 3).trans rfl
         have hcz27_4 : wr.cell? ⟨gb218,4,none⟩ = some (.slice A0_4 l0_4.length c0_4) := (blk_cell BK218.out 4).trans rfl
         have hcz27_5 : wr.cell? ⟨gb218,5,none⟩ = some (.slice A0_5 l0_5.length c0_5) := (blk_cell BK218.out 5).trans rfl
         have hfz27_0 := blk_frozen BK218.out 0
         have hfz27_1 := blk_frozen BK218.out 1
         have hfz27_2 := blk_frozen BK218.out 2
         have hfz27_3 := blk_frozen BK218.out 3
         have hfz27_4 := blk_frozen BK218.out 4
         have hfz27_5 := blk_frozen BK218.out 5
         try go_wp2
         have n0_ := Aside0.mk (blk_drew BK218.out)
         have n1_ := Aside0.mk (below_drew1 HB.out)
         clear BK218
         clear HB
         have BK218 := n0_
         have HB := n1_
         clear n0_ n1_
         have p221 : 0 ≤ (x3_2 : Int) := of_decide_eq_true (by first|(with_reducible assumption)|assumption)
         have q221 : x3_2 < (l0_4.length : Int) := of_decide_eq_true (by first|(with_reducible assumption)|assumption)
         obtain ⟨ad221,e221,hx221_0,hx221_1,hx221_2,hx221_3,hx221_4,hx221_5,hx221_6,hx221_7⟩ := at_T42 HR0_4.out x3_2 p221 q221
         have hw221_7 := hx221_7
         have hw221_6 := hx221_6
         have hw221_5 := hx221_5
         have hw221_4 := hx221_4
         have hw221_3 := hx221_3
         have hw221_2 := hx221_2
         have hw221_1 := hx221_1
         have hw221_0 := hx221_0
         cases e221
         replace hx221_0 := (HB.out.cell (World.block_lt_of_cell? w _ hx221_0)).trans hx221_0
         replace hx221_1 := (HB.out.cell (World.block_lt_of_cell? w _ hx221_1)).trans hx221_1
         replace hx221_2 := (HB.out.cell (World.block_lt_of_cell? w _ hx221_2)).trans hx221_2
         replace hx221_3 := (HB.out.cell (World.block_lt_of_cell? w _ hx221_3)).trans hx221_3
         replace hx221_4 := (HB.out.cell (World.block_lt_of_cell? w _ hx221_4)).trans hx221_4
         replace hx221_5 := (HB.out.cell (World.block_lt_of_cell? w _ hx221_5)).trans hx221_5
         replace hx221_6 := (HB.out.cell (World.block_lt_of_cell? w _ hx221_6)).trans hx221_6
         replace hx221_7 := (HB.out.cell (World.block_lt_of_cell? w _ hx221_7)).trans hx221_7
         replace p221 := eq_true p221
         replace q221 := eq_true q221
         refine start_ (n := 9) (S := fun w' => w'.cell? ⟨gb218,0,none⟩ = some (.int .u64 a0_0) ∧ w'.cell? ⟨gb218,1,none⟩ = some (.int .i64 a0_1) ∧ w'.cell? ⟨gb218,2,none⟩ = some (.int .i64 a0_2) ∧ w'.cell? ⟨gb218,3,none⟩ = some (.slice A0_3 l0_3.length c0_3) ∧ w'.cell? ⟨gb218,4,none⟩ = some (.slice (some ad221) l0_4.length c0_4) ∧ w'.cell? ⟨gb218,5,none⟩ = some (.slice A0_5 l0_5.length c0_5) ∧ w'.cell? (ad221.add ((x3_2).toNat * 8)) = some (.int .i64 ((rd_T42 l0_4 x3_2).f0)) ∧ w'.cell? ⟨(ad221.add ((x3_2).toNat * 8)).block,(ad221.add ((x3_2).toNat * 8)).off + 1,none⟩ = some (.int .i64 ((rd_T42 l0_4 x3_2).f1)) ∧ w'.cell? ⟨(ad221.add ((x3_2).toNat * 8)).block,(ad221.add ((x3_2).toNat * 8)).off + 2,none⟩ = some (.int .i64 ((rd_T42 l0_4 x3_2).f2)) ∧ w'.cell? ⟨(ad221.add ((x3_2).toNat * 8)).block,(ad221.add ((x3_2).toNat * 8)).off + 3,none⟩ = some (.int .i64 ((rd_T42 l0_4 x3_2).f3)) ∧ w'.cell? ⟨(ad221.add ((x3_2).toNat * 8)).block,(ad221.add ((x3_2).toNat * 8)).off + 4,none⟩ = some (.int .i64 ((rd_T42 l0_4 x3_2).f4)) ∧ w'.cell? ⟨(ad221.add ((x3_2).toNat * 8)).block,(ad221.add ((x3_2).toNat * 8)).off + 5,none⟩ = some (.int .u64 ((rd_T42 l0_4 x3_2).f5)) ∧ w'.cell? ⟨(ad221.add ((x3_2).toNat * 8)).block,(ad221.add ((x3_2).toNat * 8)).off + 6,none⟩ = some (.int .i64 ((rd_T42 l0_4 x3_2).f6)) ∧ w'.cell? ⟨(ad221.add ((x3_2).toNat * 8)).block,(ad221.add ((x3_2).toNat * 8)).off + 7,none⟩ = some (.int .i64 ((rd_T42 l0_4 x3_2).f7))) (ds := []) #[false,false,false,false,false,false,false,false,false] (by kernel_rfl) rfl rfl ⟨(blk_cell BK218.out 0).trans rfl,(blk_cell BK218.out 1).trans rfl,(blk_cell BK218.out 2).trans rfl,(blk_cell BK218.out 3).trans rfl,(blk_cell BK218.out 4).trans rfl,(blk_cell BK218.out 5).trans rfl,((HB.out.cell (World.block_lt_of_cell? w _ hw221_0)).trans hw221_0),((HB.out.cell (World.block_lt_of_cell? w _ hw221_1)).trans hw221_1),((HB.out.cell (World.block_lt_of_cell? w _ hw221_2)).trans hw221_2),((HB.out.cell (World.block_lt_of_cell? w _ hw221_3)).trans hw221_3),((HB.out.cell (World.block_lt_of_cell? w _ hw221_4)).trans hw221_4),((HB.out.cell (World.block_lt_of_cell? w _ hw221_5)).trans hw221_5),((HB.out.cell (World.block_lt_of_cell? w _ hw221_6)).trans hw221_6),((HB.out.cell (World.block_lt_of_cell? w _ hw221_7)).trans hw221_7)⟩ (fun hHeld => ?_);refine with_tabW privityref12_ValidScenario.tab6 privityref12_ValidScenario.bits6 (fun HT_ HW_ => ?_)
         generalize wr.drew = w28 at BK218 HB hx221_0 hx221_1 hx221_2 hx221_3 hx221_4 hx221_5 hx221_6 hx221_7 hHeld ⊢
         refine pure_ (i := 0) (N := some 33) (v := ?_) (a' := ?_) #[true,false,false,false,false,false,false,false,false] rfl rfl (any_of HT_.out (by kernel_rfl)) (fun _ _ _ h => h) (Or.inl ⟨by rfl,?_⟩) ?_ ?_
         rotate_left
         ·intro w'
          go_simp
          with_reducible rfl
         rotate_left
         ·simp only [Act.put,List.setIfInBounds_toArray,List.set_cons_zero,List.set_cons_succ,i64_w,i32_w]
          rfl
         refine pure_ (i := 2) (N := some 35) (v := ?_) (a' := ?_) #[true,false,true,false,false,false,false,false,false] rfl rfl (any_of HT_.out (by kernel_rfl)) (fun _ _ _ h => h) (Or.inl ⟨by rfl,?_⟩) ?_ ?_
         rotate_left
         ·intro w'
          go_simp
          with_reducible rfl
         rotate_left
         ·simp only [Act.put,List.setIfInBounds_toArray,List.set_cons_zero,List.set_cons_succ,i64_w,i32_w]
          rfl
         refine pure_ (i := 4) (N := some 37) (v := ?_) (a' := ?_) #[true,false,true,false,true,false,false,false,false] rfl rfl (any_of HT_.out (by kernel_rfl)) (fun _ _ _ h => h) (Or.inl ⟨by rfl,?_⟩) ?_ ?_
         rotate_left
         ·intro w'
          go_simp
          with_reducible rfl
         rotate_left
         ·simp only [Act.put,List.setIfInBounds_toArray,List.set_cons_zero,List.set_cons_succ,i64_w,i32_w]
          rfl
         refine take_ (i := 1) (N := some 34) (v := ?_) (a' := ?_) #[true,true,true,false,true,false,false,false,false] rfl rfl (take_ofW HT_.out HW_.out (by kernel_rfl)) (fun _ _ _ h => h) (Or.inl ⟨by rfl,?_⟩) hHeld ?_ ?_
         rotate_left
         ·rintro w' ⟨s0,s1,s2,s3,s4,s5,s6,s7,s8,s9,s10,s11,s12,s13⟩
          go_simp
          with_reducible rfl
         rotate_left
         ·simp only [Act.put,List.setIfInBounds_toArray,List.set_cons_zero,List.set_cons_succ,i64_w,i32_w]
          rfl
         refine take_ (i := 3) (N := some 36) (v := ?_) (a' := ?_) #[true,true,true,true,true,false,false,false,false] rfl rfl (take_ofW HT_.out HW_.out (by kernel_rfl)) (fun _ _ _ h => h) (Or.inl ⟨by rfl,?_⟩) hHeld ?_ ?_
         rotate_left
         ·rintro w' ⟨s0,s1,s2,s3,s4,s5,s6,s7,s8,s9,s10,s11,s12,s13⟩
          go_simp
          with_reducible rfl
         rotate_left
         ·simp only [Act.put,List.setIfInBounds_toArray,List.set_cons_zero,List.set_cons_succ,i64_w,i32_w]
          rfl
         refine pure_ (i := 5) (N := some 38) (v := ?_) (a' := ?_) #[true,true,true,true,true,true,false,false,false] rfl rfl (any_of HT_.out (by kernel_rfl)) (fun _ _ _ h => h) (Or.inl ⟨by rfl,?_⟩) ?_ ?_
         rotate_left
         ·intro w'
          go_simp
          with_reducible rfl
         rotate_left
         ·simp only [Act.put,List.setIfInBounds_toArray,List.set_cons_zero,List.set_cons_succ,i64_w,i32_w]
          rfl
         refine take_ (i := 6) (N := some 39) (v := ?_) (a' := ?_) #[true,true,true,true,true,true,true,false,false] rfl rfl (take_ofW HT_.out HW_.out (by kernel_rfl)) (fun _ _ _ h => h) (Or.inl ⟨by rfl,?_⟩) hHeld ?_ ?_
         rotate_left
         ·rintro w' ⟨s0,s1,s2,s3,s4,s5,s6,s7,s8,s9,s10,s11,s12,s13⟩
          go_simp
          with_reducible rfl
         rotate_left
         ·simp only [Act.put,List.setIfInBounds_toArray,List.set_cons_zero,List.set_cons_succ,i64_w,i32_w]
          rfl
         refine one_ (i := 7) (N := some 40) #[true,true,true,true,true,true,true,true,false] rfl rfl (one_of HT_.out (by kernel_rfl)) (by decide) (fun K hK => ?_)
         refine goes_ Tryd.func25 (by kernel_rfl) rfl #[.agg #[.int .u64 a0_0,.int .i64 a0_1,.int .i64 a0_2],.agg #[.int .i64 ((rd_T42 l0_4 x3_2).f0),.int .i64 ((rd_T42 l0_4 x3_2).f1),.int .i64 ((rd_T42 l0_4 x3_2).f2),.int .i64 ((rd_T42 l0_4 x3_2).f3),.int .i64 ((rd_T42 l0_4 x3_2).f4),.int .u64 ((rd_T42 l0_4 x3_2).f5),.int .i64 ((rd_T42 l0_4 x3_2).f6),.int .i64 ((rd_T42 l0_4 x3_2).f7)]] (by rfl) rfl rfl (by (try simp only [List.map_toArray,List.map_cons,List.map_nil]);first|done|rfl|(simp only [List.length_drop,List.length_take];rfl)) ?_
         with_reducible refine (privityref12_Deviation.calls a0_0 a0_1 a0_2 ((rd_T42 l0_4 x3_2).f0) ((rd_T42 l0_4 x3_2).f1) ((rd_T42 l0_4 x3_2).f2) ((rd_T42 l0_4 x3_2).f3) ((rd_T42 l0_4 x3_2).f4) ((rd_T42 l0_4 x3_2).f5) ((rd_T42 l0_4 x3_2).f6) ((rd_T42 l0_4 x3_2).f7) false _ A22.out).mono ?_
         rintro e w29 ⟨rfl,hb⟩
         refine ⟨_,rfl,?_⟩
         have n0_ := Aside0.mk (blk_below (g := gb218) (o := .cells #[.int .u64 a0_0,.int .i64 a0_1,.int .i64 a0_2,.slice A0_3 l0_3.length c0_3,.slice (some ad221) l0_4.length c0_4,.slice A0_5 l0_5.length c0_5] 32 (0,0)) (by (with_reducible repeat (first|refine blk_drewN ?_ _|refine blk_drew ?_|refine blk_alloc ?_ _));exact BK218.out) hb)
         have n1_ := Aside0.mk (below_step (by repeat (first|(with_reducible first|exact HB.out|apply below_alloc|apply pw_below_drewN|apply below_drew1|refine below_set ?_ GE218.out)|exact HB.out)) hb)
         clear BK218
         clear HB
         have BK218 := n0_
         have HB := n1_
         clear n0_ n1_
         (try clear hb)
         (try clear hb2)
         (try clear hk)
         (try clear hi)
         refine hK.out _ _ ⟨(blk_cell BK218.out 0).trans rfl,(blk_cell BK218.out 1).trans rfl,(blk_cell BK218.out 2).trans rfl,(blk_cell BK218.out 3).trans rfl,(blk_cell BK218.out 4).trans rfl,(blk_cell BK218.out 5).trans rfl,((HB.out.cell (World.block_lt_of_cell? w _ hw221_0)).trans hw221_0),((HB.out.cell (World.block_lt_of_cell? w _ hw221_1)).trans hw221_1),((HB.out.cell (World.block_lt_of_cell? w _ hw221_2)).trans hw221_2),((HB.out.cell (World.block_lt_of_cell? w _ hw221_3)).trans hw221_3),((HB.out.cell (World.block_lt_of_cell? w _ hw221_4)).trans hw221_4),((HB.out.cell (World.block_lt_of_cell? w _ hw221_5)).trans hw221_5),((HB.out.cell (World.block_lt_of_cell? w _ hw221_6)).trans hw221_6),((HB.out.cell (World.block_lt_of_cell? w _ hw221_7)).trans hw221_7)⟩ (fun hHeld => ?_)
         clear hK K
         refine norm_ (a' := ?_) ?_ ?_
         rotate_left
         ·show Act.put _ (some 40) _ = _
          simp only [Act.put,List.setIfInBounds_toArray,List.set_cons_zero,List.set_cons_succ,i64_w,i32_w]
          rfl
         refine pure_ (i := 8) (N := some 41) (v := ?_) (a' := ?_) #[true,true,true,true,true,true,true,true,true] rfl rfl (any_of HT_.out (by kernel_rfl)) (fun _ _ _ h => h) (Or.inl ⟨by rfl,?_⟩) ?_ ?_
         rotate_left
         ·intro w'
          go_simp
          with_reducible rfl
         rotate_left
         ·simp only [Act.put,List.setIfInBounds_toArray,List.set_cons_zero,List.set_cons_succ,i64_w,i32_w]
          rfl
         refine done_ (done_of HT_.out (by kernel_rfl)) ?_
         try go_wp2
         go_ret
         exact ⟨by first|rfl|(simp [errW_none,errW_some] <;> rfl)|(simp [*,errW_none,errW_some] <;> rfl),by repeat (first|(with_reducible first|exact HB.out|apply below_alloc|apply pw_below_drewN|apply below_drew1|refine below_set ?_ GE218.out)|exact HB.out)⟩
       ·rw [if_neg c21] at H
        exact absurd H (by simp)
      ·rw [if_neg c20] at H
       have c20b0 : decide (x3_2 < (l0_4.length : Int)) = false := decide_eq_false c20
       clear c20
       have H' := Aside0.mk H
       clear H
       have hcz30_0 : wr.cell? ⟨gb218,0,none⟩ = some (.int .u64 a0_0) := (blk_cell BK218.out 0).trans rfl
       have hcz30_1 : wr.cell? ⟨gb218,1,none⟩ = some (.int .i64 a0_1) := (blk_cell BK218.out 1).trans rfl
       have hcz30_2 : wr.cell? ⟨gb218,2,none⟩ = some (.int .i64 a0_2) := (blk_cell BK218.out 2).trans rfl
       have hcz30_3 : wr.cell? ⟨gb218,3,none⟩ = some (.slice A0_3 l0_3.length c0_3) := (blk_cell BK218.out 3).trans rfl
       have hcz30_4 : wr.cell? ⟨gb218,4,none⟩ = some (.slice A0_4 l0_4.length c0_4) := (blk_cell BK218.out 4).trans rfl
       have hcz30_5 : wr.cell? ⟨gb218,5,none⟩ = some (.slice A0_5 l0_5.length c0_5) := (blk_cell BK218.out 5).trans rfl
       have hfz30_0 := blk_frozen BK218.out 0
       have hfz30_1 := blk_frozen BK218.out 1
       have hfz30_2 := blk_frozen BK218.out 2
       have hfz30_3 := blk_frozen BK218.out 3
       have hfz30_4 := blk_frozen BK218.out 4
       have hfz30_5 := blk_frozen BK218.out 5
       go_wp2
       go_loopg [4] k2 (fun kq v4 w' => ∃ (x4_3 : Int),v4 = .int .i64 x4_3 ∧ Aside0 (privityref12_ValidScenario.l1 kq x4_3 a0_0 a0_1 a0_2 l0_3 l0_4 l0_5 = some r) ∧ Aside0 (kq ≤ k2) ∧ Aside0 (w'.heap[gb218]? = some (.cells #[.int .u64 a0_0,.int .i64 a0_1,.int .i64 a0_2,(.slice A0_3 l0_3.length c0_3),(.slice A0_4 l0_4.length c0_4),(.slice A0_5 l0_5.length c0_5)] 32 (0,0))) ∧ Aside0 (Below w.heap.size w w'))
       case atStart => exact ⟨(0),(by first|rfl|(simp;done)|(simp [*];done)),H',⟨Nat.le_refl _⟩,⟨by (with_reducible repeat (first|refine blk_drewN ?_ _|refine blk_drew ?_|refine blk_alloc ?_ _));exact BK218.out⟩,⟨by repeat (first|(with_reducible first|exact HB.out|apply below_alloc|apply pw_below_drewN|apply below_drew1|refine below_set ?_ GE218.out)|exact HB.out)⟩⟩
       case round =>
        clear H'
        try clear c1
        try clear c2
        try clear p2
        try clear q2
        try clear hx2
        try clear c5
        try clear p6
        try clear c7
        try clear c11
        try clear c15
        try clear c19
        try clear c20
        try clear c20b0
        try clear c21
        try clear c21b0
        try clear p22
        try clear q22
        try clear hx22
        try clear c23
        try clear c25
        try clear hcz10_0
        try clear hcz10_1
        try clear hcz10_2
        try clear hcz10_3
        try clear hcz10_4
        try clear hcz10_5
        try clear hcz12_0
        try clear hcz12_1
        try clear hcz12_2
        try clear hcz12_3
        try clear hcz12_4
        try clear hcz12_5
        try clear hcz13_0
        try clear hcz13_1
        try clear hcz13_2
        try clear hcz13_3
        try clear hcz13_4
        try clear hcz13_5
        try clear hcz15_0
        try clear hcz15_1
        try clear hcz15_2
        try clear hcz15_3
        try clear hcz15_4
        try clear hcz15_5
        try clear hcz17_0
        try clear hcz17_1
        try clear hcz17_2
        try clear hcz17_3
        try clear hcz17_4
        try clear hcz17_5
        try clear hcz24_0
        try clear hcz24_1
        try clear hcz24_2
        try clear hcz24_3
        try clear hcz24_4
        try clear hcz24_5
        try clear hcz27_0
        try clear hcz27_1
        try clear hcz27_2
        try clear hcz27_3
        try clear hcz27_4
        try clear hcz27_5
        try clear hcz30_0
        try clear hcz30_1
        try clear hcz30_2
        try clear hcz30_3
        try clear hcz30_4
        try clear hcz30_5
        try clear hcz8_0
        try clear hcz8_1
        try clear hcz8_2
        try clear hcz8_3
        try clear hcz8_4
        try clear hcz8_5
        try clear hfz10_0
        try clear hfz10_1
        try clear hfz10_2
        try clear hfz10_3
        try clear hfz10_4
        try clear hfz10_5
        try clear hfz12_0
        try clear hfz12_1
        try clear hfz12_2
        try clear hfz12_3
        try clear hfz12_4
        try clear hfz12_5
        try clear hfz13_0
        try clear hfz13_1
        try clear hfz13_2
        try clear hfz13_3
        try clear hfz13_4
        try clear hfz13_5
        try clear hfz15_0
        try clear hfz15_1
        try clear hfz15_2
        try clear hfz15_3
        try clear hfz15_4
        try clear hfz15_5
        try clear hfz17_0
        try clear hfz17_1
        try clear hfz17_2
        try clear hfz17_3
        try clear hfz17_4
        try clear hfz17_5
        try clear hfz24_0
        try clear hfz24_1
        try clear hfz24_2
        try clear hfz24_3
        try clear hfz24_4
        try clear hfz24_5
        try clear hfz27_0
        try clear hfz27_1
        try clear hfz27_2
        try clear hfz27_3
        try clear hfz27_4
        try clear hfz27_5
        try clear hfz30_0
        try clear hfz30_1
        try clear hfz30_2
        try clear hfz30_3
        try clear hfz30_4
        try clear hfz30_5
        try clear hfz8_0
        try clear hfz8_1
        try clear hfz8_2
        try clear hfz8_3
        try clear hfz8_4
        try clear hfz8_5
        try clear hx221_0
        try clear hx221_1
        try clear hx221_2
        try clear hx221_3
        try clear hx221_4
        try clear hx221_5
        try clear hx221_6
        try clear hx221_7
        try clear p2
        try clear p221
        try clear q221
        obtain ⟨x4_3,rfl,HA,HK3,BK218,HB⟩ := hrel
        cases gk with
        | zero => exact absurd HA.out (by simp [privityref12_ValidScenario.l1])
        | succ k3 =>
         have H := HA.out
         clear HA
         simp only [privityref12_ValidScenario.l1] at H
         by_cases c31 : x4_3 < (l0_5.length : Int)
         ·rw [if_pos c31] at H
          have c31b0 : decide (x4_3 < (l0_5.length : Int)) = true := decide_eq_true c31
          clear c31
          by_cases c32 : 0 ≤ x4_3
          ·rw [if_pos c32] at H
           have c32b0 : decide (0 ≤ x4_3) = true := decide_eq_true c32
           clear c32
           replace H := Option.bind_eq_some_iff.mp H
           obtain ⟨t224,A330,H⟩ := H
           replace H : (if t224 = true then (privityref12_ValidScenario.l1 k3 (wrap64 (x4_3 + 1)) a0_0 a0_1 a0_2 l0_3 l0_4 l0_5) else (some false)) = some r := H
           have A33 := Aside0.mk A330
           clear A330
           by_cases c34 : t224 = true
           ·subst c34
            have H1 : (privityref12_ValidScenario.l1 k3 (wrap64 (x4_3 + 1)) a0_0 a0_1 a0_2 l0_3 l0_4 l0_5) = some r := by rw [if_pos rfl] at H;exact H
            clear H
            have H := H1
            clear H1
            have H' := Aside0.mk H
            clear H
            have hcz35_0 : wr.cell? ⟨gb218,0,none⟩ = some (.int .u64 a0_0) := (blk_cell BK218.out 0).trans rfl
            have hcz35_1 : wr.cell? ⟨gb218,1,none⟩ = some (.int .i64 a0_1) := (blk_cell BK218.out 1).trans rfl
            have hcz35_2 : wr.cell? ⟨gb218,2,none⟩ = some (.int .i64 a0_2) := (blk_cell BK218.out 2).trans rfl
            have hcz35_3 : wr.cell? ⟨gb218,3,none⟩ = some (.slice A0_3 l0_3.length c0_3) := (blk_cell BK218.out 3).trans rfl
            have hcz35_4 : wr.cell? ⟨gb218,4,none⟩ = some (.slice A0_4 l0_4.length c0_4) := (blk_cell BK218.out 4).trans rfl
            have hcz35_5 : wr.cell? ⟨gb218,5,none⟩ = some (.slice A0_5 l0_5.length c0_5) := (blk_cell BK218.out 5).trans rfl
            have hfz35_0 := blk_frozen BK218.out 0
            have hfz35_1 := blk_frozen BK218.out 1
            have hfz35_2 := blk_frozen BK218.out 2
            have hfz35_3 := blk_frozen BK218.out 3
            have hfz35_4 := blk_frozen BK218.out 4
            have hfz35_5 := blk_frozen BK218.out 5
            try go_wp2
            have n0_ := Aside0.mk (blk_drew BK218.out)
            have n1_ := Aside0.mk (below_drew1 HB.out)
            clear BK218
            clear HB
            have BK218 := n0_
            have HB := n1_
            clear n0_ n1_
            have p223 : 0 ≤ (x4_3 : Int) := of_decide_eq_true (by first|(with_reducible assumption)|assumption)
            have q223 : x4_3 < (l0_5.length : Int) := of_decide_eq_true (by first|(with_reducible assumption)|assumption)
            obtain ⟨ad223,A223_0,c223_0,e223,hx223_0,hl223_0,hi223_0⟩ := at_L6 HR0_5.out x4_3 p223 q223
            have hw223_0 := hx223_0
            cases e223
            replace hx223_0 := (HB.out.cell (World.block_lt_of_cell? w _ hx223_0)).trans hx223_0
            have HR223_0 := Aside0.mk hi223_0
            have HC223_0 := Aside0.mk hl223_0
            clear hi223_0 hl223_0
            replace p223 := eq_true p223
            replace q223 := eq_true q223
            refine start_ (n := 10) (S := fun w' => w'.cell? ⟨gb218,0,none⟩ = some (.int .u64 a0_0) ∧ w'.cell? ⟨gb218,1,none⟩ = some (.int .i64 a0_1) ∧ w'.cell? ⟨gb218,2,none⟩ = some (.int .i64 a0_2) ∧ w'.cell? ⟨gb218,3,none⟩ = some (.slice A0_3 l0_3.length c0_3) ∧ w'.cell? ⟨gb218,4,none⟩ = some (.slice A0_4 l0_4.length c0_4) ∧ w'.cell? ⟨gb218,5,none⟩ = some (.slice (some ad223) l0_5.length c0_5) ∧ w'.cell? (ad223.add (x4_3).toNat) = some (.slice A223_0 (rd_L6 l0_5 x4_3).length c223_0)) (ds := []) #[false,false,false,false,false,false,false,false,false,false] (by kernel_rfl) rfl rfl ⟨(blk_cell BK218.out 0).trans rfl,(blk_cell BK218.out 1).trans rfl,(blk_cell BK218.out 2).trans rfl,(blk_cell BK218.out 3).trans rfl,(blk_cell BK218.out 4).trans rfl,(blk_cell BK218.out 5).trans rfl,((HB.out.cell (World.block_lt_of_cell? w _ hw223_0)).trans hw223_0)⟩ (fun hHeld => ?_);refine with_tabW privityref12_ValidScenario.tab11 privityref12_ValidScenario.bits11 (fun HT_ HW_ => ?_)
            generalize wr.drew = w36 at BK218 HB HR223_0 hx223_0 hHeld ⊢
            refine pure_ (i := 0) (N := some 49) (v := ?_) (a' := ?_) #[true,false,false,false,false,false,false,false,false,false] rfl rfl (any_of HT_.out (by kernel_rfl)) (fun _ _ _ h => h) (Or.inl ⟨by rfl,?_⟩) ?_ ?_
            rotate_left
            ·intro w'
             go_simp
             with_reducible rfl
            rotate_left
            ·simp only [Act.put,List.setIfInBounds_toArray,List.set_cons_zero,List.set_cons_succ,i64_w,i32_w]
             rfl
            refine pure_ (i := 1) (N := some 50) (v := ?_) (a' := ?_) #[true,true,false,false,false,false,false,false,false,false] rfl rfl (any_of HT_.out (by kernel_rfl)) (fun _ _ _ h => h) (Or.inl ⟨by rfl,?_⟩) ?_ ?_
            rotate_left
            ·intro w'
             go_simp
             with_reducible rfl
            rotate_left
            ·simp only [Act.put,List.setIfInBounds_toArray,List.set_cons_zero,List.set_cons_succ,i64_w,i32_w]
             rfl
            refine pure_ (i := 3) (N := some 52) (v := ?_) (a' := ?_) #[true,true,false,true,false,false,false,false,false,false] rfl rfl (any_of HT_.out (by kernel_rfl)) (fun _ _ _ h => h) (Or.inl ⟨by rfl,?_⟩) ?_ ?_
            rotate_left
            ·intro w'
             go_simp
             with_reducible rfl
            rotate_left
            ·simp only [Act.put,List.setIfInBounds_toArray,List.set_cons_zero,List.set_cons_succ,i64_w,i32_w]
             rfl
            refine pure_ (i := 5) (N := some 54) (v := ?_) (a' := ?_) #[true,true,false,true,false,true,false,false,false,false] rfl rfl (any_of HT_.out (by kernel_rfl)) (fun _ _ _ h => h) (Or.inl ⟨by rfl,?_⟩) ?_ ?_
            rotate_left
            ·intro w'
             go_simp
             with_reducible rfl
            rotate_left
            ·simp only [Act.put,List.setIfInBounds_toArray,List.set_cons_zero,List.set_cons_succ,i64_w,i32_w]
             rfl
            refine take_ (i := 2) (N := some 51) (v := ?_) (a' := ?_) #[true,true,true,true,false,true,false,false,false,false] rfl rfl (take_ofW HT_.out HW_.out (by kernel_rfl)) (fun _ _ _ h => h) (Or.inl ⟨by rfl,?_⟩) hHeld ?_ ?_
            rotate_left
            ·rintro w' ⟨s0,s1,s2,s3,s4,s5,s6⟩
             go_simp
             with_reducible rfl
            rotate_left
            ·simp only [Act.put,List.setIfInBounds_toArray,List.set_cons_zero,List.set_cons_succ,i64_w,i32_w]
             rfl
            refine take_ (i := 4) (N := some 53) (v := ?_) (a' := ?_) #[true,true,true,true,true,true,false,false,false,false] rfl rfl (take_ofW HT_.out HW_.out (by kernel_rfl)) (fun _ _ _ h => h) (Or.inl ⟨by rfl,?_⟩) hHeld ?_ ?_
            rotate_left
            ·rintro w' ⟨s0,s1,s2,s3,s4,s5,s6⟩
             go_simp
             with_reducible rfl
            rotate_left
            ·simp only [Act.put,List.setIfInBounds_toArray,List.set_cons_zero,List.set_cons_succ,i64_w,i32_w]
             rfl
            refine pure_ (i := 6) (N := some 55) (v := ?_) (a' := ?_) #[true,true,true,true,true,true,true,false,false,false] rfl rfl (any_of HT_.out (by kernel_rfl)) (fun _ _ _ h => h) (Or.inl ⟨by rfl,?_⟩) ?_ ?_
            rotate_left
            ·intro w'
             go_simp
             with_reducible rfl
            rotate_left
            ·simp only [Act.put,List.setIfInBounds_toArray,List.set_cons_zero,List.set_cons_succ,i64_w,i32_w]
             rfl
            refine take_ (i := 7) (N := some 56) (v := ?_) (a' := ?_) #[true,true,true,true,true,true,true,true,false,false] rfl rfl (take_ofW HT_.out HW_.out (by kernel_rfl)) (fun _ _ _ h => h) (Or.inl ⟨by rfl,?_⟩) hHeld ?_ ?_
            rotate_left
            ·rintro w' ⟨s0,s1,s2,s3,s4,s5,s6⟩
             go_simp
             with_reducible rfl
            rotate_left
            ·simp only [Act.put,List.setIfInBounds_toArray,List.set_cons_zero,List.set_cons_succ,i64_w,i32_w]
             rfl
            refine one_ (i := 8) (N := some 57) #[true,true,true,true,true,true,true,true,true,false] rfl rfl (one_of HT_.out (by kernel_rfl)) (by decide) (fun K hK => ?_)
            refine goes_ Tryd.func37 (by kernel_rfl) rfl #[.int .u64 a0_0,.slice A223_0 (rd_L6 l0_5 x4_3).length c223_0] (by rfl) rfl rfl (by (try simp only [List.map_toArray,List.map_cons,List.map_nil]);first|done|rfl|(simp only [List.length_drop,List.length_take];rfl)) ?_
            with_reducible refine (privityref05_Below.calls k3 a0_0 _ _ (rd_L6 l0_5 x4_3) true _ ?side1 ?side2 A33.out).mono ?_
            (case side1 => repeat (first|exact (Kd.C_below HR223_0.out HB.out)|(with_reducible refine Kd.C_alloc ?_ _)|(with_reducible refine Kd.C_drewN ?_ _)|(with_reducible refine Kd.C_drew ?_)))
            (case side2 => exact HC223_0.out)
            rintro e w' ⟨rfl,⟨nd,rfl⟩⟩
            refine ⟨_,rfl,?_⟩
            refine hK.out _ _ ⟨(blk_cell BK218.out 0).trans rfl,(blk_cell BK218.out 1).trans rfl,(blk_cell BK218.out 2).trans rfl,(blk_cell BK218.out 3).trans rfl,(blk_cell BK218.out 4).trans rfl,(blk_cell BK218.out 5).trans rfl,((HB.out.cell (World.block_lt_of_cell? w _ hw223_0)).trans hw223_0)⟩ (fun hHeld => ?_)
            clear hK K
            refine norm_ (a' := ?_) ?_ ?_
            rotate_left
            ·show Act.put _ (some 57) _ = _
             simp only [Act.put,List.setIfInBounds_toArray,List.set_cons_zero,List.set_cons_succ,i64_w,i32_w]
             rfl
            refine pure_ (i := 9) (N := some 58) (v := ?_) (a' := ?_) #[true,true,true,true,true,true,true,true,true,true] rfl rfl (any_of HT_.out (by kernel_rfl)) (fun _ _ _ h => h) (Or.inl ⟨by rfl,?_⟩) ?_ ?_
            rotate_left
            ·intro w'
             go_simp
             with_reducible rfl
            rotate_left
            ·simp only [Act.put,List.setIfInBounds_toArray,List.set_cons_zero,List.set_cons_succ,i64_w,i32_w]
             rfl
            refine done_ (done_of HT_.out (by kernel_rfl)) ?_
            try go_wp2
            go_roundg k3
            case measure => have := HJ1.out;have := HK2.out;have := HK3.out;omega
            case rel => exact ⟨(wrap64 (x4_3 + 1)),(by first|rfl|(simp;done)|(simp [*];done)),H',⟨by have := HJ1.out;have := HK2.out;have := HK3.out;omega⟩,⟨by (with_reducible repeat (first|refine blk_drewN ?_ _|refine blk_drew ?_|refine blk_alloc ?_ _));exact BK218.out⟩,⟨by repeat (first|(with_reducible first|exact HB.out|apply below_alloc|apply pw_below_drewN|apply below_drew1|refine below_set ?_ GE218.out)|exact HB.out)⟩⟩
           ·replace c34 := Bool.eq_false_iff.mpr c34
            subst c34
            have H1 : (some false) = some r := by rw [if_neg (show ¬ (false = true) by decide)] at H;exact H
            clear H
            have H := H1
            clear H1
            obtain rfl := Option.some.inj H
            have hcz37_0 : wr.cell? ⟨gb218,0,none⟩ = some (.int .u64 a0_0) := (blk_cell BK218.out 0).trans rfl
            have hcz37_1 : wr.cell? ⟨gb218,1,none⟩ = some (.int .i64 a0_1) := (blk_cell BK218.out 1).trans rfl
            have hcz37_2 : wr.cell? ⟨gb218,2,none⟩ = some (.int .i64 a0_2) := (blk_cell BK218.out 2).trans rfl
            have hcz37_3 : wr.cell? ⟨gb218,3,none⟩ = some (.slice A0_3 l0_3.length c0_3) := (blk_cell BK218.out 3).trans rfl
            have hcz37_4 : wr.cell? ⟨gb218,4,none⟩ = some (.slice A0_4 l0_4.length c0_4) := (blk_cell BK218.out 4).trans rfl
            have hcz37_5 : wr.cell? ⟨gb218,5,none⟩ = some (.slice A0_5 l0_5.length c0_5) := (blk_cell BK218.out 5).trans rfl
            have hfz37_0 := blk_frozen BK218.out 0
            have hfz37_1 := blk_frozen BK218.out 1
            have hfz37_2 := blk_frozen BK218.out 2
            have hfz37_3 := blk_frozen BK218.out 3
            have hfz37_4 := blk_frozen BK218.out 4
            have hfz37_5 := blk_frozen BK218.out 5
            try go_wp2
            have n0_ := Aside0.mk (blk_drew BK218.out)
            have n1_ := Aside0.mk (below_drew1 HB.out)
            clear BK218
            clear HB
            have BK218 := n0_
            have HB := n1_
            clear n0_ n1_
            have p223 : 0 ≤ (x4_3 : Int) := of_decide_eq_true (by first|(with_reducible assumption)|assumption)
            have q223 : x4_3 < (l0_5.length : Int) := of_decide_eq_true (by first|(with_reducible assumption)|assumption)
            obtain ⟨ad223,A223_0,c223_0,e223,hx223_0,hl223_0,hi223_0⟩ := at_L6 HR0_5.out x4_3 p223 q223
            have hw223_0 := hx223_0
            cases e223
            replace hx223_0 := (HB.out.cell (World.block_lt_of_cell? w _ hx223_0)).trans hx223_0
            have HR223_0 := Aside0.mk hi223_0
            have HC223_0 := Aside0.mk hl223_0
            clear hi223_0 hl223_0
            replace p223 := eq_true p223
            replace q223 := eq_true q223
            refine start_ (n := 10) (S := fun w' => w'.cell? ⟨gb218,0,none⟩ = some (.int .u64 a0_0) ∧ w'.cell? ⟨gb218,1,none⟩ = some (.int .i64 a0_1) ∧ w'.cell? ⟨gb218,2,none⟩ = some (.int .i64 a0_2) ∧ w'.cell? ⟨gb218,3,none⟩ = some (.slice A0_3 l0_3.length c0_3) ∧ w'.cell? ⟨gb218,4,none⟩ = some (.slice A0_4 l0_4.length c0_4) ∧ w'.cell? ⟨gb218,5,none⟩ = some (.slice (some ad223) l0_5.length c0_5) ∧ w'.cell? (ad223.add (x4_3).toNat) = some (.slice A223_0 (rd_L6 l0_5 x4_3).length c223_0)) (ds := []) #[false,false,false,false,false,false,false,false,false,false] (by kernel_rfl) rfl rfl ⟨(blk_cell BK218.out 0).trans rfl,(blk_cell BK218.out 1).trans rfl,(blk_cell BK218.out 2).trans rfl,(blk_cell BK218.out 3).trans rfl,(blk_cell BK218.out 4).trans rfl,(blk_cell BK218.out 5).trans rfl,((HB.out.cell (World.block_lt_of_cell? w _ hw223_0)).trans hw223_0)⟩ (fun hHeld => ?_);refine with_tabW privityref12_ValidScenario.tab11 privityref12_ValidScenario.bits11 (fun HT_ HW_ => ?_)
            generalize wr.drew = w38 at BK218 HB HR223_0 hx223_0 hHeld ⊢
            refine pure_ (i := 0) (N := some 49) (v := ?_) (a' := ?_) #[true,false,false,false,false,false,false,false,false,false] rfl rfl (any_of HT_.out (by kernel_rfl)) (fun _ _ _ h => h) (Or.inl ⟨by rfl,?_⟩) ?_ ?_
            rotate_left
            ·intro w'
             go_simp
             with_reducible rfl
            rotate_left
            ·simp only [Act.put,List.setIfInBounds_toArray,List.set_cons_zero,List.set_cons_succ,i64_w,i32_w]
             rfl
            refine pure_ (i := 1) (N := some 50) (v := ?_) (a' := ?_) #[true,true,false,false,false,false,false,false,false,false] rfl rfl (any_of HT_.out (by kernel_rfl)) (fun _ _ _ h => h) (Or.inl ⟨by rfl,?_⟩) ?_ ?_
            rotate_left
            ·intro w'
             go_simp
             with_reducible rfl
            rotate_left
            ·simp only [Act.put,List.setIfInBounds_toArray,List.set_cons_zero,List.set_cons_succ,i64_w,i32_w]
             rfl
            refine pure_ (i := 3) (N := some 52) (v := ?_) (a' := ?_) #[true,true,false,true,false,false,false,false,false,false] rfl rfl (any_of HT_.out (by kernel_rfl)) (fun _ _ _ h => h) (Or.inl ⟨by rfl,?_⟩) ?_ ?_
            rotate_left
            ·intro w'
             go_simp
             with_reducible rfl
            rotate_left
            ·simp only [Act.put,List.setIfInBounds_toArray,List.set_cons_zero,List.set_cons_succ,i64_w,i32_w]
             rfl
            refine pure_ (i := 5) (N := some 54) (v := ?_) (a' := ?_) #[true,true,false,true,false,true,false,false,false,false] rfl rfl (any_of HT_.out (by kernel_rfl)) (fun _ _ _ h => h) (Or.inl ⟨by rfl,?_⟩) ?_ ?_
            rotate_left
            ·intro w'
             go_simp
             with_reducible rfl
            rotate_left
            ·simp only [Act.put,List.setIfInBounds_toArray,List.set_cons_zero,List.set_cons_succ,i64_w,i32_w]
             rfl
            refine take_ (i := 2) (N := some 51) (v := ?_) (a' := ?_) #[true,true,true,true,false,true,false,false,false,false] rfl rfl (take_ofW HT_.out HW_.out (by kernel_rfl)) (fun _ _ _ h => h) (Or.inl ⟨by rfl,?_⟩) hHeld ?_ ?_
            rotate_left
            ·rintro w' ⟨s0,s1,s2,s3,s4,s5,s6⟩
             go_simp
             with_reducible rfl
            rotate_left
            ·simp only [Act.put,List.setIfInBounds_toArray,List.set_cons_zero,List.set_cons_succ,i64_w,i32_w]
             rfl
            refine take_ (i := 4) (N := some 53) (v := ?_) (a' := ?_) #[true,true,true,true,true,true,false,false,false,false] rfl rfl (take_ofW HT_.out HW_.out (by kernel_rfl)) (fun _ _ _ h => h) (Or.inl ⟨by rfl,?_⟩) hHeld ?_ ?_
            rotate_left
            ·rintro w' ⟨s0,s1,s2,s3,s4,s5,s6⟩
             go_simp
             with_reducible rfl
            rotate_left
            ·simp only [Act.put,List.setIfInBounds_toArray,List.set_cons_zero,List.set_cons_succ,i64_w,i32_w]
             rfl
            refine pure_ (i := 6) (N := some 55) (v := ?_) (a' := ?_) #[true,true,true,true,true,true,true,false,false,false] rfl rfl (any_of HT_.out (by kernel_rfl)) (fun _ _ _ h => h) (Or.inl ⟨by rfl,?_⟩) ?_ ?_
            rotate_left
            ·intro w'
             go_simp
             with_reducible rfl
            rotate_left
            ·simp only [Act.put,List.setIfInBounds_toArray,List.set_cons_zero,List.set_cons_succ,i64_w,i32_w]
             rfl
            refine take_ (i := 7) (N := some 56) (v := ?_) (a' := ?_) #[true,true,true,true,true,true,true,true,false,false] rfl rfl (take_ofW HT_.out HW_.out (by kernel_rfl)) (fun _ _ _ h => h) (Or.inl ⟨by rfl,?_⟩) hHeld ?_ ?_
            rotate_left
            ·rintro w' ⟨s0,s1,s2,s3,s4,s5,s6⟩
             go_simp
             with_reducible rfl
            rotate_left
            ·simp only [Act.put,List.setIfInBounds_toArray,List.set_cons_zero,List.set_cons_succ,i64_w,i32_w]
             rfl
            refine one_ (i := 8) (N := some 57) #[true,true,true,true,true,true,true,true,true,false] rfl rfl (one_of HT_.out (by kernel_rfl)) (by decide) (fun K hK => ?_)
            refine goes_ Tryd.func37 (by kernel_rfl) rfl #[.int .u64 a0_0,.slice A223_0 (rd_L6 l0_5 x4_3).length c223_0] (by rfl) rfl rfl (by (try simp only [List.map_toArray,List.map_cons,List.map_nil]);first|done|rfl|(simp only [List.length_drop,List.length_take];rfl)) ?_
            with_reducible refine (privityref05_Below.calls k3 a0_0 _ _ (rd_L6 l0_5 x4_3) false _ ?side1 ?side2 A33.out).mono ?_
            (case side1 => repeat (first|exact (Kd.C_below HR223_0.out HB.out)|(with_reducible refine Kd.C_alloc ?_ _)|(with_reducible refine Kd.C_drewN ?_ _)|(with_reducible refine Kd.C_drew ?_)))
            (case side2 => exact HC223_0.out)
            rintro e w' ⟨rfl,⟨nd,rfl⟩⟩
            refine ⟨_,rfl,?_⟩
            refine hK.out _ _ ⟨(blk_cell BK218.out 0).trans rfl,(blk_cell BK218.out 1).trans rfl,(blk_cell BK218.out 2).trans rfl,(blk_cell BK218.out 3).trans rfl,(blk_cell BK218.out 4).trans rfl,(blk_cell BK218.out 5).trans rfl,((HB.out.cell (World.block_lt_of_cell? w _ hw223_0)).trans hw223_0)⟩ (fun hHeld => ?_)
            clear hK K
            refine norm_ (a' := ?_) ?_ ?_
            rotate_left
            ·show Act.put _ (some 57) _ = _
             simp only [Act.put,List.setIfInBounds_toArray,List.set_cons_zero,List.set_cons_succ,i64_w,i32_w]
             rfl
            refine pure_ (i := 9) (N := some 58) (v := ?_) (a' := ?_) #[true,true,true,true,true,true,true,true,true,true] rfl rfl (any_of HT_.out (by kernel_rfl)) (fun _ _ _ h => h) (Or.inl ⟨by rfl,?_⟩) ?_ ?_
            rotate_left
            ·intro w'
             go_simp
             with_reducible rfl
            rotate_left
            ·simp only [Act.put,List.setIfInBounds_toArray,List.set_cons_zero,List.set_cons_succ,i64_w,i32_w]
             rfl
            refine done_ (done_of HT_.out (by kernel_rfl)) ?_
            try go_wp2
            go_ret
            exact ⟨by first|rfl|(simp [errW_none,errW_some] <;> rfl)|(simp [*,errW_none,errW_some] <;> rfl),by repeat (first|(with_reducible first|exact HB.out|apply below_alloc|apply pw_below_drewN|apply below_drew1|refine below_set ?_ GE218.out)|exact HB.out)⟩
          ·rw [if_neg c32] at H
           exact absurd H (by simp)
         ·rw [if_neg c31] at H
          have c31b0 : decide (x4_3 < (l0_5.length : Int)) = false := decide_eq_false c31
          clear c31
          obtain rfl := Option.some.inj H
          have hcz39_0 : wr.cell? ⟨gb218,0,none⟩ = some (.int .u64 a0_0) := (blk_cell BK218.out 0).trans rfl
          have hcz39_1 : wr.cell? ⟨gb218,1,none⟩ = some (.int .i64 a0_1) := (blk_cell BK218.out 1).trans rfl
          have hcz39_2 : wr.cell? ⟨gb218,2,none⟩ = some (.int .i64 a0_2) := (blk_cell BK218.out 2).trans rfl
          have hcz39_3 : wr.cell? ⟨gb218,3,none⟩ = some (.slice A0_3 l0_3.length c0_3) := (blk_cell BK218.out 3).trans rfl
          have hcz39_4 : wr.cell? ⟨gb218,4,none⟩ = some (.slice A0_4 l0_4.length c0_4) := (blk_cell BK218.out 4).trans rfl
          have hcz39_5 : wr.cell? ⟨gb218,5,none⟩ = some (.slice A0_5 l0_5.length c0_5) := (blk_cell BK218.out 5).trans rfl
          have hfz39_0 := blk_frozen BK218.out 0
          have hfz39_1 := blk_frozen BK218.out 1
          have hfz39_2 := blk_frozen BK218.out 2
          have hfz39_3 := blk_frozen BK218.out 3
          have hfz39_4 := blk_frozen BK218.out 4
          have hfz39_5 := blk_frozen BK218.out 5
          go_wp2
          go_ret
          exact ⟨by first|rfl|(simp [errW_none,errW_some] <;> rfl)|(simp [*,errW_none,errW_some] <;> rfl),by repeat (first|(with_reducible first|exact HB.out|apply below_alloc|apply pw_below_drewN|apply below_drew1|refine below_set ?_ GE218.out)|exact HB.out)⟩
end Go.Proofs.YtakaonojfpkhnaaDoor.Pr
end
section
/- Printed by a program of this seat (the kit's printer, with the functions that were proved by hand given to it). What stands here: the functions that the statements reach, as plain functions, and that the Go code computes them. -/
namespace Go.Proofs.YtakaonojfpkhnaaDoor.Pr
open Go.RowKit Go.Proofs.YtakaonojfpkhnaaDoorW.PrintWords Go.Proofs.YtakaonojfpkhnaaDoorW.PrintLast Go.Proofs.YtakaonojfpkhnaaDoorW.PrintMore
attribute [local go_sem] max2_int min2_int max_two min_two max_three min_three max_four min_four   -- for this text's walks alone
set_option linter.unusedVariables false
set_option linter.unusedSimpArgs false

open Go.Proofs.YtakaonojfpkhnaaDoor.Hw
/-! ### privityref12_Light: function 24 -/
mutual
def privityref12_Light.j0 : Nat → Int → Bool → Int → Int → Int → List Int → List (S42) → List (List Int) → Option (Bool)
 | 0,_,_,_,_,_,_,_,_ => none
 | k + 1,x3,x28,x288000,x288001,x288002,x288003,x288004,x288005 => if x28 = true then (some false) else (privityref12_Light.l0 k x3 0 x288000 x288001 x288002 x288003 x288004 x288005)
def privityref12_Light.l0 : Nat → Int → Int → Int → Int → Int → List Int → List (S42) → List (List Int) → Option (Bool)
 | 0,_,_,_,_,_,_,_,_ => none
 | k + 1,x3,x9,x288000,x288001,x288002,x288003,x288004,x288005 => if x9 < (x288005.length : Int) then (if 0 ≤ x9 then (if ((rd_L6 x288005 x9).length : Int) > x3 then (some false) else (privityref12_Light.l0 k x3 (wrap64 (x9 + 1)) x288000 x288001 x288002 x288003 x288004 x288005)) else (none)) else ((privityref12_ValidScenario.f k x288000 x288001 x288002 x288003 x288004 x288005).bind fun t289 => (some t289))
end
def privityref12_Light.f (k : Nat) (a0_0 : Int) (a0_1 : Int) (a0_2 : Int) (l0_3 : List Int) (l0_4 : List (S42)) (l0_5 : List (List Int)) (a1 : Int) (a2 : Int) (a3 : Int) : Option (Bool) := if a0_1 > a1 then (privityref12_Light.j0 k a3 true a0_0 a0_1 a0_2 l0_3 l0_4 l0_5) else (if (l0_4.length : Int) > a2 then (privityref12_Light.j0 k a3 true a0_0 a0_1 a0_2 l0_3 l0_4 l0_5) else (privityref12_Light.j0 k a3 (decide ((l0_5.length : Int) > a1)) a0_0 a0_1 a0_2 l0_3 l0_4 l0_5))
set_option maxHeartbeats 8000000 in
set_option maxRecDepth 100000 in
theorem privityref12_Light.calls (k : Nat) (a0_0 : Int) (a0_1 : Int) (a0_2 : Int) (A0_3 : Option Addr) (c0_3 : Nat) (l0_3 : List Int) (A0_4 : Option Addr) (c0_4 : Nat) (l0_4 : List (S42)) (A0_5 : Option Addr) (c0_5 : Nat) (l0_5 : List (List Int)) (a1 : Int) (a2 : Int) (a3 : Int) (r : Bool) (w : World) (hr0_3 : Kd.C (Kd.int .i64) w A0_3 l0_3.length l0_3) (hc0_3 : l0_3.length ≤ c0_3) (hr0_4 : Kd.C k42 w A0_4 l0_4.length l0_4) (hc0_4 : l0_4.length ≤ c0_4) (hr0_5 : Kd.C (Kd.slice 22 (Kd.int .u64)) w A0_5 l0_5.length l0_5) (hc0_5 : l0_5.length ≤ c0_5) (h : privityref12_Light.f k a0_0 a0_1 a0_2 l0_3 l0_4 l0_5 a1 a2 a3 = some r) :
  Calls Tryd.prog 24 #[.agg #[.int .u64 a0_0,.int .i64 a0_1,.int .i64 a0_2,.slice A0_3 l0_3.length c0_3,.slice A0_4 l0_4.length c0_4,.slice A0_5 l0_5.length c0_5],.int .i64 a1,.int .i64 a2,.int .i64 a3] w fun e w' => e = .returned (.bool r) ∧ Below w.heap.size w w' := by
 have hu32 := Tryd.underlying32
 have HR0_3 := Aside0.mk hr0_3
 have HC0_3 := Aside0.mk hc0_3
 clear hr0_3 hc0_3
 have HR0_4 := Aside0.mk hr0_4
 have HC0_4 := Aside0.mk hc0_4
 clear hr0_4 hc0_4
 have HR0_5 := Aside0.mk hr0_5
 have HC0_5 := Aside0.mk hc0_5
 clear hr0_5 hc0_5
 have HB := Aside0.mk (Below.refl w.heap.size w)
 have H : (if a0_1 > a1 then (privityref12_Light.j0 k a3 true a0_0 a0_1 a0_2 l0_3 l0_4 l0_5) else (if (l0_4.length : Int) > a2 then (privityref12_Light.j0 k a3 true a0_0 a0_1 a0_2 l0_3 l0_4 l0_5) else (privityref12_Light.j0 k a3 (decide ((l0_5.length : Int) > a1)) a0_0 a0_1 a0_2 l0_3 l0_4 l0_5))) = some r := h
 clear h
 have HC5 := Aside0.mk H
 clear H
 go_enter Tryd.func24,Tryd.ntmps24
 go_upto_region 1 with (first|((with_reducible refine gate_dst (N := 4) rfl ?_);(try (refine gate_guard (by rfl) ?_;dsimp only));refine box_event ?hg (N := 4) ?hd (cs := #[.int .u64 a0_0,.int .i64 a0_1,.int .i64 a0_2,.slice A0_3 l0_3.length c0_3,.slice A0_4 l0_4.length c0_4,.slice A0_5 l0_5.length c0_5]) (t := 32) ?hr ?_;(case hd => rfl);(case hg => rfl);(case hr => first|(go_simp;done)|(go_simp;rfl));intro gb287 hg w6 hbox hb;have n0_ := Aside0.mk (below_step (by repeat (first|(with_reducible first|exact HB.out|apply below_alloc|apply pw_below_drewN|apply below_drew1)|exact HB.out)) hb);have n1_ := Aside0.mk (hbox);have n2_ := Aside0.mk ((by rw [hg];exact (below_size (by repeat (first|(with_reducible first|exact HB.out|apply below_alloc|apply pw_below_drewN|apply below_drew1)|exact HB.out))) : w.heap.size ≤ gb287));have n3_ := Aside0.mk ((by rw [hg];exact (below_size (by repeat (first|(with_reducible first|exact HB.out|apply below_alloc|apply pw_below_drewN|apply below_drew1)|exact HB.out))) : w.heap.size ≤ gb287));clear HB;have HB := n0_;have BK287 := n1_;have GW287 := n2_;have GE287 := n3_;clear n0_ n1_ n2_ n3_;clear hb hbox hg))
 (try simp only [Act.put,List.setIfInBounds_toArray,List.set_cons_zero,List.set_cons_succ])
 go_cut [28] (fun v28 wc => ∃ (kq : Nat) (x28_4 : Bool),v28 = .bool x28_4 ∧ Aside0 (privityref12_Light.j0 kq a3 x28_4 a0_0 a0_1 a0_2 l0_3 l0_4 l0_5 = some r) ∧ Aside0 (kq ≤ k) ∧ Aside0 (wc.heap[gb287]? = some (.cells #[.int .u64 a0_0,.int .i64 a0_1,.int .i64 a0_2,(.slice A0_3 l0_3.length c0_3),(.slice A0_4 l0_4.length c0_4),(.slice A0_5 l0_5.length c0_5)] 32 (0,0))) ∧ Aside0 (Below w.heap.size w wc))
 case first =>
  have H := HC5.out
  clear HC5
  by_cases c7 : a0_1 > a1
  ·rw [if_pos c7] at H
   have c7b0 : decide (a1 < a0_1) = true := decide_eq_true c7
   clear c7
   (first|rw [c7b0]|(simp only [i64_w,i32_w];rw [c7b0])|skip)
   have H' := Aside0.mk H
   clear H
   have hcz8_0 : w6.cell? ⟨gb287,0,none⟩ = some (.int .u64 a0_0) := (blk_cell BK287.out 0).trans rfl
   have hcz8_1 : w6.cell? ⟨gb287,1,none⟩ = some (.int .i64 a0_1) := (blk_cell BK287.out 1).trans rfl
   have hcz8_2 : w6.cell? ⟨gb287,2,none⟩ = some (.int .i64 a0_2) := (blk_cell BK287.out 2).trans rfl
   have hcz8_3 : w6.cell? ⟨gb287,3,none⟩ = some (.slice A0_3 l0_3.length c0_3) := (blk_cell BK287.out 3).trans rfl
   have hcz8_4 : w6.cell? ⟨gb287,4,none⟩ = some (.slice A0_4 l0_4.length c0_4) := (blk_cell BK287.out 4).trans rfl
   have hcz8_5 : w6.cell? ⟨gb287,5,none⟩ = some (.slice A0_5 l0_5.length c0_5) := (blk_cell BK287.out 5).trans rfl
   have hfz8_0 := blk_frozen BK287.out 0
   have hfz8_1 := blk_frozen BK287.out 1
   have hfz8_2 := blk_frozen BK287.out 2
   have hfz8_3 := blk_frozen BK287.out 3
   have hfz8_4 := blk_frozen BK287.out 4
   have hfz8_5 := blk_frozen BK287.out 5
   go_wp2
   go_meet
   case rel => exact ⟨_,(true),(by first|rfl|(simp;done)|(simp [*];done)),H',⟨by first|omega|exact Nat.le_refl _⟩,⟨by (with_reducible repeat (first|refine blk_drewN ?_ _|refine blk_drew ?_|refine blk_alloc ?_ _));exact BK287.out⟩,⟨by repeat (first|(with_reducible first|exact HB.out|apply below_alloc|apply pw_below_drewN|apply below_drew1|refine below_set ?_ GE287.out)|exact HB.out)⟩⟩
  ·rw [if_neg c7] at H
   have c7b0 : decide (a1 < a0_1) = false := decide_eq_false c7
   clear c7
   (first|rw [c7b0]|(simp only [i64_w,i32_w];rw [c7b0])|skip)
   by_cases c9 : (l0_4.length : Int) > a2
   ·rw [if_pos c9] at H
    have c9b0 : decide (a2 < (l0_4.length : Int)) = true := decide_eq_true c9
    clear c9
    have H' := Aside0.mk H
    clear H
    have hcz10_0 : w6.cell? ⟨gb287,0,none⟩ = some (.int .u64 a0_0) := (blk_cell BK287.out 0).trans rfl
    have hcz10_1 : w6.cell? ⟨gb287,1,none⟩ = some (.int .i64 a0_1) := (blk_cell BK287.out 1).trans rfl
    have hcz10_2 : w6.cell? ⟨gb287,2,none⟩ = some (.int .i64 a0_2) := (blk_cell BK287.out 2).trans rfl
    have hcz10_3 : w6.cell? ⟨gb287,3,none⟩ = some (.slice A0_3 l0_3.length c0_3) := (blk_cell BK287.out 3).trans rfl
    have hcz10_4 : w6.cell? ⟨gb287,4,none⟩ = some (.slice A0_4 l0_4.length c0_4) := (blk_cell BK287.out 4).trans rfl
    have hcz10_5 : w6.cell? ⟨gb287,5,none⟩ = some (.slice A0_5 l0_5.length c0_5) := (blk_cell BK287.out 5).trans rfl
    have hfz10_0 := blk_frozen BK287.out 0
    have hfz10_1 := blk_frozen BK287.out 1
    have hfz10_2 := blk_frozen BK287.out 2
    have hfz10_3 := blk_frozen BK287.out 3
    have hfz10_4 := blk_frozen BK287.out 4
    have hfz10_5 := blk_frozen BK287.out 5
    go_wp2
    go_meet
    case rel => exact ⟨_,(true),(by first|rfl|(simp;done)|(simp [*];done)),H',⟨by first|omega|exact Nat.le_refl _⟩,⟨by (with_reducible repeat (first|refine blk_drewN ?_ _|refine blk_drew ?_|refine blk_alloc ?_ _));exact BK287.out⟩,⟨by repeat (first|(with_reducible first|exact HB.out|apply below_alloc|apply pw_below_drewN|apply below_drew1|refine below_set ?_ GE287.out)|exact HB.out)⟩⟩
   ·rw [if_neg c9] at H
    have c9b0 : decide (a2 < (l0_4.length : Int)) = false := decide_eq_false c9
    clear c9
    have H' := Aside0.mk H
    clear H
    have hcz11_0 : w6.cell? ⟨gb287,0,none⟩ = some (.int .u64 a0_0) := (blk_cell BK287.out 0).trans rfl
    have hcz11_1 : w6.cell? ⟨gb287,1,none⟩ = some (.int .i64 a0_1) := (blk_cell BK287.out 1).trans rfl
    have hcz11_2 : w6.cell? ⟨gb287,2,none⟩ = some (.int .i64 a0_2) := (blk_cell BK287.out 2).trans rfl
    have hcz11_3 : w6.cell? ⟨gb287,3,none⟩ = some (.slice A0_3 l0_3.length c0_3) := (blk_cell BK287.out 3).trans rfl
    have hcz11_4 : w6.cell? ⟨gb287,4,none⟩ = some (.slice A0_4 l0_4.length c0_4) := (blk_cell BK287.out 4).trans rfl
    have hcz11_5 : w6.cell? ⟨gb287,5,none⟩ = some (.slice A0_5 l0_5.length c0_5) := (blk_cell BK287.out 5).trans rfl
    have hfz11_0 := blk_frozen BK287.out 0
    have hfz11_1 := blk_frozen BK287.out 1
    have hfz11_2 := blk_frozen BK287.out 2
    have hfz11_3 := blk_frozen BK287.out 3
    have hfz11_4 := blk_frozen BK287.out 4
    have hfz11_5 := blk_frozen BK287.out 5
    go_wp2
    go_meet
    case rel => exact ⟨_,(decide ((l0_5.length : Int) > a1)),(by first|rfl|(simp;done)|(simp [*];done)),H',⟨by first|omega|exact Nat.le_refl _⟩,⟨by (with_reducible repeat (first|refine blk_drewN ?_ _|refine blk_drew ?_|refine blk_alloc ?_ _));exact BK287.out⟩,⟨by repeat (first|(with_reducible first|exact HB.out|apply below_alloc|apply pw_below_drewN|apply below_drew1|refine below_set ?_ GE287.out)|exact HB.out)⟩⟩
 case rest =>
  clear HC5
  try clear c2
  try clear p2
  try clear c7
  try clear c7b0
  try clear c9
  try clear c9b0
  try clear hcz10_0
  try clear hcz10_1
  try clear hcz10_2
  try clear hcz10_3
  try clear hcz10_4
  try clear hcz10_5
  try clear hcz11_0
  try clear hcz11_1
  try clear hcz11_2
  try clear hcz11_3
  try clear hcz11_4
  try clear hcz11_5
  try clear hcz8_0
  try clear hcz8_1
  try clear hcz8_2
  try clear hcz8_3
  try clear hcz8_4
  try clear hcz8_5
  try clear hfz10_0
  try clear hfz10_1
  try clear hfz10_2
  try clear hfz10_3
  try clear hfz10_4
  try clear hfz10_5
  try clear hfz11_0
  try clear hfz11_1
  try clear hfz11_2
  try clear hfz11_3
  try clear hfz11_4
  try clear hfz11_5
  try clear hfz8_0
  try clear hfz8_1
  try clear hfz8_2
  try clear hfz8_3
  try clear hfz8_4
  try clear hfz8_5
  obtain ⟨kq,x28_4,rfl,HA,HJ4,BK287,HB⟩ := hcut
  cases kq with
  | zero => exact absurd HA.out (by simp [privityref12_Light.j0])
  | succ kj4 =>
   have H := HA.out
   clear HA
   simp only [privityref12_Light.j0] at H
   by_cases c12 : x28_4 = true
   ·subst c12
    have H1 : (some false) = some r := by rw [if_pos rfl] at H;exact H
    clear H
    have H := H1
    clear H1
    obtain rfl := Option.some.inj H
    go_wp2
    go_ret
    exact ⟨by first|rfl|(simp [errW_none,errW_some] <;> rfl)|(simp [*,errW_none,errW_some] <;> rfl),by repeat (first|(with_reducible first|exact HB.out|apply below_alloc|apply pw_below_drewN|apply below_drew1|refine below_set ?_ GE287.out)|exact HB.out)⟩
   ·replace c12 := Bool.eq_false_iff.mpr c12
    subst c12
    have H1 : (privityref12_Light.l0 kj4 a3 0 a0_0 a0_1 a0_2 l0_3 l0_4 l0_5) = some r := by rw [if_neg (show ¬ (false = true) by decide)] at H;exact H
    clear H
    have H := H1
    clear H1
    have H' := Aside0.mk H
    clear H
    go_wp2
    go_loopg [9] kj4 (fun kq v9 w' => ∃ (x9_2 : Int),v9 = .int .i64 x9_2 ∧ Aside0 (privityref12_Light.l0 kq a3 x9_2 a0_0 a0_1 a0_2 l0_3 l0_4 l0_5 = some r) ∧ Aside0 (kq ≤ kj4) ∧ Aside0 (w'.heap[gb287]? = some (.cells #[.int .u64 a0_0,.int .i64 a0_1,.int .i64 a0_2,(.slice A0_3 l0_3.length c0_3),(.slice A0_4 l0_4.length c0_4),(.slice A0_5 l0_5.length c0_5)] 32 (0,0))) ∧ Aside0 (Below w.heap.size w w'))
    case atStart => exact ⟨(0),(by first|rfl|(simp;done)|(simp [*];done)),H',⟨Nat.le_refl _⟩,⟨by (with_reducible repeat (first|refine blk_drewN ?_ _|refine blk_drew ?_|refine blk_alloc ?_ _));exact BK287.out⟩,⟨by repeat (first|(with_reducible first|exact HB.out|apply below_alloc|apply pw_below_drewN|apply below_drew1|refine below_set ?_ GE287.out)|exact HB.out)⟩⟩
    case round =>
     clear H'
     try clear c1
     try clear c2
     try clear p2
     try clear c7
     try clear c7b0
     try clear c9
     try clear c9b0
     try clear c12
     try clear hcz10_0
     try clear hcz10_1
     try clear hcz10_2
     try clear hcz10_3
     try clear hcz10_4
     try clear hcz10_5
     try clear hcz11_0
     try clear hcz11_1
     try clear hcz11_2
     try clear hcz11_3
     try clear hcz11_4
     try clear hcz11_5
     try clear hcz8_0
     try clear hcz8_1
     try clear hcz8_2
     try clear hcz8_3
     try clear hcz8_4
     try clear hcz8_5
     try clear hfz10_0
     try clear hfz10_1
     try clear hfz10_2
     try clear hfz10_3
     try clear hfz10_4
     try clear hfz10_5
     try clear hfz11_0
     try clear hfz11_1
     try clear hfz11_2
     try clear hfz11_3
     try clear hfz11_4
     try clear hfz11_5
     try clear hfz8_0
     try clear hfz8_1
     try clear hfz8_2
     try clear hfz8_3
     try clear hfz8_4
     try clear hfz8_5
     try clear p2
     obtain ⟨x9_2,rfl,HA,HK2,BK287,HB⟩ := hrel
     cases gk with
     | zero => exact absurd HA.out (by simp [privityref12_Light.l0])
     | succ k2 =>
      have H := HA.out
      clear HA
      simp only [privityref12_Light.l0] at H
      by_cases c13 : x9_2 < (l0_5.length : Int)
      ·rw [if_pos c13] at H
       have c13b0 : decide (x9_2 < (l0_5.length : Int)) = true := decide_eq_true c13
       clear c13
       by_cases c14 : 0 ≤ x9_2
       ·rw [if_pos c14] at H
        have c14b0 : decide (0 ≤ x9_2) = true := decide_eq_true c14
        clear c14
        by_cases c15 : ((rd_L6 l0_5 x9_2).length : Int) > a3
        ·rw [if_pos c15] at H
         have c15b0 : decide (a3 < ((rd_L6 l0_5 x9_2).length : Int)) = true := decide_eq_true c15
         clear c15
         obtain rfl := Option.some.inj H
         have hcz16_0 : wr.cell? ⟨gb287,0,none⟩ = some (.int .u64 a0_0) := (blk_cell BK287.out 0).trans rfl
         have hcz16_1 : wr.cell? ⟨gb287,1,none⟩ = some (.int .i64 a0_1) := (blk_cell BK287.out 1).trans rfl
         have hcz16_2 : wr.cell? ⟨gb287,2,none⟩ = some (.int .i64 a0_2) := (blk_cell BK287.out 2).trans rfl
         have hcz16_3 : wr.cell? ⟨gb287,3,none⟩ = some (.slice A0_3 l0_3.length c0_3) := (blk_cell BK287.out 3).trans rfl
         have hcz16_4 : wr.cell? ⟨gb287,4,none⟩ = some (.slice A0_4 l0_4.length c0_4) := (blk_cell BK287.out 4).trans rfl
         have hcz16_5 : wr.cell? ⟨gb287,5,none⟩ = some (.slice A0_5 l0_5.length c0_5) := (blk_cell BK287.out 5).trans rfl
         have hfz16_0 := blk_frozen BK287.out 0
         have hfz16_1 := blk_frozen BK287.out 1
         have hfz16_2 := blk_frozen BK287.out 2
         have hfz16_3 := blk_frozen BK287.out 3
         have hfz16_4 := blk_frozen BK287.out 4
         have hfz16_5 := blk_frozen BK287.out 5
         have p288 : 0 ≤ (x9_2 : Int) := of_decide_eq_true (by first|(with_reducible assumption)|assumption)
         have q288 : x9_2 < (l0_5.length : Int) := of_decide_eq_true (by first|(with_reducible assumption)|assumption)
         obtain ⟨ad288,A288_0,c288_0,e288,hx288_0,hl288_0,hi288_0⟩ := at_L6 HR0_5.out x9_2 p288 q288
         cases e288
         replace hx288_0 := (HB.out.cell (World.block_lt_of_cell? w _ hx288_0)).trans hx288_0
         have HR288_0 := Aside0.mk hi288_0
         have HC288_0 := Aside0.mk hl288_0
         clear hi288_0 hl288_0
         replace p288 := eq_true p288
         replace q288 := eq_true q288
         go_wp2
         go_ret
         exact ⟨by first|rfl|(simp [errW_none,errW_some] <;> rfl)|(simp [*,errW_none,errW_some] <;> rfl),by repeat (first|(with_reducible first|exact HB.out|apply below_alloc|apply pw_below_drewN|apply below_drew1|refine below_set ?_ GE287.out)|exact HB.out)⟩
        ·rw [if_neg c15] at H
         have c15b0 : decide (a3 < ((rd_L6 l0_5 x9_2).length : Int)) = false := decide_eq_false c15
         clear c15
         have H' := Aside0.mk H
         clear H
         have hcz17_0 : wr.cell? ⟨gb287,0,none⟩ = some (.int .u64 a0_0) := (blk_cell BK287.out 0).trans rfl
         have hcz17_1 : wr.cell? ⟨gb287,1,none⟩ = some (.int .i64 a0_1) := (blk_cell BK287.out 1).trans rfl
         have hcz17_2 : wr.cell? ⟨gb287,2,none⟩ = some (.int .i64 a0_2) := (blk_cell BK287.out 2).trans rfl
         have hcz17_3 : wr.cell? ⟨gb287,3,none⟩ = some (.slice A0_3 l0_3.length c0_3) := (blk_cell BK287.out 3).trans rfl
         have hcz17_4 : wr.cell? ⟨gb287,4,none⟩ = some (.slice A0_4 l0_4.length c0_4) := (blk_cell BK287.out 4).trans rfl
         have hcz17_5 : wr.cell? ⟨gb287,5,none⟩ = some (.slice A0_5 l0_5.length c0_5) := (blk_cell BK287.out 5).trans rfl
         have hfz17_0 := blk_frozen BK287.out 0
         have hfz17_1 := blk_frozen BK287.out 1
         have hfz17_2 := blk_frozen BK287.out 2
         have hfz17_3 := blk_frozen BK287.out 3
         have hfz17_4 := blk_frozen BK287.out 4
         have hfz17_5 := blk_frozen BK287.out 5
         have p288 : 0 ≤ (x9_2 : Int) := of_decide_eq_true (by first|(with_reducible assumption)|assumption)
         have q288 : x9_2 < (l0_5.length : Int) := of_decide_eq_true (by first|(with_reducible assumption)|assumption)
         obtain ⟨ad288,A288_0,c288_0,e288,hx288_0,hl288_0,hi288_0⟩ := at_L6 HR0_5.out x9_2 p288 q288
         cases e288
         replace hx288_0 := (HB.out.cell (World.block_lt_of_cell? w _ hx288_0)).trans hx288_0
         have HR288_0 := Aside0.mk hi288_0
         have HC288_0 := Aside0.mk hl288_0
         clear hi288_0 hl288_0
         replace p288 := eq_true p288
         replace q288 := eq_true q288
         go_wp2
         go_roundg k2
         case measure => have := HJ4.out;have := HK2.out;omega
         case rel => exact ⟨(wrap64 (x9_2 + 1)),(by first|rfl|(simp;done)|(simp [*];done)),H',⟨by have := HJ4.out;have := HK2.out;omega⟩,⟨by (with_reducible repeat (first|refine blk_drewN ?_ _|refine blk_drew ?_|refine blk_alloc ?_ _));exact BK287.out⟩,⟨by repeat (first|(with_reducible first|exact HB.out|apply below_alloc|apply pw_below_drewN|apply below_drew1|refine below_set ?_ GE287.out)|exact HB.out)⟩⟩
       ·rw [if_neg c14] at H
        exact absurd H (by simp)
      ·rw [if_neg c13] at H
       have c13b0 : decide (x9_2 < (l0_5.length : Int)) = false := decide_eq_false c13
       clear c13
       replace H := Option.bind_eq_some_iff.mp H
       obtain ⟨t289,A180,H⟩ := H
       replace H : (some t289) = some r := H
       have A18 := Aside0.mk A180
       clear A180
       obtain rfl := Option.some.inj H
       have hcz19_0 : wr.cell? ⟨gb287,0,none⟩ = some (.int .u64 a0_0) := (blk_cell BK287.out 0).trans rfl
       have hcz19_1 : wr.cell? ⟨gb287,1,none⟩ = some (.int .i64 a0_1) := (blk_cell BK287.out 1).trans rfl
       have hcz19_2 : wr.cell? ⟨gb287,2,none⟩ = some (.int .i64 a0_2) := (blk_cell BK287.out 2).trans rfl
       have hcz19_3 : wr.cell? ⟨gb287,3,none⟩ = some (.slice A0_3 l0_3.length c0_3) := (blk_cell BK287.out 3).trans rfl
       have hcz19_4 : wr.cell? ⟨gb287,4,none⟩ = some (.slice A0_4 l0_4.length c0_4) := (blk_cell BK287.out 4).trans rfl
       have hcz19_5 : wr.cell? ⟨gb287,5,none⟩ = some (.slice A0_5 l0_5.length c0_5) := (blk_cell BK287.out 5).trans rfl
       have hfz19_0 := blk_frozen BK287.out 0
       have hfz19_1 := blk_frozen BK287.out 1
       have hfz19_2 := blk_frozen BK287.out 2
       have hfz19_3 := blk_frozen BK287.out 3
       have hfz19_4 := blk_frozen BK287.out 4
       have hfz19_5 := blk_frozen BK287.out 5
       go_wp2_with (first|((with_reducible refine gate_callee (f := 15) rfl ?_);refine goesL_ (some 45) rfl rfl Tryd.func15 (by kernel_rfl) rfl #[.agg #[.int .u64 a0_0,.int .i64 a0_1,.int .i64 a0_2,.slice A0_3 l0_3.length c0_3,.slice A0_4 l0_4.length c0_4,.slice A0_5 l0_5.length c0_5]] rfl (by (try simp only [List.map_toArray,List.map_cons,List.map_nil]);first|done|rfl|(simp only [List.length_drop,List.length_take];rfl)) ?_;(with_reducible refine (privityref12_ValidScenario.calls k2 a0_0 a0_1 a0_2 _ _ l0_3 _ _ l0_4 _ _ l0_5 t289 _ ?side1 ?side2 ?side3 ?side4 ?side5 ?side6 A18.out).mono ?_);(case side1 => repeat (first|exact (Kd.C_below HR0_3.out HB.out)|(with_reducible refine Kd.C_alloc ?_ _)|(with_reducible refine Kd.C_drewN ?_ _)|(with_reducible refine Kd.C_drew ?_)));(case side2 => exact HC0_3.out);(case side3 => repeat (first|exact (Kd.C_below HR0_4.out HB.out)|(with_reducible refine Kd.C_alloc ?_ _)|(with_reducible refine Kd.C_drewN ?_ _)|(with_reducible refine Kd.C_drew ?_)));(case side4 => exact HC0_4.out);(case side5 => repeat (first|exact (Kd.C_below HR0_5.out HB.out)|(with_reducible refine Kd.C_alloc ?_ _)|(with_reducible refine Kd.C_drewN ?_ _)|(with_reducible refine Kd.C_drew ?_)));(case side6 => exact HC0_5.out);rintro e w20 ⟨rfl,hb⟩;refine ⟨_,rfl,?_⟩;have n0_ := Aside0.mk (blk_below (g := gb287) (o := .cells #[.int .u64 a0_0,.int .i64 a0_1,.int .i64 a0_2,.slice A0_3 l0_3.length c0_3,.slice A0_4 l0_4.length c0_4,.slice A0_5 l0_5.length c0_5] 32 (0,0)) (by (with_reducible repeat (first|refine blk_drewN ?_ _|refine blk_drew ?_|refine blk_alloc ?_ _));exact BK287.out) hb);have n1_ := Aside0.mk (below_step (by repeat (first|(with_reducible first|exact HB.out|apply below_alloc|apply pw_below_drewN|apply below_drew1|refine below_set ?_ GE287.out)|exact HB.out)) hb);clear BK287;clear HB;have BK287 := n0_;have HB := n1_;clear n0_ n1_;(try clear hb);(try clear hb2);(try clear hk);(try clear hi)))
       go_ret
       exact ⟨by first|rfl|(simp [errW_none,errW_some] <;> rfl)|(simp [*,errW_none,errW_some] <;> rfl),by repeat (first|(with_reducible first|exact HB.out|apply below_alloc|apply pw_below_drewN|apply below_drew1|refine below_set ?_ GE287.out)|exact HB.out)⟩
end Go.Proofs.YtakaonojfpkhnaaDoor.Pr
end
section
/-
  (*sum).put, Add and Mul of package poly, proved by hand: what they compute, in plain lists.
-/
namespace Go.Proofs.YtakaonojfpkhnaaDoor.Hw
open Go.RowKit Go.Proofs.YtakaonojfpkhnaaDoor.Pr Go.Proofs.YtakaonojfpkhnaaDoorW.PrintWords Go.Proofs.YtakaonojfpkhnaaDoorW.PrintLast Go.Proofs.YtakaonojfpkhnaaDoorW.PrintMore Go.Proofs.YtakaonojfpkhnaaDoor.E
set_option linter.unusedVariables false
set_option linter.unusedSimpArgs false

/-- What put leaves: the list, made long enough, with k added at i. -/
def grow (l : List Int) (n : Nat) : List Int := l ++ List.replicate (n - l.length) 0
def putL (p : Int) (l : List Int) (i : Nat) (k : Int) : List Int := (grow l (i + 1)).set i (((grow l (i + 1)).getD i 0 + k) % p)
/-- The state behind the pointer. -/
structure SumAt (w : World) (base g : Nat) (p : Int) (v : Value) (l : List Int) : Prop where
  blk : w.heap[g]? = some (.cells #[.int .u64 p, v] 83 (0, 0))
  own : Kd.R (Kd.int .u64) 22 w base (fun _ => True) v l
  ge : base ≤ g
set_option maxHeartbeats 1000000 in
theorem put_calls {p : Int} (hp : Supp p) {l : List Int} (hl : ∀ x ∈ l, Res p x) (i : Nat) (hi : i < 1099511627776) (hll : l.length ≤ 1099511627776) {k : Int} (hk : Res p k) (w0 w : World) (hB : Below w0.heap.size w0 w) (g : Nat) (v : Value) (h : SumAt w w0.heap.size g p v l) :
    Calls Tryd.prog 70 #[.pointer (some ⟨g, 0, none⟩), .int .i64 (i : Int), .int .u64 k] w fun e w' => e = .returned (.tuple #[]) ∧ Aside0 (∃ v', SumAt w' w0.heap.size g p v' (putL p l i k)) ∧ Below w0.heap.size w0 w' := by
  have HS := Aside0.mk h
  have HBx := Aside0.mk hB
  clear h hB
  go_enter Tryd.func70, Tryd.ntmps70
  go_wp2
  go_loopg [12] (i + 1 - l.length) (fun kq v12 w' => ∃ (m : List Int) (v' : Value), Aside0 (SumAt w' w0.heap.size g p v' m) ∧ Aside0 (Below w0.heap.size w0 w') ∧ Aside0 (∃ j, m = l ++ List.replicate j 0 ∧ kq + j = i + 1 - l.length))
  case atStart => exact ⟨l, v, HS, HBx, ⟨0, by simp, rfl⟩⟩
  case round =>
    obtain ⟨m, v', HS', HB', ⟨j, HM⟩⟩ := hrel
    replace HM := Aside0.mk HM
    clear HS HBx
    obtain ⟨A, c, rfl⟩ := Kd.R_slice HS'.out.own
    have c0 := blk_cell HS'.out.blk 0
    have c1 := blk_cell HS'.out.blk 1
    have f1 := blk_frozen HS'.out.blk 1
    simp only [List.getElem?_toArray, List.getElem?_cons_zero, List.getElem?_cons_succ] at c0 c1
    by_cases hle : m.length ≤ i
    · have hd : decide (m.length ≤ i) = true := decide_eq_true hle
      obtain ⟨m1, hm1⟩ : ∃ y : List Int, y = m ++ [0] := ⟨_, rfl⟩
      have NM := Aside0.mk hm1
      clear hm1
      go_wp2_with (first | ((with_reducible refine gate_builtin (b := .append) (xs := #[.tmp 17, .tmp 18]) rfl ?_); at_builtin; refine Kd.R_append (Kd.int .u64) (w0 := w0) w0.heap.size rfl (.tmp 17) (.tmp 18) 33 22 (.int .u64 0) 8 rfl Tryd.underlying33 info22 rfl (by decide) (by omega) (.slice A m.length c) m 0 [.int .u64 0] (fun _ => True) (fun _ => False) rfl rfl rfl (fun _ hk => hk.elim) (fun _ _ => trivial) HS'.out.own HB'.out (below_size HB'.out) (by omega) ?_; intro v1 w1 ho hb hg hat; rw [← NM.out] at ho; obtain ⟨A1, q1, rfl⟩ := Kd.R_slice ho; have hblk1 := Aside0.mk (blk_grown HS'.out.blk hg (Kd.R_ne HS'.out.own HS'.out.blk (by decide))); have c1' := blk_cell hblk1.out 1; have f1' := blk_frozen hblk1.out 1; simp only [List.getElem?_toArray, List.getElem?_cons_zero, List.getElem?_cons_succ] at c1'; have HO1 := Aside0.mk ho; have HB1 := Aside0.mk hb; clear ho hb hg hat))
      go_roundg (i + 1 - l.length - (j + 1))
      case measure => have := HM.out; have : m.length = l.length + j := (by rw [HM.out.1]; simp); omega
      case rel =>
        have hml : m.length = l.length + j := by rw [HM.out.1]; simp
        have hk := HM.out.2
        refine ⟨m1, .slice A1 m1.length q1, ⟨⟨?_, ?_, HS'.out.ge⟩⟩, ⟨?_⟩, ⟨j + 1, ?_, by omega⟩⟩
        · exact blk_put hblk1.out 1 _ rfl
        · exact Kd.R_set HO1.out hblk1.out (by decide) 1 _
        · exact HB1.out.setCell HS'.out.ge _
        · rw [NM.out, HM.out.1, List.replicate_succ', List.append_assoc]
    · have hd : decide (m.length ≤ i) = false := decide_eq_false hle
      go_wp2
      have hml : m.length = l.length + j := by rw [HM.out.1]; simp
      have hkj := HM.out.2
      obtain ⟨b, q, hv, hb0, how⟩ := R_open HS'.out.own (by omega)
      cases hv
      have ⟨ci, fi⟩ := own_at how (i : Int) (by omega) (by omega)
      rw [Int.toNat_natCast] at ci fi
      have p1 : ((0 : Int) ≤ (i : Int)) = True := eq_true (by omega)
      have p2 : ((i : Int) < (m.length : Int)) = True := eq_true (by omega)
      have hmr : ∀ x ∈ m, Res p x := by
        intro x hx
        rw [HM.out.1] at hx
        rcases List.mem_append.1 hx with h | h
        · exact hl x h
        · rw [(List.mem_replicate.1 h).2]; have := hp.bd; exact ⟨by omega, by omega⟩
      have hri : Res p (rd m i) := by
        have e : rd m i = m[i]'(by omega) := by unfold rd; rw [Int.toNat_natCast, List.getD_eq_getElem?_getD, List.getElem?_eq_getElem (by omega)]; rfl
        rw [e]; exact hmr _ (List.getElem_mem _)
      obtain ⟨kk, hkk⟩ := (add_ev hp hri hk).rounds
      have hgm : m = grow l (i + 1) := by rw [HM.out.1]; unfold grow; rw [show i + 1 - l.length = j from by omega]
      have HG := Aside0.mk hgm
      have HKK := Aside0.mk hkk
      have HOW := Aside0.mk how
      clear hml hkj hmr hgm hkk how
      refine wp_region_quiet_tail_drawn 19 (by kernel_rfl) (by kernel_rfl) ?_
      simp only [List.take_succ_cons, List.take_zero, List.drop_succ_cons, List.drop_zero]
      repeat (quiet_step ((refine Calls.quiet_of ((field_Add.calls kk _ _ _ ((rd m i + k) % p) _ HKK.out).mono fun e w' h => ⟨h.1, h.2.out⟩))))
      refine wpQuiet_nil ?_
      rintro _ ⟨nq, rfl⟩
      go_wp2
      go_end0
      have hne : g ≠ b := fun e => Kd.R_ne HS'.out.own HS'.out.blk (by decide) (by rw [e]; rfl)
      have hset := own_put (pw_own_drewN HOW.out nq) (i : Int) ((rd m i + k) % p)
      rw [Int.toNat_natCast] at hset
      refine ⟨rfl, ⟨.slice (some ⟨b, 0, none⟩) m.length c, ?_, ?_, HS'.out.ge⟩, (pw_below_drewN HB'.out nq).setCell hb0 _⟩
      · exact blk_far (blk_drewN HS'.out.blk nq) hne _
      · unfold putL
        rw [← HG.out]
        have hl : (m.set i ((m.getD i 0 + k) % p)).length = m.length := by simp
        rw [show m.getD i 0 = rd m i from rfl] at hl ⊢
        refine R_made ?_ (fun _ _ => trivial)
        exact hset
theorem putL_length (p : Int) (l : List Int) (i : Nat) (k : Int) : (putL p l i k).length = max l.length (i + 1) := by unfold putL grow; simp; omega
theorem grow_res {p : Int} (hp : Supp p) {l : List Int} (hl : ∀ x ∈ l, Res p x) (n : Nat) : ∀ x ∈ grow l n, Res p x := by
  intro x hx
  have := hp.bd
  rcases List.mem_append.1 hx with h | h
  · exact hl x h
  · rw [(List.mem_replicate.1 h).2]; exact ⟨by omega, by omega⟩
theorem putL_res {p : Int} (hp : Supp p) {l : List Int} (hl : ∀ x ∈ l, Res p x) (i : Nat) (k : Int) : ∀ x ∈ putL p l i k, Res p x := by
  intro x hx
  rcases List.mem_or_eq_of_mem_set hx with h | h
  · exact grow_res hp hl _ x h
  · rw [h]; exact Res.mod hp _
/-- The first n words of l, put one by one. -/
def putsL (p : Int) (m l : List Int) : Nat → List Int
  | 0 => m
  | n + 1 => putL p (putsL p m l n) n (l.getD n 0)
theorem putsL_res {p : Int} (hp : Supp p) {m l : List Int} (hm : ∀ x ∈ m, Res p x) : ∀ n, ∀ x ∈ putsL p m l n, Res p x
  | 0 => hm
  | n + 1 => putL_res hp (putsL_res hp hm n) _ _
theorem putsL_length (p : Int) (m l : List Int) : ∀ n, (putsL p m l n).length = max m.length n
  | 0 => by simp [putsL]
  | n + 1 => by rw [putsL, putL_length, putsL_length p m l n]; omega
theorem rd_res {p : Int} {l : List Int} (hl : ∀ x ∈ l, Res p x) (i : Nat) (hi : i < l.length) : Res p (rd l i) := by
  have e : rd l i = l[i] := by unfold rd; rw [Int.toNat_natCast, List.getD_eq_getElem?_getD, List.getElem?_eq_getElem hi]; rfl
  rw [e]; exact hl _ (List.getElem_mem _)
set_option maxHeartbeats 1000000 in
theorem poly_Add.walks (p : Int) (hp : Supp p) (A1 : Option Addr) (c1 : Nat) (l1 : List Int) (A2 : Option Addr) (c2 : Nat) (l2 : List Int) (h1 : ∀ x ∈ l1, Res p x) (h2 : ∀ x ∈ l2, Res p x) (b1 : l1.length ≤ 1099511627776) (b2 : l2.length ≤ 1099511627776) (w : World)
    (hr1 : Kd.C (Kd.int .u64) w A1 l1.length l1) (hc1 : l1.length ≤ c1) (hr2 : Kd.C (Kd.int .u64) w A2 l2.length l2) (hc2 : l2.length ≤ c2) (r : List Int) (k : Nat) (ht : poly_Trim.f k (putsL p (putsL p [] l1 l1.length) l2 l2.length) = some r) :
    Calls Tryd.prog 56 #[.int .u64 p, .slice A1 l1.length c1, .slice A2 l2.length c2] w fun e w' => ∃ v0_ : Value, e = .returned (v0_) ∧ Kd.R (Kd.int .u64) 22 w' w.heap.size (fun _ => True) v0_ r ∧ Below w.heap.size w w' := by
  have HR1 := Aside0.mk hr1
  have HR2 := Aside0.mk hr2
  have HT := Aside0.mk ht
  have H1 := Aside0.mk h1
  have H2 := Aside0.mk h2
  have HL1 := Aside0.mk (fun n (hn : n ≤ l1.length) => (show (putsL p [] l1 n).length ≤ 1099511627776 from by rw [putsL_length]; simp; omega))
  have HL2 := Aside0.mk (fun n (hn : n ≤ l2.length) => (show (putsL p (putsL p [] l1 l1.length) l2 n).length ≤ 1099511627776 from by rw [putsL_length, putsL_length]; simp; omega))
  clear hr1 hr2 ht h1 h2
  have hS0 : Aside0 (SumAt (w.alloc (Obj.cells #[Value.int IntKind.u64 p, Value.slice none 0 0] 83)) w.heap.size w.heap.size p (.slice none 0 0) []) := ⟨⟨blk_new _ _, Kd.R_nil _ _ _ _ _, Nat.le_refl _⟩⟩
  go_enter Tryd.func56, Tryd.ntmps56
  go_wp2
  go_loopg [20] l1.length (fun kq v20 w' => ∃ (n : Nat) (v' : Value), v20 = .int .i64 n ∧ Aside0 (kq + n = l1.length) ∧ Aside0 (SumAt w' w.heap.size w.heap.size p v' (putsL p [] l1 n)) ∧ Aside0 (Below w.heap.size w w'))
  case atStart => exact ⟨0, _, rfl, ⟨rfl⟩, hS0, ⟨below_alloc (Below.refl _ _) _⟩⟩
  case round =>
    obtain ⟨n, v', rfl, HK, HS, HB⟩ := hrel
    clear hS0
    by_cases hlt : n < l1.length
    · have p1 : ((0 : Int) ≤ (n : Int)) = True := eq_true (by omega)
      have q1 : ((n : Int) < (l1.length : Int)) = True := eq_true (by omega)
      obtain ⟨ad, e1, hx⟩ := Kd.at_int HR1.out (n : Int) (by omega) (by omega)
      cases e1
      replace hx := pw_cell_below HB.out hx
      rw [Int.toNat_natCast] at hx
      have hput := Aside0.mk (put_calls hp (putsL_res hp (fun x hx => by cases hx) n) n (by omega) (HL1.out n (by omega)) (rd_res H1.out n hlt) w wr HB.out w.heap.size v' HS.out)
      go_wp2_with (first | (go_at_call 70; (with_reducible refine hput.out.mono ?_); rintro e w' ⟨rfl, HP, HB2⟩))
      go_roundg (l1.length - (n + 1))
      case measure => have := HK.out; omega
      case rel =>
        obtain ⟨v2, HS2⟩ := HP.out
        exact ⟨n + 1, v2, by go_num, ⟨by omega⟩, ⟨HS2⟩, ⟨HB2⟩⟩
    · have hd : decide ((n : Int) < (l1.length : Int)) = false := decide_eq_false (by omega)
      have hn : n = l1.length := by have := HK.out; omega
      subst hn
      clear HK hlt hd
      go_wp2
      go_loopg [32] l2.length (fun kq v32 w' => ∃ (n : Nat) (v' : Value), v32 = .int .i64 n ∧ Aside0 (kq + n = l2.length) ∧ Aside0 (SumAt w' w.heap.size w.heap.size p v' (putsL p (putsL p [] l1 l1.length) l2 n)) ∧ Aside0 (Below w.heap.size w w'))
      case atStart => exact ⟨0, _, rfl, ⟨rfl⟩, HS, HB⟩
      case round =>
        clear HS HB
        obtain ⟨n, v', rfl, HK, HS, HB⟩ := hrel
        by_cases hlt : n < l2.length
        · have p1 : ((0 : Int) ≤ (n : Int)) = True := eq_true (by omega)
          have q1 : ((n : Int) < (l2.length : Int)) = True := eq_true (by omega)
          obtain ⟨ad, e1, hx⟩ := Kd.at_int HR2.out (n : Int) (by omega) (by omega)
          cases e1
          replace hx := pw_cell_below HB.out hx
          rw [Int.toNat_natCast] at hx
          have hput := Aside0.mk (put_calls hp (putsL_res hp (putsL_res hp (fun x hx => by cases hx) l1.length) n) n (by omega) (HL2.out n (by omega)) (rd_res H2.out n hlt) w wr HB.out w.heap.size v' HS.out)
          go_wp2_with (first | (go_at_call 70; (with_reducible refine hput.out.mono ?_); rintro e w' ⟨rfl, HP, HB2⟩))
          go_roundg (l2.length - (n + 1))
          case measure => have := HK.out; omega
          case rel =>
            obtain ⟨v2, HS2⟩ := HP.out
            exact ⟨n + 1, v2, by go_num, ⟨by omega⟩, ⟨HS2⟩, ⟨HB2⟩⟩
        · have hd : decide ((n : Int) < (l2.length : Int)) = false := decide_eq_false (by omega)
          have hn : n = l2.length := by have := HK.out; omega
          subst hn
          clear HK hlt hd
          obtain ⟨A, c, rfl, hcc, hC⟩ := Kd.R_reads HS.out.own
          have c1 := blk_cell HS.out.blk 1
          simp only [List.getElem?_toArray, List.getElem?_cons_zero, List.getElem?_cons_succ] at c1
          have htc := Aside0.mk (poly_Trim.calls k A c _ r wr hC hcc HT.out)
          clear hC
          go_wp2_with (first | (go_at_call 59; (with_reducible refine htc.out.mono ?_); rintro e w' ⟨v0, rfl, hv0, hb0⟩; have HV0 := Aside0.mk hv0; have HB0 := Aside0.mk hb0; clear hv0 hb0))
          go_ret
          exact ⟨v0, rfl, Kd.R_lower HV0.out (below_size HB.out), below_step HB.out HB0.out⟩
end Go.Proofs.YtakaonojfpkhnaaDoor.Hw
end
section
/-
  Mul of package poly, proved by hand: what it computes, in plain lists.
-/
namespace Go.Proofs.YtakaonojfpkhnaaDoor.Hw
open Go.RowKit Go.Proofs.YtakaonojfpkhnaaDoor.Pr Go.Proofs.YtakaonojfpkhnaaDoorW.PrintWords Go.Proofs.YtakaonojfpkhnaaDoorW.PrintLast Go.Proofs.YtakaonojfpkhnaaDoorW.PrintMore Go.Proofs.YtakaonojfpkhnaaDoor.E
set_option linter.unusedVariables false
set_option linter.unusedSimpArgs false

def rowL (p : Int) (m : List Int) (u : Int) (b : List Int) (i : Nat) : Nat → List Int
  | 0 => m
  | n + 1 => putL p (rowL p m u b i n) (i + n) (u * rd b n % p)
def mulsL (p : Int) (a b : List Int) : Nat → List Int
  | 0 => []
  | i + 1 => rowL p (mulsL p a b i) (rd a i) b i b.length
theorem rowL_res {p : Int} (hp : Supp p) {m : List Int} (hm : ∀ x ∈ m, Res p x) (u : Int) (b : List Int) (i : Nat) : ∀ n, ∀ x ∈ rowL p m u b i n, Res p x
  | 0 => hm
  | n + 1 => putL_res hp (rowL_res hp hm u b i n) _ _
theorem rowL_length (p : Int) (m : List Int) (u : Int) (b : List Int) (i : Nat) : ∀ n, (rowL p m u b i n).length ≤ max m.length (i + n)
  | 0 => by simp [rowL]; omega
  | n + 1 => by have := rowL_length p m u b i n; rw [rowL, putL_length]; omega
theorem mulsL_res {p : Int} (hp : Supp p) (a b : List Int) : ∀ n, ∀ x ∈ mulsL p a b n, Res p x
  | 0 => fun x hx => by cases hx
  | n + 1 => rowL_res hp (mulsL_res hp a b n) _ _ _ _
theorem mulsL_length (p : Int) (a b : List Int) : ∀ n, (mulsL p a b n).length ≤ n + b.length
  | 0 => by simp [mulsL]
  | n + 1 => by have := mulsL_length p a b n; have h := rowL_length p (mulsL p a b n) (rd a n) b n b.length; rw [mulsL]; omega
set_option maxHeartbeats 2000000 in
set_option maxRecDepth 100000 in
theorem poly_Mul.walks (p : Int) (hp : Supp p) (A1 : Option Addr) (c1 : Nat) (l1 : List Int) (A2 : Option Addr) (c2 : Nat) (l2 : List Int) (h1 : ∀ x ∈ l1, Res p x) (h2 : ∀ x ∈ l2, Res p x) (b1 : l1.length ≤ 274877906944) (b2 : l2.length ≤ 274877906944) (w : World)
    (hr1 : Kd.C (Kd.int .u64) w A1 l1.length l1) (hc1 : l1.length ≤ c1) (hr2 : Kd.C (Kd.int .u64) w A2 l2.length l2) (hc2 : l2.length ≤ c2) (r : List Int) (k : Nat) (ht : poly_Trim.f k (mulsL p l1 l2 l1.length) = some r) :
    Calls Tryd.prog 53 #[.int .u64 p, .slice A1 l1.length c1, .slice A2 l2.length c2] w fun e w' => ∃ v0_ : Value, e = .returned (v0_) ∧ Kd.R (Kd.int .u64) 22 w' w.heap.size (fun _ => True) v0_ r ∧ Below w.heap.size w w' := by
  have HR1 := Aside0.mk hr1
  have HR2 := Aside0.mk hr2
  have HT := Aside0.mk ht
  have H1 := Aside0.mk h1
  have H2 := Aside0.mk h2
  have HL := Aside0.mk (fun i n (hi : i < l1.length) (hn : n ≤ l2.length) => (show (rowL p (mulsL p l1 l2 i) (rd l1 i) l2 i n).length ≤ 1099511627776 from by have := mulsL_length p l1 l2 i; have := rowL_length p (mulsL p l1 l2 i) (rd l1 i) l2 i n; omega))
  clear hr1 hr2 ht h1 h2
  have hS0 : Aside0 (SumAt (w.alloc (Obj.cells #[Value.int IntKind.u64 p, Value.slice none 0 0] 83)) w.heap.size w.heap.size p (.slice none 0 0) []) := ⟨⟨blk_new _ _, Kd.R_nil _ _ _ _ _, Nat.le_refl _⟩⟩
  go_enter Tryd.func53, Tryd.ntmps53
  go_wp2
  go_loopg [20] l1.length (fun kq v20 w' => ∃ (n : Nat) (v' : Value), v20 = .int .i64 (n : Int) ∧ Aside0 (kq + n = l1.length) ∧ Aside0 (SumAt w' w.heap.size w.heap.size p v' (mulsL p l1 l2 n)) ∧ Aside0 (Below w.heap.size w w'))
  case atStart => exact ⟨0, _, rfl, ⟨rfl⟩, hS0, ⟨below_alloc (Below.refl _ _) _⟩⟩
  case round =>
    obtain ⟨i, v', rfl, HK, HS, HB⟩ := hrel
    clear hS0
    by_cases hlt : i < l1.length
    · have p1 : ((0 : Int) ≤ (i : Int)) = True := eq_true (by omega)
      have q1 : ((i : Int) < (l1.length : Int)) = True := eq_true (by omega)
      obtain ⟨ad, e1, hx⟩ := Kd.at_int HR1.out (i : Int) (by omega) (by omega)
      cases e1
      replace hx := pw_cell_below HB.out hx
      rw [Int.toNat_natCast] at hx
      go_wp2
      clear hx
      go_loopg [27] l2.length (fun kq v27 w' => ∃ (n : Nat) (v2 : Value), v27 = .int .i64 (n : Int) ∧ Aside0 (kq + n = l2.length) ∧ Aside0 (SumAt w' w.heap.size w.heap.size p v2 (rowL p (mulsL p l1 l2 i) (rd l1 i) l2 i n)) ∧ Aside0 (Below w.heap.size w w'))
      case atStart => exact ⟨0, v', rfl, ⟨rfl⟩, HS, HB⟩
      case round =>
        clear HS HB
        obtain ⟨n, v2, rfl, HK2, HS, HB⟩ := hrel
        by_cases hlt2 : n < l2.length
        · have p2 : ((0 : Int) ≤ (n : Int)) = True := eq_true (by omega)
          have q2 : ((n : Int) < (l2.length : Int)) = True := eq_true (by omega)
          obtain ⟨ad2, e2, hx⟩ := Kd.at_int HR2.out (n : Int) (by omega) (by omega)
          cases e2
          replace hx := pw_cell_below HB.out hx
          rw [Int.toNat_natCast] at hx
          obtain ⟨km, hkm⟩ := (mul_ev hp (rd_res H1.out i hlt) (rd_res H2.out n hlt2)).rounds
          have HKM := Aside0.mk hkm
          have hput := fun nd => put_calls hp (rowL_res hp (mulsL_res hp l1 l2 i) (rd l1 i) l2 i n) (i + n) (by omega) (HL.out i n hlt (by omega)) (Res.mod hp (rd l1 i * rd l2 n)) w (wr.drewN nd) (pw_below_drewN HB.out nd) w.heap.size v2 ⟨blk_drewN HS.out.blk nd, Kd.R_drewN HS.out.own nd, HS.out.ge⟩
          have HPUT := Aside0.mk hput
          clear hkm hput
          obtain ⟨u, hu⟩ : ∃ u, u = rd l1 i * rd l2 n % p := ⟨_, rfl⟩
          rw [← hu] at HKM HPUT
          have HU := Aside0.mk hu
          clear hu
          have hin : ((i : Int) + (n : Int)) = ((i + n : Nat) : Int) := by omega
          have HIN := Aside0.mk hin
          clear hin
          go_wp2_with (first
            | (go_at_call 44; (with_reducible refine (field_Mul.calls km p (rd l1 i) (rd l2 n) u _ HKM.out).mono ?_); rintro e w5 ⟨rfl, ⟨nd, rfl⟩⟩)
            | (go_at_call 70; rw [HIN.out]; (with_reducible refine (HPUT.out nd).mono ?_); rintro e w' ⟨rfl, HP, HB2⟩))
          go_roundg (l2.length - (n + 1))
          case measure => have := HK2.out; omega
          case rel =>
            obtain ⟨v3, HS2⟩ := HP.out
            refine ⟨n + 1, v3, by go_num, ⟨by omega⟩, ⟨?_⟩, ⟨HB2⟩⟩
            rw [rowL, ← HU.out]; exact HS2
        · have hd : decide ((n : Int) < (l2.length : Int)) = false := decide_eq_false (by omega)
          have hn : n = l2.length := by have := HK2.out; omega
          subst hn
          clear hlt2 hd
          go_wp2
          go_roundg (l1.length - (i + 1))
          case measure => have := HK.out; omega
          case rel => exact ⟨i + 1, v2, by go_num, ⟨by omega⟩, HS, HB⟩
    · have hd : decide ((i : Int) < (l1.length : Int)) = false := decide_eq_false (by omega)
      have hn : i = l1.length := by have := HK.out; omega
      subst hn
      clear HK hlt hd
      obtain ⟨A, c, rfl, hcc, hC⟩ := Kd.R_reads HS.out.own
      have c1 := blk_cell HS.out.blk 1
      simp only [List.getElem?_toArray, List.getElem?_cons_zero, List.getElem?_cons_succ] at c1
      have htc := Aside0.mk (poly_Trim.calls k A c _ r wr hC hcc HT.out)
      clear hC
      go_wp2_with (first | (go_at_call 59; (with_reducible refine htc.out.mono ?_); rintro e w' ⟨v0, rfl, hv0, hb0⟩; have HV0 := Aside0.mk hv0; have HB0 := Aside0.mk hb0; clear hv0 hb0))
      go_ret
      exact ⟨v0, rfl, Kd.R_lower HV0.out (below_size HB.out), below_step HB.out HB0.out⟩
end Go.Proofs.YtakaonojfpkhnaaDoor.Hw
end
section
/- Printed by a program of this seat (the kit's printer, with the functions that were proved by hand given to it). What stands here: the functions that the statements reach, as plain functions, and that the Go code computes them. -/
namespace Go.Proofs.YtakaonojfpkhnaaDoor.Pr
open Go.RowKit Go.Proofs.YtakaonojfpkhnaaDoorW.PrintWords Go.Proofs.YtakaonojfpkhnaaDoorW.PrintLast Go.Proofs.YtakaonojfpkhnaaDoorW.PrintMore
attribute [local go_sem] max2_int min2_int max_two min_two max_three min_three max_four min_four   -- for this text's walks alone
set_option linter.unusedVariables false
set_option linter.unusedSimpArgs false

open Go.Proofs.YtakaonojfpkhnaaDoor.Hw
/-! ### cmp_isNaN_uint64: function 94 -/
def cmp_isNaN_uint64.f (a0 : Int) : Option (Bool) := some (a0 != a0)
set_option maxHeartbeats 8000000 in
set_option maxRecDepth 100000 in
theorem cmp_isNaN_uint64.calls (a0 : Int) (r : Bool) (w : World) (h : cmp_isNaN_uint64.f a0 = some r) :
  Calls Tryd.prog 94 #[.int .u64 a0] w fun e w' => e = .returned (.bool r) ∧ Drawn0 w w' := by
 have H : (some (a0 != a0)) = some r := h
 clear h
 obtain rfl := Option.some.inj H
 go_enter Tryd.func94,Tryd.ntmps94
 go_wp2
 go_ret
 exact ⟨by first|rfl|(simp;done)|(simp [*];done),by repeat (first|exact Drawn0.refl _|apply Drawn0.step)⟩
/-! ### cmp_Less_uint64: function 85 -/
def cmp_Less_uint64.f (a0 : Int) (a1 : Int) : Option (Bool) := (cmp_isNaN_uint64.f a0).bind fun t151 => (if t151 = true then ((cmp_isNaN_uint64.f a1).bind fun t152 => (if t152 = true then (some (decide (a0 < a1))) else (some true))) else (some (decide (a0 < a1))))
set_option maxHeartbeats 8000000 in
set_option maxRecDepth 100000 in
theorem cmp_Less_uint64.calls (a0 : Int) (a1 : Int) (r : Bool) (w : World) (h : cmp_Less_uint64.f a0 a1 = some r) :
  Calls Tryd.prog 85 #[.int .u64 a0,.int .u64 a1] w fun e w' => e = .returned (.bool r) ∧ Drawn0 w w' := by
 have H : ((cmp_isNaN_uint64.f a0).bind fun t151 => (if t151 = true then ((cmp_isNaN_uint64.f a1).bind fun t152 => (if t152 = true then (some (decide (a0 < a1))) else (some true))) else (some (decide (a0 < a1))))) = some r := h
 clear h
 replace H := Option.bind_eq_some_iff.mp H
 obtain ⟨t151,A30,H⟩ := H
 replace H : (if t151 = true then ((cmp_isNaN_uint64.f a1).bind fun t152 => (if t152 = true then (some (decide (a0 < a1))) else (some true))) else (some (decide (a0 < a1)))) = some r := H
 have A3 := Aside0.mk A30
 clear A30
 by_cases c4 : t151 = true
 ·subst c4
  have H1 : ((cmp_isNaN_uint64.f a1).bind fun t152 => (if t152 = true then (some (decide (a0 < a1))) else (some true))) = some r := by rw [if_pos rfl] at H;exact H
  clear H
  have H := H1
  clear H1
  replace H := Option.bind_eq_some_iff.mp H
  obtain ⟨t152,A50,H⟩ := H
  replace H : (if t152 = true then (some (decide (a0 < a1))) else (some true)) = some r := H
  have A5 := Aside0.mk A50
  clear A50
  by_cases c6 : t152 = true
  ·subst c6
   have H1 : (some (decide (a0 < a1))) = some r := by rw [if_pos rfl] at H;exact H
   clear H
   have H := H1
   clear H1
   obtain rfl := Option.some.inj H
   go_enter Tryd.func85,Tryd.ntmps85
   go_wp2_with (first|((with_reducible refine gate_callee (f := 94) rfl ?_);refine goesL_ (some 6) rfl rfl Tryd.func94 (by kernel_rfl) rfl #[.int .u64 a0] rfl (by (try simp only [List.map_toArray,List.map_cons,List.map_nil]);first|done|rfl|(simp only [List.length_drop,List.length_take];rfl)) ?_;(with_reducible refine (cmp_isNaN_uint64.calls a0 true _ A3.out).mono ?_);rintro e w' ⟨rfl,⟨nd,rfl⟩⟩;refine ⟨_,rfl,?_⟩)|(go_at_call 94;(with_reducible refine (cmp_isNaN_uint64.calls a1 true _ A5.out).mono ?_);rintro e w' ⟨rfl,⟨nd,rfl⟩⟩))
   go_ret
   exact ⟨by first|rfl|(simp;done)|(simp [*];done),by repeat (first|exact Drawn0.refl _|apply Drawn0.step)⟩
  ·replace c6 := Bool.eq_false_iff.mpr c6
   subst c6
   have H1 : (some true) = some r := by rw [if_neg (show ¬ (false = true) by decide)] at H;exact H
   clear H
   have H := H1
   clear H1
   obtain rfl := Option.some.inj H
   go_enter Tryd.func85,Tryd.ntmps85
   go_wp2_with (first|((with_reducible refine gate_callee (f := 94) rfl ?_);refine goesL_ (some 6) rfl rfl Tryd.func94 (by kernel_rfl) rfl #[.int .u64 a0] rfl (by (try simp only [List.map_toArray,List.map_cons,List.map_nil]);first|done|rfl|(simp only [List.length_drop,List.length_take];rfl)) ?_;(with_reducible refine (cmp_isNaN_uint64.calls a0 true _ A3.out).mono ?_);rintro e w' ⟨rfl,⟨nd,rfl⟩⟩;refine ⟨_,rfl,?_⟩)|(go_at_call 94;(with_reducible refine (cmp_isNaN_uint64.calls a1 false _ A5.out).mono ?_);rintro e w' ⟨rfl,⟨nd,rfl⟩⟩))
   go_ret
   exact ⟨by first|rfl|(simp;done)|(simp [*];done),by repeat (first|exact Drawn0.refl _|apply Drawn0.step)⟩
 ·replace c4 := Bool.eq_false_iff.mpr c4
  subst c4
  have H1 : (some (decide (a0 < a1))) = some r := by rw [if_neg (show ¬ (false = true) by decide)] at H;exact H
  clear H
  have H := H1
  clear H1
  obtain rfl := Option.some.inj H
  go_enter Tryd.func85,Tryd.ntmps85
  go_wp2_with (first|((with_reducible refine gate_callee (f := 94) rfl ?_);refine goesL_ (some 6) rfl rfl Tryd.func94 (by kernel_rfl) rfl #[.int .u64 a0] rfl (by (try simp only [List.map_toArray,List.map_cons,List.map_nil]);first|done|rfl|(simp only [List.length_drop,List.length_take];rfl)) ?_;(with_reducible refine (cmp_isNaN_uint64.calls a0 false _ A3.out).mono ?_);rintro e w' ⟨rfl,⟨nd,rfl⟩⟩;refine ⟨_,rfl,?_⟩))
  go_ret
  exact ⟨by first|rfl|(simp;done)|(simp [*];done),by repeat (first|exact Drawn0.refl _|apply Drawn0.step)⟩
end Go.Proofs.YtakaonojfpkhnaaDoor.Pr
end
section
/- Printed by a program of this seat (the kit's printer, with the functions that were proved by hand given to it). What stands here: the functions that the statements reach, as plain functions, and that the Go code computes them. -/
namespace Go.Proofs.YtakaonojfpkhnaaDoor.Pr
open Go.RowKit Go.Proofs.YtakaonojfpkhnaaDoorW.PrintWords Go.Proofs.YtakaonojfpkhnaaDoorW.PrintLast Go.Proofs.YtakaonojfpkhnaaDoorW.PrintMore
attribute [local go_sem] max2_int min2_int max_two min_two max_three min_three max_four min_four   -- for this text's walks alone
set_option linter.unusedVariables false
set_option linter.unusedSimpArgs false

open Go.Proofs.YtakaonojfpkhnaaDoor.Hw
/-! ### slices_insertionSortOrdered_uint64: function 79 -/
mutual
def slices_insertionSortOrdered_uint64.l0 : Nat → List Int → Int → Int → Int → Option (List Int)
 | 0,_,_,_,_ => none
 | k + 1,x0,x1,x2,x6 => if x6 < x2 then (slices_insertionSortOrdered_uint64.l1 k x0 x1 x2 x6 x6) else (some x0)
def slices_insertionSortOrdered_uint64.l1 : Nat → List Int → Int → Int → Int → Int → Option (List Int)
 | 0,_,_,_,_,_ => none
 | k + 1,x0,x1,x2,x6,x7 => if x7 > x1 then (if 0 ≤ x7 then (if x7 < (x0.length : Int) then (if 0 ≤ (wrap64 (x7 - 1)) then (if (wrap64 (x7 - 1)) < (x0.length : Int) then ((cmp_Less_uint64.f (rd x0 x7) (rd x0 (wrap64 (x7 - 1)))).bind fun t155 => (if t155 = true then (slices_insertionSortOrdered_uint64.l1 k ((x0.set (x7 : Int).toNat (rd x0 (wrap64 (x7 - 1)))).set ((wrap64 (x7 - 1)) : Int).toNat (rd x0 x7)) x1 x2 x6 (wrap64 (x7 - 1))) else (slices_insertionSortOrdered_uint64.l0 k x0 x1 x2 (wrap64 (x6 + 1))))) else (none)) else (none)) else (none)) else (none)) else (slices_insertionSortOrdered_uint64.l0 k x0 x1 x2 (wrap64 (x6 + 1)))
end
def slices_insertionSortOrdered_uint64.f (k : Nat) (l0 : List Int) (a1 : Int) (a2 : Int) : Option (List Int) := slices_insertionSortOrdered_uint64.l0 k l0 a1 a2 (wrap64 (a1 + 1))
def slices_insertionSortOrdered_uint64.T4 : Bool × List (List Nat × List Nat) := (true, [([], []), ([], []), ([0, 1], [0, 1]), ([2], [2]), ([3], [3]), ([3], [3]), ([4, 5, 3], [3, 4, 5]), ([6, 3], [3, 6]), ([3], [3]), ([3], [3]), ([9, 3], [3, 9]), ([8, 10, 3], [3, 8, 10]), ([11, 3], [3, 11]), ([7, 12, 3, 3], [3, 7, 12]), ([3, 13], [3, 13])])
def slices_insertionSortOrdered_uint64.B4 : List Nat := [0, 0, 3, 7, 15, 15, 63, 127, 15, 15, 527, 1807, 3855, 8191, 16383]
theorem slices_insertionSortOrdered_uint64.tab4 : rtab .any (opsOf Tryd.f79 4) = slices_insertionSortOrdered_uint64.T4 := by kernel_rfl
theorem slices_insertionSortOrdered_uint64.bits4 : waitsOk slices_insertionSortOrdered_uint64.T4.2 slices_insertionSortOrdered_uint64.B4 = true := by kernel_rfl
def slices_insertionSortOrdered_uint64.T6 : Bool × List (List Nat × List Nat) := (true, [([], []), ([], []), ([], []), ([], []), ([3], [3]), ([], []), ([], []), ([6], [6]), ([5, 7], [5, 7]), ([8], [8]), ([], []), ([], []), ([10, 11], [10, 11]), ([12], [12]), ([0, 1, 0, 1, 5, 6, 7, 8, 9, 13], [0, 1]), ([14, 9, 0, 1, 5, 6, 7, 8, 9, 13], [9, 14]), ([2, 4, 0, 1, 2, 3, 4, 5, 6, 7, 8, 9, 10, 11, 12, 13, 14, 15], [2, 4]), ([16, 13, 15, 0, 1, 2, 3, 4, 5, 6, 7, 8, 9, 10, 11, 12, 13, 14, 15], [13, 16])])
def slices_insertionSortOrdered_uint64.B6 : List Nat := [0, 0, 0, 0, 8, 0, 0, 64, 224, 480, 0, 0, 3072, 7168, 16355, 32739, 65535, 131071]
theorem slices_insertionSortOrdered_uint64.tab6 : rtab .any (opsOf Tryd.f79 6) = slices_insertionSortOrdered_uint64.T6 := by kernel_rfl
theorem slices_insertionSortOrdered_uint64.bits6 : waitsOk slices_insertionSortOrdered_uint64.T6.2 slices_insertionSortOrdered_uint64.B6 = true := by kernel_rfl
set_option maxHeartbeats 8000000 in
set_option maxRecDepth 100000 in
theorem slices_insertionSortOrdered_uint64.calls (k : Nat) (P0_ : Nat → Prop) (u9000_ : Value) (l0 : List Int) (a1 : Int) (a2 : Int) (r : List Int) (w0 w : World) (hB : Below w0.heap.size w0 w) (ho0 : Kd.R (Kd.int .u64) 22 w w0.heap.size P0_ u9000_ l0) (h : slices_insertionSortOrdered_uint64.f k l0 a1 a2 = some r) :
  Calls Tryd.prog 79 #[u9000_,.int .i64 a1,.int .i64 a2] w fun e w' => e = .returned (.tuple #[]) ∧ Kd.R (Kd.int .u64) 22 w' w0.heap.size (fun k_ => (P0_ k_ ∨ w.heap.size ≤ k_)) u9000_ r ∧ Below w0.heap.size w0 w' ∧ Kept w w' (fun k_ => P0_ k_) := by
 have HO0 := Aside0.mk (show Kd.R (Kd.int .u64) 22 w w0.heap.size (fun k_ => (P0_ k_ ∨ w.heap.size ≤ k_)) u9000_ l0 from Kd.R_mono ho0 (fun k_ hk => (.inl hk)))
 have HK := Aside0.mk (Kept.refl w (fun k_ => P0_ k_))
 have HW0 := Aside0.mk hB.size
 have HB := Aside0.mk hB
 clear hB
 have H : (slices_insertionSortOrdered_uint64.l0 k l0 a1 a2 (wrap64 (a1 + 1))) = some r := h
 clear h
 have H' := Aside0.mk H
 clear H
 go_enter Tryd.func79,Tryd.ntmps79
 go_wp2
 go_loopg [6] k (fun kq v6 w' => ∃ (x0_1 : List Int) (x6_1 : Int),v6 = .int .i64 x6_1 ∧ Aside0 (slices_insertionSortOrdered_uint64.l0 kq x0_1 a1 a2 x6_1 = some r) ∧ Aside0 (kq ≤ k) ∧ Aside0 (Kd.R (Kd.int .u64) 22 w' w0.heap.size (fun k_ => (P0_ k_ ∨ w.heap.size ≤ k_)) u9000_ x0_1) ∧ Aside0 (Kept w w' (fun k_ => P0_ k_)) ∧ Aside0 (Below w0.heap.size w0 w'))
 case atStart => exact ⟨(l0),(wrap64 (a1 + 1)),(by first|rfl|(simp;done)|(simp [*];done)),H',⟨Nat.le_refl _⟩,⟨by (with_reducible repeat (first|apply Kd.R_alloc|apply Kd.R_drewN|apply Kd.R_drew));exact HO0.out⟩,⟨by repeat (first|(with_reducible first|exact HK.out|apply Kept.alloc|apply Kept.drewN|apply Kept.drew)|exact HK.out)⟩,⟨by repeat (first|(with_reducible first|exact HB.out|apply below_alloc|apply pw_below_drewN|apply below_drew1)|exact HB.out)⟩⟩
 case round =>
  clear H'
  try clear p2
  obtain ⟨x0_1,x6_1,rfl,HA,HK1,HO_0,HK,HB⟩ := hrel
  cases gk with
  | zero => exact absurd HA.out (by simp [slices_insertionSortOrdered_uint64.l0])
  | succ k1 =>
   have H := HA.out
   clear HA
   simp only [slices_insertionSortOrdered_uint64.l0] at H
   by_cases c4 : x6_1 < a2
   ·rw [if_pos c4] at H
    have c4b0 : decide (x6_1 < a2) = true := decide_eq_true c4
    clear c4
    have H' := Aside0.mk H
    clear H
    go_wp2
    go_loopg [7] k1 (fun kq v7 w' => ∃ (x0_2 : List Int) (x7_2 : Int),v7 = .int .i64 x7_2 ∧ Aside0 (slices_insertionSortOrdered_uint64.l1 kq x0_2 a1 a2 x6_1 x7_2 = some r) ∧ Aside0 (kq ≤ k1) ∧ Aside0 (Kd.R (Kd.int .u64) 22 w' w0.heap.size (fun k_ => (P0_ k_ ∨ w.heap.size ≤ k_)) u9000_ x0_2) ∧ Aside0 (Kept w w' (fun k_ => P0_ k_)) ∧ Aside0 (Below w0.heap.size w0 w'))
    case atStart => exact ⟨(x0_1),(x6_1),(by first|rfl|(simp;done)|(simp [*];done)),H',⟨Nat.le_refl _⟩,⟨by (with_reducible repeat (first|apply Kd.R_alloc|apply Kd.R_drewN|apply Kd.R_drew));exact HO_0.out⟩,⟨by repeat (first|(with_reducible first|exact HK.out|apply Kept.alloc|apply Kept.drewN|apply Kept.drew)|exact HK.out)⟩,⟨by repeat (first|(with_reducible first|exact HB.out|apply below_alloc|apply pw_below_drewN|apply below_drew1)|exact HB.out)⟩⟩
    case round =>
     clear H'
     try clear p2
     try clear c4
     try clear c4b0
     try clear p2
     obtain ⟨x0_2,x7_2,rfl,HA,HK2,HO_0,HK,HB⟩ := hrel
     cases gk with
     | zero => exact absurd HA.out (by simp [slices_insertionSortOrdered_uint64.l1])
     | succ k2 =>
      have H := HA.out
      clear HA
      simp only [slices_insertionSortOrdered_uint64.l1] at H
      by_cases c5 : x7_2 > a1
      ·rw [if_pos c5] at H
       have c5b0 : decide (a1 < x7_2) = true := decide_eq_true c5
       clear c5
       by_cases c6 : 0 ≤ x7_2
       ·rw [if_pos c6] at H
        have c6b0 : decide (0 ≤ x7_2) = true := decide_eq_true c6
        clear c6
        by_cases c7 : x7_2 < (x0_2.length : Int)
        ·rw [if_pos c7] at H
         have c7b0 : decide (x7_2 < (x0_2.length : Int)) = true := decide_eq_true c7
         clear c7
         obtain ⟨ji8,hji8⟩ : ∃ j_ : Int,(wrap64 (x7_2 - 1)) = j_ := ⟨_,rfl⟩
         replace H : (if 0 ≤ (ji8) then (if (ji8) < (x0_2.length : Int) then ((cmp_Less_uint64.f (rd x0_2 x7_2) (rd x0_2 (ji8))).bind fun t155 => (if t155 = true then (slices_insertionSortOrdered_uint64.l1 k2 ((x0_2.set (x7_2 : Int).toNat (rd x0_2 (ji8))).set ((ji8) : Int).toNat (rd x0_2 x7_2)) a1 a2 x6_1 ji8) else (slices_insertionSortOrdered_uint64.l0 k2 x0_2 a1 a2 (wrap64 (x6_1 + 1))))) else (none)) else (none)) = some r := by first|(rw [hji8] at H;exact H)|(simp only [hji8] at H ⊢;exact H)
         have hji8w : (IntKind.i64.wrap (x7_2 - 1)) = ji8 := (i64_w _).trans hji8
         by_cases c9 : 0 ≤ (ji8)
         ·rw [if_pos c9] at H
          have c9b0 : decide (0 ≤ (ji8)) = true := decide_eq_true c9
          clear c9
          by_cases c10 : (ji8) < (x0_2.length : Int)
          ·rw [if_pos c10] at H
           have c10b0 : decide ((ji8) < (x0_2.length : Int)) = true := decide_eq_true c10
           clear c10
           replace H := Option.bind_eq_some_iff.mp H
           obtain ⟨t155,A110,H⟩ := H
           replace H : (if t155 = true then (slices_insertionSortOrdered_uint64.l1 k2 ((x0_2.set (x7_2 : Int).toNat (rd x0_2 (ji8))).set ((ji8) : Int).toNat (rd x0_2 x7_2)) a1 a2 x6_1 ji8) else (slices_insertionSortOrdered_uint64.l0 k2 x0_2 a1 a2 (wrap64 (x6_1 + 1)))) = some r := H
           have A11 := Aside0.mk A110
           clear A110
           by_cases c12 : t155 = true
           ·subst c12
            have H1 : (slices_insertionSortOrdered_uint64.l1 k2 ((x0_2.set (x7_2 : Int).toNat (rd x0_2 (ji8))).set ((ji8) : Int).toNat (rd x0_2 x7_2)) a1 a2 x6_1 ji8) = some r := by rw [if_pos rfl] at H;exact H
            clear H
            have H := H1
            clear H1
            obtain ⟨y158,hy158⟩ : ∃ y_ : List Int,y_ = (x0_2.set (x7_2 : Int).toNat (rd x0_2 (ji8))) := ⟨_,rfl⟩
            replace H : (slices_insertionSortOrdered_uint64.l1 k2 (y158.set ((ji8) : Int).toNat (rd x0_2 x7_2)) a1 a2 x6_1 ji8) = some r := by first|(rw [hy158];with_reducible exact H)|(have H2_ := (Option.bind_some _ _).symm.trans H;rw [hy158];with_reducible exact H2_)|(have H2_ := (Option.bind_some _ _).symm.trans H;with_reducible exact H2_)|with_reducible exact H|(rw [hy158];exact H)|exact H
            have Ny158 := Aside0.mk hy158
            clear hy158
            obtain ⟨y159,hy159⟩ : ∃ y_ : List Int,y_ = (y158.set ((ji8) : Int).toNat (rd x0_2 x7_2)) := ⟨_,rfl⟩
            replace H : (slices_insertionSortOrdered_uint64.l1 k2 y159 a1 a2 x6_1 ji8) = some r := by first|(rw [hy159];with_reducible exact H)|(have H2_ := (Option.bind_some _ _).symm.trans H;rw [hy159];with_reducible exact H2_)|(have H2_ := (Option.bind_some _ _).symm.trans H;with_reducible exact H2_)|with_reducible exact H|(rw [hy159];exact H)|exact H
            have Ny159 := Aside0.mk hy159
            clear hy159
            have H' := Aside0.mk H
            clear H
            try go_wp2
            have n0_ := Aside0.mk (Kd.R_drew HO_0.out)
            have n1_ := Aside0.mk (Kept.drew HK.out)
            have n2_ := Aside0.mk (below_drew1 HB.out)
            clear HO_0
            clear HK
            clear HB
            have HO_0 := n0_
            have HK := n1_
            have HB := n2_
            clear n0_ n1_ n2_
            obtain ⟨Ao16,co16,eo16⟩ := Kd.R_slice HO_0.out
            (first|subst eo16|(injection eo16 with f1_ f2_ f3_;have f4_ := f1_.symm;have f5_ := f3_.symm;clear f1_ f2_ f3_;subst f4_;subst f5_))
            have p153 : 0 ≤ (x7_2 : Int) := of_decide_eq_true (by first|(with_reducible assumption)|assumption)
            have q153 : x7_2 < (x0_2.length : Int) := of_decide_eq_true (by first|(with_reducible assumption)|assumption)
            obtain ⟨ad153,e153,hx153_0⟩ := Kd.at_int (Kd.R_reads' HO_0.out).2.2 x7_2 p153 q153
            cases e153
            replace p153 := eq_true p153
            replace q153 := eq_true q153
            have p154 : 0 ≤ ((ji8) : Int) := of_decide_eq_true (by first|(with_reducible assumption)|assumption)
            have q154 : (ji8) < (x0_2.length : Int) := of_decide_eq_true (by first|(with_reducible assumption)|assumption)
            obtain ⟨ad154,e154,hx154_0⟩ := Kd.at_int (Kd.R_reads' HO_0.out).2.2 (ji8) p154 q154
            obtain rfl : ad153 = ad154 := (by injection e154)
            replace p154 := eq_true p154
            replace q154 := eq_true q154
            refine start_ (n := 15) (S := fun w' => w'.cell? (ad153.add (x7_2).toNat) = some (.int .u64 (rd x0_2 x7_2)) ∧ w'.cell? (ad153.add ((ji8)).toNat) = some (.int .u64 (rd x0_2 (ji8)))) (ds := []) #[false,false,false,false,false,false,false,false,false,false,false,false,false,false,false] (by kernel_rfl) rfl rfl ⟨hx153_0,hx154_0⟩ (fun hHeld => ?_);refine with_tabW slices_insertionSortOrdered_uint64.tab4 slices_insertionSortOrdered_uint64.bits4 (fun HT_ HW_ => ?_)
            generalize wr.drew = w15 at HO_0 HK HB hx153_0 hx154_0 hHeld ⊢
            refine pure_ (i := 0) (N := some 16) (v := ?_) (a' := ?_) #[true,false,false,false,false,false,false,false,false,false,false,false,false,false,false] rfl rfl (any_of HT_.out (by kernel_rfl)) (fun _ _ _ h => h) (Or.inl ⟨by rfl,?_⟩) ?_ ?_
            rotate_left
            ·intro w'
             go_simp
             with_reducible rfl
            rotate_left
            ·simp only [Act.put,List.setIfInBounds_toArray,List.set_cons_zero,List.set_cons_succ,i64_w,i32_w]
             rfl
            refine pure_ (i := 1) (N := some 17) (v := ?_) (a' := ?_) #[true,true,false,false,false,false,false,false,false,false,false,false,false,false,false] rfl rfl (any_of HT_.out (by kernel_rfl)) (fun _ _ _ h => h) (Or.inl ⟨by rfl,?_⟩) ?_ ?_
            rotate_left
            ·intro w'
             go_simp
             with_reducible rfl
            rotate_left
            ·simp only [Act.put,List.setIfInBounds_toArray,List.set_cons_zero,List.set_cons_succ,i64_w,i32_w]
             rfl
            refine pure_ (i := 2) (N := some 18) (v := ?_) (a' := ?_) #[true,true,true,false,false,false,false,false,false,false,false,false,false,false,false] rfl rfl (any_of HT_.out (by kernel_rfl)) (fun _ _ _ h => h) (Or.inl ⟨by rfl,?_⟩) ?_ ?_
            rotate_left
            ·intro w'
             go_simp
             with_reducible rfl
            rotate_left
            ·simp only [Act.put,List.setIfInBounds_toArray,List.set_cons_zero,List.set_cons_succ,i64_w,i32_w]
             rfl
            refine pure_ (i := 3) (N := some 19) (v := ?_) (a' := ?_) #[true,true,true,true,false,false,false,false,false,false,false,false,false,false,false] rfl rfl (any_of HT_.out (by kernel_rfl)) (fun _ _ _ h => h) (Or.inl ⟨by rfl,?_⟩) ?_ ?_
            rotate_left
            ·intro w'
             go_simp
             with_reducible rfl
            rotate_left
            ·simp only [Act.put,List.setIfInBounds_toArray,List.set_cons_zero,List.set_cons_succ,i64_w,i32_w]
             rfl
            refine pure_ (i := 4) (N := some 20) (v := ?_) (a' := ?_) #[true,true,true,true,true,false,false,false,false,false,false,false,false,false,false] rfl rfl (any_of HT_.out (by kernel_rfl)) (fun _ _ _ h => h) (Or.inl ⟨by rfl,?_⟩) ?_ ?_
            rotate_left
            ·intro w'
             go_simp
             with_reducible rfl
            rotate_left
            ·simp only [Act.put,List.setIfInBounds_toArray,List.set_cons_zero,List.set_cons_succ,i64_w,i32_w]
             rfl
            refine pure_ (i := 5) (N := some 21) (v := ?_) (a' := ?_) #[true,true,true,true,true,true,false,false,false,false,false,false,false,false,false] rfl rfl (any_of HT_.out (by kernel_rfl)) (fun _ _ _ h => h) (Or.inl ⟨by rfl,?_⟩) ?_ ?_
            rotate_left
            ·intro w'
             go_simp
             with_reducible rfl
            rotate_left
            ·simp only [Act.put,List.setIfInBounds_toArray,List.set_cons_zero,List.set_cons_succ,i64_w,i32_w]
             rfl
            refine pure_ (i := 6) (N := some 22) (v := ?_) (a' := ?_) #[true,true,true,true,true,true,true,false,false,false,false,false,false,false,false] rfl rfl (any_of HT_.out (by kernel_rfl)) (fun _ _ _ h => h) (Or.inl ⟨by rfl,?_⟩) ?_ ?_
            rotate_left
            ·intro w'
             go_simp
             with_reducible rfl
            rotate_left
            ·simp only [Act.put,List.setIfInBounds_toArray,List.set_cons_zero,List.set_cons_succ,i64_w,i32_w]
             rfl
            refine pure_ (i := 8) (N := some 24) (v := ?_) (a' := ?_) #[true,true,true,true,true,true,true,false,true,false,false,false,false,false,false] rfl rfl (any_of HT_.out (by kernel_rfl)) (fun _ _ _ h => h) (Or.inl ⟨by rfl,?_⟩) ?_ ?_
            rotate_left
            ·intro w'
             go_simp
             with_reducible rfl
            rotate_left
            ·simp only [Act.put,List.setIfInBounds_toArray,List.set_cons_zero,List.set_cons_succ,i64_w,i32_w]
             rfl
            refine pure_ (i := 9) (N := some 25) (v := ?_) (a' := ?_) #[true,true,true,true,true,true,true,false,true,true,false,false,false,false,false] rfl rfl (any_of HT_.out (by kernel_rfl)) (fun _ _ _ h => h) (Or.inl ⟨by rfl,?_⟩) ?_ ?_
            rotate_left
            ·intro w'
             go_simp
             with_reducible rfl
            rotate_left
            ·simp only [Act.put,List.setIfInBounds_toArray,List.set_cons_zero,List.set_cons_succ,i64_w,i32_w]
             rfl
            refine pure_ (i := 10) (N := some 26) (v := ?_) (a' := ?_) #[true,true,true,true,true,true,true,false,true,true,true,false,false,false,false] rfl rfl (any_of HT_.out (by kernel_rfl)) (fun _ _ _ h => h) (Or.inl ⟨by rfl,?_⟩) ?_ ?_
            rotate_left
            ·intro w'
             go_simp
             with_reducible rfl
            rotate_left
            ·simp only [Act.put,List.setIfInBounds_toArray,List.set_cons_zero,List.set_cons_succ,i64_w,i32_w]
             rfl
            refine pure_ (i := 11) (N := some 27) (v := ?_) (a' := ?_) #[true,true,true,true,true,true,true,false,true,true,true,true,false,false,false] rfl rfl (any_of HT_.out (by kernel_rfl)) (fun _ _ _ h => h) (Or.inl ⟨by rfl,?_⟩) ?_ ?_
            rotate_left
            ·intro w'
             go_simp
             with_reducible rfl
            rotate_left
            ·simp only [Act.put,List.setIfInBounds_toArray,List.set_cons_zero,List.set_cons_succ,i64_w,i32_w]
             rfl
            refine take_ (i := 7) (N := some 23) (v := ?_) (a' := ?_) #[true,true,true,true,true,true,true,true,true,true,true,true,false,false,false] rfl rfl (take_ofW HT_.out HW_.out (by kernel_rfl)) (fun _ _ _ h => h) (Or.inl ⟨by rfl,?_⟩) hHeld ?_ ?_
            rotate_left
            ·rintro w' ⟨s0,s1⟩
             go_simp
             with_reducible rfl
            rotate_left
            ·simp only [Act.put,List.setIfInBounds_toArray,List.set_cons_zero,List.set_cons_succ,i64_w,i32_w]
             rfl
            refine take_ (i := 12) (N := some 28) (v := ?_) (a' := ?_) #[true,true,true,true,true,true,true,true,true,true,true,true,true,false,false] rfl rfl (take_ofW HT_.out HW_.out (by kernel_rfl)) (fun _ _ _ h => h) (Or.inl ⟨by rfl,?_⟩) hHeld ?_ ?_
            rotate_left
            ·rintro w' ⟨s0,s1⟩
             go_simp
             with_reducible rfl
            rotate_left
            ·simp only [Act.put,List.setIfInBounds_toArray,List.set_cons_zero,List.set_cons_succ,i64_w,i32_w]
             rfl
            refine one_ (i := 13) (N := some 29) #[true,true,true,true,true,true,true,true,true,true,true,true,true,true,false] rfl rfl (one_of HT_.out (by kernel_rfl)) (by decide) (fun K hK => ?_)
            refine goes_ Tryd.func85 (by kernel_rfl) rfl #[.int .u64 (rd x0_2 x7_2),.int .u64 (rd x0_2 (ji8))] (by rfl) rfl rfl (by (try simp only [List.map_toArray,List.map_cons,List.map_nil]);first|done|(simp only [hji8];rfl)|rfl|(simp only [List.length_drop,List.length_take];rfl)) ?_
            with_reducible refine (cmp_Less_uint64.calls (rd x0_2 x7_2) (rd x0_2 (ji8)) true _ A11.out).mono ?_
            rintro e w' ⟨rfl,⟨nd,rfl⟩⟩
            refine ⟨_,rfl,?_⟩
            refine hK.out _ _ ⟨hHeld.1,hHeld.2⟩ (fun hHeld => ?_)
            clear hK K
            refine norm_ (a' := ?_) ?_ ?_
            rotate_left
            ·show Act.put _ (some 29) _ = _
             simp only [Act.put,List.setIfInBounds_toArray,List.set_cons_zero,List.set_cons_succ,i64_w,i32_w]
             rfl
            refine pure_ (i := 14) (N := some 30) (v := ?_) (a' := ?_) #[true,true,true,true,true,true,true,true,true,true,true,true,true,true,true] rfl rfl (any_of HT_.out (by kernel_rfl)) (fun _ _ _ h => h) (Or.inl ⟨by rfl,?_⟩) ?_ ?_
            rotate_left
            ·intro w'
             go_simp
             with_reducible rfl
            rotate_left
            ·simp only [Act.put,List.setIfInBounds_toArray,List.set_cons_zero,List.set_cons_succ,i64_w,i32_w]
             rfl
            refine done_ (done_of HT_.out (by kernel_rfl)) ?_
            try go_wp2
            (try (rw [drewN_self w15];generalize hq_ : World.drewN w15 _ = w15;have n0_ : Aside0 (Kd.R (Kd.int .u64) 22 w15 w0.heap.size (fun k_ => (P0_ k_ ∨ w.heap.size ≤ k_)) (.slice (some ad153) x0_2.length co16) x0_2) := ⟨by rw [← hq_];exact (by (with_reducible repeat (first|apply Kd.R_alloc|apply Kd.R_drewN|apply Kd.R_drew));exact HO_0.out)⟩;have n1_ : Aside0 (Kept w w15 (fun k_ => P0_ k_)) := ⟨by rw [← hq_];exact (by repeat (first|(with_reducible first|exact HK.out|apply Kept.alloc|apply Kept.drewN|apply Kept.drew)|exact HK.out))⟩;have n2_ : Aside0 (Below w0.heap.size w0 w15) := ⟨by rw [← hq_];exact (by repeat (first|(with_reducible first|exact HB.out|apply below_alloc|apply pw_below_drewN|apply below_drew1)|exact HB.out))⟩;clear HO_0 HK HB hq_;have HO_0 := n0_;have HK := n1_;have HB := n2_;clear n0_ n1_ n2_))
            have n0_ := Aside0.mk (Kd.R_drew HO_0.out)
            have n1_ := Aside0.mk (Kept.drew HK.out)
            have n2_ := Aside0.mk (below_drew1 HB.out)
            clear HO_0
            clear HK
            clear HB
            have HO_0 := n0_
            have HK := n1_
            have HB := n2_
            clear n0_ n1_ n2_
            have p156 : 0 ≤ ((ji8) : Int) := of_decide_eq_true (by first|(with_reducible assumption)|assumption)
            have q156 : (ji8) < (x0_2.length : Int) := of_decide_eq_true (by first|(with_reducible assumption)|assumption)
            obtain ⟨ad156,e156,hx156_0⟩ := Kd.at_int (Kd.R_reads' HO_0.out).2.2 (ji8) p156 q156
            obtain rfl : ad153 = ad156 := (by injection e156)
            replace p156 := eq_true p156
            replace q156 := eq_true q156
            have p157 : 0 ≤ (x7_2 : Int) := of_decide_eq_true (by first|(with_reducible assumption)|assumption)
            have q157 : x7_2 < (x0_2.length : Int) := of_decide_eq_true (by first|(with_reducible assumption)|assumption)
            obtain ⟨ad157,e157,hx157_0⟩ := Kd.at_int (Kd.R_reads' HO_0.out).2.2 x7_2 p157 q157
            obtain rfl : ad153 = ad157 := (by injection e157)
            replace p157 := eq_true p157
            replace q157 := eq_true q157
            have p13 : 0 ≤ (x7_2 : Int) := of_decide_eq_true (by first|(with_reducible assumption)|assumption)
            have q13 : (x7_2 : Int) < ((x0_2.length : Int) : Int) := of_decide_eq_true (by first|(with_reducible assumption)|assumption)
            obtain ⟨go13,co13,eo13,gb13,gl13,cl13,HG13⟩ := Kd.R_form HO_0.out (by omega)
            (first|cases eo13|(injection eo13 with ea_ en_ ec_;(first|subst ea_|(injection ea_ with ea_;subst ea_));subst ec_;clear en_))
            have GB13 := Aside0.mk gb13
            have GG13 := Aside0.mk HG13
            clear gb13 gl13 HG13
            have HMgo13 := Aside0.mk (show (P0_ go13 ∨ w.heap.size ≤ go13) from (HO_0.out.1 _ rfl))
            (first|simp only [add_plain] at hx153_0|skip)
            (first|simp only [add_plain] at hx154_0|skip)
            (first|simp only [add_plain] at hx156_0|skip)
            (first|simp only [add_plain] at hx157_0|skip)
            obtain ⟨hx13_0,hf13_0⟩ := Kd.R_celln 0 HO_0.out (x7_2 : Int) p13 q13
            replace p13 := eq_true p13
            replace q13 := eq_true q13
            have HP18 := Kd.R_putn HO_0.out (x7_2 : Int) (rd x0_2 (ji8))
            rw [← Ny158.out] at HP18
            have HQ18 := Aside0.mk HP18
            clear HP18
            have p14 : 0 ≤ ((ji8) : Int) := of_decide_eq_true (by first|(with_reducible assumption)|assumption)
            have q14 : ((ji8) : Int) < ((x0_2.length : Int) : Int) := of_decide_eq_true (by first|(with_reducible assumption)|assumption)
            obtain ⟨hx14_0,hf14_0⟩ := Kd.R_celln 0 HQ18.out ((ji8) : Int) p14 q14
            replace p14 := eq_true p14
            replace q14 := eq_true q14
            have HP19 := Kd.R_putn HQ18.out ((ji8) : Int) (rd x0_2 x7_2)
            rw [← Ny159.out] at HP19
            have HQ19 := Aside0.mk HP19
            clear HP19
            refine start_ (n := 18) (S := fun w' => w'.cell? ⟨go13,((ji8)).toNat,none⟩ = some (.int .u64 (rd x0_2 (ji8))) ∧ w'.cell? ⟨go13,(x7_2).toNat,none⟩ = some (.int .u64 (rd x0_2 x7_2))) (ds := [15,17]) #[false,false,false,false,false,false,false,false,false,false,false,false,false,false,false,false,false,false] (by kernel_rfl) rfl rfl ⟨hx156_0,hx157_0⟩ (fun hHeld => ?_);refine with_tabW slices_insertionSortOrdered_uint64.tab6 slices_insertionSortOrdered_uint64.bits6 (fun HT_ HW_ => ?_)
            generalize w15.drew = w17 at HO_0 HK HB GG13 HQ18 HQ19 hf13_0 hf14_0 hx13_0 hx14_0 hx153_0 hx154_0 hx156_0 hx157_0 hHeld ⊢
            refine pure_ (i := 0) (N := some 33) (v := ?_) (a' := ?_) #[true,false,false,false,false,false,false,false,false,false,false,false,false,false,false,false,false,false] rfl rfl (any_of HT_.out (by kernel_rfl)) (fun _ _ _ h => h) (Or.inl ⟨by rfl,?_⟩) ?_ ?_
            rotate_left
            ·intro w'
             go_simp
             with_reducible rfl
            rotate_left
            ·simp only [Act.put,List.setIfInBounds_toArray,List.set_cons_zero,List.set_cons_succ,i64_w,i32_w]
             rfl
            refine pure_ (i := 1) (N := some 34) (v := ?_) (a' := ?_) #[true,true,false,false,false,false,false,false,false,false,false,false,false,false,false,false,false,false] rfl rfl (any_of HT_.out (by kernel_rfl)) (fun _ _ _ h => h) (Or.inl ⟨by rfl,?_⟩) ?_ ?_
            rotate_left
            ·intro w'
             go_simp
             with_reducible rfl
            rotate_left
            ·simp only [Act.put,List.setIfInBounds_toArray,List.set_cons_zero,List.set_cons_succ,i64_w,i32_w]
             rfl
            refine pure_ (i := 2) (N := some 35) (v := ?_) (a' := ?_) #[true,true,true,false,false,false,false,false,false,false,false,false,false,false,false,false,false,false] rfl rfl (any_of HT_.out (by kernel_rfl)) (fun _ _ _ h => h) (Or.inl ⟨by rfl,?_⟩) ?_ ?_
            rotate_left
            ·intro w'
             go_simp
             with_reducible rfl
            rotate_left
            ·simp only [Act.put,List.setIfInBounds_toArray,List.set_cons_zero,List.set_cons_succ,i64_w,i32_w]
             rfl
            refine pure_ (i := 3) (N := some 36) (v := ?_) (a' := ?_) #[true,true,true,true,false,false,false,false,false,false,false,false,false,false,false,false,false,false] rfl rfl (any_of HT_.out (by kernel_rfl)) (fun _ _ _ h => h) (Or.inl ⟨by rfl,?_⟩) ?_ ?_
            rotate_left
            ·intro w'
             go_simp
             with_reducible rfl
            rotate_left
            ·simp only [Act.put,List.setIfInBounds_toArray,List.set_cons_zero,List.set_cons_succ,i64_w,i32_w]
             rfl
            refine pure_ (i := 4) (N := some 37) (v := ?_) (a' := ?_) #[true,true,true,true,true,false,false,false,false,false,false,false,false,false,false,false,false,false] rfl rfl (any_of HT_.out (by kernel_rfl)) (fun _ _ _ h => h) (Or.inl ⟨by rfl,?_⟩) ?_ ?_
            rotate_left
            ·intro w'
             go_simp
             with_reducible rfl
            rotate_left
            ·simp only [Act.put,List.setIfInBounds_toArray,List.set_cons_zero,List.set_cons_succ,i64_w,i32_w]
             rfl
            refine pure_ (i := 5) (N := some 38) (v := ?_) (a' := ?_) #[true,true,true,true,true,true,false,false,false,false,false,false,false,false,false,false,false,false] rfl rfl (any_of HT_.out (by kernel_rfl)) (fun _ _ _ h => h) (Or.inl ⟨by rfl,?_⟩) ?_ ?_
            rotate_left
            ·intro w'
             go_simp
             with_reducible rfl
            rotate_left
            ·simp only [Act.put,List.setIfInBounds_toArray,List.set_cons_zero,List.set_cons_succ,i64_w,i32_w]
             rfl
            refine pure_ (i := 6) (N := some 39) (v := ?_) (a' := ?_) #[true,true,true,true,true,true,true,false,false,false,false,false,false,false,false,false,false,false] rfl rfl (any_of HT_.out (by kernel_rfl)) (fun _ _ _ h => h) (Or.inl ⟨by rfl,?_⟩) ?_ ?_
            rotate_left
            ·intro w'
             go_simp
             with_reducible rfl
            rotate_left
            ·simp only [Act.put,List.setIfInBounds_toArray,List.set_cons_zero,List.set_cons_succ,i64_w,i32_w]
             rfl
            refine pure_ (i := 7) (N := some 40) (v := ?_) (a' := ?_) #[true,true,true,true,true,true,true,true,false,false,false,false,false,false,false,false,false,false] rfl rfl (any_of HT_.out (by kernel_rfl)) (fun _ _ _ h => h) (Or.inl ⟨by rfl,?_⟩) ?_ ?_
            rotate_left
            ·intro w'
             go_simp
             with_reducible rfl
            rotate_left
            ·simp only [Act.put,List.setIfInBounds_toArray,List.set_cons_zero,List.set_cons_succ,i64_w,i32_w]
             rfl
            refine pure_ (i := 8) (N := some 41) (v := ?_) (a' := ?_) #[true,true,true,true,true,true,true,true,true,false,false,false,false,false,false,false,false,false] rfl rfl (any_of HT_.out (by kernel_rfl)) (fun _ _ _ h => h) (Or.inl ⟨by rfl,?_⟩) ?_ ?_
            rotate_left
            ·intro w'
             go_simp
             with_reducible rfl
            rotate_left
            ·simp only [Act.put,List.setIfInBounds_toArray,List.set_cons_zero,List.set_cons_succ,i64_w,i32_w]
             rfl
            refine pure_ (i := 10) (N := some 43) (v := ?_) (a' := ?_) #[true,true,true,true,true,true,true,true,true,false,true,false,false,false,false,false,false,false] rfl rfl (any_of HT_.out (by kernel_rfl)) (fun _ _ _ h => h) (Or.inl ⟨by rfl,?_⟩) ?_ ?_
            rotate_left
            ·intro w'
             go_simp
             with_reducible rfl
            rotate_left
            ·simp only [Act.put,List.setIfInBounds_toArray,List.set_cons_zero,List.set_cons_succ,i64_w,i32_w]
             rfl
            refine pure_ (i := 11) (N := some 44) (v := ?_) (a' := ?_) #[true,true,true,true,true,true,true,true,true,false,true,true,false,false,false,false,false,false] rfl rfl (any_of HT_.out (by kernel_rfl)) (fun _ _ _ h => h) (Or.inl ⟨by rfl,?_⟩) ?_ ?_
            rotate_left
            ·intro w'
             go_simp
             with_reducible rfl
            rotate_left
            ·simp only [Act.put,List.setIfInBounds_toArray,List.set_cons_zero,List.set_cons_succ,i64_w,i32_w]
             rfl
            refine pure_ (i := 12) (N := some 45) (v := ?_) (a' := ?_) #[true,true,true,true,true,true,true,true,true,false,true,true,true,false,false,false,false,false] rfl rfl (any_of HT_.out (by kernel_rfl)) (fun _ _ _ h => h) (Or.inl ⟨by rfl,?_⟩) ?_ ?_
            rotate_left
            ·intro w'
             go_simp
             with_reducible rfl
            rotate_left
            ·simp only [Act.put,List.setIfInBounds_toArray,List.set_cons_zero,List.set_cons_succ,i64_w,i32_w]
             rfl
            refine take_ (i := 9) (N := some 42) (v := ?_) (a' := ?_) #[true,true,true,true,true,true,true,true,true,true,true,true,true,false,false,false,false,false] rfl rfl (take_ofW HT_.out HW_.out (by kernel_rfl)) (fun _ _ _ h => h) (Or.inl ⟨by rfl,?_⟩) hHeld ?_ ?_
            rotate_left
            ·rintro w' ⟨s0,s1⟩
             go_simp
             with_reducible rfl
            rotate_left
            ·simp only [Act.put,List.setIfInBounds_toArray,List.set_cons_zero,List.set_cons_succ,i64_w,i32_w]
             rfl
            refine take_ (i := 13) (N := some 46) (v := ?_) (a' := ?_) #[true,true,true,true,true,true,true,true,true,true,true,true,true,true,false,false,false,false] rfl rfl (take_ofW HT_.out HW_.out (by kernel_rfl)) (fun _ _ _ h => h) (Or.inl ⟨by rfl,?_⟩) hHeld ?_ ?_
            rotate_left
            ·rintro w' ⟨s0,s1⟩
             go_simp
             with_reducible rfl
            rotate_left
            ·simp only [Act.put,List.setIfInBounds_toArray,List.set_cons_zero,List.set_cons_succ,i64_w,i32_w]
             rfl
            refine pure_ (i := 14) (N := some 47) (v := ?_) (a' := ?_) #[true,true,true,true,true,true,true,true,true,true,true,true,true,true,true,false,false,false] rfl rfl (any_of HT_.out (by kernel_rfl)) (fun _ _ _ h => h) (Or.inl ⟨by rfl,?_⟩) ?_ ?_
            rotate_left
            ·intro w'
             go_simp
             with_reducible rfl
            rotate_left
            ·simp only [Act.put,List.setIfInBounds_toArray,List.set_cons_zero,List.set_cons_succ,i64_w,i32_w]
             rfl
            refine last_ (i := 15) (N := none) #[true,true,true,true,true,true,true,true,true,true,true,true,true,true,true,true,false,false] rfl rfl (one_of HT_.out (by kernel_rfl)) (by decide) (fun K hK => ?_)
            refine skip_ (w1 := ?_) (by rfl) rfl ?_ ?_
            rotate_left
            ·go_simp
             rfl
            refine hK.out _ _ ?_
            clear hK K
            refine pure_ (i := 16) (N := some 48) (v := ?_) (a' := ?_) #[true,true,true,true,true,true,true,true,true,true,true,true,true,true,true,true,true,false] rfl rfl (any_of HT_.out (by kernel_rfl)) (fun _ _ _ h => h) (Or.inl ⟨by rfl,?_⟩) ?_ ?_
            rotate_left
            ·intro w'
             go_simp
             with_reducible rfl
            rotate_left
            ·simp only [Act.put,List.setIfInBounds_toArray,List.set_cons_zero,List.set_cons_succ,i64_w,i32_w]
             rfl
            refine last_ (i := 17) (N := none) #[true,true,true,true,true,true,true,true,true,true,true,true,true,true,true,true,true,true] rfl rfl (one_of HT_.out (by kernel_rfl)) (by decide) (fun K hK => ?_)
            refine skip_ (w1 := ?_) (by rfl) rfl ?_ ?_
            rotate_left
            ·go_simp
             rfl
            refine hK.out _ _ ?_
            clear hK K
            refine done_ (done_of HT_.out (by kernel_rfl)) ?_
            try go_wp2
            go_roundg k2
            case measure => have := HK1.out;have := HK2.out;omega
            case rel => exact ⟨(y159),(ji8),(by first|rfl|(simp;done)|(simp only [← hji8] <;> (first|rfl|simp))|(simp [*];done)),H',⟨by have := HK1.out;have := HK2.out;omega⟩,⟨by (with_reducible repeat (first|apply Kd.R_alloc|apply Kd.R_drewN|apply Kd.R_drew));exact HQ19.out⟩,⟨by repeat (first|(with_reducible first|exact HK.out|apply Kept.alloc|apply Kept.drewN|apply Kept.drew|refine Kept.setCell ?_ HMgo13.out _|refine Kept.setCell ?_ HMgo13.out _)|exact HK.out)⟩,⟨by repeat (first|(with_reducible first|exact HB.out|apply below_alloc|apply pw_below_drewN|apply below_drew1|refine below_set ?_ GB13.out|refine below_set ?_ GB13.out)|exact HB.out)⟩⟩
           ·replace c12 := Bool.eq_false_iff.mpr c12
            subst c12
            have H1 : (slices_insertionSortOrdered_uint64.l0 k2 x0_2 a1 a2 (wrap64 (x6_1 + 1))) = some r := by rw [if_neg (show ¬ (false = true) by decide)] at H;exact H
            clear H
            have H := H1
            clear H1
            have H' := Aside0.mk H
            clear H
            try go_wp2
            have n0_ := Aside0.mk (Kd.R_drew HO_0.out)
            have n1_ := Aside0.mk (Kept.drew HK.out)
            have n2_ := Aside0.mk (below_drew1 HB.out)
            clear HO_0
            clear HK
            clear HB
            have HO_0 := n0_
            have HK := n1_
            have HB := n2_
            clear n0_ n1_ n2_
            obtain ⟨Ao21,co21,eo21⟩ := Kd.R_slice HO_0.out
            (first|subst eo21|(injection eo21 with f1_ f2_ f3_;have f4_ := f1_.symm;have f5_ := f3_.symm;clear f1_ f2_ f3_;subst f4_;subst f5_))
            have p153 : 0 ≤ (x7_2 : Int) := of_decide_eq_true (by first|(with_reducible assumption)|assumption)
            have q153 : x7_2 < (x0_2.length : Int) := of_decide_eq_true (by first|(with_reducible assumption)|assumption)
            obtain ⟨ad153,e153,hx153_0⟩ := Kd.at_int (Kd.R_reads' HO_0.out).2.2 x7_2 p153 q153
            cases e153
            replace p153 := eq_true p153
            replace q153 := eq_true q153
            have p154 : 0 ≤ ((ji8) : Int) := of_decide_eq_true (by first|(with_reducible assumption)|assumption)
            have q154 : (ji8) < (x0_2.length : Int) := of_decide_eq_true (by first|(with_reducible assumption)|assumption)
            obtain ⟨ad154,e154,hx154_0⟩ := Kd.at_int (Kd.R_reads' HO_0.out).2.2 (ji8) p154 q154
            obtain rfl : ad153 = ad154 := (by injection e154)
            replace p154 := eq_true p154
            replace q154 := eq_true q154
            refine start_ (n := 15) (S := fun w' => w'.cell? (ad153.add (x7_2).toNat) = some (.int .u64 (rd x0_2 x7_2)) ∧ w'.cell? (ad153.add ((ji8)).toNat) = some (.int .u64 (rd x0_2 (ji8)))) (ds := []) #[false,false,false,false,false,false,false,false,false,false,false,false,false,false,false] (by kernel_rfl) rfl rfl ⟨hx153_0,hx154_0⟩ (fun hHeld => ?_);refine with_tabW slices_insertionSortOrdered_uint64.tab4 slices_insertionSortOrdered_uint64.bits4 (fun HT_ HW_ => ?_)
            generalize wr.drew = w20 at HO_0 HK HB hx153_0 hx154_0 hHeld ⊢
            refine pure_ (i := 0) (N := some 16) (v := ?_) (a' := ?_) #[true,false,false,false,false,false,false,false,false,false,false,false,false,false,false] rfl rfl (any_of HT_.out (by kernel_rfl)) (fun _ _ _ h => h) (Or.inl ⟨by rfl,?_⟩) ?_ ?_
            rotate_left
            ·intro w'
             go_simp
             with_reducible rfl
            rotate_left
            ·simp only [Act.put,List.setIfInBounds_toArray,List.set_cons_zero,List.set_cons_succ,i64_w,i32_w]
             rfl
            refine pure_ (i := 1) (N := some 17) (v := ?_) (a' := ?_) #[true,true,false,false,false,false,false,false,false,false,false,false,false,false,false] rfl rfl (any_of HT_.out (by kernel_rfl)) (fun _ _ _ h => h) (Or.inl ⟨by rfl,?_⟩) ?_ ?_
            rotate_left
            ·intro w'
             go_simp
             with_reducible rfl
            rotate_left
            ·simp only [Act.put,List.setIfInBounds_toArray,List.set_cons_zero,List.set_cons_succ,i64_w,i32_w]
             rfl
            refine pure_ (i := 2) (N := some 18) (v := ?_) (a' := ?_) #[true,true,true,false,false,false,false,false,false,false,false,false,false,false,false] rfl rfl (any_of HT_.out (by kernel_rfl)) (fun _ _ _ h => h) (Or.inl ⟨by rfl,?_⟩) ?_ ?_
            rotate_left
            ·intro w'
             go_simp
             with_reducible rfl
            rotate_left
            ·simp only [Act.put,List.setIfInBounds_toArray,List.set_cons_zero,List.set_cons_succ,i64_w,i32_w]
             rfl
            refine pure_ (i := 3) (N := some 19) (v := ?_) (a' := ?_) #[true,true,true,true,false,false,false,false,false,false,false,false,false,false,false] rfl rfl (any_of HT_.out (by kernel_rfl)) (fun _ _ _ h => h) (Or.inl ⟨by rfl,?_⟩) ?_ ?_
            rotate_left
            ·intro w'
             go_simp
             with_reducible rfl
            rotate_left
            ·simp only [Act.put,List.setIfInBounds_toArray,List.set_cons_zero,List.set_cons_succ,i64_w,i32_w]
             rfl
            refine pure_ (i := 4) (N := some 20) (v := ?_) (a' := ?_) #[true,true,true,true,true,false,false,false,false,false,false,false,false,false,false] rfl rfl (any_of HT_.out (by kernel_rfl)) (fun _ _ _ h => h) (Or.inl ⟨by rfl,?_⟩) ?_ ?_
            rotate_left
            ·intro w'
             go_simp
             with_reducible rfl
            rotate_left
            ·simp only [Act.put,List.setIfInBounds_toArray,List.set_cons_zero,List.set_cons_succ,i64_w,i32_w]
             rfl
            refine pure_ (i := 5) (N := some 21) (v := ?_) (a' := ?_) #[true,true,true,true,true,true,false,false,false,false,false,false,false,false,false] rfl rfl (any_of HT_.out (by kernel_rfl)) (fun _ _ _ h => h) (Or.inl ⟨by rfl,?_⟩) ?_ ?_
            rotate_left
            ·intro w'
             go_simp
             with_reducible rfl
            rotate_left
            ·simp only [Act.put,List.setIfInBounds_toArray,List.set_cons_zero,List.set_cons_succ,i64_w,i32_w]
             rfl
            refine pure_ (i := 6) (N := some 22) (v := ?_) (a' := ?_) #[true,true,true,true,true,true,true,false,false,false,false,false,false,false,false] rfl rfl (any_of HT_.out (by kernel_rfl)) (fun _ _ _ h => h) (Or.inl ⟨by rfl,?_⟩) ?_ ?_
            rotate_left
            ·intro w'
             go_simp
             with_reducible rfl
            rotate_left
            ·simp only [Act.put,List.setIfInBounds_toArray,List.set_cons_zero,List.set_cons_succ,i64_w,i32_w]
             rfl
            refine pure_ (i := 8) (N := some 24) (v := ?_) (a' := ?_) #[true,true,true,true,true,true,true,false,true,false,false,false,false,false,false] rfl rfl (any_of HT_.out (by kernel_rfl)) (fun _ _ _ h => h) (Or.inl ⟨by rfl,?_⟩) ?_ ?_
            rotate_left
            ·intro w'
             go_simp
             with_reducible rfl
            rotate_left
            ·simp only [Act.put,List.setIfInBounds_toArray,List.set_cons_zero,List.set_cons_succ,i64_w,i32_w]
             rfl
            refine pure_ (i := 9) (N := some 25) (v := ?_) (a' := ?_) #[true,true,true,true,true,true,true,false,true,true,false,false,false,false,false] rfl rfl (any_of HT_.out (by kernel_rfl)) (fun _ _ _ h => h) (Or.inl ⟨by rfl,?_⟩) ?_ ?_
            rotate_left
            ·intro w'
             go_simp
             with_reducible rfl
            rotate_left
            ·simp only [Act.put,List.setIfInBounds_toArray,List.set_cons_zero,List.set_cons_succ,i64_w,i32_w]
             rfl
            refine pure_ (i := 10) (N := some 26) (v := ?_) (a' := ?_) #[true,true,true,true,true,true,true,false,true,true,true,false,false,false,false] rfl rfl (any_of HT_.out (by kernel_rfl)) (fun _ _ _ h => h) (Or.inl ⟨by rfl,?_⟩) ?_ ?_
            rotate_left
            ·intro w'
             go_simp
             with_reducible rfl
            rotate_left
            ·simp only [Act.put,List.setIfInBounds_toArray,List.set_cons_zero,List.set_cons_succ,i64_w,i32_w]
             rfl
            refine pure_ (i := 11) (N := some 27) (v := ?_) (a' := ?_) #[true,true,true,true,true,true,true,false,true,true,true,true,false,false,false] rfl rfl (any_of HT_.out (by kernel_rfl)) (fun _ _ _ h => h) (Or.inl ⟨by rfl,?_⟩) ?_ ?_
            rotate_left
            ·intro w'
             go_simp
             with_reducible rfl
            rotate_left
            ·simp only [Act.put,List.setIfInBounds_toArray,List.set_cons_zero,List.set_cons_succ,i64_w,i32_w]
             rfl
            refine take_ (i := 7) (N := some 23) (v := ?_) (a' := ?_) #[true,true,true,true,true,true,true,true,true,true,true,true,false,false,false] rfl rfl (take_ofW HT_.out HW_.out (by kernel_rfl)) (fun _ _ _ h => h) (Or.inl ⟨by rfl,?_⟩) hHeld ?_ ?_
            rotate_left
            ·rintro w' ⟨s0,s1⟩
             go_simp
             with_reducible rfl
            rotate_left
            ·simp only [Act.put,List.setIfInBounds_toArray,List.set_cons_zero,List.set_cons_succ,i64_w,i32_w]
             rfl
            refine take_ (i := 12) (N := some 28) (v := ?_) (a' := ?_) #[true,true,true,true,true,true,true,true,true,true,true,true,true,false,false] rfl rfl (take_ofW HT_.out HW_.out (by kernel_rfl)) (fun _ _ _ h => h) (Or.inl ⟨by rfl,?_⟩) hHeld ?_ ?_
            rotate_left
            ·rintro w' ⟨s0,s1⟩
             go_simp
             with_reducible rfl
            rotate_left
            ·simp only [Act.put,List.setIfInBounds_toArray,List.set_cons_zero,List.set_cons_succ,i64_w,i32_w]
             rfl
            refine one_ (i := 13) (N := some 29) #[true,true,true,true,true,true,true,true,true,true,true,true,true,true,false] rfl rfl (one_of HT_.out (by kernel_rfl)) (by decide) (fun K hK => ?_)
            refine goes_ Tryd.func85 (by kernel_rfl) rfl #[.int .u64 (rd x0_2 x7_2),.int .u64 (rd x0_2 (ji8))] (by rfl) rfl rfl (by (try simp only [List.map_toArray,List.map_cons,List.map_nil]);first|done|(simp only [hji8];rfl)|rfl|(simp only [List.length_drop,List.length_take];rfl)) ?_
            with_reducible refine (cmp_Less_uint64.calls (rd x0_2 x7_2) (rd x0_2 (ji8)) false _ A11.out).mono ?_
            rintro e w' ⟨rfl,⟨nd,rfl⟩⟩
            refine ⟨_,rfl,?_⟩
            refine hK.out _ _ ⟨hHeld.1,hHeld.2⟩ (fun hHeld => ?_)
            clear hK K
            refine norm_ (a' := ?_) ?_ ?_
            rotate_left
            ·show Act.put _ (some 29) _ = _
             simp only [Act.put,List.setIfInBounds_toArray,List.set_cons_zero,List.set_cons_succ,i64_w,i32_w]
             rfl
            refine pure_ (i := 14) (N := some 30) (v := ?_) (a' := ?_) #[true,true,true,true,true,true,true,true,true,true,true,true,true,true,true] rfl rfl (any_of HT_.out (by kernel_rfl)) (fun _ _ _ h => h) (Or.inl ⟨by rfl,?_⟩) ?_ ?_
            rotate_left
            ·intro w'
             go_simp
             with_reducible rfl
            rotate_left
            ·simp only [Act.put,List.setIfInBounds_toArray,List.set_cons_zero,List.set_cons_succ,i64_w,i32_w]
             rfl
            refine done_ (done_of HT_.out (by kernel_rfl)) ?_
            try go_wp2
            go_roundg k2
            case measure => have := HK1.out;have := HK2.out;omega
            case rel => exact ⟨(x0_2),(wrap64 (x6_1 + 1)),(by first|rfl|(simp;done)|(simp [*];done)),H',⟨by have := HK1.out;have := HK2.out;omega⟩,⟨by (with_reducible repeat (first|apply Kd.R_alloc|apply Kd.R_drewN|apply Kd.R_drew));exact HO_0.out⟩,⟨by repeat (first|(with_reducible first|exact HK.out|apply Kept.alloc|apply Kept.drewN|apply Kept.drew)|exact HK.out)⟩,⟨by repeat (first|(with_reducible first|exact HB.out|apply below_alloc|apply pw_below_drewN|apply below_drew1)|exact HB.out)⟩⟩
          ·rw [if_neg c10] at H
           exact absurd H (by simp)
         ·rw [if_neg c9] at H
          exact absurd H (by simp)
        ·rw [if_neg c7] at H
         exact absurd H (by simp)
       ·rw [if_neg c6] at H
        exact absurd H (by simp)
      ·rw [if_neg c5] at H
       have c5b0 : decide (a1 < x7_2) = false := decide_eq_false c5
       clear c5
       have H' := Aside0.mk H
       clear H
       try go_wp2
       have n0_ := Aside0.mk (Kd.R_drew HO_0.out)
       have n1_ := Aside0.mk (Kept.drew HK.out)
       have n2_ := Aside0.mk (below_drew1 HB.out)
       clear HO_0
       clear HK
       clear HB
       have HO_0 := n0_
       have HK := n1_
       have HB := n2_
       clear n0_ n1_ n2_
       refine start_ (n := 15) (S := fun w' => True) (ds := []) #[false,false,false,false,false,false,false,false,false,false,false,false,false,false,false] (by kernel_rfl) rfl rfl trivial (fun hHeld => ?_);refine with_tabW slices_insertionSortOrdered_uint64.tab4 slices_insertionSortOrdered_uint64.bits4 (fun HT_ HW_ => ?_)
       generalize wr.drew = w22 at HO_0 HK HB hHeld ⊢
       refine pure_ (i := 0) (N := some 16) (v := ?_) (a' := ?_) #[true,false,false,false,false,false,false,false,false,false,false,false,false,false,false] rfl rfl (any_of HT_.out (by kernel_rfl)) (fun _ _ _ h => h) (Or.inl ⟨by rfl,?_⟩) ?_ ?_
       rotate_left
       ·intro w'
        go_simp
        with_reducible rfl
       rotate_left
       ·simp only [Act.put,List.setIfInBounds_toArray,List.set_cons_zero,List.set_cons_succ,i64_w,i32_w]
        rfl
       refine pure_ (i := 1) (N := some 17) (v := ?_) (a' := ?_) #[true,true,false,false,false,false,false,false,false,false,false,false,false,false,false] rfl rfl (any_of HT_.out (by kernel_rfl)) (fun _ _ _ h => h) (Or.inl ⟨by rfl,?_⟩) ?_ ?_
       rotate_left
       ·intro w'
        go_simp
        with_reducible rfl
       rotate_left
       ·simp only [Act.put,List.setIfInBounds_toArray,List.set_cons_zero,List.set_cons_succ,i64_w,i32_w]
        rfl
       refine pure_ (i := 2) (N := some 18) (v := ?_) (a' := ?_) #[true,true,true,false,false,false,false,false,false,false,false,false,false,false,false] rfl rfl (any_of HT_.out (by kernel_rfl)) (fun _ _ _ h => h) (Or.inl ⟨by rfl,?_⟩) ?_ ?_
       rotate_left
       ·intro w'
        go_simp
        with_reducible rfl
       rotate_left
       ·simp only [Act.put,List.setIfInBounds_toArray,List.set_cons_zero,List.set_cons_succ,i64_w,i32_w]
        rfl
       refine pure_ (i := 3) (N := some 19) (v := ?_) (a' := ?_) #[true,true,true,true,false,false,false,false,false,false,false,false,false,false,false] rfl rfl (any_of HT_.out (by kernel_rfl)) (fun _ _ _ h => h) (Or.inl ⟨by rfl,?_⟩) ?_ ?_
       rotate_left
       ·intro w'
        go_simp
        with_reducible rfl
       rotate_left
       ·simp only [Act.put,List.setIfInBounds_toArray,List.set_cons_zero,List.set_cons_succ,i64_w,i32_w]
        rfl
       refine pure_ (i := 4) (N := some 20) (v := undef) (a' := ?_) #[true,true,true,true,true,false,false,false,false,false,false,false,false,false,false] rfl rfl (any_of HT_.out (by kernel_rfl)) (fun _ _ _ h => h) (Or.inr ⟨by rfl,rfl⟩) ?_ ?_
       rotate_left
       ·simp only [Act.put,List.setIfInBounds_toArray,List.set_cons_zero,List.set_cons_succ,i64_w,i32_w]
        rfl
       refine pure_ (i := 5) (N := some 21) (v := undef) (a' := ?_) #[true,true,true,true,true,true,false,false,false,false,false,false,false,false,false] rfl rfl (any_of HT_.out (by kernel_rfl)) (fun _ _ _ h => h) (Or.inr ⟨by rfl,rfl⟩) ?_ ?_
       rotate_left
       ·simp only [Act.put,List.setIfInBounds_toArray,List.set_cons_zero,List.set_cons_succ,i64_w,i32_w]
        rfl
       refine pure_ (i := 6) (N := some 22) (v := undef) (a' := ?_) #[true,true,true,true,true,true,true,false,false,false,false,false,false,false,false] rfl rfl (any_of HT_.out (by kernel_rfl)) (fun _ _ _ h => h) (Or.inr ⟨by rfl,rfl⟩) ?_ ?_
       rotate_left
       ·simp only [Act.put,List.setIfInBounds_toArray,List.set_cons_zero,List.set_cons_succ,i64_w,i32_w]
        rfl
       refine pure_ (i := 7) (N := some 23) (v := undef) (a' := ?_) #[true,true,true,true,true,true,true,true,false,false,false,false,false,false,false] rfl rfl (any_of HT_.out (by kernel_rfl)) (fun _ _ _ h => h) (Or.inr ⟨by rfl,rfl⟩) ?_ ?_
       rotate_left
       ·simp only [Act.put,List.setIfInBounds_toArray,List.set_cons_zero,List.set_cons_succ,i64_w,i32_w]
        rfl
       refine pure_ (i := 8) (N := some 24) (v := undef) (a' := ?_) #[true,true,true,true,true,true,true,true,true,false,false,false,false,false,false] rfl rfl (any_of HT_.out (by kernel_rfl)) (fun _ _ _ h => h) (Or.inr ⟨by rfl,rfl⟩) ?_ ?_
       rotate_left
       ·simp only [Act.put,List.setIfInBounds_toArray,List.set_cons_zero,List.set_cons_succ,i64_w,i32_w]
        rfl
       refine pure_ (i := 9) (N := some 25) (v := undef) (a' := ?_) #[true,true,true,true,true,true,true,true,true,true,false,false,false,false,false] rfl rfl (any_of HT_.out (by kernel_rfl)) (fun _ _ _ h => h) (Or.inr ⟨by rfl,rfl⟩) ?_ ?_
       rotate_left
       ·simp only [Act.put,List.setIfInBounds_toArray,List.set_cons_zero,List.set_cons_succ,i64_w,i32_w]
        rfl
       refine pure_ (i := 10) (N := some 26) (v := undef) (a' := ?_) #[true,true,true,true,true,true,true,true,true,true,true,false,false,false,false] rfl rfl (any_of HT_.out (by kernel_rfl)) (fun _ _ _ h => h) (Or.inr ⟨by rfl,rfl⟩) ?_ ?_
       rotate_left
       ·simp only [Act.put,List.setIfInBounds_toArray,List.set_cons_zero,List.set_cons_succ,i64_w,i32_w]
        rfl
       refine pure_ (i := 11) (N := some 27) (v := undef) (a' := ?_) #[true,true,true,true,true,true,true,true,true,true,true,true,false,false,false] rfl rfl (any_of HT_.out (by kernel_rfl)) (fun _ _ _ h => h) (Or.inr ⟨by rfl,rfl⟩) ?_ ?_
       rotate_left
       ·simp only [Act.put,List.setIfInBounds_toArray,List.set_cons_zero,List.set_cons_succ,i64_w,i32_w]
        rfl
       refine pure_ (i := 12) (N := some 28) (v := undef) (a' := ?_) #[true,true,true,true,true,true,true,true,true,true,true,true,true,false,false] rfl rfl (any_of HT_.out (by kernel_rfl)) (fun _ _ _ h => h) (Or.inr ⟨by rfl,rfl⟩) ?_ ?_
       rotate_left
       ·simp only [Act.put,List.setIfInBounds_toArray,List.set_cons_zero,List.set_cons_succ,i64_w,i32_w]
        rfl
       refine pure_ (i := 13) (N := some 29) (v := undef) (a' := ?_) #[true,true,true,true,true,true,true,true,true,true,true,true,true,true,false] rfl rfl (any_of HT_.out (by kernel_rfl)) (fun _ _ _ h => h) (Or.inr ⟨by rfl,rfl⟩) ?_ ?_
       rotate_left
       ·simp only [Act.put,List.setIfInBounds_toArray,List.set_cons_zero,List.set_cons_succ,i64_w,i32_w]
        rfl
       refine pure_ (i := 14) (N := some 30) (v := ?_) (a' := ?_) #[true,true,true,true,true,true,true,true,true,true,true,true,true,true,true] rfl rfl (any_of HT_.out (by kernel_rfl)) (fun _ _ _ h => h) (Or.inl ⟨by rfl,?_⟩) ?_ ?_
       rotate_left
       ·intro w'
        go_simp
        with_reducible rfl
       rotate_left
       ·simp only [Act.put,List.setIfInBounds_toArray,List.set_cons_zero,List.set_cons_succ,i64_w,i32_w]
        rfl
       refine done_ (done_of HT_.out (by kernel_rfl)) ?_
       try go_wp2
       go_roundg k2
       case measure => have := HK1.out;have := HK2.out;omega
       case rel => exact ⟨(x0_2),(wrap64 (x6_1 + 1)),(by first|rfl|(simp;done)|(simp [*];done)),H',⟨by have := HK1.out;have := HK2.out;omega⟩,⟨by (with_reducible repeat (first|apply Kd.R_alloc|apply Kd.R_drewN|apply Kd.R_drew));exact HO_0.out⟩,⟨by repeat (first|(with_reducible first|exact HK.out|apply Kept.alloc|apply Kept.drewN|apply Kept.drew)|exact HK.out)⟩,⟨by repeat (first|(with_reducible first|exact HB.out|apply below_alloc|apply pw_below_drewN|apply below_drew1)|exact HB.out)⟩⟩
   ·rw [if_neg c4] at H
    have c4b0 : decide (x6_1 < a2) = false := decide_eq_false c4
    clear c4
    obtain rfl := Option.some.inj H
    go_wp2
    first|go_end0|((try simp only [Exit.inBlock,Exit.then]);refine bodyPost_ret (results_none rfl _ _ _) rfl ?_)
    exact ⟨by first|rfl|(simp [errW_none,errW_some] <;> rfl)|(simp [*,errW_none,errW_some] <;> rfl),by (with_reducible repeat (first|apply Kd.R_alloc|apply Kd.R_drewN|apply Kd.R_drew));exact HO_0.out,by repeat (first|(with_reducible first|exact HB.out|apply below_alloc|apply pw_below_drewN|apply below_drew1)|exact HB.out),by repeat (first|(with_reducible first|exact HK.out|apply Kept.alloc|apply Kept.drewN|apply Kept.drew)|exact HK.out)⟩
end Go.Proofs.YtakaonojfpkhnaaDoor.Pr
end
section
/- Printed by a program of this seat (the kit's printer, with the functions that were proved by hand given to it). What stands here: the functions that the statements reach, as plain functions, and that the Go code computes them. -/
namespace Go.Proofs.YtakaonojfpkhnaaDoor.Pr
open Go.RowKit Go.Proofs.YtakaonojfpkhnaaDoorW.PrintWords Go.Proofs.YtakaonojfpkhnaaDoorW.PrintLast Go.Proofs.YtakaonojfpkhnaaDoorW.PrintMore
attribute [local go_sem] max2_int min2_int max_two min_two max_three min_three max_four min_four   -- for this text's walks alone
set_option linter.unusedVariables false
set_option linter.unusedSimpArgs false

open Go.Proofs.YtakaonojfpkhnaaDoor.Hw
-- NOT PRINTED: function 89 (slices_siftDownOrdered_uint64)

-- NOT PRINTED: function 80 (slices_heapSortOrdered_uint64)

-- NOT PRINTED: function 88 (bits_Len32)

/-! ### bits_Len: function 76 -/
def bits_Len.f (k : Nat) (a0 : Int) : Option (Int) := (bits_Len64.f k a0).bind fun t160 => (some t160)
set_option maxHeartbeats 8000000 in
set_option maxRecDepth 100000 in
theorem bits_Len.calls (k : Nat) (a0 : Int) (r : Int) (w : World) (h : bits_Len.f k a0 = some r) :
  Calls Tryd.prog 76 #[.int .u64 a0] w fun e w' => e = .returned (.int .i64 r) ∧ Drawn0 w w' := by
 have H : ((bits_Len64.f k a0).bind fun t160 => (some t160)) = some r := h
 clear h
 replace H := Option.bind_eq_some_iff.mp H
 obtain ⟨t160,A20,H⟩ := H
 replace H : (some t160) = some r := H
 have A2 := Aside0.mk A20
 clear A20
 obtain rfl := Option.some.inj H
 go_enter Tryd.func76,Tryd.ntmps76
 go_wp2_with (first|((with_reducible refine gate_callee (f := 78) rfl ?_);refine goesL_ (some 7) rfl rfl Tryd.func78 (by kernel_rfl) rfl #[.int .u64 a0] rfl (by (try simp only [List.map_toArray,List.map_cons,List.map_nil]);first|done|rfl|(simp only [List.length_drop,List.length_take];rfl)) ?_;(with_reducible refine (bits_Len64.calls k a0 t160 _ A2.out).mono ?_);rintro e w' ⟨rfl,⟨nd,rfl⟩⟩;refine ⟨_,rfl,?_⟩))
 go_ret
 exact ⟨by first|rfl|(simp;done)|(simp [*];done),by repeat (first|exact Drawn0.refl _|apply Drawn0.step)⟩
-- NOT PRINTED: function 90 (slices_nextPowerOfTwo)

-- NOT PRINTED: function 91 (slices_xorshift_Next)

-- NOT PRINTED: function 81 (slices_breakPatternsOrdered_uint64)

-- NOT PRINTED: function 95 (slices_order2Ordered_uint64)

-- NOT PRINTED: function 93 (slices_medianOrdered_uint64)

-- NOT PRINTED: function 92 (slices_medianAdjacentOrdered_uint64)

-- NOT PRINTED: function 82 (slices_choosePivotOrdered_uint64)

-- NOT PRINTED: function 83 (slices_reverseRangeOrdered_uint64)

-- NOT PRINTED: function 84 (slices_partialInsertionSortOrdered_uint64)

-- NOT PRINTED: function 86 (slices_partitionEqualOrdered_uint64)

-- NOT PRINTED: function 87 (slices_partitionOrdered_uint64)

-- NOT PRINTED: function 75 (slices_pdqsortOrdered_uint64)

-- NOT PRINTED: function 68 (slices_Sort_uint64_uint64)

-- NOT PRINTED: function 69 (slices_Compact_uint64_uint64)

end Go.Proofs.YtakaonojfpkhnaaDoor.Pr
end
