/- The row of the law TapeshiftComplete, out of its plain law and the walk. -/
import Derived.Test.YtejeelpnmdfibaaZComplete1
import Derived.Test.YtejeelpnmdfibaaZComplete4
import Derived.Test.YtejeelpnmdfibaaZComplete5
import Derived.Test.YtejeelpnmdfibaaZComplete3
import Derived.Test.YtejeelpnmdfibaaProg
import Derived.ChangeArms
import Derived.DataReads
import Derived.DataElems
import Derived.ShutString
import Derived.ChangeSame
import Derived.Test.YtejeelpnmdfibaaZComplete0
import Derived.Test.YtejeelpnmdfibaaRows
import Derived.WalkKit
import Derived.ProofKit
import Derived.OpenShut
import Derived.ChangeOld
import Derived.Below
import Derived.SizedLaws
section
/- Printed by a program of this seat (the kit's printer, with the functions that were proved by hand given to it). What stands here: the functions that the statements reach, as plain functions, and that the Go code computes them. -/
namespace Go.Proofs.Ytejeelpnmdfibaa.Pr
open Go.RowKit Go.Proofs.YtejeelpnmdfibaaW.PrintWords Go.Proofs.YtejeelpnmdfibaaW.PrintLast Go.Proofs.YtejeelpnmdfibaaW.PrintMore
attribute [local go_sem] max2_int min2_int max_two min_two max_three min_three max_four min_four   -- for this text's walks alone
set_option linter.unusedVariables false
set_option linter.unusedSimpArgs false

open Go.Proofs.Ytejeelpnmdfibaa.Hw
/-! ### privitylaw43_TapeshiftComplete: function 5 -/
mutual
def privitylaw43_TapeshiftComplete.j0 : Nat → Int → List Int → List Int → List Int → List Int → List (List Int) → List (List Int) → Bool → Int → Int → Int → List Int → Int → Int → List Int → Option (Bool)
 | 0,_,_,_,_,_,_,_,_,_,_,_,_,_,_,_ => none
 | k + 1,x5,x6,x7,x8,x9,x10,x12,x55,x420000,x420001,x420002,x420003,x420004,x420005,x420006 => if x55 = true then (some false) else ((privityref12_ExtendCoalition.f k x420000 x420001 x420002 x420003).bind fun t442 => (privitylaw43_TapeshiftComplete.l0 k x5 x6 x7 x8 x9 x10 x12 t442 0 x420000 x420001 x420002 x420003 x420004 x420005 x420006))
def privitylaw43_TapeshiftComplete.l0 : Nat → Int → List Int → List Int → List Int → List Int → List (List Int) → List (List Int) → List Int → Int → Int → Int → Int → List Int → Int → Int → List Int → Option (Bool)
 | 0,_,_,_,_,_,_,_,_,_,_,_,_,_,_,_,_ => none
 | k + 1,x5,x6,x7,x8,x9,x10,x12,x14,x15,x420000,x420001,x420002,x420003,x420004,x420005,x420006 => if x15 < (x14.length : Int) then (if 0 ≤ x15 then ((privityref10_Row.f k x5 x10 (IntKind.u64.wrap (rd x14 x15))).bind fun t446 => ((privityref10_Row.f k x5 x12 (IntKind.u64.wrap (rd x14 x15))).bind fun t450 => ((privityref14_Words.f k t446 t450).bind fun t453 => (if t453 = true then (privitylaw43_TapeshiftComplete.l0 k x5 x6 x7 x8 x9 x10 x12 x14 (wrap64 (x15 + 1)) x420000 x420001 x420002 x420003 x420004 x420005 x420006) else ((privitylaw43_awake.f k).bind fun t454 => (some t454)))))) else (none)) else (if 0 < (x8.length : Int) then (if 0 < (x6.length : Int) then ((privityref01_Sub.f x5 (rd x8 0) (rd x6 0)).bind fun t457 => ((tapeshift_Sharing.f k x420000 x420001 x420002 x420003 t457 x6 x7).bind fun bt458 => ((privitylaw43_awake.f k).bind fun t464 => (if t464 = true then ((privityref14_Words.f k x8 bt458.1).bind fun t465 => (if t465 = true then ((privityref14_Words.f k x9 bt458.2).bind fun t466 => (some t466)) else (some false))) else (some false))))) else (none)) else (none))
end
def privitylaw43_TapeshiftComplete.f (k : Nat) (a0_0 : Int) (a0_1 : Int) (a0_2 : Int) (l0_3 : List Int) (a0_4 : Int) (a0_5 : Int) (l0_6 : List Int) (l1 : List Int) : Option (Bool) := (privitylaw43_may.f k a0_0 a0_1 a0_2 l0_3 a0_4 a0_5 l0_6).bind fun t420 => (if t420 = true then ((privitylaw43_one.f k a0_0 a0_1 a0_2 l0_3 a0_4 a0_5 l0_6).bind fun bt422 => ((privitylaw43_one.f k a0_0 a0_1 a0_2 ([] : List Int) 0 0 l1).bind fun bt428 => ((privityref10_New.f bt422.1 bt422.2).bind fun bt434 => ((privityref10_New.f bt428.1 bt428.2).bind fun bt438 => (if bt434.2 = 0 then (privitylaw43_TapeshiftComplete.j0 k a0_0 bt422.1 bt422.2 bt428.1 bt428.2 bt434.1 bt438.1 (bt438.2 != 0) a0_0 a0_1 a0_2 l0_3 a0_4 a0_5 l0_6) else (privitylaw43_TapeshiftComplete.j0 k a0_0 bt422.1 bt422.2 bt428.1 bt428.2 bt434.1 bt438.1 true a0_0 a0_1 a0_2 l0_3 a0_4 a0_5 l0_6)))))) else ((privitylaw43_awake.f k).bind fun t421 => (some t421)))
def privitylaw43_TapeshiftComplete.T14 : Bool × List (List Nat × List Nat) := (true, [([], []), ([], []), ([], []), ([], []), ([2, 3], [2, 3]), ([4], [4]), ([5], [5]), ([0, 1, 6], [0, 1, 6]), ([], []), ([], []), ([], []), ([], []), ([10, 11], [10, 11]), ([12], [12]), ([13], [13]), ([8, 9, 14, 7], [8, 9, 14]), ([7, 15, 15], [7, 15]), ([16], [16])])
def privitylaw43_TapeshiftComplete.B14 : List Nat := [0, 0, 0, 0, 12, 28, 60, 127, 0, 0, 0, 0, 3072, 7168, 15360, 32767, 65535, 131071]
theorem privitylaw43_TapeshiftComplete.tab14 : rtab .any (opsOf Try.f5 14) = privitylaw43_TapeshiftComplete.T14 := by kernel_rfl
theorem privitylaw43_TapeshiftComplete.bits14 : waitsOk privitylaw43_TapeshiftComplete.T14.2 privitylaw43_TapeshiftComplete.B14 = true := by kernel_rfl
def privitylaw43_TapeshiftComplete.T16 : Bool × List (List Nat × List Nat) := (true, [([], []), ([0], [0]), ([], []), ([2], [2]), ([], []), ([], []), ([5], [5]), ([6], [6]), ([], []), ([8], [8]), ([9], [9]), ([4, 7, 10], [4, 7, 10]), ([], []), ([], []), ([1, 3, 11, 12, 13, 11], [1, 3, 11, 12, 13]), ([14], [14]), ([15], [15]), ([15], [15]), ([16, 14, 0, 1, 2, 3, 4, 5, 6, 7, 8, 9, 10, 11, 12, 13, 14, 15, 16], [16]), ([17, 18, 0, 1, 2, 3, 4, 5, 6, 7, 8, 9, 10, 11, 12, 13, 14, 15, 16, 17, 18], [17])])
def privitylaw43_TapeshiftComplete.B16 : List Nat := [0, 1, 0, 4, 0, 0, 32, 96, 0, 256, 768, 2032, 0, 0, 16383, 32767, 65535, 65535, 131071, 524287]
theorem privitylaw43_TapeshiftComplete.tab16 : rtab .any (opsOf Try.f5 16) = privitylaw43_TapeshiftComplete.T16 := by kernel_rfl
theorem privitylaw43_TapeshiftComplete.bits16 : waitsOk privitylaw43_TapeshiftComplete.T16.2 privitylaw43_TapeshiftComplete.B16 = true := by kernel_rfl
set_option maxHeartbeats 8000000 in
set_option maxRecDepth 100000 in
theorem privitylaw43_TapeshiftComplete.calls (k : Nat) (a0_0 : Int) (a0_1 : Int) (a0_2 : Int) (A0_3 : Option Addr) (c0_3 : Nat) (l0_3 : List Int) (a0_4 : Int) (a0_5 : Int) (A0_6 : Option Addr) (c0_6 : Nat) (l0_6 : List Int) (A1 : Option Addr) (c1 : Nat) (l1 : List Int) (r : Bool) (w : World) (hr0_3 : Kd.C (Kd.int .i64) w A0_3 l0_3.length l0_3) (hc0_3 : l0_3.length ≤ c0_3) (hr0_6 : Kd.C (Kd.int .u64) w A0_6 l0_6.length l0_6) (hc0_6 : l0_6.length ≤ c0_6) (hr1 : Kd.C (Kd.int .u64) w A1 l1.length l1) (hc1 : l1.length ≤ c1) (hr1_ : r = true) (h : privitylaw43_TapeshiftComplete.f k a0_0 a0_1 a0_2 l0_3 a0_4 a0_5 l0_6 l1 = some r) :
  Calls Try.prog 5 #[.agg #[.int .u64 a0_0,.int .i64 a0_1,.int .i64 a0_2,.slice A0_3 l0_3.length c0_3,.int .u64 a0_4,.int .u64 a0_5,.slice A0_6 l0_6.length c0_6],.slice A1 l1.length c1] w fun e w' => e = .returned (.bool r) ∧ Below w.heap.size w w' := by
 have HRT_ := Aside0.mk hr1_
 clear hr1_
 have hu28 := Try.underlying28
 have hu24 := Try.underlying24
 have HR0_3 := Aside0.mk hr0_3
 have HC0_3 := Aside0.mk hc0_3
 clear hr0_3 hc0_3
 have HR0_6 := Aside0.mk hr0_6
 have HC0_6 := Aside0.mk hc0_6
 clear hr0_6 hc0_6
 have HR1 := Aside0.mk hr1
 have HC1 := Aside0.mk hc1
 clear hr1 hc1
 have HB := Aside0.mk (Below.refl w.heap.size w)
 have H : ((privitylaw43_may.f k a0_0 a0_1 a0_2 l0_3 a0_4 a0_5 l0_6).bind fun t420 => (if t420 = true then ((privitylaw43_one.f k a0_0 a0_1 a0_2 l0_3 a0_4 a0_5 l0_6).bind fun bt422 => ((privitylaw43_one.f k a0_0 a0_1 a0_2 ([] : List Int) 0 0 l1).bind fun bt428 => ((privityref10_New.f bt422.1 bt422.2).bind fun bt434 => ((privityref10_New.f bt428.1 bt428.2).bind fun bt438 => (if bt434.2 = 0 then (privitylaw43_TapeshiftComplete.j0 k a0_0 bt422.1 bt422.2 bt428.1 bt428.2 bt434.1 bt438.1 (bt438.2 != 0) a0_0 a0_1 a0_2 l0_3 a0_4 a0_5 l0_6) else (privitylaw43_TapeshiftComplete.j0 k a0_0 bt422.1 bt422.2 bt428.1 bt428.2 bt434.1 bt438.1 true a0_0 a0_1 a0_2 l0_3 a0_4 a0_5 l0_6)))))) else ((privitylaw43_awake.f k).bind fun t421 => (some t421)))) = some r := h
 clear h
 replace H := Option.bind_eq_some_iff.mp H
 obtain ⟨t420,A30,H⟩ := H
 replace H : (if t420 = true then ((privitylaw43_one.f k a0_0 a0_1 a0_2 l0_3 a0_4 a0_5 l0_6).bind fun bt422 => ((privitylaw43_one.f k a0_0 a0_1 a0_2 ([] : List Int) 0 0 l1).bind fun bt428 => ((privityref10_New.f bt422.1 bt422.2).bind fun bt434 => ((privityref10_New.f bt428.1 bt428.2).bind fun bt438 => (if bt434.2 = 0 then (privitylaw43_TapeshiftComplete.j0 k a0_0 bt422.1 bt422.2 bt428.1 bt428.2 bt434.1 bt438.1 (bt438.2 != 0) a0_0 a0_1 a0_2 l0_3 a0_4 a0_5 l0_6) else (privitylaw43_TapeshiftComplete.j0 k a0_0 bt422.1 bt422.2 bt428.1 bt428.2 bt434.1 bt438.1 true a0_0 a0_1 a0_2 l0_3 a0_4 a0_5 l0_6)))))) else ((privitylaw43_awake.f k).bind fun t421 => (some t421))) = some r := H
 have A3 := Aside0.mk A30
 clear A30
 by_cases c4 : t420 = true
 ·subst c4
  have H1 : ((privitylaw43_one.f k a0_0 a0_1 a0_2 l0_3 a0_4 a0_5 l0_6).bind fun bt422 => ((privitylaw43_one.f k a0_0 a0_1 a0_2 ([] : List Int) 0 0 l1).bind fun bt428 => ((privityref10_New.f bt422.1 bt422.2).bind fun bt434 => ((privityref10_New.f bt428.1 bt428.2).bind fun bt438 => (if bt434.2 = 0 then (privitylaw43_TapeshiftComplete.j0 k a0_0 bt422.1 bt422.2 bt428.1 bt428.2 bt434.1 bt438.1 (bt438.2 != 0) a0_0 a0_1 a0_2 l0_3 a0_4 a0_5 l0_6) else (privitylaw43_TapeshiftComplete.j0 k a0_0 bt422.1 bt422.2 bt428.1 bt428.2 bt434.1 bt438.1 true a0_0 a0_1 a0_2 l0_3 a0_4 a0_5 l0_6)))))) = some r := by rw [if_pos rfl] at H;exact H
  clear H
  have H := H1
  clear H1
  replace H := Option.bind_eq_some_iff.mp H
  obtain ⟨⟨t422,t425⟩,A50,H⟩ := H
  replace H : ((privitylaw43_one.f k a0_0 a0_1 a0_2 ([] : List Int) 0 0 l1).bind fun bt428 => ((privityref10_New.f t422 t425).bind fun bt434 => ((privityref10_New.f bt428.1 bt428.2).bind fun bt438 => (if bt434.2 = 0 then (privitylaw43_TapeshiftComplete.j0 k a0_0 t422 t425 bt428.1 bt428.2 bt434.1 bt438.1 (bt438.2 != 0) a0_0 a0_1 a0_2 l0_3 a0_4 a0_5 l0_6) else (privitylaw43_TapeshiftComplete.j0 k a0_0 t422 t425 bt428.1 bt428.2 bt434.1 bt438.1 true a0_0 a0_1 a0_2 l0_3 a0_4 a0_5 l0_6))))) = some r := H
  have A5 := Aside0.mk A50
  clear A50
  replace H := Option.bind_eq_some_iff.mp H
  obtain ⟨⟨t428,t431⟩,A60,H⟩ := H
  replace H : ((privityref10_New.f t422 t425).bind fun bt434 => ((privityref10_New.f t428 t431).bind fun bt438 => (if bt434.2 = 0 then (privitylaw43_TapeshiftComplete.j0 k a0_0 t422 t425 t428 t431 bt434.1 bt438.1 (bt438.2 != 0) a0_0 a0_1 a0_2 l0_3 a0_4 a0_5 l0_6) else (privitylaw43_TapeshiftComplete.j0 k a0_0 t422 t425 t428 t431 bt434.1 bt438.1 true a0_0 a0_1 a0_2 l0_3 a0_4 a0_5 l0_6)))) = some r := H
  have A6 := Aside0.mk A60
  clear A60
  replace H := Option.bind_eq_some_iff.mp H
  obtain ⟨⟨t434,t435⟩,A70,H⟩ := H
  replace H : ((privityref10_New.f t428 t431).bind fun bt438 => (if t435 = 0 then (privitylaw43_TapeshiftComplete.j0 k a0_0 t422 t425 t428 t431 t434 bt438.1 (bt438.2 != 0) a0_0 a0_1 a0_2 l0_3 a0_4 a0_5 l0_6) else (privitylaw43_TapeshiftComplete.j0 k a0_0 t422 t425 t428 t431 t434 bt438.1 true a0_0 a0_1 a0_2 l0_3 a0_4 a0_5 l0_6))) = some r := H
  have A7 := Aside0.mk A70
  clear A70
  replace H := Option.bind_eq_some_iff.mp H
  obtain ⟨⟨t438,t439⟩,A80,H⟩ := H
  replace H : (if t435 = 0 then (privitylaw43_TapeshiftComplete.j0 k a0_0 t422 t425 t428 t431 t434 t438 (t439 != 0) a0_0 a0_1 a0_2 l0_3 a0_4 a0_5 l0_6) else (privitylaw43_TapeshiftComplete.j0 k a0_0 t422 t425 t428 t431 t434 t438 true a0_0 a0_1 a0_2 l0_3 a0_4 a0_5 l0_6)) = some r := H
  have A8 := Aside0.mk A80
  clear A80
  have HC9 := Aside0.mk H
  clear H
  go_enter Try.func5,Try.ntmps5
  go_upto_region 8 with (first|((with_reducible refine gate_dst (N := 2) rfl ?_);refine box_event ?hg (N := 2) ?hd (cs := #[.int .u64 a0_0,.int .i64 a0_1,.int .i64 a0_2,.slice A0_3 l0_3.length c0_3,.int .u64 a0_4,.int .u64 a0_5,.slice A0_6 l0_6.length c0_6]) (t := 28) ?hr ?_;(case hd => rfl);(case hg => rfl);(case hr => first|(go_simp;done)|(go_simp;rfl));intro gb419 hg w10 hbox hb;have n0_ := Aside0.mk (below_step (by repeat (first|(with_reducible first|exact HB.out|apply below_alloc|apply pw_below_drewN|apply below_drew1)|exact HB.out)) hb);have n1_ := Aside0.mk (hbox);have n2_ := Aside0.mk ((by rw [hg];exact (below_size (by repeat (first|(with_reducible first|exact HB.out|apply below_alloc|apply pw_below_drewN|apply below_drew1)|exact HB.out))) : w.heap.size ≤ gb419));have n3_ := Aside0.mk ((by rw [hg];exact (below_size (by repeat (first|(with_reducible first|exact HB.out|apply below_alloc|apply pw_below_drewN|apply below_drew1)|exact HB.out))) : w.heap.size ≤ gb419));clear HB;have HB := n0_;have BK419 := n1_;have GW419 := n2_;have GE419 := n3_;clear n0_ n1_ n2_ n3_;clear hb hbox hg;have hcz11_0 : w10.cell? ⟨gb419,0,none⟩ = some (.int .u64 a0_0) := (blk_cell BK419.out 0).trans rfl;have hcz11_1 : w10.cell? ⟨gb419,1,none⟩ = some (.int .i64 a0_1) := (blk_cell BK419.out 1).trans rfl;have hcz11_2 : w10.cell? ⟨gb419,2,none⟩ = some (.int .i64 a0_2) := (blk_cell BK419.out 2).trans rfl;have hcz11_3 : w10.cell? ⟨gb419,3,none⟩ = some (.slice A0_3 l0_3.length c0_3) := (blk_cell BK419.out 3).trans rfl;have hcz11_4 : w10.cell? ⟨gb419,4,none⟩ = some (.int .u64 a0_4) := (blk_cell BK419.out 4).trans rfl;have hcz11_5 : w10.cell? ⟨gb419,5,none⟩ = some (.int .u64 a0_5) := (blk_cell BK419.out 5).trans rfl;have hcz11_6 : w10.cell? ⟨gb419,6,none⟩ = some (.slice A0_6 l0_6.length c0_6) := (blk_cell BK419.out 6).trans rfl;have hfz11_0 := blk_frozen BK419.out 0;have hfz11_1 := blk_frozen BK419.out 1;have hfz11_2 := blk_frozen BK419.out 2;have hfz11_3 := blk_frozen BK419.out 3;have hfz11_4 := blk_frozen BK419.out 4;have hfz11_5 := blk_frozen BK419.out 5;have hfz11_6 := blk_frozen BK419.out 6)|((with_reducible refine gate_callee (f := 12) rfl ?_);refine goesL_ (some 19) rfl rfl Try.func12 (by kernel_rfl) rfl #[.agg #[.int .u64 a0_0,.int .i64 a0_1,.int .i64 a0_2,.slice A0_3 l0_3.length c0_3,.int .u64 a0_4,.int .u64 a0_5,.slice A0_6 l0_6.length c0_6]] rfl (by (try simp only [List.map_toArray,List.map_cons,List.map_nil]);first|done|rfl|(simp only [List.length_drop,List.length_take];rfl)) ?_;(with_reducible refine (privitylaw43_may.calls k a0_0 a0_1 a0_2 _ _ l0_3 a0_4 a0_5 _ _ l0_6 true _ ?side1 ?side2 ?side3 ?side4 A3.out).mono ?_);(case side1 => repeat (first|exact (Kd.C_below HR0_3.out HB.out)|(with_reducible refine Kd.C_alloc ?_ _)|(with_reducible refine Kd.C_drewN ?_ _)|(with_reducible refine Kd.C_drew ?_)));(case side2 => exact HC0_3.out);(case side3 => repeat (first|exact (Kd.C_below HR0_6.out HB.out)|(with_reducible refine Kd.C_alloc ?_ _)|(with_reducible refine Kd.C_drewN ?_ _)|(with_reducible refine Kd.C_drew ?_)));(case side4 => exact HC0_6.out);rintro e w12 ⟨rfl,hb⟩;refine ⟨_,rfl,?_⟩;have n0_ := Aside0.mk (blk_below (g := gb419) (o := .cells #[.int .u64 a0_0,.int .i64 a0_1,.int .i64 a0_2,.slice A0_3 l0_3.length c0_3,.int .u64 a0_4,.int .u64 a0_5,.slice A0_6 l0_6.length c0_6] 28 (0,0)) (by (with_reducible repeat (first|refine blk_drewN ?_ _|refine blk_drew ?_|refine blk_alloc ?_ _));exact BK419.out) hb);have n1_ := Aside0.mk (below_step (by repeat (first|(with_reducible first|exact HB.out|apply below_alloc|apply pw_below_drewN|apply below_drew1|refine below_set ?_ GE419.out)|exact HB.out)) hb);clear BK419;clear HB;have BK419 := n0_;have HB := n1_;clear n0_ n1_;(try clear hb);(try clear hb2);(try clear hk);(try clear hi);have hcz13_0 : w12.cell? ⟨gb419,0,none⟩ = some (.int .u64 a0_0) := (blk_cell BK419.out 0).trans rfl;have hcz13_1 : w12.cell? ⟨gb419,1,none⟩ = some (.int .i64 a0_1) := (blk_cell BK419.out 1).trans rfl;have hcz13_2 : w12.cell? ⟨gb419,2,none⟩ = some (.int .i64 a0_2) := (blk_cell BK419.out 2).trans rfl;have hcz13_3 : w12.cell? ⟨gb419,3,none⟩ = some (.slice A0_3 l0_3.length c0_3) := (blk_cell BK419.out 3).trans rfl;have hcz13_4 : w12.cell? ⟨gb419,4,none⟩ = some (.int .u64 a0_4) := (blk_cell BK419.out 4).trans rfl;have hcz13_5 : w12.cell? ⟨gb419,5,none⟩ = some (.int .u64 a0_5) := (blk_cell BK419.out 5).trans rfl;have hcz13_6 : w12.cell? ⟨gb419,6,none⟩ = some (.slice A0_6 l0_6.length c0_6) := (blk_cell BK419.out 6).trans rfl;have hfz13_0 := blk_frozen BK419.out 0;have hfz13_1 := blk_frozen BK419.out 1;have hfz13_2 := blk_frozen BK419.out 2;have hfz13_3 := blk_frozen BK419.out 3;have hfz13_4 := blk_frozen BK419.out 4;have hfz13_5 := blk_frozen BK419.out 5;have hfz13_6 := blk_frozen BK419.out 6)|((with_reducible refine gate_callee (f := 14) rfl ?_);refine goesL_ (some 27) rfl rfl Try.func14 (by kernel_rfl) rfl #[.agg #[.int .u64 a0_0,.int .i64 a0_1,.int .i64 a0_2,.slice A0_3 l0_3.length c0_3,.int .u64 a0_4,.int .u64 a0_5,.slice A0_6 l0_6.length c0_6]] rfl (by (try simp only [List.map_toArray,List.map_cons,List.map_nil]);first|done|rfl|(simp only [List.length_drop,List.length_take];rfl)) ?_;(with_reducible refine (privitylaw43_one.calls k a0_0 a0_1 a0_2 _ _ l0_3 a0_4 a0_5 _ _ l0_6 t422 t425 _ ?side1 ?side2 ?side3 ?side4 A5.out).mono ?_);(case side1 => repeat (first|exact (Kd.C_below HR0_3.out HB.out)|(with_reducible refine Kd.C_alloc ?_ _)|(with_reducible refine Kd.C_drewN ?_ _)|(with_reducible refine Kd.C_drew ?_)));(case side2 => exact HC0_3.out);(case side3 => repeat (first|exact (Kd.C_below HR0_6.out HB.out)|(with_reducible refine Kd.C_alloc ?_ _)|(with_reducible refine Kd.C_drewN ?_ _)|(with_reducible refine Kd.C_drew ?_)));(case side4 => exact HC0_6.out);rintro e w14 ⟨v423,v426,rfl,ho0,ho1,hb⟩;refine ⟨_,rfl,?_⟩;have n0_ := Aside0.mk (Kd.R_lower ho0 (below_size (by repeat (first|(with_reducible first|exact HB.out|apply below_alloc|apply pw_below_drewN|apply below_drew1|refine below_set ?_ GE419.out)|exact HB.out))));have n1_ := Aside0.mk (Kd.R_lower ho1 (below_size (by repeat (first|(with_reducible first|exact HB.out|apply below_alloc|apply pw_below_drewN|apply below_drew1|refine below_set ?_ GE419.out)|exact HB.out))));have n2_ := Aside0.mk (blk_below (g := gb419) (o := .cells #[.int .u64 a0_0,.int .i64 a0_1,.int .i64 a0_2,.slice A0_3 l0_3.length c0_3,.int .u64 a0_4,.int .u64 a0_5,.slice A0_6 l0_6.length c0_6] 28 (0,0)) (by (with_reducible repeat (first|refine blk_drewN ?_ _|refine blk_drew ?_|refine blk_alloc ?_ _));exact BK419.out) hb);have n3_ := Aside0.mk (below_step (by repeat (first|(with_reducible first|exact HB.out|apply below_alloc|apply pw_below_drewN|apply below_drew1|refine below_set ?_ GE419.out)|exact HB.out)) hb);clear BK419;clear HB;have HO424 := n0_;have HO427 := n1_;have BK419 := n2_;have HB := n3_;clear n0_ n1_ n2_ n3_;(try clear hb);(try clear hb2);(try clear hk);(try clear hi);(try clear ho0);(try clear ho1);have hcz15_0 : w14.cell? ⟨gb419,0,none⟩ = some (.int .u64 a0_0) := (blk_cell BK419.out 0).trans rfl;have hcz15_1 : w14.cell? ⟨gb419,1,none⟩ = some (.int .i64 a0_1) := (blk_cell BK419.out 1).trans rfl;have hcz15_2 : w14.cell? ⟨gb419,2,none⟩ = some (.int .i64 a0_2) := (blk_cell BK419.out 2).trans rfl;have hcz15_3 : w14.cell? ⟨gb419,3,none⟩ = some (.slice A0_3 l0_3.length c0_3) := (blk_cell BK419.out 3).trans rfl;have hcz15_4 : w14.cell? ⟨gb419,4,none⟩ = some (.int .u64 a0_4) := (blk_cell BK419.out 4).trans rfl;have hcz15_5 : w14.cell? ⟨gb419,5,none⟩ = some (.int .u64 a0_5) := (blk_cell BK419.out 5).trans rfl;have hcz15_6 : w14.cell? ⟨gb419,6,none⟩ = some (.slice A0_6 l0_6.length c0_6) := (blk_cell BK419.out 6).trans rfl;have hfz15_0 := blk_frozen BK419.out 0;have hfz15_1 := blk_frozen BK419.out 1;have hfz15_2 := blk_frozen BK419.out 2;have hfz15_3 := blk_frozen BK419.out 3;have hfz15_4 := blk_frozen BK419.out 4;have hfz15_5 := blk_frozen BK419.out 5;have hfz15_6 := blk_frozen BK419.out 6)|((with_reducible refine gate_callee (f := 14) rfl ?_);refine goesL_ (some 35) rfl rfl Try.func14 (by kernel_rfl) rfl #[.agg #[.int .u64 a0_0,.int .i64 a0_1,.int .i64 a0_2,.slice none 0 0,.int .u64 0,.int .u64 0,.slice A1 l1.length c1]] rfl (by (try simp only [List.map_toArray,List.map_cons,List.map_nil]);first|done|rfl|(simp only [List.length_drop,List.length_take];rfl)) ?_;(refine (privitylaw43_one.calls k a0_0 a0_1 a0_2 _ _ ([] : List Int) 0 0 _ _ l1 t428 t431 _ ?side1 ?side2 ?side3 ?side4 A6.out).mono ?_);(case side1 => exact Kd.C_nil _ _);(case side2 => exact Nat.le_refl _);(case side3 => repeat (first|exact (Kd.C_below HR1.out HB.out)|(with_reducible refine Kd.C_alloc ?_ _)|(with_reducible refine Kd.C_drewN ?_ _)|(with_reducible refine Kd.C_drew ?_)));(case side4 => exact HC1.out);rintro e w16 ⟨v429,v432,rfl,ho0,ho1,hb⟩;refine ⟨_,rfl,?_⟩;have n0_ := Aside0.mk (Kd.R_mono (Kd.R_told (Kd.R_told (Kd.R_old (by (with_reducible repeat (first|apply Kd.R_alloc|apply Kd.R_drewN|apply Kd.R_drew));exact HO424.out) hb) (Kd.R_base ho0)) (Kd.R_base ho1)) (fun _ h_ => h_.1));have n1_ := Aside0.mk (Kd.R_mono (Kd.R_told (Kd.R_told (Kd.R_old (by (with_reducible repeat (first|apply Kd.R_alloc|apply Kd.R_drewN|apply Kd.R_drew));exact HO427.out) hb) (Kd.R_base ho0)) (Kd.R_base ho1)) (fun _ h_ => h_.1));have n2_ := Aside0.mk (Kd.R_lower (Kd.R_new' (Kd.R_new' ho0 (Kd.R_lt (by (with_reducible repeat (first|apply Kd.R_alloc|apply Kd.R_drewN|apply Kd.R_drew));exact HO424.out))) (Kd.R_lt (by (with_reducible repeat (first|apply Kd.R_alloc|apply Kd.R_drewN|apply Kd.R_drew));exact HO427.out))) (below_size (by repeat (first|(with_reducible first|exact HB.out|apply below_alloc|apply pw_below_drewN|apply below_drew1|refine below_set ?_ GE419.out)|exact HB.out))));have n3_ := Aside0.mk (Kd.R_lower (Kd.R_new' (Kd.R_new' ho1 (Kd.R_lt (by (with_reducible repeat (first|apply Kd.R_alloc|apply Kd.R_drewN|apply Kd.R_drew));exact HO424.out))) (Kd.R_lt (by (with_reducible repeat (first|apply Kd.R_alloc|apply Kd.R_drewN|apply Kd.R_drew));exact HO427.out))) (below_size (by repeat (first|(with_reducible first|exact HB.out|apply below_alloc|apply pw_below_drewN|apply below_drew1|refine below_set ?_ GE419.out)|exact HB.out))));have n4_ := Aside0.mk (blk_below (g := gb419) (o := .cells #[.int .u64 a0_0,.int .i64 a0_1,.int .i64 a0_2,.slice A0_3 l0_3.length c0_3,.int .u64 a0_4,.int .u64 a0_5,.slice A0_6 l0_6.length c0_6] 28 (0,0)) (by (with_reducible repeat (first|refine blk_drewN ?_ _|refine blk_drew ?_|refine blk_alloc ?_ _));exact BK419.out) hb);have n5_ := Aside0.mk (below_step (by repeat (first|(with_reducible first|exact HB.out|apply below_alloc|apply pw_below_drewN|apply below_drew1|refine below_set ?_ GE419.out)|exact HB.out)) hb);clear HO424;clear HO427;clear BK419;clear HB;have HO424 := n0_;have HO427 := n1_;have HO430 := n2_;have HO433 := n3_;have BK419 := n4_;have HB := n5_;clear n0_ n1_ n2_ n3_ n4_ n5_;(try clear hb);(try clear hb2);(try clear hk);(try clear hi);(try clear ho0);(try clear ho1);obtain ⟨Ao17,co17,eo17⟩ := Kd.R_slice HO424.out;subst eo17;obtain ⟨Ao18,co18,eo18⟩ := Kd.R_slice HO427.out;subst eo18)|((with_reducible refine gate_callee (f := 16) rfl ?_);refine goesL_ (some 41) rfl rfl Try.func16 (by kernel_rfl) rfl #[.slice Ao17 t422.length co17,.slice Ao18 t425.length co18] rfl (by (try simp only [List.map_toArray,List.map_cons,List.map_nil]);first|done|rfl|(simp only [List.length_drop,List.length_take];rfl)) ?_;(with_reducible refine (privityref10_New.calls _ _ t422 _ _ t425 t434 t435 _ ?side1 ?side2 ?side3 ?side4 A7.out).mono ?_);(case side1 => repeat (first|exact (Kd.R_reads' HO424.out).2.2|(with_reducible refine Kd.C_alloc ?_ _)|(with_reducible refine Kd.C_drewN ?_ _)|(with_reducible refine Kd.C_drew ?_)));(case side2 => exact (Kd.R_reads' HO424.out).2.1);(case side3 => repeat (first|exact (Kd.R_reads' HO427.out).2.2|(with_reducible refine Kd.C_alloc ?_ _)|(with_reducible refine Kd.C_drewN ?_ _)|(with_reducible refine Kd.C_drew ?_)));(case side4 => exact (Kd.R_reads' HO427.out).2.1);rintro e w19 ⟨v436,rfl,ho0,hb⟩;refine ⟨_,rfl,?_⟩;have n0_ := Aside0.mk (Kd.R_below (by (with_reducible repeat (first|apply Kd.R_alloc|apply Kd.R_drewN|apply Kd.R_drew));exact HO424.out) hb);have n1_ := Aside0.mk (Kd.R_below (by (with_reducible repeat (first|apply Kd.R_alloc|apply Kd.R_drewN|apply Kd.R_drew));exact HO427.out) hb);have n2_ := Aside0.mk (Kd.R_below (by (with_reducible repeat (first|apply Kd.R_alloc|apply Kd.R_drewN|apply Kd.R_drew));exact HO430.out) hb);have n3_ := Aside0.mk (Kd.R_below (by (with_reducible repeat (first|apply Kd.R_alloc|apply Kd.R_drewN|apply Kd.R_drew));exact HO433.out) hb);have n4_ := Aside0.mk (Kd.S_lower (Kd.S_new' (Kd.S_new' (Kd.S_new' (Kd.S_new' ho0 (Kd.R_lt (by (with_reducible repeat (first|apply Kd.R_alloc|apply Kd.R_drewN|apply Kd.R_drew));exact HO424.out))) (Kd.R_lt (by (with_reducible repeat (first|apply Kd.R_alloc|apply Kd.R_drewN|apply Kd.R_drew));exact HO427.out))) (Kd.R_lt (by (with_reducible repeat (first|apply Kd.R_alloc|apply Kd.R_drewN|apply Kd.R_drew));exact HO430.out))) (Kd.R_lt (by (with_reducible repeat (first|apply Kd.R_alloc|apply Kd.R_drewN|apply Kd.R_drew));exact HO433.out))) (below_size (by repeat (first|(with_reducible first|exact HB.out|apply below_alloc|apply pw_below_drewN|apply below_drew1|refine below_set ?_ GE419.out)|exact HB.out))));have n5_ := Aside0.mk (blk_below (g := gb419) (o := .cells #[.int .u64 a0_0,.int .i64 a0_1,.int .i64 a0_2,.slice A0_3 l0_3.length c0_3,.int .u64 a0_4,.int .u64 a0_5,.slice A0_6 l0_6.length c0_6] 28 (0,0)) (by (with_reducible repeat (first|refine blk_drewN ?_ _|refine blk_drew ?_|refine blk_alloc ?_ _));exact BK419.out) hb);have n6_ := Aside0.mk (below_step (by repeat (first|(with_reducible first|exact HB.out|apply below_alloc|apply pw_below_drewN|apply below_drew1|refine below_set ?_ GE419.out)|exact HB.out)) hb);clear HO424;clear HO427;clear HO430;clear HO433;clear BK419;clear HB;have HO424 := n0_;have HO427 := n1_;have HO430 := n2_;have HO433 := n3_;have HO437 := n4_;have BK419 := n5_;have HB := n6_;clear n0_ n1_ n2_ n3_ n4_ n5_ n6_;(try clear hb);(try clear hb2);(try clear hk);(try clear hi);(try clear ho0);obtain ⟨Ao20,co20,eo20⟩ := Kd.R_slice HO430.out;subst eo20;obtain ⟨Ao21,co21,eo21⟩ := Kd.R_slice HO433.out;subst eo21)|((with_reducible refine gate_callee (f := 16) rfl ?_);refine goesL_ (some 47) rfl rfl Try.func16 (by kernel_rfl) rfl #[.slice Ao20 t428.length co20,.slice Ao21 t431.length co21] rfl (by (try simp only [List.map_toArray,List.map_cons,List.map_nil]);first|done|rfl|(simp only [List.length_drop,List.length_take];rfl)) ?_;(with_reducible refine (privityref10_New.calls _ _ t428 _ _ t431 t438 t439 _ ?side1 ?side2 ?side3 ?side4 A8.out).mono ?_);(case side1 => repeat (first|exact (Kd.R_reads' HO430.out).2.2|(with_reducible refine Kd.C_alloc ?_ _)|(with_reducible refine Kd.C_drewN ?_ _)|(with_reducible refine Kd.C_drew ?_)));(case side2 => exact (Kd.R_reads' HO430.out).2.1);(case side3 => repeat (first|exact (Kd.R_reads' HO433.out).2.2|(with_reducible refine Kd.C_alloc ?_ _)|(with_reducible refine Kd.C_drewN ?_ _)|(with_reducible refine Kd.C_drew ?_)));(case side4 => exact (Kd.R_reads' HO433.out).2.1);rintro e w22 ⟨v440,rfl,ho0,hb⟩;refine ⟨_,rfl,?_⟩;have n0_ := Aside0.mk (Kd.R_below (by (with_reducible repeat (first|apply Kd.R_alloc|apply Kd.R_drewN|apply Kd.R_drew));exact HO424.out) hb);have n1_ := Aside0.mk (Kd.R_below (by (with_reducible repeat (first|apply Kd.R_alloc|apply Kd.R_drewN|apply Kd.R_drew));exact HO427.out) hb);have n2_ := Aside0.mk (Kd.R_below (by (with_reducible repeat (first|apply Kd.R_alloc|apply Kd.R_drewN|apply Kd.R_drew));exact HO430.out) hb);have n3_ := Aside0.mk (Kd.R_below (by (with_reducible repeat (first|apply Kd.R_alloc|apply Kd.R_drewN|apply Kd.R_drew));exact HO433.out) hb);have n4_ := Aside0.mk (Kd.S_elder' (by (with_reducible repeat (first|apply Kd.S_alloc|apply Kd.S_drewN|apply Kd.S_drew));exact HO437.out) (Kd.S_base ho0) hb);have n5_ := Aside0.mk (Kd.S_lower (Kd.S_new' (Kd.S_new' (Kd.S_new' (Kd.S_new' (Kd.S_new' ho0 (Kd.R_lt (by (with_reducible repeat (first|apply Kd.R_alloc|apply Kd.R_drewN|apply Kd.R_drew));exact HO424.out))) (Kd.R_lt (by (with_reducible repeat (first|apply Kd.R_alloc|apply Kd.R_drewN|apply Kd.R_drew));exact HO427.out))) (Kd.R_lt (by (with_reducible repeat (first|apply Kd.R_alloc|apply Kd.R_drewN|apply Kd.R_drew));exact HO430.out))) (Kd.R_lt (by (with_reducible repeat (first|apply Kd.R_alloc|apply Kd.R_drewN|apply Kd.R_drew));exact HO433.out))) (Kd.S_lt (by (with_reducible repeat (first|apply Kd.S_alloc|apply Kd.S_drewN|apply Kd.S_drew));exact HO437.out))) (below_size (by repeat (first|(with_reducible first|exact HB.out|apply below_alloc|apply pw_below_drewN|apply below_drew1|refine below_set ?_ GE419.out)|exact HB.out))));have n6_ := Aside0.mk (blk_below (g := gb419) (o := .cells #[.int .u64 a0_0,.int .i64 a0_1,.int .i64 a0_2,.slice A0_3 l0_3.length c0_3,.int .u64 a0_4,.int .u64 a0_5,.slice A0_6 l0_6.length c0_6] 28 (0,0)) (by (with_reducible repeat (first|refine blk_drewN ?_ _|refine blk_drew ?_|refine blk_alloc ?_ _));exact BK419.out) hb);have n7_ := Aside0.mk (below_step (by repeat (first|(with_reducible first|exact HB.out|apply below_alloc|apply pw_below_drewN|apply below_drew1|refine below_set ?_ GE419.out)|exact HB.out)) hb);clear HO424;clear HO427;clear HO430;clear HO433;clear HO437;clear BK419;clear HB;have HO424 := n0_;have HO427 := n1_;have HO430 := n2_;have HO433 := n3_;have HO437 := n4_;have HO441 := n5_;have BK419 := n6_;have HB := n7_;clear n0_ n1_ n2_ n3_ n4_ n5_ n6_ n7_;(try clear hb);(try clear hb2);(try clear hk);(try clear hi);(try clear ho0)))
  (try simp only [Act.put,List.setIfInBounds_toArray,List.set_cons_zero,List.set_cons_succ])
  go_cut [55] (fun v55 wc => ∃ (kq : Nat) (x55_8 : Bool),v55 = .bool x55_8 ∧ Aside0 (privitylaw43_TapeshiftComplete.j0 kq a0_0 t422 t425 t428 t431 t434 t438 x55_8 a0_0 a0_1 a0_2 l0_3 a0_4 a0_5 l0_6 = some r) ∧ Aside0 (kq ≤ k) ∧ Aside0 (Kd.R (Kd.int .u64) 22 wc w.heap.size (fun k_ => some k_ ≠ ((.slice Ao18 t425.length co18) : Value).ownBlock ∧ some k_ ≠ ((.slice Ao20 t428.length co20) : Value).ownBlock ∧ some k_ ≠ ((.slice Ao21 t431.length co21) : Value).ownBlock) (.slice Ao17 t422.length co17) t422) ∧ Aside0 (Kd.R (Kd.int .u64) 22 wc w.heap.size (fun k_ => some k_ ≠ ((.slice Ao17 t422.length co17) : Value).ownBlock ∧ some k_ ≠ ((.slice Ao20 t428.length co20) : Value).ownBlock ∧ some k_ ≠ ((.slice Ao21 t431.length co21) : Value).ownBlock) (.slice Ao18 t425.length co18) t425) ∧ Aside0 (Kd.R (Kd.int .u64) 22 wc w.heap.size (fun k_ => some k_ ≠ ((.slice Ao17 t422.length co17) : Value).ownBlock ∧ some k_ ≠ ((.slice Ao18 t425.length co18) : Value).ownBlock ∧ some k_ ≠ ((.slice Ao21 t431.length co21) : Value).ownBlock) (.slice Ao20 t428.length co20) t428) ∧ Aside0 (Kd.R (Kd.int .u64) 22 wc w.heap.size (fun k_ => some k_ ≠ ((.slice Ao17 t422.length co17) : Value).ownBlock ∧ some k_ ≠ ((.slice Ao18 t425.length co18) : Value).ownBlock ∧ some k_ ≠ ((.slice Ao20 t428.length co20) : Value).ownBlock) (.slice Ao21 t431.length co21) t431) ∧ Aside0 (Kd.S (Kd.slice 22 (Kd.int .u64)) 26 wc w.heap.size (fun k_ => some k_ ≠ ((.slice Ao17 t422.length co17) : Value).ownBlock ∧ some k_ ≠ ((.slice Ao18 t425.length co18) : Value).ownBlock ∧ some k_ ≠ ((.slice Ao20 t428.length co20) : Value).ownBlock ∧ some k_ ≠ ((.slice Ao21 t431.length co21) : Value).ownBlock ∧ some k_ ≠ (v440 : Value).ownBlock) v436 t434) ∧ Aside0 (Kd.S (Kd.slice 22 (Kd.int .u64)) 26 wc w.heap.size (fun k_ => some k_ ≠ ((.slice Ao17 t422.length co17) : Value).ownBlock ∧ some k_ ≠ ((.slice Ao18 t425.length co18) : Value).ownBlock ∧ some k_ ≠ ((.slice Ao20 t428.length co20) : Value).ownBlock ∧ some k_ ≠ ((.slice Ao21 t431.length co21) : Value).ownBlock ∧ some k_ ≠ (v436 : Value).ownBlock) v440 t438) ∧ Aside0 (wc.heap[gb419]? = some (.cells #[.int .u64 a0_0,.int .i64 a0_1,.int .i64 a0_2,(.slice A0_3 l0_3.length c0_3),.int .u64 a0_4,.int .u64 a0_5,(.slice A0_6 l0_6.length c0_6)] 28 (0,0))) ∧ Aside0 (Below w.heap.size w wc))
  case first =>
   have H := HC9.out
   clear HC9
   by_cases c23 : t435 = 0
   ·rw [if_pos c23] at H
    have c23b0 : (t435 == 0) = true := beq_iff_eq.mpr c23
    have c23b1 : (t435 != 0) = false := bne_eq_false_iff_eq.mpr c23
    clear c23
    (first|rw [c23b0]|(simp only [i64_w,i32_w];rw [c23b0])|skip)
    have H' := Aside0.mk H
    clear H
    go_wp2
    go_meet
    case rel => exact ⟨_,((t439 != 0)),(by first|rfl|(simp;done)|(simp [*];done)),H',⟨by first|omega|exact Nat.le_refl _⟩,⟨by (with_reducible repeat (first|apply Kd.R_alloc|apply Kd.R_drewN|apply Kd.R_drew));exact Kd.R_mono HO424.out (fun _ hk => ⟨hk.1.1,⟨hk.1.2,hk.2⟩⟩)⟩,⟨by (with_reducible repeat (first|apply Kd.R_alloc|apply Kd.R_drewN|apply Kd.R_drew));exact Kd.R_mono HO427.out (fun _ hk => ⟨hk.1.1,⟨hk.1.2,hk.2⟩⟩)⟩,⟨by (with_reducible repeat (first|apply Kd.R_alloc|apply Kd.R_drewN|apply Kd.R_drew));exact Kd.R_mono HO430.out (fun _ hk => ⟨hk.1.2,⟨hk.2,hk.1.1⟩⟩)⟩,⟨by (with_reducible repeat (first|apply Kd.R_alloc|apply Kd.R_drewN|apply Kd.R_drew));exact Kd.R_mono HO433.out (fun _ hk => ⟨hk.1.2,⟨hk.2,hk.1.1⟩⟩)⟩,⟨by (with_reducible repeat (first|apply Kd.S_alloc|apply Kd.S_drewN|apply Kd.S_drew));exact Kd.S_mono HO437.out (fun _ hk => ⟨hk.1.1.1.1.2,⟨hk.1.1.1.2,⟨hk.1.1.2,⟨hk.1.2,hk.2⟩⟩⟩⟩)⟩,⟨by (with_reducible repeat (first|apply Kd.S_alloc|apply Kd.S_drewN|apply Kd.S_drew));exact Kd.S_mono HO441.out (fun _ hk => ⟨hk.1.1.1.1.2,⟨hk.1.1.1.2,⟨hk.1.1.2,⟨hk.1.2,hk.2⟩⟩⟩⟩)⟩,⟨by (with_reducible repeat (first|refine blk_drewN ?_ _|refine blk_drew ?_|refine blk_alloc ?_ _));exact BK419.out⟩,⟨by repeat (first|(with_reducible first|exact HB.out|apply below_alloc|apply pw_below_drewN|apply below_drew1|refine below_set ?_ GE419.out)|exact HB.out)⟩⟩
   ·rw [if_neg c23] at H
    have c23b0 : (t435 == 0) = false := beq_eq_false_iff_ne.mpr c23
    have c23b1 : (t435 != 0) = true := bne_iff_ne.mpr c23
    (first|rw [c23b0]|(simp only [i64_w,i32_w];rw [c23b0])|skip)
    have H' := Aside0.mk H
    clear H
    go_wp2
    go_meet
    case rel => exact ⟨_,(true),(by first|rfl|(simp;done)|(simp [*];done)),H',⟨by first|omega|exact Nat.le_refl _⟩,⟨by (with_reducible repeat (first|apply Kd.R_alloc|apply Kd.R_drewN|apply Kd.R_drew));exact Kd.R_mono HO424.out (fun _ hk => ⟨hk.1.1,⟨hk.1.2,hk.2⟩⟩)⟩,⟨by (with_reducible repeat (first|apply Kd.R_alloc|apply Kd.R_drewN|apply Kd.R_drew));exact Kd.R_mono HO427.out (fun _ hk => ⟨hk.1.1,⟨hk.1.2,hk.2⟩⟩)⟩,⟨by (with_reducible repeat (first|apply Kd.R_alloc|apply Kd.R_drewN|apply Kd.R_drew));exact Kd.R_mono HO430.out (fun _ hk => ⟨hk.1.2,⟨hk.2,hk.1.1⟩⟩)⟩,⟨by (with_reducible repeat (first|apply Kd.R_alloc|apply Kd.R_drewN|apply Kd.R_drew));exact Kd.R_mono HO433.out (fun _ hk => ⟨hk.1.2,⟨hk.2,hk.1.1⟩⟩)⟩,⟨by (with_reducible repeat (first|apply Kd.S_alloc|apply Kd.S_drewN|apply Kd.S_drew));exact Kd.S_mono HO437.out (fun _ hk => ⟨hk.1.1.1.1.2,⟨hk.1.1.1.2,⟨hk.1.1.2,⟨hk.1.2,hk.2⟩⟩⟩⟩)⟩,⟨by (with_reducible repeat (first|apply Kd.S_alloc|apply Kd.S_drewN|apply Kd.S_drew));exact Kd.S_mono HO441.out (fun _ hk => ⟨hk.1.1.1.1.2,⟨hk.1.1.1.2,⟨hk.1.1.2,⟨hk.1.2,hk.2⟩⟩⟩⟩)⟩,⟨by (with_reducible repeat (first|refine blk_drewN ?_ _|refine blk_drew ?_|refine blk_alloc ?_ _));exact BK419.out⟩,⟨by repeat (first|(with_reducible first|exact HB.out|apply below_alloc|apply pw_below_drewN|apply below_drew1|refine below_set ?_ GE419.out)|exact HB.out)⟩⟩
  case rest =>
   clear HC9
   try clear c1
   try clear c2
   try clear p2
   try clear c4
   try clear c5
   try clear c12
   try clear c14
   try clear c16
   try clear c23
   try clear c23b0
   try clear c23b1
   try clear hcz11_0
   try clear hcz11_1
   try clear hcz11_2
   try clear hcz11_3
   try clear hcz11_4
   try clear hcz11_5
   try clear hcz11_6
   try clear hcz13_0
   try clear hcz13_1
   try clear hcz13_2
   try clear hcz13_3
   try clear hcz13_4
   try clear hcz13_5
   try clear hcz13_6
   try clear hcz15_0
   try clear hcz15_1
   try clear hcz15_2
   try clear hcz15_3
   try clear hcz15_4
   try clear hcz15_5
   try clear hcz15_6
   try clear hfz11_0
   try clear hfz11_1
   try clear hfz11_2
   try clear hfz11_3
   try clear hfz11_4
   try clear hfz11_5
   try clear hfz11_6
   try clear hfz13_0
   try clear hfz13_1
   try clear hfz13_2
   try clear hfz13_3
   try clear hfz13_4
   try clear hfz13_5
   try clear hfz13_6
   try clear hfz15_0
   try clear hfz15_1
   try clear hfz15_2
   try clear hfz15_3
   try clear hfz15_4
   try clear hfz15_5
   try clear hfz15_6
   obtain ⟨kq,x55_8,rfl,HA,HJ8,HO_6,HO_7,HO_8,HO_9,HO_10,HO_12,BK419,HB⟩ := hcut
   cases kq with
   | zero => exact absurd HA.out (by simp [privitylaw43_TapeshiftComplete.j0])
   | succ kj8 =>
    have H := HA.out
    clear HA
    simp only [privitylaw43_TapeshiftComplete.j0] at H
    by_cases c24 : x55_8 = true
    ·subst c24
     have H1 : (some false) = some r := by rw [if_pos rfl] at H;exact H
     clear H
     have H := H1
     clear H1
     exact absurd (Option.some.inj H) (by rw [HRT_.out];simp)
    ·replace c24 := Bool.eq_false_iff.mpr c24
     subst c24
     have H1 : ((privityref12_ExtendCoalition.f kj8 a0_0 a0_1 a0_2 l0_3).bind fun t442 => (privitylaw43_TapeshiftComplete.l0 kj8 a0_0 t422 t425 t428 t431 t434 t438 t442 0 a0_0 a0_1 a0_2 l0_3 a0_4 a0_5 l0_6)) = some r := by rw [if_neg (show ¬ (false = true) by decide)] at H;exact H
     clear H
     have H := H1
     clear H1
     replace H := Option.bind_eq_some_iff.mp H
     obtain ⟨t442,A250,H⟩ := H
     replace H : (privitylaw43_TapeshiftComplete.l0 kj8 a0_0 t422 t425 t428 t431 t434 t438 t442 0 a0_0 a0_1 a0_2 l0_3 a0_4 a0_5 l0_6) = some r := H
     have A25 := Aside0.mk A250
     clear A250
     have H' := Aside0.mk H
     clear H
     have hcz26_0 : wc.cell? ⟨gb419,0,none⟩ = some (.int .u64 a0_0) := (blk_cell BK419.out 0).trans rfl
     have hcz26_1 : wc.cell? ⟨gb419,1,none⟩ = some (.int .i64 a0_1) := (blk_cell BK419.out 1).trans rfl
     have hcz26_2 : wc.cell? ⟨gb419,2,none⟩ = some (.int .i64 a0_2) := (blk_cell BK419.out 2).trans rfl
     have hcz26_3 : wc.cell? ⟨gb419,3,none⟩ = some (.slice A0_3 l0_3.length c0_3) := (blk_cell BK419.out 3).trans rfl
     have hcz26_4 : wc.cell? ⟨gb419,4,none⟩ = some (.int .u64 a0_4) := (blk_cell BK419.out 4).trans rfl
     have hcz26_5 : wc.cell? ⟨gb419,5,none⟩ = some (.int .u64 a0_5) := (blk_cell BK419.out 5).trans rfl
     have hcz26_6 : wc.cell? ⟨gb419,6,none⟩ = some (.slice A0_6 l0_6.length c0_6) := (blk_cell BK419.out 6).trans rfl
     have hfz26_0 := blk_frozen BK419.out 0
     have hfz26_1 := blk_frozen BK419.out 1
     have hfz26_2 := blk_frozen BK419.out 2
     have hfz26_3 := blk_frozen BK419.out 3
     have hfz26_4 := blk_frozen BK419.out 4
     have hfz26_5 := blk_frozen BK419.out 5
     have hfz26_6 := blk_frozen BK419.out 6
     go_wp2_with (first|((with_reducible refine gate_callee (f := 21) rfl ?_);refine goesL_ (some 60) rfl rfl Try.func21 (by kernel_rfl) rfl #[.agg #[.int .u64 a0_0,.int .i64 a0_1,.int .i64 a0_2],.slice A0_3 l0_3.length c0_3] rfl (by (try simp only [List.map_toArray,List.map_cons,List.map_nil]);first|done|rfl|(simp only [List.length_drop,List.length_take];rfl)) ?_;(with_reducible refine (privityref12_ExtendCoalition.calls kj8 a0_0 a0_1 a0_2 _ _ l0_3 t442 _ ?side1 ?side2 A25.out).mono ?_);(case side1 => repeat (first|exact (Kd.C_below HR0_3.out HB.out)|(with_reducible refine Kd.C_alloc ?_ _)|(with_reducible refine Kd.C_drewN ?_ _)|(with_reducible refine Kd.C_drew ?_)));(case side2 => exact HC0_3.out);rintro e w27 ⟨v443,rfl,ho0,hb⟩;refine ⟨_,rfl,?_⟩;have n0_ := Aside0.mk (Kd.R_below (by (with_reducible repeat (first|apply Kd.R_alloc|apply Kd.R_drewN|apply Kd.R_drew));exact HO_6.out) hb);have n1_ := Aside0.mk (Kd.R_below (by (with_reducible repeat (first|apply Kd.R_alloc|apply Kd.R_drewN|apply Kd.R_drew));exact HO_7.out) hb);have n2_ := Aside0.mk (Kd.R_below (by (with_reducible repeat (first|apply Kd.R_alloc|apply Kd.R_drewN|apply Kd.R_drew));exact HO_8.out) hb);have n3_ := Aside0.mk (Kd.R_below (by (with_reducible repeat (first|apply Kd.R_alloc|apply Kd.R_drewN|apply Kd.R_drew));exact HO_9.out) hb);have n4_ := Aside0.mk (Kd.S_below (by (with_reducible repeat (first|apply Kd.S_alloc|apply Kd.S_drewN|apply Kd.S_drew));exact HO_10.out) hb);have n5_ := Aside0.mk (Kd.S_below (by (with_reducible repeat (first|apply Kd.S_alloc|apply Kd.S_drewN|apply Kd.S_drew));exact HO_12.out) hb);have n6_ := Aside0.mk (Kd.R_lower ho0 (below_size (by repeat (first|(with_reducible first|exact HB.out|apply below_alloc|apply pw_below_drewN|apply below_drew1|refine below_set ?_ GE419.out)|exact HB.out))));have n7_ := Aside0.mk (blk_below (g := gb419) (o := .cells #[.int .u64 a0_0,.int .i64 a0_1,.int .i64 a0_2,.slice A0_3 l0_3.length c0_3,.int .u64 a0_4,.int .u64 a0_5,.slice A0_6 l0_6.length c0_6] 28 (0,0)) (by (with_reducible repeat (first|refine blk_drewN ?_ _|refine blk_drew ?_|refine blk_alloc ?_ _));exact BK419.out) hb);have n8_ := Aside0.mk (below_step (by repeat (first|(with_reducible first|exact HB.out|apply below_alloc|apply pw_below_drewN|apply below_drew1|refine below_set ?_ GE419.out)|exact HB.out)) hb);clear HO_6;clear HO_7;clear HO_8;clear HO_9;clear HO_10;clear HO_12;clear BK419;clear HB;have HO_6 := n0_;have HO_7 := n1_;have HO_8 := n2_;have HO_9 := n3_;have HO_10 := n4_;have HO_12 := n5_;have HO444 := n6_;have BK419 := n7_;have HB := n8_;clear n0_ n1_ n2_ n3_ n4_ n5_ n6_ n7_ n8_;(try clear hb);(try clear hb2);(try clear hk);(try clear hi);(try clear ho0)))
     go_loopg [15] kj8 (fun kq v15 w' => ∃ (x15_2 : Int),v15 = .int .i64 x15_2 ∧ Aside0 (privitylaw43_TapeshiftComplete.l0 kq a0_0 t422 t425 t428 t431 t434 t438 t442 x15_2 a0_0 a0_1 a0_2 l0_3 a0_4 a0_5 l0_6 = some r) ∧ Aside0 (kq ≤ kj8) ∧ Aside0 (Kd.R (Kd.int .u64) 22 w' w.heap.size (fun k_ => some k_ ≠ ((.slice Ao18 t425.length co18) : Value).ownBlock ∧ some k_ ≠ ((.slice Ao20 t428.length co20) : Value).ownBlock ∧ some k_ ≠ ((.slice Ao21 t431.length co21) : Value).ownBlock) (.slice Ao17 t422.length co17) t422) ∧ Aside0 (Kd.R (Kd.int .u64) 22 w' w.heap.size (fun k_ => some k_ ≠ ((.slice Ao17 t422.length co17) : Value).ownBlock ∧ some k_ ≠ ((.slice Ao20 t428.length co20) : Value).ownBlock ∧ some k_ ≠ ((.slice Ao21 t431.length co21) : Value).ownBlock) (.slice Ao18 t425.length co18) t425) ∧ Aside0 (Kd.R (Kd.int .u64) 22 w' w.heap.size (fun k_ => some k_ ≠ ((.slice Ao17 t422.length co17) : Value).ownBlock ∧ some k_ ≠ ((.slice Ao18 t425.length co18) : Value).ownBlock ∧ some k_ ≠ ((.slice Ao21 t431.length co21) : Value).ownBlock) (.slice Ao20 t428.length co20) t428) ∧ Aside0 (Kd.R (Kd.int .u64) 22 w' w.heap.size (fun k_ => some k_ ≠ ((.slice Ao17 t422.length co17) : Value).ownBlock ∧ some k_ ≠ ((.slice Ao18 t425.length co18) : Value).ownBlock ∧ some k_ ≠ ((.slice Ao20 t428.length co20) : Value).ownBlock) (.slice Ao21 t431.length co21) t431) ∧ Aside0 (Kd.S (Kd.slice 22 (Kd.int .u64)) 26 w' w.heap.size (fun k_ => some k_ ≠ ((.slice Ao17 t422.length co17) : Value).ownBlock ∧ some k_ ≠ ((.slice Ao18 t425.length co18) : Value).ownBlock ∧ some k_ ≠ ((.slice Ao20 t428.length co20) : Value).ownBlock ∧ some k_ ≠ ((.slice Ao21 t431.length co21) : Value).ownBlock ∧ some k_ ≠ (v440 : Value).ownBlock) v436 t434) ∧ Aside0 (Kd.S (Kd.slice 22 (Kd.int .u64)) 26 w' w.heap.size (fun k_ => some k_ ≠ ((.slice Ao17 t422.length co17) : Value).ownBlock ∧ some k_ ≠ ((.slice Ao18 t425.length co18) : Value).ownBlock ∧ some k_ ≠ ((.slice Ao20 t428.length co20) : Value).ownBlock ∧ some k_ ≠ ((.slice Ao21 t431.length co21) : Value).ownBlock ∧ some k_ ≠ (v436 : Value).ownBlock) v440 t438) ∧ Aside0 (Kd.R (Kd.int .i64) 3 w' w.heap.size (fun _ => True) v443 t442) ∧ Aside0 (w'.heap[gb419]? = some (.cells #[.int .u64 a0_0,.int .i64 a0_1,.int .i64 a0_2,(.slice A0_3 l0_3.length c0_3),.int .u64 a0_4,.int .u64 a0_5,(.slice A0_6 l0_6.length c0_6)] 28 (0,0))) ∧ Aside0 (Below w.heap.size w w'))
     case atStart => exact ⟨(0),(by first|rfl|(simp;done)|(simp [*];done)),H',⟨Nat.le_refl _⟩,⟨by (with_reducible repeat (first|apply Kd.R_alloc|apply Kd.R_drewN|apply Kd.R_drew));exact HO_6.out⟩,⟨by (with_reducible repeat (first|apply Kd.R_alloc|apply Kd.R_drewN|apply Kd.R_drew));exact HO_7.out⟩,⟨by (with_reducible repeat (first|apply Kd.R_alloc|apply Kd.R_drewN|apply Kd.R_drew));exact HO_8.out⟩,⟨by (with_reducible repeat (first|apply Kd.R_alloc|apply Kd.R_drewN|apply Kd.R_drew));exact HO_9.out⟩,⟨by (with_reducible repeat (first|apply Kd.S_alloc|apply Kd.S_drewN|apply Kd.S_drew));exact HO_10.out⟩,⟨by (with_reducible repeat (first|apply Kd.S_alloc|apply Kd.S_drewN|apply Kd.S_drew));exact HO_12.out⟩,⟨by (with_reducible repeat (first|apply Kd.R_alloc|apply Kd.R_drewN|apply Kd.R_drew));exact HO444.out⟩,⟨by (with_reducible repeat (first|refine blk_drewN ?_ _|refine blk_drew ?_|refine blk_alloc ?_ _));exact BK419.out⟩,⟨by repeat (first|(with_reducible first|exact HB.out|apply below_alloc|apply pw_below_drewN|apply below_drew1|refine below_set ?_ GE419.out)|exact HB.out)⟩⟩
     case round =>
      clear H'
      try clear c1
      try clear c2
      try clear p2
      try clear c4
      try clear c5
      try clear c12
      try clear c14
      try clear c16
      try clear c21
      try clear c23
      try clear c23b0
      try clear c23b1
      try clear c24
      try clear hcz11_0
      try clear hcz11_1
      try clear hcz11_2
      try clear hcz11_3
      try clear hcz11_4
      try clear hcz11_5
      try clear hcz11_6
      try clear hcz13_0
      try clear hcz13_1
      try clear hcz13_2
      try clear hcz13_3
      try clear hcz13_4
      try clear hcz13_5
      try clear hcz13_6
      try clear hcz15_0
      try clear hcz15_1
      try clear hcz15_2
      try clear hcz15_3
      try clear hcz15_4
      try clear hcz15_5
      try clear hcz15_6
      try clear hcz26_0
      try clear hcz26_1
      try clear hcz26_2
      try clear hcz26_3
      try clear hcz26_4
      try clear hcz26_5
      try clear hcz26_6
      try clear hfz11_0
      try clear hfz11_1
      try clear hfz11_2
      try clear hfz11_3
      try clear hfz11_4
      try clear hfz11_5
      try clear hfz11_6
      try clear hfz13_0
      try clear hfz13_1
      try clear hfz13_2
      try clear hfz13_3
      try clear hfz13_4
      try clear hfz13_5
      try clear hfz13_6
      try clear hfz15_0
      try clear hfz15_1
      try clear hfz15_2
      try clear hfz15_3
      try clear hfz15_4
      try clear hfz15_5
      try clear hfz15_6
      try clear hfz26_0
      try clear hfz26_1
      try clear hfz26_2
      try clear hfz26_3
      try clear hfz26_4
      try clear hfz26_5
      try clear hfz26_6
      try clear p2
      obtain ⟨x15_2,rfl,HA,HK2,HO_6,HO_7,HO_8,HO_9,HO_10,HO_12,HO_14,BK419,HB⟩ := hrel
      cases gk with
      | zero => exact absurd HA.out (by simp [privitylaw43_TapeshiftComplete.l0])
      | succ k2 =>
       have H := HA.out
       clear HA
       simp only [privitylaw43_TapeshiftComplete.l0] at H
       by_cases c28 : x15_2 < (t442.length : Int)
       ·rw [if_pos c28] at H
        have c28b0 : decide (x15_2 < (t442.length : Int)) = true := decide_eq_true c28
        clear c28
        by_cases c29 : 0 ≤ x15_2
        ·rw [if_pos c29] at H
         have c29b0 : decide (0 ≤ x15_2) = true := decide_eq_true c29
         clear c29
         replace H := Option.bind_eq_some_iff.mp H
         obtain ⟨t446,A300,H⟩ := H
         replace H : ((privityref10_Row.f k2 a0_0 t438 (IntKind.u64.wrap (rd t442 x15_2))).bind fun t450 => ((privityref14_Words.f k2 t446 t450).bind fun t453 => (if t453 = true then (privitylaw43_TapeshiftComplete.l0 k2 a0_0 t422 t425 t428 t431 t434 t438 t442 (wrap64 (x15_2 + 1)) a0_0 a0_1 a0_2 l0_3 a0_4 a0_5 l0_6) else ((privitylaw43_awake.f k2).bind fun t454 => (some t454))))) = some r := H
         have A30 := Aside0.mk A300
         clear A300
         replace H := Option.bind_eq_some_iff.mp H
         obtain ⟨t450,A310,H⟩ := H
         replace H : ((privityref14_Words.f k2 t446 t450).bind fun t453 => (if t453 = true then (privitylaw43_TapeshiftComplete.l0 k2 a0_0 t422 t425 t428 t431 t434 t438 t442 (wrap64 (x15_2 + 1)) a0_0 a0_1 a0_2 l0_3 a0_4 a0_5 l0_6) else ((privitylaw43_awake.f k2).bind fun t454 => (some t454)))) = some r := H
         have A31 := Aside0.mk A310
         clear A310
         replace H := Option.bind_eq_some_iff.mp H
         obtain ⟨t453,A320,H⟩ := H
         replace H : (if t453 = true then (privitylaw43_TapeshiftComplete.l0 k2 a0_0 t422 t425 t428 t431 t434 t438 t442 (wrap64 (x15_2 + 1)) a0_0 a0_1 a0_2 l0_3 a0_4 a0_5 l0_6) else ((privitylaw43_awake.f k2).bind fun t454 => (some t454))) = some r := H
         have A32 := Aside0.mk A320
         clear A320
         by_cases c33 : t453 = true
         ·subst c33
          have H1 : (privitylaw43_TapeshiftComplete.l0 k2 a0_0 t422 t425 t428 t431 t434 t438 t442 (wrap64 (x15_2 + 1)) a0_0 a0_1 a0_2 l0_3 a0_4 a0_5 l0_6) = some r := by rw [if_pos rfl] at H;exact H
          clear H
          have H := H1
          clear H1
          have H' := Aside0.mk H
          clear H
          obtain ⟨Ao34,co34,eo34⟩ := Kd.R_slice HO_14.out
          subst eo34
          try go_wp2
          have n0_ := Aside0.mk (Kd.R_drew HO_6.out)
          have n1_ := Aside0.mk (Kd.R_drew HO_7.out)
          have n2_ := Aside0.mk (Kd.R_drew HO_8.out)
          have n3_ := Aside0.mk (Kd.R_drew HO_9.out)
          have n4_ := Aside0.mk (Kd.S_drew HO_10.out)
          have n5_ := Aside0.mk (Kd.S_drew HO_12.out)
          have n6_ := Aside0.mk (Kd.R_drew HO_14.out)
          have n7_ := Aside0.mk (blk_drew BK419.out)
          have n8_ := Aside0.mk (below_drew1 HB.out)
          clear HO_6
          clear HO_7
          clear HO_8
          clear HO_9
          clear HO_10
          clear HO_12
          clear HO_14
          clear BK419
          clear HB
          have HO_6 := n0_
          have HO_7 := n1_
          have HO_8 := n2_
          have HO_9 := n3_
          have HO_10 := n4_
          have HO_12 := n5_
          have HO_14 := n6_
          have BK419 := n7_
          have HB := n8_
          clear n0_ n1_ n2_ n3_ n4_ n5_ n6_ n7_ n8_
          have p445 : 0 ≤ (x15_2 : Int) := of_decide_eq_true (by first|(with_reducible assumption)|assumption)
          have q445 : x15_2 < (t442.length : Int) := of_decide_eq_true (by first|(with_reducible assumption)|assumption)
          obtain ⟨ad445,e445,hx445_0⟩ := Kd.at_int (Kd.R_reads' HO_14.out).2.2 x15_2 p445 q445
          cases e445
          replace p445 := eq_true p445
          replace q445 := eq_true q445
          have p449 : 0 ≤ (x15_2 : Int) := of_decide_eq_true (by first|(with_reducible assumption)|assumption)
          have q449 : x15_2 < (t442.length : Int) := of_decide_eq_true (by first|(with_reducible assumption)|assumption)
          obtain ⟨ad449,e449,hx449_0⟩ := Kd.at_int (Kd.R_reads' HO_14.out).2.2 x15_2 p449 q449
          obtain rfl : ad445 = ad449 := (by injection e449)
          replace p449 := eq_true p449
          replace q449 := eq_true q449
          obtain ⟨Ao36,co36,eo36⟩ := Kd.S_slice HO_10.out
          (first|subst eo36|(injection eo36 with f1_ f2_ f3_;have f4_ := f1_.symm;have f5_ := f3_.symm;clear f1_ f2_ f3_;subst f4_;subst f5_))
          refine start_ (n := 18) (S := fun w' => w'.cell? (ad445.add (x15_2).toNat) = some (.int .i64 (rd t442 x15_2)) ∧ w'.cell? (ad445.add (x15_2).toNat) = some (.int .i64 (rd t442 x15_2))) (ds := []) #[false,false,false,false,false,false,false,false,false,false,false,false,false,false,false,false,false,false] (by kernel_rfl) rfl rfl ⟨hx445_0,hx449_0⟩ (fun hHeld => ?_);refine with_tabW privitylaw43_TapeshiftComplete.tab14 privitylaw43_TapeshiftComplete.bits14 (fun HT_ HW_ => ?_)
          generalize wr.drew = w35 at HO_6 HO_7 HO_8 HO_9 HO_10 HO_12 HO_14 BK419 HB hx445_0 hx449_0 hHeld ⊢
          refine pure_ (i := 0) (N := some 67) (v := ?_) (a' := ?_) #[true,false,false,false,false,false,false,false,false,false,false,false,false,false,false,false,false,false] rfl rfl (any_of HT_.out (by kernel_rfl)) (fun _ _ _ h => h) (Or.inl ⟨by rfl,?_⟩) ?_ ?_
          rotate_left
          ·intro w'
           go_simp
           with_reducible rfl
          rotate_left
          ·simp only [Act.put,List.setIfInBounds_toArray,List.set_cons_zero,List.set_cons_succ,i64_w,i32_w]
           rfl
          refine pure_ (i := 1) (N := some 68) (v := ?_) (a' := ?_) #[true,true,false,false,false,false,false,false,false,false,false,false,false,false,false,false,false,false] rfl rfl (any_of HT_.out (by kernel_rfl)) (fun _ _ _ h => h) (Or.inl ⟨by rfl,?_⟩) ?_ ?_
          rotate_left
          ·intro w'
           go_simp
           with_reducible rfl
          rotate_left
          ·simp only [Act.put,List.setIfInBounds_toArray,List.set_cons_zero,List.set_cons_succ,i64_w,i32_w]
           rfl
          refine pure_ (i := 2) (N := some 69) (v := ?_) (a' := ?_) #[true,true,true,false,false,false,false,false,false,false,false,false,false,false,false,false,false,false] rfl rfl (any_of HT_.out (by kernel_rfl)) (fun _ _ _ h => h) (Or.inl ⟨by rfl,?_⟩) ?_ ?_
          rotate_left
          ·intro w'
           go_simp
           with_reducible rfl
          rotate_left
          ·simp only [Act.put,List.setIfInBounds_toArray,List.set_cons_zero,List.set_cons_succ,i64_w,i32_w]
           rfl
          refine pure_ (i := 3) (N := some 70) (v := ?_) (a' := ?_) #[true,true,true,true,false,false,false,false,false,false,false,false,false,false,false,false,false,false] rfl rfl (any_of HT_.out (by kernel_rfl)) (fun _ _ _ h => h) (Or.inl ⟨by rfl,?_⟩) ?_ ?_
          rotate_left
          ·intro w'
           go_simp
           with_reducible rfl
          rotate_left
          ·simp only [Act.put,List.setIfInBounds_toArray,List.set_cons_zero,List.set_cons_succ,i64_w,i32_w]
           rfl
          refine pure_ (i := 4) (N := some 71) (v := ?_) (a' := ?_) #[true,true,true,true,true,false,false,false,false,false,false,false,false,false,false,false,false,false] rfl rfl (any_of HT_.out (by kernel_rfl)) (fun _ _ _ h => h) (Or.inl ⟨by rfl,?_⟩) ?_ ?_
          rotate_left
          ·intro w'
           go_simp
           with_reducible rfl
          rotate_left
          ·simp only [Act.put,List.setIfInBounds_toArray,List.set_cons_zero,List.set_cons_succ,i64_w,i32_w]
           rfl
          refine pure_ (i := 8) (N := some 75) (v := ?_) (a' := ?_) #[true,true,true,true,true,false,false,false,true,false,false,false,false,false,false,false,false,false] rfl rfl (any_of HT_.out (by kernel_rfl)) (fun _ _ _ h => h) (Or.inl ⟨by rfl,?_⟩) ?_ ?_
          rotate_left
          ·intro w'
           go_simp
           with_reducible rfl
          rotate_left
          ·simp only [Act.put,List.setIfInBounds_toArray,List.set_cons_zero,List.set_cons_succ,i64_w,i32_w]
           rfl
          refine pure_ (i := 9) (N := some 76) (v := ?_) (a' := ?_) #[true,true,true,true,true,false,false,false,true,true,false,false,false,false,false,false,false,false] rfl rfl (any_of HT_.out (by kernel_rfl)) (fun _ _ _ h => h) (Or.inl ⟨by rfl,?_⟩) ?_ ?_
          rotate_left
          ·intro w'
           go_simp
           with_reducible rfl
          rotate_left
          ·simp only [Act.put,List.setIfInBounds_toArray,List.set_cons_zero,List.set_cons_succ,i64_w,i32_w]
           rfl
          refine pure_ (i := 10) (N := some 77) (v := ?_) (a' := ?_) #[true,true,true,true,true,false,false,false,true,true,true,false,false,false,false,false,false,false] rfl rfl (any_of HT_.out (by kernel_rfl)) (fun _ _ _ h => h) (Or.inl ⟨by rfl,?_⟩) ?_ ?_
          rotate_left
          ·intro w'
           go_simp
           with_reducible rfl
          rotate_left
          ·simp only [Act.put,List.setIfInBounds_toArray,List.set_cons_zero,List.set_cons_succ,i64_w,i32_w]
           rfl
          refine pure_ (i := 11) (N := some 78) (v := ?_) (a' := ?_) #[true,true,true,true,true,false,false,false,true,true,true,true,false,false,false,false,false,false] rfl rfl (any_of HT_.out (by kernel_rfl)) (fun _ _ _ h => h) (Or.inl ⟨by rfl,?_⟩) ?_ ?_
          rotate_left
          ·intro w'
           go_simp
           with_reducible rfl
          rotate_left
          ·simp only [Act.put,List.setIfInBounds_toArray,List.set_cons_zero,List.set_cons_succ,i64_w,i32_w]
           rfl
          refine pure_ (i := 12) (N := some 79) (v := ?_) (a' := ?_) #[true,true,true,true,true,false,false,false,true,true,true,true,true,false,false,false,false,false] rfl rfl (any_of HT_.out (by kernel_rfl)) (fun _ _ _ h => h) (Or.inl ⟨by rfl,?_⟩) ?_ ?_
          rotate_left
          ·intro w'
           go_simp
           with_reducible rfl
          rotate_left
          ·simp only [Act.put,List.setIfInBounds_toArray,List.set_cons_zero,List.set_cons_succ,i64_w,i32_w]
           rfl
          refine take_ (i := 5) (N := some 72) (v := ?_) (a' := ?_) #[true,true,true,true,true,true,false,false,true,true,true,true,true,false,false,false,false,false] rfl rfl (take_ofW HT_.out HW_.out (by kernel_rfl)) (fun _ _ _ h => h) (Or.inl ⟨by rfl,?_⟩) hHeld ?_ ?_
          rotate_left
          ·rintro w' ⟨s0,s1⟩
           go_simp
           with_reducible rfl
          rotate_left
          ·simp only [Act.put,List.setIfInBounds_toArray,List.set_cons_zero,List.set_cons_succ,i64_w,i32_w]
           rfl
          refine pure_ (i := 6) (N := some 73) (v := ?_) (a' := ?_) #[true,true,true,true,true,true,true,false,true,true,true,true,true,false,false,false,false,false] rfl rfl (any_of HT_.out (by kernel_rfl)) (fun _ _ _ h => h) (Or.inl ⟨by rfl,?_⟩) ?_ ?_
          rotate_left
          ·intro w'
           go_simp
           with_reducible rfl
          rotate_left
          ·simp only [Act.put,List.setIfInBounds_toArray,List.set_cons_zero,List.set_cons_succ,i64_w,i32_w]
           rfl
          refine take_ (i := 13) (N := some 80) (v := ?_) (a' := ?_) #[true,true,true,true,true,true,true,false,true,true,true,true,true,true,false,false,false,false] rfl rfl (take_ofW HT_.out HW_.out (by kernel_rfl)) (fun _ _ _ h => h) (Or.inl ⟨by rfl,?_⟩) hHeld ?_ ?_
          rotate_left
          ·rintro w' ⟨s0,s1⟩
           go_simp
           with_reducible rfl
          rotate_left
          ·simp only [Act.put,List.setIfInBounds_toArray,List.set_cons_zero,List.set_cons_succ,i64_w,i32_w]
           rfl
          refine pure_ (i := 14) (N := some 81) (v := ?_) (a' := ?_) #[true,true,true,true,true,true,true,false,true,true,true,true,true,true,true,false,false,false] rfl rfl (any_of HT_.out (by kernel_rfl)) (fun _ _ _ h => h) (Or.inl ⟨by rfl,?_⟩) ?_ ?_
          rotate_left
          ·intro w'
           go_simp
           with_reducible rfl
          rotate_left
          ·simp only [Act.put,List.setIfInBounds_toArray,List.set_cons_zero,List.set_cons_succ,i64_w,i32_w]
           rfl
          refine one_ (i := 7) (N := some 74) #[true,true,true,true,true,true,true,true,true,true,true,true,true,true,true,false,false,false] rfl rfl (one_of HT_.out (by kernel_rfl)) (by decide) (fun K hK => ?_)
          refine goes_ Try.func19 (by kernel_rfl) rfl #[.int .u64 a0_0,.slice Ao36 t434.length co36,.int .u64 (IntKind.u64.wrap (rd t442 x15_2))] (by rfl) rfl rfl (by (try simp only [List.map_toArray,List.map_cons,List.map_nil]);first|done|rfl|(simp only [List.length_drop,List.length_take];rfl)) ?_
          with_reducible refine (privityref10_Row.calls k2 a0_0 _ _ t434 (IntKind.u64.wrap (rd t442 x15_2)) t446 _ ?side1 ?side2 A30.out).mono ?_
          (case side1 => repeat (first|exact (Kd.S_reads' HO_10.out).2.2|(with_reducible refine Kd.C_alloc ?_ _)|(with_reducible refine Kd.C_drewN ?_ _)|(with_reducible refine Kd.C_drew ?_)))
          (case side2 => exact (Kd.S_reads' HO_10.out).2.1)
          rintro e w37 ⟨v447,rfl,ho0,hb⟩
          have HS0_ := (hb.cell (World.block_lt_of_cell? _ _ (hHeld.1))).trans (hHeld.1)
          have HS1_ := (hb.cell (World.block_lt_of_cell? _ _ (hHeld.2))).trans (hHeld.2)
          refine ⟨_,rfl,?_⟩
          have n0_ := Aside0.mk (Kd.R_elder' (by (with_reducible repeat (first|apply Kd.R_alloc|apply Kd.R_drewN|apply Kd.R_drew));exact HO_6.out) (Kd.R_base ho0) hb)
          have n1_ := Aside0.mk (Kd.R_elder' (by (with_reducible repeat (first|apply Kd.R_alloc|apply Kd.R_drewN|apply Kd.R_drew));exact HO_7.out) (Kd.R_base ho0) hb)
          have n2_ := Aside0.mk (Kd.R_elder' (by (with_reducible repeat (first|apply Kd.R_alloc|apply Kd.R_drewN|apply Kd.R_drew));exact HO_8.out) (Kd.R_base ho0) hb)
          have n3_ := Aside0.mk (Kd.R_elder' (by (with_reducible repeat (first|apply Kd.R_alloc|apply Kd.R_drewN|apply Kd.R_drew));exact HO_9.out) (Kd.R_base ho0) hb)
          have n4_ := Aside0.mk (Kd.S_elder' (by (with_reducible repeat (first|apply Kd.S_alloc|apply Kd.S_drewN|apply Kd.S_drew));exact HO_10.out) (Kd.R_base ho0) hb)
          have n5_ := Aside0.mk (Kd.S_elder' (by (with_reducible repeat (first|apply Kd.S_alloc|apply Kd.S_drewN|apply Kd.S_drew));exact HO_12.out) (Kd.R_base ho0) hb)
          have n6_ := Aside0.mk (Kd.R_below (by (with_reducible repeat (first|apply Kd.R_alloc|apply Kd.R_drewN|apply Kd.R_drew));exact HO_14.out) hb)
          have n7_ := Aside0.mk (Kd.R_lower (Kd.R_new' (Kd.R_new' (Kd.R_new' (Kd.R_new' ho0 (Kd.R_lt (by (with_reducible repeat (first|apply Kd.R_alloc|apply Kd.R_drewN|apply Kd.R_drew));exact HO_6.out))) (Kd.R_lt (by (with_reducible repeat (first|apply Kd.R_alloc|apply Kd.R_drewN|apply Kd.R_drew));exact HO_7.out))) (Kd.R_lt (by (with_reducible repeat (first|apply Kd.R_alloc|apply Kd.R_drewN|apply Kd.R_drew));exact HO_8.out))) (Kd.R_lt (by (with_reducible repeat (first|apply Kd.R_alloc|apply Kd.R_drewN|apply Kd.R_drew));exact HO_9.out))) (below_size (by repeat (first|(with_reducible first|exact HB.out|apply below_alloc|apply pw_below_drewN|apply below_drew1|refine below_set ?_ GE419.out)|exact HB.out))))
          have n8_ := Aside0.mk (blk_below (g := gb419) (o := .cells #[.int .u64 a0_0,.int .i64 a0_1,.int .i64 a0_2,.slice A0_3 l0_3.length c0_3,.int .u64 a0_4,.int .u64 a0_5,.slice A0_6 l0_6.length c0_6] 28 (0,0)) (by (with_reducible repeat (first|refine blk_drewN ?_ _|refine blk_drew ?_|refine blk_alloc ?_ _));exact BK419.out) hb)
          have n9_ := Aside0.mk (below_step (by repeat (first|(with_reducible first|exact HB.out|apply below_alloc|apply pw_below_drewN|apply below_drew1|refine below_set ?_ GE419.out)|exact HB.out)) hb)
          clear HO_6
          clear HO_7
          clear HO_8
          clear HO_9
          clear HO_10
          clear HO_12
          clear HO_14
          clear BK419
          clear HB
          have HO_6 := n0_
          have HO_7 := n1_
          have HO_8 := n2_
          have HO_9 := n3_
          have HO_10 := n4_
          have HO_12 := n5_
          have HO_14 := n6_
          have HO448 := n7_
          have BK419 := n8_
          have HB := n9_
          clear n0_ n1_ n2_ n3_ n4_ n5_ n6_ n7_ n8_ n9_
          (try clear hb)
          (try clear hb2)
          (try clear hk)
          (try clear hi)
          (try clear ho0)
          obtain ⟨Ao38,co38,eo38⟩ := Kd.S_slice HO_12.out
          (first|subst eo38|(injection eo38 with f1_ f2_ f3_;have f4_ := f1_.symm;have f5_ := f3_.symm;clear f1_ f2_ f3_;subst f4_;subst f5_))
          refine hK.out _ _ ⟨HS0_,HS1_⟩ (fun hHeld => ?_)
          clear hK K
          refine norm_ (a' := ?_) ?_ ?_
          rotate_left
          ·show Act.put _ (some 74) _ = _
           simp only [Act.put,List.setIfInBounds_toArray,List.set_cons_zero,List.set_cons_succ,i64_w,i32_w]
           rfl
          refine one_ (i := 15) (N := some 82) #[true,true,true,true,true,true,true,true,true,true,true,true,true,true,true,true,false,false] rfl rfl (one_of HT_.out (by kernel_rfl)) (by decide) (fun K hK => ?_)
          refine goes_ Try.func19 (by kernel_rfl) rfl #[.int .u64 a0_0,.slice Ao38 t438.length co38,.int .u64 (IntKind.u64.wrap (rd t442 x15_2))] (by rfl) rfl rfl (by (try simp only [List.map_toArray,List.map_cons,List.map_nil]);first|done|rfl|(simp only [List.length_drop,List.length_take];rfl)) ?_
          with_reducible refine (privityref10_Row.calls k2 a0_0 _ _ t438 (IntKind.u64.wrap (rd t442 x15_2)) t450 _ ?side1 ?side2 A31.out).mono ?_
          (case side1 => repeat (first|exact (Kd.S_reads' HO_12.out).2.2|(with_reducible refine Kd.C_alloc ?_ _)|(with_reducible refine Kd.C_drewN ?_ _)|(with_reducible refine Kd.C_drew ?_)))
          (case side2 => exact (Kd.S_reads' HO_12.out).2.1)
          rintro e w39 ⟨v451,rfl,ho0,hb⟩
          have HS0_ := (hb.cell (World.block_lt_of_cell? _ _ (hHeld.1))).trans (hHeld.1)
          have HS1_ := (hb.cell (World.block_lt_of_cell? _ _ (hHeld.2))).trans (hHeld.2)
          refine ⟨_,rfl,?_⟩
          have n0_ := Aside0.mk (Kd.R_elder' (by (with_reducible repeat (first|apply Kd.R_alloc|apply Kd.R_drewN|apply Kd.R_drew));exact HO_6.out) (Kd.R_base ho0) hb)
          have n1_ := Aside0.mk (Kd.R_elder' (by (with_reducible repeat (first|apply Kd.R_alloc|apply Kd.R_drewN|apply Kd.R_drew));exact HO_7.out) (Kd.R_base ho0) hb)
          have n2_ := Aside0.mk (Kd.R_elder' (by (with_reducible repeat (first|apply Kd.R_alloc|apply Kd.R_drewN|apply Kd.R_drew));exact HO_8.out) (Kd.R_base ho0) hb)
          have n3_ := Aside0.mk (Kd.R_elder' (by (with_reducible repeat (first|apply Kd.R_alloc|apply Kd.R_drewN|apply Kd.R_drew));exact HO_9.out) (Kd.R_base ho0) hb)
          have n4_ := Aside0.mk (Kd.S_elder' (by (with_reducible repeat (first|apply Kd.S_alloc|apply Kd.S_drewN|apply Kd.S_drew));exact HO_10.out) (Kd.R_base ho0) hb)
          have n5_ := Aside0.mk (Kd.S_elder' (by (with_reducible repeat (first|apply Kd.S_alloc|apply Kd.S_drewN|apply Kd.S_drew));exact HO_12.out) (Kd.R_base ho0) hb)
          have n6_ := Aside0.mk (Kd.R_below (by (with_reducible repeat (first|apply Kd.R_alloc|apply Kd.R_drewN|apply Kd.R_drew));exact HO_14.out) hb)
          have n7_ := Aside0.mk (Kd.R_elder' (by (with_reducible repeat (first|apply Kd.R_alloc|apply Kd.R_drewN|apply Kd.R_drew));exact HO448.out) (Kd.R_base ho0) hb)
          have n8_ := Aside0.mk (Kd.R_lower (Kd.R_new' (Kd.R_new' (Kd.R_new' (Kd.R_new' (Kd.R_new' ho0 (Kd.R_lt (by (with_reducible repeat (first|apply Kd.R_alloc|apply Kd.R_drewN|apply Kd.R_drew));exact HO_6.out))) (Kd.R_lt (by (with_reducible repeat (first|apply Kd.R_alloc|apply Kd.R_drewN|apply Kd.R_drew));exact HO_7.out))) (Kd.R_lt (by (with_reducible repeat (first|apply Kd.R_alloc|apply Kd.R_drewN|apply Kd.R_drew));exact HO_8.out))) (Kd.R_lt (by (with_reducible repeat (first|apply Kd.R_alloc|apply Kd.R_drewN|apply Kd.R_drew));exact HO_9.out))) (Kd.R_lt (by (with_reducible repeat (first|apply Kd.R_alloc|apply Kd.R_drewN|apply Kd.R_drew));exact HO448.out))) (below_size (by repeat (first|(with_reducible first|exact HB.out|apply below_alloc|apply pw_below_drewN|apply below_drew1|refine below_set ?_ GE419.out)|exact HB.out))))
          have n9_ := Aside0.mk (blk_below (g := gb419) (o := .cells #[.int .u64 a0_0,.int .i64 a0_1,.int .i64 a0_2,.slice A0_3 l0_3.length c0_3,.int .u64 a0_4,.int .u64 a0_5,.slice A0_6 l0_6.length c0_6] 28 (0,0)) (by (with_reducible repeat (first|refine blk_drewN ?_ _|refine blk_drew ?_|refine blk_alloc ?_ _));exact BK419.out) hb)
          have n10_ := Aside0.mk (below_step (by repeat (first|(with_reducible first|exact HB.out|apply below_alloc|apply pw_below_drewN|apply below_drew1|refine below_set ?_ GE419.out)|exact HB.out)) hb)
          clear HO_6
          clear HO_7
          clear HO_8
          clear HO_9
          clear HO_10
          clear HO_12
          clear HO_14
          clear HO448
          clear BK419
          clear HB
          have HO_6 := n0_
          have HO_7 := n1_
          have HO_8 := n2_
          have HO_9 := n3_
          have HO_10 := n4_
          have HO_12 := n5_
          have HO_14 := n6_
          have HO448 := n7_
          have HO452 := n8_
          have BK419 := n9_
          have HB := n10_
          clear n0_ n1_ n2_ n3_ n4_ n5_ n6_ n7_ n8_ n9_ n10_
          (try clear hb)
          (try clear hb2)
          (try clear hk)
          (try clear hi)
          (try clear ho0)
          obtain ⟨Ao40,co40,eo40⟩ := Kd.R_slice HO448.out
          (first|subst eo40|(injection eo40 with f1_ f2_ f3_;have f4_ := f1_.symm;have f5_ := f3_.symm;clear f1_ f2_ f3_;subst f4_;subst f5_))
          obtain ⟨Ao41,co41,eo41⟩ := Kd.R_slice HO452.out
          (first|subst eo41|(injection eo41 with f1_ f2_ f3_;have f4_ := f1_.symm;have f5_ := f3_.symm;clear f1_ f2_ f3_;subst f4_;subst f5_))
          refine hK.out _ _ ⟨HS0_,HS1_⟩ (fun hHeld => ?_)
          clear hK K
          refine norm_ (a' := ?_) ?_ ?_
          rotate_left
          ·show Act.put _ (some 82) _ = _
           simp only [Act.put,List.setIfInBounds_toArray,List.set_cons_zero,List.set_cons_succ,i64_w,i32_w]
           rfl
          refine one_ (i := 16) (N := some 83) #[true,true,true,true,true,true,true,true,true,true,true,true,true,true,true,true,true,false] rfl rfl (one_of HT_.out (by kernel_rfl)) (by decide) (fun K hK => ?_)
          refine goes_ Try.func18 (by kernel_rfl) rfl #[.slice Ao40 t446.length co40,.slice Ao41 t450.length co41] (by rfl) rfl rfl (by (try simp only [List.map_toArray,List.map_cons,List.map_nil]);first|done|rfl|(simp only [List.length_drop,List.length_take];rfl)) ?_
          with_reducible refine (privityref14_Words.calls k2 _ _ t446 _ _ t450 true _ ?side1 ?side2 ?side3 ?side4 A32.out).mono ?_
          (case side1 => repeat (first|exact (Kd.R_reads' HO448.out).2.2|(with_reducible refine Kd.C_alloc ?_ _)|(with_reducible refine Kd.C_drewN ?_ _)|(with_reducible refine Kd.C_drew ?_)))
          (case side2 => exact (Kd.R_reads' HO448.out).2.1)
          (case side3 => repeat (first|exact (Kd.R_reads' HO452.out).2.2|(with_reducible refine Kd.C_alloc ?_ _)|(with_reducible refine Kd.C_drewN ?_ _)|(with_reducible refine Kd.C_drew ?_)))
          (case side4 => exact (Kd.R_reads' HO452.out).2.1)
          rintro e w' ⟨rfl,⟨nd,rfl⟩⟩
          refine ⟨_,rfl,?_⟩
          refine hK.out _ _ ⟨hHeld.1,hHeld.2⟩ (fun hHeld => ?_)
          clear hK K
          refine norm_ (a' := ?_) ?_ ?_
          rotate_left
          ·show Act.put _ (some 83) _ = _
           simp only [Act.put,List.setIfInBounds_toArray,List.set_cons_zero,List.set_cons_succ,i64_w,i32_w]
           rfl
          refine pure_ (i := 17) (N := some 84) (v := ?_) (a' := ?_) #[true,true,true,true,true,true,true,true,true,true,true,true,true,true,true,true,true,true] rfl rfl (any_of HT_.out (by kernel_rfl)) (fun _ _ _ h => h) (Or.inl ⟨by rfl,?_⟩) ?_ ?_
          rotate_left
          ·intro w'
           go_simp
           with_reducible rfl
          rotate_left
          ·simp only [Act.put,List.setIfInBounds_toArray,List.set_cons_zero,List.set_cons_succ,i64_w,i32_w]
           rfl
          refine done_ (done_of HT_.out (by kernel_rfl)) ?_
          try go_wp2
          go_roundg k2
          case measure => have := HJ8.out;have := HK2.out;omega
          case rel => exact ⟨(wrap64 (x15_2 + 1)),(by first|rfl|(simp;done)|(simp [*];done)),H',⟨by have := HJ8.out;have := HK2.out;omega⟩,⟨by (with_reducible repeat (first|apply Kd.R_alloc|apply Kd.R_drewN|apply Kd.R_drew));exact Kd.R_mono HO_6.out (fun _ hk => ⟨hk.1.1.1,⟨hk.1.1.2.1,hk.1.1.2.2⟩⟩)⟩,⟨by (with_reducible repeat (first|apply Kd.R_alloc|apply Kd.R_drewN|apply Kd.R_drew));exact Kd.R_mono HO_7.out (fun _ hk => ⟨hk.1.1.1,⟨hk.1.1.2.1,hk.1.1.2.2⟩⟩)⟩,⟨by (with_reducible repeat (first|apply Kd.R_alloc|apply Kd.R_drewN|apply Kd.R_drew));exact Kd.R_mono HO_8.out (fun _ hk => ⟨hk.1.1.1,⟨hk.1.1.2.1,hk.1.1.2.2⟩⟩)⟩,⟨by (with_reducible repeat (first|apply Kd.R_alloc|apply Kd.R_drewN|apply Kd.R_drew));exact Kd.R_mono HO_9.out (fun _ hk => ⟨hk.1.1.1,⟨hk.1.1.2.1,hk.1.1.2.2⟩⟩)⟩,⟨by (with_reducible repeat (first|apply Kd.S_alloc|apply Kd.S_drewN|apply Kd.S_drew));exact Kd.S_mono HO_10.out (fun _ hk => ⟨hk.1.1.1,⟨hk.1.1.2.1,⟨hk.1.1.2.2.1,⟨hk.1.1.2.2.2.1,hk.1.1.2.2.2.2⟩⟩⟩⟩)⟩,⟨by (with_reducible repeat (first|apply Kd.S_alloc|apply Kd.S_drewN|apply Kd.S_drew));exact Kd.S_mono HO_12.out (fun _ hk => ⟨hk.1.1.1,⟨hk.1.1.2.1,⟨hk.1.1.2.2.1,⟨hk.1.1.2.2.2.1,hk.1.1.2.2.2.2⟩⟩⟩⟩)⟩,⟨by (with_reducible repeat (first|apply Kd.R_alloc|apply Kd.R_drewN|apply Kd.R_drew));exact HO_14.out⟩,⟨by (with_reducible repeat (first|refine blk_drewN ?_ _|refine blk_drew ?_|refine blk_alloc ?_ _));exact BK419.out⟩,⟨by repeat (first|(with_reducible first|exact HB.out|apply below_alloc|apply pw_below_drewN|apply below_drew1|refine below_set ?_ GE419.out)|exact HB.out)⟩⟩
         ·replace c33 := Bool.eq_false_iff.mpr c33
          subst c33
          have H1 : ((privitylaw43_awake.f k2).bind fun t454 => (some t454)) = some r := by rw [if_neg (show ¬ (false = true) by decide)] at H;exact H
          clear H
          have H := H1
          clear H1
          replace H := Option.bind_eq_some_iff.mp H
          obtain ⟨t454,A420,H⟩ := H
          replace H : (some t454) = some r := H
          have A42 := Aside0.mk A420
          clear A420
          obtain rfl := Option.some.inj H
          obtain ⟨Ao43,co43,eo43⟩ := Kd.R_slice HO_14.out
          subst eo43
          try go_wp2
          have n0_ := Aside0.mk (Kd.R_drew HO_6.out)
          have n1_ := Aside0.mk (Kd.R_drew HO_7.out)
          have n2_ := Aside0.mk (Kd.R_drew HO_8.out)
          have n3_ := Aside0.mk (Kd.R_drew HO_9.out)
          have n4_ := Aside0.mk (Kd.S_drew HO_10.out)
          have n5_ := Aside0.mk (Kd.S_drew HO_12.out)
          have n6_ := Aside0.mk (Kd.R_drew HO_14.out)
          have n7_ := Aside0.mk (blk_drew BK419.out)
          have n8_ := Aside0.mk (below_drew1 HB.out)
          clear HO_6
          clear HO_7
          clear HO_8
          clear HO_9
          clear HO_10
          clear HO_12
          clear HO_14
          clear BK419
          clear HB
          have HO_6 := n0_
          have HO_7 := n1_
          have HO_8 := n2_
          have HO_9 := n3_
          have HO_10 := n4_
          have HO_12 := n5_
          have HO_14 := n6_
          have BK419 := n7_
          have HB := n8_
          clear n0_ n1_ n2_ n3_ n4_ n5_ n6_ n7_ n8_
          have p445 : 0 ≤ (x15_2 : Int) := of_decide_eq_true (by first|(with_reducible assumption)|assumption)
          have q445 : x15_2 < (t442.length : Int) := of_decide_eq_true (by first|(with_reducible assumption)|assumption)
          obtain ⟨ad445,e445,hx445_0⟩ := Kd.at_int (Kd.R_reads' HO_14.out).2.2 x15_2 p445 q445
          cases e445
          replace p445 := eq_true p445
          replace q445 := eq_true q445
          have p449 : 0 ≤ (x15_2 : Int) := of_decide_eq_true (by first|(with_reducible assumption)|assumption)
          have q449 : x15_2 < (t442.length : Int) := of_decide_eq_true (by first|(with_reducible assumption)|assumption)
          obtain ⟨ad449,e449,hx449_0⟩ := Kd.at_int (Kd.R_reads' HO_14.out).2.2 x15_2 p449 q449
          obtain rfl : ad445 = ad449 := (by injection e449)
          replace p449 := eq_true p449
          replace q449 := eq_true q449
          obtain ⟨Ao45,co45,eo45⟩ := Kd.S_slice HO_10.out
          (first|subst eo45|(injection eo45 with f1_ f2_ f3_;have f4_ := f1_.symm;have f5_ := f3_.symm;clear f1_ f2_ f3_;subst f4_;subst f5_))
          refine start_ (n := 18) (S := fun w' => w'.cell? (ad445.add (x15_2).toNat) = some (.int .i64 (rd t442 x15_2)) ∧ w'.cell? (ad445.add (x15_2).toNat) = some (.int .i64 (rd t442 x15_2))) (ds := []) #[false,false,false,false,false,false,false,false,false,false,false,false,false,false,false,false,false,false] (by kernel_rfl) rfl rfl ⟨hx445_0,hx449_0⟩ (fun hHeld => ?_);refine with_tabW privitylaw43_TapeshiftComplete.tab14 privitylaw43_TapeshiftComplete.bits14 (fun HT_ HW_ => ?_)
          generalize wr.drew = w44 at HO_6 HO_7 HO_8 HO_9 HO_10 HO_12 HO_14 BK419 HB hx445_0 hx449_0 hHeld ⊢
          refine pure_ (i := 0) (N := some 67) (v := ?_) (a' := ?_) #[true,false,false,false,false,false,false,false,false,false,false,false,false,false,false,false,false,false] rfl rfl (any_of HT_.out (by kernel_rfl)) (fun _ _ _ h => h) (Or.inl ⟨by rfl,?_⟩) ?_ ?_
          rotate_left
          ·intro w'
           go_simp
           with_reducible rfl
          rotate_left
          ·simp only [Act.put,List.setIfInBounds_toArray,List.set_cons_zero,List.set_cons_succ,i64_w,i32_w]
           rfl
          refine pure_ (i := 1) (N := some 68) (v := ?_) (a' := ?_) #[true,true,false,false,false,false,false,false,false,false,false,false,false,false,false,false,false,false] rfl rfl (any_of HT_.out (by kernel_rfl)) (fun _ _ _ h => h) (Or.inl ⟨by rfl,?_⟩) ?_ ?_
          rotate_left
          ·intro w'
           go_simp
           with_reducible rfl
          rotate_left
          ·simp only [Act.put,List.setIfInBounds_toArray,List.set_cons_zero,List.set_cons_succ,i64_w,i32_w]
           rfl
          refine pure_ (i := 2) (N := some 69) (v := ?_) (a' := ?_) #[true,true,true,false,false,false,false,false,false,false,false,false,false,false,false,false,false,false] rfl rfl (any_of HT_.out (by kernel_rfl)) (fun _ _ _ h => h) (Or.inl ⟨by rfl,?_⟩) ?_ ?_
          rotate_left
          ·intro w'
           go_simp
           with_reducible rfl
          rotate_left
          ·simp only [Act.put,List.setIfInBounds_toArray,List.set_cons_zero,List.set_cons_succ,i64_w,i32_w]
           rfl
          refine pure_ (i := 3) (N := some 70) (v := ?_) (a' := ?_) #[true,true,true,true,false,false,false,false,false,false,false,false,false,false,false,false,false,false] rfl rfl (any_of HT_.out (by kernel_rfl)) (fun _ _ _ h => h) (Or.inl ⟨by rfl,?_⟩) ?_ ?_
          rotate_left
          ·intro w'
           go_simp
           with_reducible rfl
          rotate_left
          ·simp only [Act.put,List.setIfInBounds_toArray,List.set_cons_zero,List.set_cons_succ,i64_w,i32_w]
           rfl
          refine pure_ (i := 4) (N := some 71) (v := ?_) (a' := ?_) #[true,true,true,true,true,false,false,false,false,false,false,false,false,false,false,false,false,false] rfl rfl (any_of HT_.out (by kernel_rfl)) (fun _ _ _ h => h) (Or.inl ⟨by rfl,?_⟩) ?_ ?_
          rotate_left
          ·intro w'
           go_simp
           with_reducible rfl
          rotate_left
          ·simp only [Act.put,List.setIfInBounds_toArray,List.set_cons_zero,List.set_cons_succ,i64_w,i32_w]
           rfl
          refine pure_ (i := 8) (N := some 75) (v := ?_) (a' := ?_) #[true,true,true,true,true,false,false,false,true,false,false,false,false,false,false,false,false,false] rfl rfl (any_of HT_.out (by kernel_rfl)) (fun _ _ _ h => h) (Or.inl ⟨by rfl,?_⟩) ?_ ?_
          rotate_left
          ·intro w'
           go_simp
           with_reducible rfl
          rotate_left
          ·simp only [Act.put,List.setIfInBounds_toArray,List.set_cons_zero,List.set_cons_succ,i64_w,i32_w]
           rfl
          refine pure_ (i := 9) (N := some 76) (v := ?_) (a' := ?_) #[true,true,true,true,true,false,false,false,true,true,false,false,false,false,false,false,false,false] rfl rfl (any_of HT_.out (by kernel_rfl)) (fun _ _ _ h => h) (Or.inl ⟨by rfl,?_⟩) ?_ ?_
          rotate_left
          ·intro w'
           go_simp
           with_reducible rfl
          rotate_left
          ·simp only [Act.put,List.setIfInBounds_toArray,List.set_cons_zero,List.set_cons_succ,i64_w,i32_w]
           rfl
          refine pure_ (i := 10) (N := some 77) (v := ?_) (a' := ?_) #[true,true,true,true,true,false,false,false,true,true,true,false,false,false,false,false,false,false] rfl rfl (any_of HT_.out (by kernel_rfl)) (fun _ _ _ h => h) (Or.inl ⟨by rfl,?_⟩) ?_ ?_
          rotate_left
          ·intro w'
           go_simp
           with_reducible rfl
          rotate_left
          ·simp only [Act.put,List.setIfInBounds_toArray,List.set_cons_zero,List.set_cons_succ,i64_w,i32_w]
           rfl
          refine pure_ (i := 11) (N := some 78) (v := ?_) (a' := ?_) #[true,true,true,true,true,false,false,false,true,true,true,true,false,false,false,false,false,false] rfl rfl (any_of HT_.out (by kernel_rfl)) (fun _ _ _ h => h) (Or.inl ⟨by rfl,?_⟩) ?_ ?_
          rotate_left
          ·intro w'
           go_simp
           with_reducible rfl
          rotate_left
          ·simp only [Act.put,List.setIfInBounds_toArray,List.set_cons_zero,List.set_cons_succ,i64_w,i32_w]
           rfl
          refine pure_ (i := 12) (N := some 79) (v := ?_) (a' := ?_) #[true,true,true,true,true,false,false,false,true,true,true,true,true,false,false,false,false,false] rfl rfl (any_of HT_.out (by kernel_rfl)) (fun _ _ _ h => h) (Or.inl ⟨by rfl,?_⟩) ?_ ?_
          rotate_left
          ·intro w'
           go_simp
           with_reducible rfl
          rotate_left
          ·simp only [Act.put,List.setIfInBounds_toArray,List.set_cons_zero,List.set_cons_succ,i64_w,i32_w]
           rfl
          refine take_ (i := 5) (N := some 72) (v := ?_) (a' := ?_) #[true,true,true,true,true,true,false,false,true,true,true,true,true,false,false,false,false,false] rfl rfl (take_ofW HT_.out HW_.out (by kernel_rfl)) (fun _ _ _ h => h) (Or.inl ⟨by rfl,?_⟩) hHeld ?_ ?_
          rotate_left
          ·rintro w' ⟨s0,s1⟩
           go_simp
           with_reducible rfl
          rotate_left
          ·simp only [Act.put,List.setIfInBounds_toArray,List.set_cons_zero,List.set_cons_succ,i64_w,i32_w]
           rfl
          refine pure_ (i := 6) (N := some 73) (v := ?_) (a' := ?_) #[true,true,true,true,true,true,true,false,true,true,true,true,true,false,false,false,false,false] rfl rfl (any_of HT_.out (by kernel_rfl)) (fun _ _ _ h => h) (Or.inl ⟨by rfl,?_⟩) ?_ ?_
          rotate_left
          ·intro w'
           go_simp
           with_reducible rfl
          rotate_left
          ·simp only [Act.put,List.setIfInBounds_toArray,List.set_cons_zero,List.set_cons_succ,i64_w,i32_w]
           rfl
          refine take_ (i := 13) (N := some 80) (v := ?_) (a' := ?_) #[true,true,true,true,true,true,true,false,true,true,true,true,true,true,false,false,false,false] rfl rfl (take_ofW HT_.out HW_.out (by kernel_rfl)) (fun _ _ _ h => h) (Or.inl ⟨by rfl,?_⟩) hHeld ?_ ?_
          rotate_left
          ·rintro w' ⟨s0,s1⟩
           go_simp
           with_reducible rfl
          rotate_left
          ·simp only [Act.put,List.setIfInBounds_toArray,List.set_cons_zero,List.set_cons_succ,i64_w,i32_w]
           rfl
          refine pure_ (i := 14) (N := some 81) (v := ?_) (a' := ?_) #[true,true,true,true,true,true,true,false,true,true,true,true,true,true,true,false,false,false] rfl rfl (any_of HT_.out (by kernel_rfl)) (fun _ _ _ h => h) (Or.inl ⟨by rfl,?_⟩) ?_ ?_
          rotate_left
          ·intro w'
           go_simp
           with_reducible rfl
          rotate_left
          ·simp only [Act.put,List.setIfInBounds_toArray,List.set_cons_zero,List.set_cons_succ,i64_w,i32_w]
           rfl
          refine one_ (i := 7) (N := some 74) #[true,true,true,true,true,true,true,true,true,true,true,true,true,true,true,false,false,false] rfl rfl (one_of HT_.out (by kernel_rfl)) (by decide) (fun K hK => ?_)
          refine goes_ Try.func19 (by kernel_rfl) rfl #[.int .u64 a0_0,.slice Ao45 t434.length co45,.int .u64 (IntKind.u64.wrap (rd t442 x15_2))] (by rfl) rfl rfl (by (try simp only [List.map_toArray,List.map_cons,List.map_nil]);first|done|rfl|(simp only [List.length_drop,List.length_take];rfl)) ?_
          with_reducible refine (privityref10_Row.calls k2 a0_0 _ _ t434 (IntKind.u64.wrap (rd t442 x15_2)) t446 _ ?side1 ?side2 A30.out).mono ?_
          (case side1 => repeat (first|exact (Kd.S_reads' HO_10.out).2.2|(with_reducible refine Kd.C_alloc ?_ _)|(with_reducible refine Kd.C_drewN ?_ _)|(with_reducible refine Kd.C_drew ?_)))
          (case side2 => exact (Kd.S_reads' HO_10.out).2.1)
          rintro e w46 ⟨v447,rfl,ho0,hb⟩
          have HS0_ := (hb.cell (World.block_lt_of_cell? _ _ (hHeld.1))).trans (hHeld.1)
          have HS1_ := (hb.cell (World.block_lt_of_cell? _ _ (hHeld.2))).trans (hHeld.2)
          refine ⟨_,rfl,?_⟩
          have n0_ := Aside0.mk (Kd.R_elder' (by (with_reducible repeat (first|apply Kd.R_alloc|apply Kd.R_drewN|apply Kd.R_drew));exact HO_6.out) (Kd.R_base ho0) hb)
          have n1_ := Aside0.mk (Kd.R_elder' (by (with_reducible repeat (first|apply Kd.R_alloc|apply Kd.R_drewN|apply Kd.R_drew));exact HO_7.out) (Kd.R_base ho0) hb)
          have n2_ := Aside0.mk (Kd.R_elder' (by (with_reducible repeat (first|apply Kd.R_alloc|apply Kd.R_drewN|apply Kd.R_drew));exact HO_8.out) (Kd.R_base ho0) hb)
          have n3_ := Aside0.mk (Kd.R_elder' (by (with_reducible repeat (first|apply Kd.R_alloc|apply Kd.R_drewN|apply Kd.R_drew));exact HO_9.out) (Kd.R_base ho0) hb)
          have n4_ := Aside0.mk (Kd.S_elder' (by (with_reducible repeat (first|apply Kd.S_alloc|apply Kd.S_drewN|apply Kd.S_drew));exact HO_10.out) (Kd.R_base ho0) hb)
          have n5_ := Aside0.mk (Kd.S_elder' (by (with_reducible repeat (first|apply Kd.S_alloc|apply Kd.S_drewN|apply Kd.S_drew));exact HO_12.out) (Kd.R_base ho0) hb)
          have n6_ := Aside0.mk (Kd.R_below (by (with_reducible repeat (first|apply Kd.R_alloc|apply Kd.R_drewN|apply Kd.R_drew));exact HO_14.out) hb)
          have n7_ := Aside0.mk (Kd.R_lower (Kd.R_new' (Kd.R_new' (Kd.R_new' (Kd.R_new' ho0 (Kd.R_lt (by (with_reducible repeat (first|apply Kd.R_alloc|apply Kd.R_drewN|apply Kd.R_drew));exact HO_6.out))) (Kd.R_lt (by (with_reducible repeat (first|apply Kd.R_alloc|apply Kd.R_drewN|apply Kd.R_drew));exact HO_7.out))) (Kd.R_lt (by (with_reducible repeat (first|apply Kd.R_alloc|apply Kd.R_drewN|apply Kd.R_drew));exact HO_8.out))) (Kd.R_lt (by (with_reducible repeat (first|apply Kd.R_alloc|apply Kd.R_drewN|apply Kd.R_drew));exact HO_9.out))) (below_size (by repeat (first|(with_reducible first|exact HB.out|apply below_alloc|apply pw_below_drewN|apply below_drew1|refine below_set ?_ GE419.out)|exact HB.out))))
          have n8_ := Aside0.mk (blk_below (g := gb419) (o := .cells #[.int .u64 a0_0,.int .i64 a0_1,.int .i64 a0_2,.slice A0_3 l0_3.length c0_3,.int .u64 a0_4,.int .u64 a0_5,.slice A0_6 l0_6.length c0_6] 28 (0,0)) (by (with_reducible repeat (first|refine blk_drewN ?_ _|refine blk_drew ?_|refine blk_alloc ?_ _));exact BK419.out) hb)
          have n9_ := Aside0.mk (below_step (by repeat (first|(with_reducible first|exact HB.out|apply below_alloc|apply pw_below_drewN|apply below_drew1|refine below_set ?_ GE419.out)|exact HB.out)) hb)
          clear HO_6
          clear HO_7
          clear HO_8
          clear HO_9
          clear HO_10
          clear HO_12
          clear HO_14
          clear BK419
          clear HB
          have HO_6 := n0_
          have HO_7 := n1_
          have HO_8 := n2_
          have HO_9 := n3_
          have HO_10 := n4_
          have HO_12 := n5_
          have HO_14 := n6_
          have HO448 := n7_
          have BK419 := n8_
          have HB := n9_
          clear n0_ n1_ n2_ n3_ n4_ n5_ n6_ n7_ n8_ n9_
          (try clear hb)
          (try clear hb2)
          (try clear hk)
          (try clear hi)
          (try clear ho0)
          obtain ⟨Ao47,co47,eo47⟩ := Kd.S_slice HO_12.out
          (first|subst eo47|(injection eo47 with f1_ f2_ f3_;have f4_ := f1_.symm;have f5_ := f3_.symm;clear f1_ f2_ f3_;subst f4_;subst f5_))
          refine hK.out _ _ ⟨HS0_,HS1_⟩ (fun hHeld => ?_)
          clear hK K
          refine norm_ (a' := ?_) ?_ ?_
          rotate_left
          ·show Act.put _ (some 74) _ = _
           simp only [Act.put,List.setIfInBounds_toArray,List.set_cons_zero,List.set_cons_succ,i64_w,i32_w]
           rfl
          refine one_ (i := 15) (N := some 82) #[true,true,true,true,true,true,true,true,true,true,true,true,true,true,true,true,false,false] rfl rfl (one_of HT_.out (by kernel_rfl)) (by decide) (fun K hK => ?_)
          refine goes_ Try.func19 (by kernel_rfl) rfl #[.int .u64 a0_0,.slice Ao47 t438.length co47,.int .u64 (IntKind.u64.wrap (rd t442 x15_2))] (by rfl) rfl rfl (by (try simp only [List.map_toArray,List.map_cons,List.map_nil]);first|done|rfl|(simp only [List.length_drop,List.length_take];rfl)) ?_
          with_reducible refine (privityref10_Row.calls k2 a0_0 _ _ t438 (IntKind.u64.wrap (rd t442 x15_2)) t450 _ ?side1 ?side2 A31.out).mono ?_
          (case side1 => repeat (first|exact (Kd.S_reads' HO_12.out).2.2|(with_reducible refine Kd.C_alloc ?_ _)|(with_reducible refine Kd.C_drewN ?_ _)|(with_reducible refine Kd.C_drew ?_)))
          (case side2 => exact (Kd.S_reads' HO_12.out).2.1)
          rintro e w48 ⟨v451,rfl,ho0,hb⟩
          have HS0_ := (hb.cell (World.block_lt_of_cell? _ _ (hHeld.1))).trans (hHeld.1)
          have HS1_ := (hb.cell (World.block_lt_of_cell? _ _ (hHeld.2))).trans (hHeld.2)
          refine ⟨_,rfl,?_⟩
          have n0_ := Aside0.mk (Kd.R_elder' (by (with_reducible repeat (first|apply Kd.R_alloc|apply Kd.R_drewN|apply Kd.R_drew));exact HO_6.out) (Kd.R_base ho0) hb)
          have n1_ := Aside0.mk (Kd.R_elder' (by (with_reducible repeat (first|apply Kd.R_alloc|apply Kd.R_drewN|apply Kd.R_drew));exact HO_7.out) (Kd.R_base ho0) hb)
          have n2_ := Aside0.mk (Kd.R_elder' (by (with_reducible repeat (first|apply Kd.R_alloc|apply Kd.R_drewN|apply Kd.R_drew));exact HO_8.out) (Kd.R_base ho0) hb)
          have n3_ := Aside0.mk (Kd.R_elder' (by (with_reducible repeat (first|apply Kd.R_alloc|apply Kd.R_drewN|apply Kd.R_drew));exact HO_9.out) (Kd.R_base ho0) hb)
          have n4_ := Aside0.mk (Kd.S_elder' (by (with_reducible repeat (first|apply Kd.S_alloc|apply Kd.S_drewN|apply Kd.S_drew));exact HO_10.out) (Kd.R_base ho0) hb)
          have n5_ := Aside0.mk (Kd.S_elder' (by (with_reducible repeat (first|apply Kd.S_alloc|apply Kd.S_drewN|apply Kd.S_drew));exact HO_12.out) (Kd.R_base ho0) hb)
          have n6_ := Aside0.mk (Kd.R_below (by (with_reducible repeat (first|apply Kd.R_alloc|apply Kd.R_drewN|apply Kd.R_drew));exact HO_14.out) hb)
          have n7_ := Aside0.mk (Kd.R_elder' (by (with_reducible repeat (first|apply Kd.R_alloc|apply Kd.R_drewN|apply Kd.R_drew));exact HO448.out) (Kd.R_base ho0) hb)
          have n8_ := Aside0.mk (Kd.R_lower (Kd.R_new' (Kd.R_new' (Kd.R_new' (Kd.R_new' (Kd.R_new' ho0 (Kd.R_lt (by (with_reducible repeat (first|apply Kd.R_alloc|apply Kd.R_drewN|apply Kd.R_drew));exact HO_6.out))) (Kd.R_lt (by (with_reducible repeat (first|apply Kd.R_alloc|apply Kd.R_drewN|apply Kd.R_drew));exact HO_7.out))) (Kd.R_lt (by (with_reducible repeat (first|apply Kd.R_alloc|apply Kd.R_drewN|apply Kd.R_drew));exact HO_8.out))) (Kd.R_lt (by (with_reducible repeat (first|apply Kd.R_alloc|apply Kd.R_drewN|apply Kd.R_drew));exact HO_9.out))) (Kd.R_lt (by (with_reducible repeat (first|apply Kd.R_alloc|apply Kd.R_drewN|apply Kd.R_drew));exact HO448.out))) (below_size (by repeat (first|(with_reducible first|exact HB.out|apply below_alloc|apply pw_below_drewN|apply below_drew1|refine below_set ?_ GE419.out)|exact HB.out))))
          have n9_ := Aside0.mk (blk_below (g := gb419) (o := .cells #[.int .u64 a0_0,.int .i64 a0_1,.int .i64 a0_2,.slice A0_3 l0_3.length c0_3,.int .u64 a0_4,.int .u64 a0_5,.slice A0_6 l0_6.length c0_6] 28 (0,0)) (by (with_reducible repeat (first|refine blk_drewN ?_ _|refine blk_drew ?_|refine blk_alloc ?_ _));exact BK419.out) hb)
          have n10_ := Aside0.mk (below_step (by repeat (first|(with_reducible first|exact HB.out|apply below_alloc|apply pw_below_drewN|apply below_drew1|refine below_set ?_ GE419.out)|exact HB.out)) hb)
          clear HO_6
          clear HO_7
          clear HO_8
          clear HO_9
          clear HO_10
          clear HO_12
          clear HO_14
          clear HO448
          clear BK419
          clear HB
          have HO_6 := n0_
          have HO_7 := n1_
          have HO_8 := n2_
          have HO_9 := n3_
          have HO_10 := n4_
          have HO_12 := n5_
          have HO_14 := n6_
          have HO448 := n7_
          have HO452 := n8_
          have BK419 := n9_
          have HB := n10_
          clear n0_ n1_ n2_ n3_ n4_ n5_ n6_ n7_ n8_ n9_ n10_
          (try clear hb)
          (try clear hb2)
          (try clear hk)
          (try clear hi)
          (try clear ho0)
          obtain ⟨Ao49,co49,eo49⟩ := Kd.R_slice HO448.out
          (first|subst eo49|(injection eo49 with f1_ f2_ f3_;have f4_ := f1_.symm;have f5_ := f3_.symm;clear f1_ f2_ f3_;subst f4_;subst f5_))
          obtain ⟨Ao50,co50,eo50⟩ := Kd.R_slice HO452.out
          (first|subst eo50|(injection eo50 with f1_ f2_ f3_;have f4_ := f1_.symm;have f5_ := f3_.symm;clear f1_ f2_ f3_;subst f4_;subst f5_))
          refine hK.out _ _ ⟨HS0_,HS1_⟩ (fun hHeld => ?_)
          clear hK K
          refine norm_ (a' := ?_) ?_ ?_
          rotate_left
          ·show Act.put _ (some 82) _ = _
           simp only [Act.put,List.setIfInBounds_toArray,List.set_cons_zero,List.set_cons_succ,i64_w,i32_w]
           rfl
          refine one_ (i := 16) (N := some 83) #[true,true,true,true,true,true,true,true,true,true,true,true,true,true,true,true,true,false] rfl rfl (one_of HT_.out (by kernel_rfl)) (by decide) (fun K hK => ?_)
          refine goes_ Try.func18 (by kernel_rfl) rfl #[.slice Ao49 t446.length co49,.slice Ao50 t450.length co50] (by rfl) rfl rfl (by (try simp only [List.map_toArray,List.map_cons,List.map_nil]);first|done|rfl|(simp only [List.length_drop,List.length_take];rfl)) ?_
          with_reducible refine (privityref14_Words.calls k2 _ _ t446 _ _ t450 false _ ?side1 ?side2 ?side3 ?side4 A32.out).mono ?_
          (case side1 => repeat (first|exact (Kd.R_reads' HO448.out).2.2|(with_reducible refine Kd.C_alloc ?_ _)|(with_reducible refine Kd.C_drewN ?_ _)|(with_reducible refine Kd.C_drew ?_)))
          (case side2 => exact (Kd.R_reads' HO448.out).2.1)
          (case side3 => repeat (first|exact (Kd.R_reads' HO452.out).2.2|(with_reducible refine Kd.C_alloc ?_ _)|(with_reducible refine Kd.C_drewN ?_ _)|(with_reducible refine Kd.C_drew ?_)))
          (case side4 => exact (Kd.R_reads' HO452.out).2.1)
          rintro e w' ⟨rfl,⟨nd,rfl⟩⟩
          refine ⟨_,rfl,?_⟩
          refine hK.out _ _ ⟨hHeld.1,hHeld.2⟩ (fun hHeld => ?_)
          clear hK K
          refine norm_ (a' := ?_) ?_ ?_
          rotate_left
          ·show Act.put _ (some 83) _ = _
           simp only [Act.put,List.setIfInBounds_toArray,List.set_cons_zero,List.set_cons_succ,i64_w,i32_w]
           rfl
          refine pure_ (i := 17) (N := some 84) (v := ?_) (a' := ?_) #[true,true,true,true,true,true,true,true,true,true,true,true,true,true,true,true,true,true] rfl rfl (any_of HT_.out (by kernel_rfl)) (fun _ _ _ h => h) (Or.inl ⟨by rfl,?_⟩) ?_ ?_
          rotate_left
          ·intro w'
           go_simp
           with_reducible rfl
          rotate_left
          ·simp only [Act.put,List.setIfInBounds_toArray,List.set_cons_zero,List.set_cons_succ,i64_w,i32_w]
           rfl
          refine done_ (done_of HT_.out (by kernel_rfl)) ?_
          try go_wp2_with (first|((with_reducible refine gate_callee (f := 13) rfl ?_);refine goesL_ (some 85) rfl rfl Try.func13 (by kernel_rfl) rfl #[] rfl (by (try simp only [List.map_toArray,List.map_cons,List.map_nil]);first|done|rfl|(simp only [List.length_drop,List.length_take];rfl)) ?_;(with_reducible refine (privitylaw43_awake.calls k2  t454 _ A42.out).mono ?_);rintro e w51 ⟨rfl,hb⟩;refine ⟨_,rfl,?_⟩;have n0_ := Aside0.mk (Kd.R_below (by (with_reducible repeat (first|apply Kd.R_alloc|apply Kd.R_drewN|apply Kd.R_drew));exact HO_6.out) hb);have n1_ := Aside0.mk (Kd.R_below (by (with_reducible repeat (first|apply Kd.R_alloc|apply Kd.R_drewN|apply Kd.R_drew));exact HO_7.out) hb);have n2_ := Aside0.mk (Kd.R_below (by (with_reducible repeat (first|apply Kd.R_alloc|apply Kd.R_drewN|apply Kd.R_drew));exact HO_8.out) hb);have n3_ := Aside0.mk (Kd.R_below (by (with_reducible repeat (first|apply Kd.R_alloc|apply Kd.R_drewN|apply Kd.R_drew));exact HO_9.out) hb);have n4_ := Aside0.mk (Kd.S_below (by (with_reducible repeat (first|apply Kd.S_alloc|apply Kd.S_drewN|apply Kd.S_drew));exact HO_10.out) hb);have n5_ := Aside0.mk (Kd.S_below (by (with_reducible repeat (first|apply Kd.S_alloc|apply Kd.S_drewN|apply Kd.S_drew));exact HO_12.out) hb);have n6_ := Aside0.mk (Kd.R_below (by (with_reducible repeat (first|apply Kd.R_alloc|apply Kd.R_drewN|apply Kd.R_drew));exact HO_14.out) hb);have n7_ := Aside0.mk (Kd.R_below (by (with_reducible repeat (first|apply Kd.R_alloc|apply Kd.R_drewN|apply Kd.R_drew));exact HO448.out) hb);have n8_ := Aside0.mk (Kd.R_below (by (with_reducible repeat (first|apply Kd.R_alloc|apply Kd.R_drewN|apply Kd.R_drew));exact HO452.out) hb);have n9_ := Aside0.mk (blk_below (g := gb419) (o := .cells #[.int .u64 a0_0,.int .i64 a0_1,.int .i64 a0_2,.slice A0_3 l0_3.length c0_3,.int .u64 a0_4,.int .u64 a0_5,.slice A0_6 l0_6.length c0_6] 28 (0,0)) (by (with_reducible repeat (first|refine blk_drewN ?_ _|refine blk_drew ?_|refine blk_alloc ?_ _));exact BK419.out) hb);have n10_ := Aside0.mk (below_step (by repeat (first|(with_reducible first|exact HB.out|apply below_alloc|apply pw_below_drewN|apply below_drew1|refine below_set ?_ GE419.out)|exact HB.out)) hb);clear HO_6;clear HO_7;clear HO_8;clear HO_9;clear HO_10;clear HO_12;clear HO_14;clear HO448;clear HO452;clear BK419;clear HB;have HO_6 := n0_;have HO_7 := n1_;have HO_8 := n2_;have HO_9 := n3_;have HO_10 := n4_;have HO_12 := n5_;have HO_14 := n6_;have HO448 := n7_;have HO452 := n8_;have BK419 := n9_;have HB := n10_;clear n0_ n1_ n2_ n3_ n4_ n5_ n6_ n7_ n8_ n9_ n10_;(try clear hb);(try clear hb2);(try clear hk);(try clear hi)))
          go_ret
          exact ⟨by first|rfl|(simp [errW_none,errW_some] <;> rfl)|(simp [*,errW_none,errW_some] <;> rfl),by repeat (first|(with_reducible first|exact HB.out|apply below_alloc|apply pw_below_drewN|apply below_drew1|refine below_set ?_ GE419.out)|exact HB.out)⟩
        ·rw [if_neg c29] at H
         exact absurd H (by simp)
       ·rw [if_neg c28] at H
        have c28b0 : decide (x15_2 < (t442.length : Int)) = false := decide_eq_false c28
        clear c28
        by_cases c52 : 0 < (t428.length : Int)
        ·rw [if_pos c52] at H
         have c52b0 : decide (0 < (t428.length : Int)) = true := decide_eq_true c52
         have c52b1 : decide (0 < t428.length) = true := decide_eq_true (by omega)
         clear c52
         by_cases c53 : 0 < (t422.length : Int)
         ·rw [if_pos c53] at H
          have c53b0 : decide (0 < (t422.length : Int)) = true := decide_eq_true c53
          have c53b1 : decide (0 < t422.length) = true := decide_eq_true (by omega)
          clear c53
          replace H := Option.bind_eq_some_iff.mp H
          obtain ⟨t457,A540,H⟩ := H
          replace H : ((tapeshift_Sharing.f k2 a0_0 a0_1 a0_2 l0_3 t457 t422 t425).bind fun bt458 => ((privitylaw43_awake.f k2).bind fun t464 => (if t464 = true then ((privityref14_Words.f k2 t428 bt458.1).bind fun t465 => (if t465 = true then ((privityref14_Words.f k2 t431 bt458.2).bind fun t466 => (some t466)) else (some false))) else (some false)))) = some r := H
          have A54 := Aside0.mk A540
          clear A540
          replace H := Option.bind_eq_some_iff.mp H
          obtain ⟨⟨t458,t461⟩,A550,H⟩ := H
          replace H : ((privitylaw43_awake.f k2).bind fun t464 => (if t464 = true then ((privityref14_Words.f k2 t428 t458).bind fun t465 => (if t465 = true then ((privityref14_Words.f k2 t431 t461).bind fun t466 => (some t466)) else (some false))) else (some false))) = some r := H
          have A55 := Aside0.mk A550
          clear A550
          replace H := Option.bind_eq_some_iff.mp H
          obtain ⟨t464,A560,H⟩ := H
          replace H : (if t464 = true then ((privityref14_Words.f k2 t428 t458).bind fun t465 => (if t465 = true then ((privityref14_Words.f k2 t431 t461).bind fun t466 => (some t466)) else (some false))) else (some false)) = some r := H
          have A56 := Aside0.mk A560
          clear A560
          by_cases c57 : t464 = true
          ·subst c57
           have H1 : ((privityref14_Words.f k2 t428 t458).bind fun t465 => (if t465 = true then ((privityref14_Words.f k2 t431 t461).bind fun t466 => (some t466)) else (some false))) = some r := by rw [if_pos rfl] at H;exact H
           clear H
           have H := H1
           clear H1
           replace H := Option.bind_eq_some_iff.mp H
           obtain ⟨t465,A580,H⟩ := H
           replace H : (if t465 = true then ((privityref14_Words.f k2 t431 t461).bind fun t466 => (some t466)) else (some false)) = some r := H
           have A58 := Aside0.mk A580
           clear A580
           by_cases c59 : t465 = true
           ·subst c59
            have H1 : ((privityref14_Words.f k2 t431 t461).bind fun t466 => (some t466)) = some r := by rw [if_pos rfl] at H;exact H
            clear H
            have H := H1
            clear H1
            replace H := Option.bind_eq_some_iff.mp H
            obtain ⟨t466,A600,H⟩ := H
            replace H : (some t466) = some r := H
            have A60 := Aside0.mk A600
            clear A600
            obtain rfl := Option.some.inj H
            obtain ⟨Ao61,co61,eo61⟩ := Kd.R_slice HO_14.out
            subst eo61
            try go_wp2
            have n0_ := Aside0.mk (Kd.R_drew HO_6.out)
            have n1_ := Aside0.mk (Kd.R_drew HO_7.out)
            have n2_ := Aside0.mk (Kd.R_drew HO_8.out)
            have n3_ := Aside0.mk (Kd.R_drew HO_9.out)
            have n4_ := Aside0.mk (Kd.S_drew HO_10.out)
            have n5_ := Aside0.mk (Kd.S_drew HO_12.out)
            have n6_ := Aside0.mk (Kd.R_drew HO_14.out)
            have n7_ := Aside0.mk (blk_drew BK419.out)
            have n8_ := Aside0.mk (below_drew1 HB.out)
            clear HO_6
            clear HO_7
            clear HO_8
            clear HO_9
            clear HO_10
            clear HO_12
            clear HO_14
            clear BK419
            clear HB
            have HO_6 := n0_
            have HO_7 := n1_
            have HO_8 := n2_
            have HO_9 := n3_
            have HO_10 := n4_
            have HO_12 := n5_
            have HO_14 := n6_
            have BK419 := n7_
            have HB := n8_
            clear n0_ n1_ n2_ n3_ n4_ n5_ n6_ n7_ n8_
            have p455 : 0 ≤ (0 : Int) := (by omega)
            have q455 : 0 < (t428.length : Int) := of_decide_eq_true (by first|(with_reducible assumption)|assumption)
            obtain ⟨ad455,e455,hx455_0⟩ := Kd.at_int (Kd.R_reads' HO_8.out).2.2 0 p455 q455
            cases e455
            have qi455 : (0 < t428.length) = True := eq_true (by omega)
            (try rw [show ((0 : Int)).toNat = 0 from rfl] at hx455_0)
            (try rw [Addr.add_zero'] at hx455_0)
            replace p455 := eq_true p455
            replace q455 := eq_true q455
            have p456 : 0 ≤ (0 : Int) := (by omega)
            have q456 : 0 < (t422.length : Int) := of_decide_eq_true (by first|(with_reducible assumption)|assumption)
            obtain ⟨ad456,e456,hx456_0⟩ := Kd.at_int (Kd.R_reads' HO_6.out).2.2 0 p456 q456
            cases e456
            have qi456 : (0 < t422.length) = True := eq_true (by omega)
            (try rw [show ((0 : Int)).toNat = 0 from rfl] at hx456_0)
            (try rw [Addr.add_zero'] at hx456_0)
            replace p456 := eq_true p456
            replace q456 := eq_true q456
            refine start_ (n := 20) (S := fun w' => w'.cell? ⟨gb419,0,none⟩ = some (.int .u64 a0_0) ∧ w'.cell? ⟨gb419,1,none⟩ = some (.int .i64 a0_1) ∧ w'.cell? ⟨gb419,2,none⟩ = some (.int .i64 a0_2) ∧ w'.cell? ⟨gb419,3,none⟩ = some (.slice A0_3 l0_3.length c0_3) ∧ w'.cell? ⟨gb419,4,none⟩ = some (.int .u64 a0_4) ∧ w'.cell? ⟨gb419,5,none⟩ = some (.int .u64 a0_5) ∧ w'.cell? ⟨gb419,6,none⟩ = some (.slice A0_6 l0_6.length c0_6) ∧ w'.cell? ad455 = some (.int .u64 (rd t428 0)) ∧ w'.cell? ad456 = some (.int .u64 (rd t422 0))) (ds := []) #[false,false,false,false,false,false,false,false,false,false,false,false,false,false,false,false,false,false,false,false] (by kernel_rfl) rfl rfl ⟨(blk_cell BK419.out 0).trans rfl,(blk_cell BK419.out 1).trans rfl,(blk_cell BK419.out 2).trans rfl,(blk_cell BK419.out 3).trans rfl,(blk_cell BK419.out 4).trans rfl,(blk_cell BK419.out 5).trans rfl,(blk_cell BK419.out 6).trans rfl,hx455_0,hx456_0⟩ (fun hHeld => ?_);refine with_tabW privitylaw43_TapeshiftComplete.tab16 privitylaw43_TapeshiftComplete.bits16 (fun HT_ HW_ => ?_)
            generalize wr.drew = w62 at HO_6 HO_7 HO_8 HO_9 HO_10 HO_12 HO_14 BK419 HB hx455_0 hx456_0 hHeld ⊢
            refine pure_ (i := 0) (N := some 87) (v := ?_) (a' := ?_) #[true,false,false,false,false,false,false,false,false,false,false,false,false,false,false,false,false,false,false,false] rfl rfl (any_of HT_.out (by kernel_rfl)) (fun _ _ _ h => h) (Or.inl ⟨by rfl,?_⟩) ?_ ?_
            rotate_left
            ·intro w'
             go_simp
             with_reducible rfl
            rotate_left
            ·simp only [Act.put,List.setIfInBounds_toArray,List.set_cons_zero,List.set_cons_succ,i64_w,i32_w]
             rfl
            refine pure_ (i := 2) (N := some 89) (v := ?_) (a' := ?_) #[true,false,true,false,false,false,false,false,false,false,false,false,false,false,false,false,false,false,false,false] rfl rfl (any_of HT_.out (by kernel_rfl)) (fun _ _ _ h => h) (Or.inl ⟨by rfl,?_⟩) ?_ ?_
            rotate_left
            ·intro w'
             go_simp
             with_reducible rfl
            rotate_left
            ·simp only [Act.put,List.setIfInBounds_toArray,List.set_cons_zero,List.set_cons_succ,i64_w,i32_w]
             rfl
            refine pure_ (i := 4) (N := some 91) (v := ?_) (a' := ?_) #[true,false,true,false,true,false,false,false,false,false,false,false,false,false,false,false,false,false,false,false] rfl rfl (any_of HT_.out (by kernel_rfl)) (fun _ _ _ h => h) (Or.inl ⟨by rfl,?_⟩) ?_ ?_
            rotate_left
            ·intro w'
             go_simp
             with_reducible rfl
            rotate_left
            ·simp only [Act.put,List.setIfInBounds_toArray,List.set_cons_zero,List.set_cons_succ,i64_w,i32_w]
             rfl
            refine pure_ (i := 5) (N := some 92) (v := ?_) (a' := ?_) #[true,false,true,false,true,true,false,false,false,false,false,false,false,false,false,false,false,false,false,false] rfl rfl (any_of HT_.out (by kernel_rfl)) (fun _ _ _ h => h) (Or.inl ⟨by rfl,?_⟩) ?_ ?_
            rotate_left
            ·intro w'
             go_simp
             with_reducible rfl
            rotate_left
            ·simp only [Act.put,List.setIfInBounds_toArray,List.set_cons_zero,List.set_cons_succ,i64_w,i32_w]
             rfl
            refine pure_ (i := 6) (N := some 93) (v := ?_) (a' := ?_) #[true,false,true,false,true,true,true,false,false,false,false,false,false,false,false,false,false,false,false,false] rfl rfl (any_of HT_.out (by kernel_rfl)) (fun _ _ _ h => h) (Or.inl ⟨by rfl,?_⟩) ?_ ?_
            rotate_left
            ·intro w'
             go_simp
             with_reducible rfl
            rotate_left
            ·simp only [Act.put,List.setIfInBounds_toArray,List.set_cons_zero,List.set_cons_succ,i64_w,i32_w]
             rfl
            refine pure_ (i := 8) (N := some 95) (v := ?_) (a' := ?_) #[true,false,true,false,true,true,true,false,true,false,false,false,false,false,false,false,false,false,false,false] rfl rfl (any_of HT_.out (by kernel_rfl)) (fun _ _ _ h => h) (Or.inl ⟨by rfl,?_⟩) ?_ ?_
            rotate_left
            ·intro w'
             go_simp
             with_reducible rfl
            rotate_left
            ·simp only [Act.put,List.setIfInBounds_toArray,List.set_cons_zero,List.set_cons_succ,i64_w,i32_w]
             rfl
            refine pure_ (i := 9) (N := some 96) (v := ?_) (a' := ?_) #[true,false,true,false,true,true,true,false,true,true,false,false,false,false,false,false,false,false,false,false] rfl rfl (any_of HT_.out (by kernel_rfl)) (fun _ _ _ h => h) (Or.inl ⟨by rfl,?_⟩) ?_ ?_
            rotate_left
            ·intro w'
             go_simp
             with_reducible rfl
            rotate_left
            ·simp only [Act.put,List.setIfInBounds_toArray,List.set_cons_zero,List.set_cons_succ,i64_w,i32_w]
             rfl
            refine pure_ (i := 12) (N := some 99) (v := ?_) (a' := ?_) #[true,false,true,false,true,true,true,false,true,true,false,false,true,false,false,false,false,false,false,false] rfl rfl (any_of HT_.out (by kernel_rfl)) (fun _ _ _ h => h) (Or.inl ⟨by rfl,?_⟩) ?_ ?_
            rotate_left
            ·intro w'
             go_simp
             with_reducible rfl
            rotate_left
            ·simp only [Act.put,List.setIfInBounds_toArray,List.set_cons_zero,List.set_cons_succ,i64_w,i32_w]
             rfl
            refine pure_ (i := 13) (N := some 100) (v := ?_) (a' := ?_) #[true,false,true,false,true,true,true,false,true,true,false,false,true,true,false,false,false,false,false,false] rfl rfl (any_of HT_.out (by kernel_rfl)) (fun _ _ _ h => h) (Or.inl ⟨by rfl,?_⟩) ?_ ?_
            rotate_left
            ·intro w'
             go_simp
             with_reducible rfl
            rotate_left
            ·simp only [Act.put,List.setIfInBounds_toArray,List.set_cons_zero,List.set_cons_succ,i64_w,i32_w]
             rfl
            refine take_ (i := 1) (N := some 88) (v := ?_) (a' := ?_) #[true,true,true,false,true,true,true,false,true,true,false,false,true,true,false,false,false,false,false,false] rfl rfl (take_ofW HT_.out HW_.out (by kernel_rfl)) (fun _ _ _ h => h) (Or.inl ⟨by rfl,?_⟩) hHeld ?_ ?_
            rotate_left
            ·rintro w' ⟨s0,s1,s2,s3,s4,s5,s6,s7,s8⟩
             go_simp
             with_reducible rfl
            rotate_left
            ·simp only [Act.put,List.setIfInBounds_toArray,List.set_cons_zero,List.set_cons_succ,i64_w,i32_w]
             rfl
            refine take_ (i := 3) (N := some 90) (v := ?_) (a' := ?_) #[true,true,true,true,true,true,true,false,true,true,false,false,true,true,false,false,false,false,false,false] rfl rfl (take_ofW HT_.out HW_.out (by kernel_rfl)) (fun _ _ _ h => h) (Or.inl ⟨by rfl,?_⟩) hHeld ?_ ?_
            rotate_left
            ·rintro w' ⟨s0,s1,s2,s3,s4,s5,s6,s7,s8⟩
             go_simp
             with_reducible rfl
            rotate_left
            ·simp only [Act.put,List.setIfInBounds_toArray,List.set_cons_zero,List.set_cons_succ,i64_w,i32_w]
             rfl
            refine take_ (i := 7) (N := some 94) (v := ?_) (a' := ?_) #[true,true,true,true,true,true,true,true,true,true,false,false,true,true,false,false,false,false,false,false] rfl rfl (take_ofW HT_.out HW_.out (by kernel_rfl)) (fun _ _ _ h => h) (Or.inl ⟨by rfl,?_⟩) hHeld ?_ ?_
            rotate_left
            ·rintro w' ⟨s0,s1,s2,s3,s4,s5,s6,s7,s8⟩
             go_simp
             with_reducible rfl
            rotate_left
            ·simp only [Act.put,List.setIfInBounds_toArray,List.set_cons_zero,List.set_cons_succ,i64_w,i32_w]
             rfl
            refine take_ (i := 10) (N := some 97) (v := ?_) (a' := ?_) #[true,true,true,true,true,true,true,true,true,true,true,false,true,true,false,false,false,false,false,false] rfl rfl (take_ofW HT_.out HW_.out (by kernel_rfl)) (fun _ _ _ h => h) (Or.inl ⟨by rfl,?_⟩) hHeld ?_ ?_
            rotate_left
            ·rintro w' ⟨s0,s1,s2,s3,s4,s5,s6,s7,s8⟩
             go_simp
             with_reducible rfl
            rotate_left
            ·simp only [Act.put,List.setIfInBounds_toArray,List.set_cons_zero,List.set_cons_succ,i64_w,i32_w]
             rfl
            refine one_ (i := 11) (N := some 98) #[true,true,true,true,true,true,true,true,true,true,true,true,true,true,false,false,false,false,false,false] rfl rfl (one_of HT_.out (by kernel_rfl)) (by decide) (fun K hK => ?_)
            refine goes_ Try.func22 (by kernel_rfl) rfl #[.int .u64 a0_0,.int .u64 (rd t428 0),.int .u64 (rd t422 0)] (by rfl) rfl rfl (by (try simp only [List.map_toArray,List.map_cons,List.map_nil]);first|done|rfl|(simp only [List.length_drop,List.length_take];rfl)) ?_
            with_reducible refine (privityref01_Sub.calls a0_0 (rd t428 0) (rd t422 0) t457 _ A54.out).mono ?_
            rintro e w' ⟨rfl,⟨nd,rfl⟩⟩
            refine ⟨_,rfl,?_⟩
            refine hK.out _ _ ⟨(blk_cell BK419.out 0).trans rfl,(blk_cell BK419.out 1).trans rfl,(blk_cell BK419.out 2).trans rfl,(blk_cell BK419.out 3).trans rfl,(blk_cell BK419.out 4).trans rfl,(blk_cell BK419.out 5).trans rfl,(blk_cell BK419.out 6).trans rfl,hHeld.2.2.2.2.2.2.2.1,hHeld.2.2.2.2.2.2.2.2⟩ (fun hHeld => ?_)
            clear hK K
            refine norm_ (a' := ?_) ?_ ?_
            rotate_left
            ·show Act.put _ (some 98) _ = _
             simp only [Act.put,List.setIfInBounds_toArray,List.set_cons_zero,List.set_cons_succ,i64_w,i32_w]
             rfl
            refine one_ (i := 14) (N := some 101) #[true,true,true,true,true,true,true,true,true,true,true,true,true,true,true,false,false,false,false,false] rfl rfl (one_of HT_.out (by kernel_rfl)) (by decide) (fun K hK => ?_)
            refine goes_ Try.func15 (by kernel_rfl) rfl #[.agg #[.int .u64 a0_0,.int .i64 a0_1,.int .i64 a0_2],.slice A0_3 l0_3.length c0_3,.int .u64 t457,.slice (some ad456) t422.length co17,.slice Ao18 t425.length co18] (by rfl) rfl rfl (by (try simp only [List.map_toArray,List.map_cons,List.map_nil]);first|done|rfl|(simp only [List.length_drop,List.length_take];rfl)) ?_
            with_reducible refine (tapeshift_Sharing.calls k2 a0_0 a0_1 a0_2 _ _ l0_3 t457 _ _ t422 _ _ t425 t458 t461 _ ?side1 ?side2 ?side3 ?side4 ?side5 ?side6 A55.out).mono ?_
            (case side1 => repeat (first|exact (Kd.C_below HR0_3.out (by repeat (first|(with_reducible first|exact HB.out|apply below_alloc|apply pw_below_drewN|apply below_drew1|refine below_set ?_ GE419.out)|exact HB.out)))|(with_reducible refine Kd.C_alloc ?_ _)|(with_reducible refine Kd.C_drewN ?_ _)|(with_reducible refine Kd.C_drew ?_)))
            (case side2 => exact HC0_3.out)
            (case side3 => repeat (first|exact (Kd.R_reads' HO_6.out).2.2|(with_reducible refine Kd.C_alloc ?_ _)|(with_reducible refine Kd.C_drewN ?_ _)|(with_reducible refine Kd.C_drew ?_)))
            (case side4 => exact (Kd.R_reads' HO_6.out).2.1)
            (case side5 => repeat (first|exact (Kd.R_reads' HO_7.out).2.2|(with_reducible refine Kd.C_alloc ?_ _)|(with_reducible refine Kd.C_drewN ?_ _)|(with_reducible refine Kd.C_drew ?_)))
            (case side6 => exact (Kd.R_reads' HO_7.out).2.1)
            rintro e w63 ⟨v459,v462,rfl,ho0,ho1,hb⟩
            have HS7_ := (hb.cell (World.block_lt_of_cell? _ _ (hHeld.2.2.2.2.2.2.2.1))).trans (hHeld.2.2.2.2.2.2.2.1)
            have HS8_ := (hb.cell (World.block_lt_of_cell? _ _ (hHeld.2.2.2.2.2.2.2.2))).trans (hHeld.2.2.2.2.2.2.2.2)
            refine ⟨_,rfl,?_⟩
            have n0_ := Aside0.mk (Kd.R_mono (Kd.R_told (Kd.R_told (Kd.R_old (by (with_reducible repeat (first|apply Kd.R_alloc|apply Kd.R_drewN|apply Kd.R_drew));exact HO_6.out) hb) (Kd.R_base ho0)) (Kd.R_base ho1)) (fun _ h_ => h_.1))
            have n1_ := Aside0.mk (Kd.R_mono (Kd.R_told (Kd.R_told (Kd.R_old (by (with_reducible repeat (first|apply Kd.R_alloc|apply Kd.R_drewN|apply Kd.R_drew));exact HO_7.out) hb) (Kd.R_base ho0)) (Kd.R_base ho1)) (fun _ h_ => h_.1))
            have n2_ := Aside0.mk (Kd.R_mono (Kd.R_told (Kd.R_told (Kd.R_old (by (with_reducible repeat (first|apply Kd.R_alloc|apply Kd.R_drewN|apply Kd.R_drew));exact HO_8.out) hb) (Kd.R_base ho0)) (Kd.R_base ho1)) (fun _ h_ => h_.1))
            have n3_ := Aside0.mk (Kd.R_mono (Kd.R_told (Kd.R_told (Kd.R_old (by (with_reducible repeat (first|apply Kd.R_alloc|apply Kd.R_drewN|apply Kd.R_drew));exact HO_9.out) hb) (Kd.R_base ho0)) (Kd.R_base ho1)) (fun _ h_ => h_.1))
            have n4_ := Aside0.mk (Kd.S_mono (Kd.S_told (Kd.S_told (Kd.S_old (by (with_reducible repeat (first|apply Kd.S_alloc|apply Kd.S_drewN|apply Kd.S_drew));exact HO_10.out) hb) (Kd.R_base ho0)) (Kd.R_base ho1)) (fun _ h_ => h_.1))
            have n5_ := Aside0.mk (Kd.S_mono (Kd.S_told (Kd.S_told (Kd.S_old (by (with_reducible repeat (first|apply Kd.S_alloc|apply Kd.S_drewN|apply Kd.S_drew));exact HO_12.out) hb) (Kd.R_base ho0)) (Kd.R_base ho1)) (fun _ h_ => h_.1))
            have n6_ := Aside0.mk (Kd.R_below (by (with_reducible repeat (first|apply Kd.R_alloc|apply Kd.R_drewN|apply Kd.R_drew));exact HO_14.out) hb)
            have n7_ := Aside0.mk (Kd.R_lower (Kd.R_new' (Kd.R_new' (Kd.R_new' (Kd.R_new' ho0 (Kd.R_lt (by (with_reducible repeat (first|apply Kd.R_alloc|apply Kd.R_drewN|apply Kd.R_drew));exact HO_6.out))) (Kd.R_lt (by (with_reducible repeat (first|apply Kd.R_alloc|apply Kd.R_drewN|apply Kd.R_drew));exact HO_7.out))) (Kd.R_lt (by (with_reducible repeat (first|apply Kd.R_alloc|apply Kd.R_drewN|apply Kd.R_drew));exact HO_8.out))) (Kd.R_lt (by (with_reducible repeat (first|apply Kd.R_alloc|apply Kd.R_drewN|apply Kd.R_drew));exact HO_9.out))) (below_size (by repeat (first|(with_reducible first|exact HB.out|apply below_alloc|apply pw_below_drewN|apply below_drew1|refine below_set ?_ GE419.out)|exact HB.out))))
            have n8_ := Aside0.mk (Kd.R_lower (Kd.R_new' (Kd.R_new' (Kd.R_new' (Kd.R_new' ho1 (Kd.R_lt (by (with_reducible repeat (first|apply Kd.R_alloc|apply Kd.R_drewN|apply Kd.R_drew));exact HO_6.out))) (Kd.R_lt (by (with_reducible repeat (first|apply Kd.R_alloc|apply Kd.R_drewN|apply Kd.R_drew));exact HO_7.out))) (Kd.R_lt (by (with_reducible repeat (first|apply Kd.R_alloc|apply Kd.R_drewN|apply Kd.R_drew));exact HO_8.out))) (Kd.R_lt (by (with_reducible repeat (first|apply Kd.R_alloc|apply Kd.R_drewN|apply Kd.R_drew));exact HO_9.out))) (below_size (by repeat (first|(with_reducible first|exact HB.out|apply below_alloc|apply pw_below_drewN|apply below_drew1|refine below_set ?_ GE419.out)|exact HB.out))))
            have n9_ := Aside0.mk (blk_below (g := gb419) (o := .cells #[.int .u64 a0_0,.int .i64 a0_1,.int .i64 a0_2,.slice A0_3 l0_3.length c0_3,.int .u64 a0_4,.int .u64 a0_5,.slice A0_6 l0_6.length c0_6] 28 (0,0)) (by (with_reducible repeat (first|refine blk_drewN ?_ _|refine blk_drew ?_|refine blk_alloc ?_ _));exact BK419.out) hb)
            have n10_ := Aside0.mk (below_step (by repeat (first|(with_reducible first|exact HB.out|apply below_alloc|apply pw_below_drewN|apply below_drew1|refine below_set ?_ GE419.out)|exact HB.out)) hb)
            clear HO_6
            clear HO_7
            clear HO_8
            clear HO_9
            clear HO_10
            clear HO_12
            clear HO_14
            clear BK419
            clear HB
            have HO_6 := n0_
            have HO_7 := n1_
            have HO_8 := n2_
            have HO_9 := n3_
            have HO_10 := n4_
            have HO_12 := n5_
            have HO_14 := n6_
            have HO460 := n7_
            have HO463 := n8_
            have BK419 := n9_
            have HB := n10_
            clear n0_ n1_ n2_ n3_ n4_ n5_ n6_ n7_ n8_ n9_ n10_
            (try clear hb)
            (try clear hb2)
            (try clear hk)
            (try clear hi)
            (try clear ho0)
            (try clear ho1)
            refine hK.out _ _ ⟨(blk_cell BK419.out 0).trans rfl,(blk_cell BK419.out 1).trans rfl,(blk_cell BK419.out 2).trans rfl,(blk_cell BK419.out 3).trans rfl,(blk_cell BK419.out 4).trans rfl,(blk_cell BK419.out 5).trans rfl,(blk_cell BK419.out 6).trans rfl,HS7_,HS8_⟩ (fun hHeld => ?_)
            clear hK K
            refine norm_ (a' := ?_) ?_ ?_
            rotate_left
            ·show Act.put _ (some 101) _ = _
             simp only [Act.put,List.setIfInBounds_toArray,List.set_cons_zero,List.set_cons_succ,i64_w,i32_w]
             rfl
            refine pure_ (i := 15) (N := some 86) (v := ?_) (a' := ?_) #[true,true,true,true,true,true,true,true,true,true,true,true,true,true,true,true,false,false,false,false] rfl rfl (any_of HT_.out (by kernel_rfl)) (fun _ _ _ h => h) (Or.inl ⟨by rfl,?_⟩) ?_ ?_
            rotate_left
            ·intro w'
             go_simp
             with_reducible rfl
            rotate_left
            ·simp only [Act.put,List.setIfInBounds_toArray,List.set_cons_zero,List.set_cons_succ,i64_w,i32_w]
             rfl
            refine pure_ (i := 16) (N := some 102) (v := ?_) (a' := ?_) #[true,true,true,true,true,true,true,true,true,true,true,true,true,true,true,true,true,false,false,false] rfl rfl (any_of HT_.out (by kernel_rfl)) (fun _ _ _ h => h) (Or.inl ⟨by rfl,?_⟩) ?_ ?_
            rotate_left
            ·intro w'
             go_simp
             with_reducible rfl
            rotate_left
            ·simp only [Act.put,List.setIfInBounds_toArray,List.set_cons_zero,List.set_cons_succ,i64_w,i32_w]
             rfl
            refine pure_ (i := 17) (N := some 103) (v := ?_) (a' := ?_) #[true,true,true,true,true,true,true,true,true,true,true,true,true,true,true,true,true,true,false,false] rfl rfl (any_of HT_.out (by kernel_rfl)) (fun _ _ _ h => h) (Or.inl ⟨by rfl,?_⟩) ?_ ?_
            rotate_left
            ·intro w'
             go_simp
             with_reducible rfl
            rotate_left
            ·simp only [Act.put,List.setIfInBounds_toArray,List.set_cons_zero,List.set_cons_succ,i64_w,i32_w]
             rfl
            refine pure_ (i := 18) (N := some 16) (v := ?_) (a' := ?_) #[true,true,true,true,true,true,true,true,true,true,true,true,true,true,true,true,true,true,true,false] rfl rfl (any_of HT_.out (by kernel_rfl)) (fun _ _ _ h => h) (Or.inl ⟨by rfl,?_⟩) ?_ ?_
            rotate_left
            ·intro w'
             go_simp
             with_reducible rfl
            rotate_left
            ·simp only [Act.put,List.setIfInBounds_toArray,List.set_cons_zero,List.set_cons_succ,i64_w,i32_w]
             rfl
            refine pure_ (i := 19) (N := some 17) (v := ?_) (a' := ?_) #[true,true,true,true,true,true,true,true,true,true,true,true,true,true,true,true,true,true,true,true] rfl rfl (any_of HT_.out (by kernel_rfl)) (fun _ _ _ h => h) (Or.inl ⟨by rfl,?_⟩) ?_ ?_
            rotate_left
            ·intro w'
             go_simp
             with_reducible rfl
            rotate_left
            ·simp only [Act.put,List.setIfInBounds_toArray,List.set_cons_zero,List.set_cons_succ,i64_w,i32_w]
             rfl
            refine done_ (done_of HT_.out (by kernel_rfl)) ?_
            try go_wp2_with (first|((with_reducible refine gate_callee (f := 13) rfl ?_);refine goesL_ (some 104) rfl rfl Try.func13 (by kernel_rfl) rfl #[] rfl (by (try simp only [List.map_toArray,List.map_cons,List.map_nil]);first|done|rfl|(simp only [List.length_drop,List.length_take];rfl)) ?_;(with_reducible refine (privitylaw43_awake.calls k2  true _ A56.out).mono ?_);rintro e w64 ⟨rfl,hb⟩;refine ⟨_,rfl,?_⟩;have n0_ := Aside0.mk (Kd.R_below (by (with_reducible repeat (first|apply Kd.R_alloc|apply Kd.R_drewN|apply Kd.R_drew));exact HO_6.out) hb);have n1_ := Aside0.mk (Kd.R_below (by (with_reducible repeat (first|apply Kd.R_alloc|apply Kd.R_drewN|apply Kd.R_drew));exact HO_7.out) hb);have n2_ := Aside0.mk (Kd.R_below (by (with_reducible repeat (first|apply Kd.R_alloc|apply Kd.R_drewN|apply Kd.R_drew));exact HO_8.out) hb);have n3_ := Aside0.mk (Kd.R_below (by (with_reducible repeat (first|apply Kd.R_alloc|apply Kd.R_drewN|apply Kd.R_drew));exact HO_9.out) hb);have n4_ := Aside0.mk (Kd.S_below (by (with_reducible repeat (first|apply Kd.S_alloc|apply Kd.S_drewN|apply Kd.S_drew));exact HO_10.out) hb);have n5_ := Aside0.mk (Kd.S_below (by (with_reducible repeat (first|apply Kd.S_alloc|apply Kd.S_drewN|apply Kd.S_drew));exact HO_12.out) hb);have n6_ := Aside0.mk (Kd.R_below (by (with_reducible repeat (first|apply Kd.R_alloc|apply Kd.R_drewN|apply Kd.R_drew));exact HO_14.out) hb);have n7_ := Aside0.mk (Kd.R_below (by (with_reducible repeat (first|apply Kd.R_alloc|apply Kd.R_drewN|apply Kd.R_drew));exact HO460.out) hb);have n8_ := Aside0.mk (Kd.R_below (by (with_reducible repeat (first|apply Kd.R_alloc|apply Kd.R_drewN|apply Kd.R_drew));exact HO463.out) hb);have n9_ := Aside0.mk (blk_below (g := gb419) (o := .cells #[.int .u64 a0_0,.int .i64 a0_1,.int .i64 a0_2,.slice A0_3 l0_3.length c0_3,.int .u64 a0_4,.int .u64 a0_5,.slice A0_6 l0_6.length c0_6] 28 (0,0)) (by (with_reducible repeat (first|refine blk_drewN ?_ _|refine blk_drew ?_|refine blk_alloc ?_ _));exact BK419.out) hb);have n10_ := Aside0.mk (below_step (by repeat (first|(with_reducible first|exact HB.out|apply below_alloc|apply pw_below_drewN|apply below_drew1|refine below_set ?_ GE419.out)|exact HB.out)) hb);clear HO_6;clear HO_7;clear HO_8;clear HO_9;clear HO_10;clear HO_12;clear HO_14;clear HO460;clear HO463;clear BK419;clear HB;have HO_6 := n0_;have HO_7 := n1_;have HO_8 := n2_;have HO_9 := n3_;have HO_10 := n4_;have HO_12 := n5_;have HO_14 := n6_;have HO460 := n7_;have HO463 := n8_;have BK419 := n9_;have HB := n10_;clear n0_ n1_ n2_ n3_ n4_ n5_ n6_ n7_ n8_ n9_ n10_;(try clear hb);(try clear hb2);(try clear hk);(try clear hi);obtain ⟨Ao65,co65,eo65⟩ := Kd.R_slice HO460.out;subst eo65)|(go_at_call 18;(with_reducible refine (privityref14_Words.calls k2 _ _ t428 _ _ t458 true _ ?side1 ?side2 ?side3 ?side4 A58.out).mono ?_);(case side1 => repeat (first|exact (Kd.R_reads' HO_8.out).2.2|(with_reducible refine Kd.C_alloc ?_ _)|(with_reducible refine Kd.C_drewN ?_ _)|(with_reducible refine Kd.C_drew ?_)));(case side2 => exact (Kd.R_reads' HO_8.out).2.1);(case side3 => repeat (first|exact (Kd.R_reads' HO460.out).2.2|(with_reducible refine Kd.C_alloc ?_ _)|(with_reducible refine Kd.C_drewN ?_ _)|(with_reducible refine Kd.C_drew ?_)));(case side4 => exact (Kd.R_reads' HO460.out).2.1);rintro e w' ⟨rfl,⟨nd,rfl⟩⟩;obtain ⟨Ao66,co66,eo66⟩ := Kd.R_slice HO463.out;subst eo66)|(go_at_call 18;(with_reducible refine (privityref14_Words.calls k2 _ _ t431 _ _ t461 t466 _ ?side1 ?side2 ?side3 ?side4 A60.out).mono ?_);(case side1 => repeat (first|exact (Kd.R_reads' HO_9.out).2.2|(with_reducible refine Kd.C_alloc ?_ _)|(with_reducible refine Kd.C_drewN ?_ _)|(with_reducible refine Kd.C_drew ?_)));(case side2 => exact (Kd.R_reads' HO_9.out).2.1);(case side3 => repeat (first|exact (Kd.R_reads' HO463.out).2.2|(with_reducible refine Kd.C_alloc ?_ _)|(with_reducible refine Kd.C_drewN ?_ _)|(with_reducible refine Kd.C_drew ?_)));(case side4 => exact (Kd.R_reads' HO463.out).2.1);rintro e w' ⟨rfl,⟨nd,rfl⟩⟩))
            go_ret
            exact ⟨by first|rfl|(simp [errW_none,errW_some] <;> rfl)|(simp [*,errW_none,errW_some] <;> rfl),by repeat (first|(with_reducible first|exact HB.out|apply below_alloc|apply pw_below_drewN|apply below_drew1|refine below_set ?_ GE419.out)|exact HB.out)⟩
           ·replace c59 := Bool.eq_false_iff.mpr c59
            subst c59
            have H1 : (some false) = some r := by rw [if_neg (show ¬ (false = true) by decide)] at H;exact H
            clear H
            have H := H1
            clear H1
            exact absurd (Option.some.inj H) (by rw [HRT_.out];simp)
          ·replace c57 := Bool.eq_false_iff.mpr c57
           subst c57
           have H1 : (some false) = some r := by rw [if_neg (show ¬ (false = true) by decide)] at H;exact H
           clear H
           have H := H1
           clear H1
           exact absurd (Option.some.inj H) (by rw [HRT_.out];simp)
         ·rw [if_neg c53] at H
          exact absurd H (by simp)
        ·rw [if_neg c52] at H
         exact absurd H (by simp)
 ·replace c4 := Bool.eq_false_iff.mpr c4
  subst c4
  have H1 : ((privitylaw43_awake.f k).bind fun t421 => (some t421)) = some r := by rw [if_neg (show ¬ (false = true) by decide)] at H;exact H
  clear H
  have H := H1
  clear H1
  replace H := Option.bind_eq_some_iff.mp H
  obtain ⟨t421,A760,H⟩ := H
  replace H : (some t421) = some r := H
  have A76 := Aside0.mk A760
  clear A760
  obtain rfl := Option.some.inj H
  go_enter Try.func5,Try.ntmps5
  go_wp2_with (first|((with_reducible refine gate_dst (N := 2) rfl ?_);refine box_event ?hg (N := 2) ?hd (cs := #[.int .u64 a0_0,.int .i64 a0_1,.int .i64 a0_2,.slice A0_3 l0_3.length c0_3,.int .u64 a0_4,.int .u64 a0_5,.slice A0_6 l0_6.length c0_6]) (t := 28) ?hr ?_;(case hd => rfl);(case hg => rfl);(case hr => first|(go_simp;done)|(go_simp;rfl));intro gb419 hg w77 hbox hb;have n0_ := Aside0.mk (below_step (by repeat (first|(with_reducible first|exact HB.out|apply below_alloc|apply pw_below_drewN|apply below_drew1)|exact HB.out)) hb);have n1_ := Aside0.mk (hbox);have n2_ := Aside0.mk ((by rw [hg];exact (below_size (by repeat (first|(with_reducible first|exact HB.out|apply below_alloc|apply pw_below_drewN|apply below_drew1)|exact HB.out))) : w.heap.size ≤ gb419));have n3_ := Aside0.mk ((by rw [hg];exact (below_size (by repeat (first|(with_reducible first|exact HB.out|apply below_alloc|apply pw_below_drewN|apply below_drew1)|exact HB.out))) : w.heap.size ≤ gb419));clear HB;have HB := n0_;have BK419 := n1_;have GW419 := n2_;have GE419 := n3_;clear n0_ n1_ n2_ n3_;clear hb hbox hg;have hcz78_0 : w77.cell? ⟨gb419,0,none⟩ = some (.int .u64 a0_0) := (blk_cell BK419.out 0).trans rfl;have hcz78_1 : w77.cell? ⟨gb419,1,none⟩ = some (.int .i64 a0_1) := (blk_cell BK419.out 1).trans rfl;have hcz78_2 : w77.cell? ⟨gb419,2,none⟩ = some (.int .i64 a0_2) := (blk_cell BK419.out 2).trans rfl;have hcz78_3 : w77.cell? ⟨gb419,3,none⟩ = some (.slice A0_3 l0_3.length c0_3) := (blk_cell BK419.out 3).trans rfl;have hcz78_4 : w77.cell? ⟨gb419,4,none⟩ = some (.int .u64 a0_4) := (blk_cell BK419.out 4).trans rfl;have hcz78_5 : w77.cell? ⟨gb419,5,none⟩ = some (.int .u64 a0_5) := (blk_cell BK419.out 5).trans rfl;have hcz78_6 : w77.cell? ⟨gb419,6,none⟩ = some (.slice A0_6 l0_6.length c0_6) := (blk_cell BK419.out 6).trans rfl;have hfz78_0 := blk_frozen BK419.out 0;have hfz78_1 := blk_frozen BK419.out 1;have hfz78_2 := blk_frozen BK419.out 2;have hfz78_3 := blk_frozen BK419.out 3;have hfz78_4 := blk_frozen BK419.out 4;have hfz78_5 := blk_frozen BK419.out 5;have hfz78_6 := blk_frozen BK419.out 6)|((with_reducible refine gate_callee (f := 12) rfl ?_);refine goesL_ (some 19) rfl rfl Try.func12 (by kernel_rfl) rfl #[.agg #[.int .u64 a0_0,.int .i64 a0_1,.int .i64 a0_2,.slice A0_3 l0_3.length c0_3,.int .u64 a0_4,.int .u64 a0_5,.slice A0_6 l0_6.length c0_6]] rfl (by (try simp only [List.map_toArray,List.map_cons,List.map_nil]);first|done|rfl|(simp only [List.length_drop,List.length_take];rfl)) ?_;(with_reducible refine (privitylaw43_may.calls k a0_0 a0_1 a0_2 _ _ l0_3 a0_4 a0_5 _ _ l0_6 false _ ?side1 ?side2 ?side3 ?side4 A3.out).mono ?_);(case side1 => repeat (first|exact (Kd.C_below HR0_3.out HB.out)|(with_reducible refine Kd.C_alloc ?_ _)|(with_reducible refine Kd.C_drewN ?_ _)|(with_reducible refine Kd.C_drew ?_)));(case side2 => exact HC0_3.out);(case side3 => repeat (first|exact (Kd.C_below HR0_6.out HB.out)|(with_reducible refine Kd.C_alloc ?_ _)|(with_reducible refine Kd.C_drewN ?_ _)|(with_reducible refine Kd.C_drew ?_)));(case side4 => exact HC0_6.out);rintro e w79 ⟨rfl,hb⟩;refine ⟨_,rfl,?_⟩;have n0_ := Aside0.mk (blk_below (g := gb419) (o := .cells #[.int .u64 a0_0,.int .i64 a0_1,.int .i64 a0_2,.slice A0_3 l0_3.length c0_3,.int .u64 a0_4,.int .u64 a0_5,.slice A0_6 l0_6.length c0_6] 28 (0,0)) (by (with_reducible repeat (first|refine blk_drewN ?_ _|refine blk_drew ?_|refine blk_alloc ?_ _));exact BK419.out) hb);have n1_ := Aside0.mk (below_step (by repeat (first|(with_reducible first|exact HB.out|apply below_alloc|apply pw_below_drewN|apply below_drew1|refine below_set ?_ GE419.out)|exact HB.out)) hb);clear BK419;clear HB;have BK419 := n0_;have HB := n1_;clear n0_ n1_;(try clear hb);(try clear hb2);(try clear hk);(try clear hi))|((with_reducible refine gate_callee (f := 13) rfl ?_);refine goesL_ (some 21) rfl rfl Try.func13 (by kernel_rfl) rfl #[] rfl (by (try simp only [List.map_toArray,List.map_cons,List.map_nil]);first|done|rfl|(simp only [List.length_drop,List.length_take];rfl)) ?_;(with_reducible refine (privitylaw43_awake.calls k  t421 _ A76.out).mono ?_);rintro e w80 ⟨rfl,hb⟩;refine ⟨_,rfl,?_⟩;have n0_ := Aside0.mk (blk_below (g := gb419) (o := .cells #[.int .u64 a0_0,.int .i64 a0_1,.int .i64 a0_2,.slice A0_3 l0_3.length c0_3,.int .u64 a0_4,.int .u64 a0_5,.slice A0_6 l0_6.length c0_6] 28 (0,0)) (by (with_reducible repeat (first|refine blk_drewN ?_ _|refine blk_drew ?_|refine blk_alloc ?_ _));exact BK419.out) hb);have n1_ := Aside0.mk (below_step (by repeat (first|(with_reducible first|exact HB.out|apply below_alloc|apply pw_below_drewN|apply below_drew1|refine below_set ?_ GE419.out)|exact HB.out)) hb);clear BK419;clear HB;have BK419 := n0_;have HB := n1_;clear n0_ n1_;(try clear hb);(try clear hb2);(try clear hk);(try clear hi)))
  go_ret
  exact ⟨by first|rfl|(simp [errW_none,errW_some] <;> rfl)|(simp [*,errW_none,errW_some] <;> rfl),by repeat (first|(with_reducible first|exact HB.out|apply below_alloc|apply pw_below_drewN|apply below_drew1|refine below_set ?_ GE419.out)|exact HB.out)⟩
end Go.Proofs.Ytejeelpnmdfibaa.Pr
end
section
/-
  What the statements of chapter 43 share: valid coalitions, the words of a sharing, the vanishing polynomial, the shift of a sharing.
-/
namespace Go.Proofs.Ytejeelpnmdfibaa.E
open Go.RowKit Go.Proofs.Ytejeelpnmdfibaa.Pr Go.Proofs.Ytejeelpnmdfibaa.Hw Go.Proofs.Ytejeelpnmdfibaa.Pl Go.Proofs.YtejeelpnmdfibaaW.PrintWords Go.Proofs.YtejeelpnmdfibaaW.PrintLast Go.Proofs.YtejeelpnmdfibaaW.PrintMore
set_option linter.unusedVariables false
set_option linter.unusedSimpArgs false

/-- A loop that asks one thing of each index. -/
theorem allQ {F : Nat → Int → Option Bool} {n : Nat} {Q : Nat → Prop} [DecidablePred Q] {e : Bool} (hend : Ev (fun k => F k (n : Int)) e) (hyes : ∀ i, i < n → Q i → ∀ r, Ev (fun k => F k ((i + 1 : Nat) : Int)) r → Ev (fun k => F k (i : Int)) r)
    (hno : ∀ i, i < n → ¬ Q i → Ev (fun k => F k (i : Int)) false) (r : Bool) (hr : r = true ↔ ((∀ i, i < n → Q i) ∧ e = true)) : Ev (fun k => F k ((0 : Nat) : Int)) r := by
  by_cases hall : ∀ i, i < n → Q i
  · have : r = e := by
      cases e with
      | true => exact hr.2 ⟨hall, rfl⟩
      | false => exact Bool.eq_false_iff.mpr fun h => by have := (hr.1 h).2; cases this
    rw [this]
    exact up (Q := fun i => Ev (fun k => F k (i : Int)) e) (n := n) hend fun i hi h => hyes i hi (hall i hi) e h
  · have hf : r = false := Bool.eq_false_iff.mpr fun h => hall (hr.1 h).1
    rw [hf]
    obtain ⟨i, hi, hq⟩ : ∃ i, i < n ∧ ¬ Q i := Classical.byContradiction fun h => hall fun i hi => Classical.byContradiction fun hq => h ⟨i, hi, hq⟩
    refine up (Q := fun i => Ev (fun k => F k (i : Int)) false) (n := i) (hno i hi hq) fun j hj h => ?_
    by_cases hqj : Q j
    · exact hyes j (by omega) hqj false h
    · exact hno j (by omega) hqj
theorem words_ev (a b : List Int) (ha : a.length ≤ 1000000000) : Ev (fun k => privityref14_Words.f k a b) (decide (a = b)) := by
  by_cases hl : a.length = b.length
  · have h := allQ (F := fun k i => privityref14_Words.l0 k a b i) (n := a.length) (Q := fun i => a.getD i 0 = b.getD i 0) (e := true) ?_ (fun i hi hq r h => ?_) (fun i hi hq => ?_) (decide (a = b)) ?_
    · refine h.congr fun k => ?_
      unfold privityref14_Words.f
      rw [if_pos (by omega)]; rfl
    · refine Ev.step (fun k => ?_) (Ev.now _)
      simp only [privityref14_Words.l0]
      rw [if_neg (by omega)]
    · refine Ev.step (fun k => ?_) h
      simp only [privityref14_Words.l0]
      rw [if_pos (by omega), if_pos (by omega), if_pos (by omega), rd_nat, rd_nat, if_pos hq, wnat (by omega)]
    · refine Ev.step (fun k => ?_) (Ev.now _)
      simp only [privityref14_Words.l0]
      rw [if_pos (by omega), if_pos (by omega), if_pos (by omega), rd_nat, rd_nat, if_neg hq]
    · rw [decide_eq_true_iff]
      refine ⟨fun e => ⟨fun i _ => by rw [e], rfl⟩, fun h => list_ext_getD hl fun i => ?_⟩
      by_cases hi : i < a.length
      · exact h.1 i hi
      · rw [getD_out a i (by omega), getD_out b i (by omega)]
  · have : decide (a = b) = false := decide_eq_false fun e => hl (by rw [e])
    rw [this]
    refine Ev.congr (fun k => ?_) (Ev.now _)
    unfold privityref14_Words.f
    rw [if_neg (by omega)]
/-! Valid parameters and coalitions. -/
def val12B (p N T : Int) : Bool := supB p && decide (4 ≤ N ∧ N ≤ 13 ∧ N < p ∧ 1 ≤ T ∧ T < N ∧ 3 * T < N)
theorem val12_ev (p N T : Int) : Ev (fun k => privityref12_Valid.f k p N T) (val12B p N T) := by
  unfold privityref12_Valid.f
  refine ev_if (supported_ev p) (fun h => ?_) (fun h => ?_)
  · unfold val12B
    rw [h, Bool.true_and]
    refine Ev.congr (fun k => ?_) (Ev.now _)
    by_cases h1 : 4 ≤ N
    · rw [if_pos h1]
      by_cases h2 : N ≤ 13
      · rw [if_pos h2, wrapU_id (by omega) (by omega)]
        by_cases h3 : N < p
        · rw [if_pos h3]
          by_cases h4 : 1 ≤ T
          · rw [if_pos h4]
            by_cases h5 : T < N
            · rw [if_pos h5, w64' (by omega) (by omega)]
              by_cases h6 : 3 * T < N
              · rw [decide_eq_true h6, decide_eq_true ⟨h1, h2, h3, h4, h5, h6⟩]
              · rw [decide_eq_false h6, decide_eq_false fun h => h6 h.2.2.2.2.2]
            · rw [if_neg h5, decide_eq_false fun h => h5 h.2.2.2.2.1]
          · rw [if_neg h4, decide_eq_false fun h => h4 h.2.2.2.1]
        · rw [if_neg h3, decide_eq_false fun h => h3 h.2.2.1]
      · rw [if_neg h2, decide_eq_false fun h => h2 h.2.1]
    · rw [if_neg h1, decide_eq_false fun h => h1 h.1]
  · have : val12B p N T = false := by unfold val12B; rw [h]; rfl
    rw [this]; exact Ev.now _
/-- Increasing numbers of parties. -/
def IncAt (N : Int) (l : List Int) (i : Nat) : Prop := 1 ≤ l.getD i 0 ∧ l.getD i 0 ≤ N ∧ (i = 0 ∨ l.getD (i - 1) 0 < l.getD i 0)
instance (N : Int) (l : List Int) : DecidablePred (IncAt N l) := fun i => by unfold IncAt; infer_instance
def incB (N : Int) (l : List Int) : Bool := decide (∀ i, i < l.length → IncAt N l i)
def coaB (p N T : Int) (l : List Int) : Bool := val12B p N T && (decide ((l.length : Int) ≤ T) && incB N l)
theorem coa12_ev (p N T : Int) (l : List Int) : Ev (fun k => privityref12_ValidCoalition.f k p N T l) (coaB p N T l) := by
  unfold privityref12_ValidCoalition.f
  have hno : ∀ r, r = false → Ev (fun k => privityref12_ValidCoalition.j0 k l true p N T) r := fun r hr => by
    subst hr
    refine Ev.step (fun k => ?_) (Ev.now _)
    simp only [privityref12_ValidCoalition.j0]
    rw [if_pos trivial]
  refine ev_if (val12_ev p N T) (fun h => ?_) (fun h => hno _ (by unfold coaB; rw [h]; rfl))
  unfold coaB
  rw [h, Bool.true_and]
  unfold val12B at h
  rw [Bool.and_eq_true, decide_eq_true_eq] at h
  obtain ⟨_, a1, a2, a3, a4, a5, a6⟩ := h
  by_cases hl : (l.length : Int) > T
  · rw [decide_eq_true hl]
    exact hno _ (by rw [decide_eq_false (by omega)]; rfl)
  · rw [decide_eq_false hl, decide_eq_true (by omega), Bool.true_and]
    refine Ev.step (f := fun k => privityref12_ValidCoalition.l0 k l ((0 : Nat) : Int) p N T) (fun k => ?_) ?_
    · simp only [privityref12_ValidCoalition.j0]
      rw [if_neg (by simp)]; rfl
    · refine allQ (F := fun k i => privityref12_ValidCoalition.l0 k l i p N T) (n := l.length) (Q := IncAt N l) (e := true) ?_ (fun i hi hq r h => ?_) (fun i hi hq => ?_) (incB N l) (by unfold incB; rw [decide_eq_true_iff]; exact ⟨fun h => ⟨h, rfl⟩, fun h => h.1⟩)
      · refine Ev.step (fun k => ?_) (Ev.now _)
        simp only [privityref12_ValidCoalition.l0]
        rw [if_neg (by omega)]
      · obtain ⟨q1, q2, q3⟩ := hq
        refine Ev.step (fun k => ?_) h
        simp only [privityref12_ValidCoalition.l0]
        rw [if_pos (by omega), if_pos (by omega), rd_nat, if_neg (by omega), if_neg (by omega), wnat (by omega)]
        by_cases h0 : i = 0
        · rw [if_neg (by omega)]
        · rw [if_pos (by omega), w64' (n := (i : Int) - 1) (by omega) (by omega), if_pos (by omega), if_pos (by omega), show (i : Int) - 1 = ((i - 1 : Nat) : Int) from by omega, rd_nat, if_neg (by have := q3.resolve_left h0; omega)]
      · refine Ev.step (fun k => ?_) (Ev.now _)
        simp only [privityref12_ValidCoalition.l0]
        rw [if_pos (by omega), if_pos (by omega), rd_nat]
        by_cases q1 : l.getD i 0 < 1
        · rw [if_pos q1]
        · rw [if_neg q1]
          by_cases q2 : l.getD i 0 > N
          · rw [if_pos q2]
          · have h0 : i ≠ 0 := fun e => hq ⟨by omega, by omega, .inl e⟩
            rw [if_neg q2, if_pos (by omega), w64' (n := (i : Int) - 1) (by omega) (by omega), if_pos (by omega), if_pos (by omega), show (i : Int) - 1 = ((i - 1 : Nat) : Int) from by omega, rd_nat, if_pos (Int.not_lt.1 fun h => hq ⟨by omega, by omega, .inr h⟩)]
def mayB (p N T : Int) (l : List Int) : Bool := val12B p N T && (decide (N ≤ 7) && coaB p N T l)
theorem may_ev (p N T : Int) (l : List Int) (da db : Int) (w : List Int) : Ev (fun k => privitylaw43_may.f k p N T l da db w) (mayB p N T l) := by
  unfold privitylaw43_may.f
  refine ev_if (val12_ev p N T) (fun h => ?_) (fun h => by unfold mayB; rw [h]; exact Ev.now _)
  unfold mayB
  rw [h, Bool.true_and]
  refine ev_ite (fun h7 => ?_) (fun h7 => by rw [decide_eq_false h7]; exact Ev.now _)
  rw [decide_eq_true h7, Bool.true_and]
  exact Ev.bind (coa12_ev p N T l) (Ev.now _)
theorem inc_lt {N : Int} {l : List Int} (h : ∀ i, i < l.length → IncAt N l i) (i : Nat) : ∀ d, i + d + 1 < l.length → l.getD i 0 < l.getD (i + d + 1) 0
  | 0, hd => by
    have := (h (i + 1) hd).2.2.resolve_left (by omega)
    rwa [Nat.add_sub_cancel] at this
  | d + 1, hd => by
    have h1 := inc_lt h i d (by omega)
    have h2 := (h (i + d + 1 + 1) hd).2.2.resolve_left (by omega)
    rw [Nat.add_sub_cancel] at h2
    have : i + (d + 1) + 1 = i + d + 1 + 1 := by omega
    rw [this]; omega
/-- Valid parameters and a valid coalition. -/
structure Ok12 (p N T : Int) (bad : List Int) : Prop where
  hp : Supp p
  np : N < p
  coa : CoaB N T bad
theorem ok12 {p N T : Int} {l : List Int} (h : coaB p N T l = true) : Ok12 p N T l := by
  unfold coaB val12B incB at h
  rw [Bool.and_eq_true, Bool.and_eq_true, Bool.and_eq_true, decide_eq_true_eq, decide_eq_true_eq, decide_eq_true_eq] at h
  obtain ⟨⟨h1, a1, a2, a3, a4, a5, a6⟩, h2, h3⟩ := h
  have hin : ∀ x ∈ l, ∃ i, i < l.length ∧ l.getD i 0 = x := fun x hx => by
    obtain ⟨i, hi, rfl⟩ := List.getElem_of_mem hx
    exact ⟨i, hi, Hw.getD_in _ _ hi⟩
  refine ⟨supB_of h1, a3, ⟨a1, a2, a4, a6, h2, ?_, fun x hx => ?_⟩⟩
  · rw [List.nodup_iff_pairwise_ne]
    refine List.pairwise_iff_getElem.2 fun i j hi hj hij e => ?_
    have := inc_lt h3 i (j - i - 1) (by omega)
    rw [show i + (j - i - 1) + 1 = j from by omega, Hw.getD_in _ _ hi, Hw.getD_in _ _ hj, e] at this
    omega
  · obtain ⟨i, hi, rfl⟩ := hin x hx
    have := h3 i hi
    exact ⟨this.1, this.2.1⟩
structure OkM (p N T : Int) (bad : List Int) : Prop where
  ok : Ok12 p N T bad
  n7 : N ≤ 7
theorem okM {p N T : Int} {l : List Int} (h : mayB p N T l = true) : OkM p N T l := by
  unfold mayB at h
  rw [Bool.and_eq_true, Bool.and_eq_true, decide_eq_true_eq] at h
  exact ⟨ok12 h.2.2, h.2.1⟩
theorem OkM.t {p N T : Int} {bad : List Int} (h : OkM p N T bad) : T = 1 ∨ T = 2 := by
  have h1 := h.ok.coa.t0
  have h2 := h.ok.coa.t1
  have h3 := h.n7
  omega
/-! The words. -/
def cutL (p : Int) (w : List Int) (m n : Nat) : List Int := tabL n fun i => if m + i < w.length then w.getD (m + i) 0 % p else 0
theorem cutL_length (p : Int) (w : List Int) (m n : Nat) : (cutL p w m n).length = n := tabL_length _ _
theorem cutL_res {p : Int} (hp : Supp p) (w : List Int) (m n : Nat) : ∀ x ∈ cutL p w m n, Res p x := tabL_res fun i _ => by
  split
  · exact Res.mod hp _
  · have := hp.bd; exact ⟨Int.le_refl 0, by omega⟩
theorem cut_ev {p : Int} (hp : Supp p) (N T : Int) (bad : List Int) (da db : Int) {w : List Int} (hw : ∀ x ∈ w, 0 ≤ x) (m n : Nat) (hm : m ≤ 1000) (hn : n ≤ 1000) : Ev (fun k => privitylaw43_cut.f k p N T bad da db w (m : Int) (n : Int)) (cutL p w m n) := by
  have hb := hp.bd
  unfold privitylaw43_cut.f
  have hs : wrap64 ((m : Int) + (n : Int)) = ((m + n : Nat) : Int) := by rw [w64' (by omega) (by omega)]; omega
  have h := up (Q := fun i => Ev (fun k => privitylaw43_cut.l0 k (m : Int) (n : Int) (cutL p w m i) ((m + i : Nat) : Int) p N T bad da db w) (cutL p w m n)) (n := n) ?_ fun i hi h => ?_
  · exact h
  · refine Ev.step (fun k => ?_) (Ev.now _)
    simp only [privitylaw43_cut.l0]
    rw [hs, if_neg (by omega)]
  · have e : cutL p w m (i + 1) = cutL p w m i ++ [if m + i < w.length then w.getD (m + i) 0 % p else 0] := tabL_succ _ _
    rw [e] at h
    refine Ev.step (fun k => ?_) h
    simp only [privitylaw43_cut.l0]
    rw [hs, if_pos (by omega), wnat (by omega), cutL_length]
    by_cases hlt : m + i < w.length
    · have h0 : 0 ≤ w.getD (m + i) 0 := by rw [Hw.getD_in _ _ hlt]; exact hw _ (List.getElem_mem _)
      rw [if_pos hlt, if_pos (by omega), if_pos (by omega), if_neg (by omega), if_pos (by omega), rd_nat, tmod_pos h0]; rfl
    · rw [if_neg hlt, if_neg (by omega), if_pos (by omega)]; rfl
def qL (p T : Int) (w : List Int) : List Int := cutL p w 0 (T.toNat + 1)
def rL (p T : Int) (w : List Int) : List Int := cutL p w (T.toNat + 1) (T.toNat * (T.toNat + 1) / 2)
theorem one_ev {p : Int} (hp : Supp p) (N : Int) {T : Int} (hT : T = 1 ∨ T = 2) (bad : List Int) (da db : Int) {w : List Int} (hw : ∀ x ∈ w, 0 ≤ x) : Ev (fun k => privitylaw43_one.f k p N T bad da db w) (qL p T w, rL p T w) := by
  unfold privitylaw43_one.f
  rcases hT with rfl | rfl
  · have h1 := cut_ev hp N 1 bad da db hw 0 2 (by omega) (by omega)
    have h2 := cut_ev hp N 1 bad da db hw 2 1 (by omega) (by omega)
    have a1 : wrap64 ((1 : Int) + 1) = 2 := by unfold wrap64; omega
    have a2 : wrap64 ((1 : Int) * 2) = 2 := by unfold wrap64; omega
    have a3 : wrap64 (Int.tdiv 2 2) = 1 := by kernel_rfl
    rw [a1, a2, a3]
    exact Ev.bind h1 (Ev.bind h2 (Ev.now _))
  · have h1 := cut_ev hp N 2 bad da db hw 0 3 (by omega) (by omega)
    have h2 := cut_ev hp N 2 bad da db hw 3 3 (by omega) (by omega)
    have a1 : wrap64 ((2 : Int) + 1) = 3 := by unfold wrap64; omega
    have a2 : wrap64 ((2 : Int) * 3) = 6 := by unfold wrap64; omega
    have a3 : wrap64 (Int.tdiv 6 2) = 3 := by kernel_rfl
    rw [a1, a2, a3]
    exact Ev.bind h1 (Ev.bind h2 (Ev.now _))
/-! The vanishing polynomial. -/
theorem Ok12.van {p N T : Int} {bad : List Int} (h : Ok12 p N T bad) : VanOk p (extB N T bad) :=
  ⟨fun x hx => by have := extB_range h.coa x hx; have := h.np; exact ⟨by omega, by omega⟩, fun x hx => by have := extB_range h.coa x hx; omega, extB_nodup h.coa⟩
def vanZ (p N T : Int) (bad : List Int) : List Int := polL p (vanP (extB N T bad))
theorem vanZ_length {p N T : Int} {bad : List Int} (h : Ok12 p N T bad) : ((vanZ p N T bad).length : Int) = T + 1 := by
  unfold vanZ
  rw [van_len h.hp h.van]
  have := extB_length h.coa
  omega
theorem vanpol_ev {p N T : Int} {bad : List Int} (h : Ok12 p N T bad) : Ev (fun k => params_VanishingPolynomial.f k p N T bad) (vanZ p N T bad) := by
  have hp := h.hp
  have hc := h.coa
  have hn0 := hc.n0
  have hn1 := hc.n1
  have hlen := hc.len
  have ht := hc.t1
  have hel := extB_length hc
  have hext : params_ExtendCoalition.f p N T bad = some (extB N T bad) := by
    unfold params_ExtendCoalition.f
    rw [if_pos (by omega), if_pos (by omega), if_pos (by omega), if_pos]
    · rfl
    · refine List.all_eq_true.2 fun x hx => ?_
      have := hc.rng x hx
      rw [Bool.and_eq_true, decide_eq_true_eq, decide_eq_true_eq]; omega
  unfold params_VanishingPolynomial.f
  obtain ⟨e, he⟩ : ∃ e, e = extB N T bad := ⟨_, rfl⟩
  have hv := h.van
  have hr := extB_range hc
  unfold vanZ
  rw [← he] at hext hel hv hr ⊢
  refine ev_now_bind hext ?_
  have hmain := up (Q := fun i => Ev (fun k => params_VanishingPolynomial.l0 k (vanP (e.take i)) e (e.length : Int) (i : Int) p N T) (polL p (vanP e))) (n := e.length) ?_ fun i hi h => ?_
  · exact hmain
  · rw [List.take_length]
    refine Ev.step (f := fun k => (interpolate_Polynomial.f p (vanP e)).bind fun bt => some bt.1) (fun k => ?_) ?_
    · simp only [params_VanishingPolynomial.l0]
      rw [if_neg (by omega)]
    · refine ev_now_bind (ipol_eq hp (vanP_ok hp hv) (by rw [vanP_length]; omega)) ?_
      rw [if_pos (vanP_nd hp hv)]
      exact Ev.now _
  · have e1 : vanP (e.take (i + 1)) = vanP (e.take i) ++ [⟨e.getD i 0, 0⟩] := by
      have e2 : e.take (i + 1) = e.take i ++ [e.getD i 0] := by
        rw [List.take_add_one, List.getElem?_eq_getElem hi, Hw.getD_in _ _ hi]; rfl
      unfold vanP
      rw [e2, List.map_append]; rfl
    rw [e1] at h
    have hx := hr (e.getD i 0) (by rw [Hw.getD_in _ _ hi]; exact List.getElem_mem _)
    refine Ev.step (fun k => ?_) h
    simp only [params_VanishingPolynomial.l0]
    rw [if_pos (by omega), if_pos (by omega), if_pos (by omega), if_pos (by rw [vanP_length, List.length_take]; omega), rd_nat, wrapU_id (by omega) (by omega), wnat (by omega)]
/-! The shift. -/
def byL (p : Int) (z : List Int) (d : Int) (l : List Int) : List Int := tabL l.length fun j => (l.getD j 0 + d * z.getD j 0 % p) % p
theorem byL_length (p : Int) (z : List Int) (d : Int) (l : List Int) : (byL p z d l).length = l.length := tabL_length _ _
def byS (p : Int) (z : List Int) (d : Int) (l : List Int) (i : Nat) : List Int := tabL l.length fun j => if j < i then (l.getD j 0 + d * z.getD j 0 % p) % p else l.getD j 0
theorem byS_next (p : Int) (z : List Int) (d : Int) (l : List Int) (i : Nat) (hi : i < l.length) : (byS p z d l i).set i ((l.getD i 0 + d * z.getD i 0 % p) % p) = byS p z d l (i + 1) := by
  refine list_ext_getD (by rw [List.length_set]; unfold byS; rw [tabL_length, tabL_length]) fun j => ?_
  have hl : (byS p z d l i).length = l.length := tabL_length _ _
  by_cases e : j = i
  · subst e
    unfold byS
    rw [List.getD_eq_getElem?_getD, List.getElem?_set_self (by rw [tabL_length]; exact hi), tabL_getD, if_pos hi, if_pos (Nat.lt_succ_self _)]
    rfl
  · rw [List.getD_eq_getElem?_getD, List.getElem?_set_ne (Ne.symm e), ← List.getD_eq_getElem?_getD]
    unfold byS
    rw [tabL_getD, tabL_getD]
    by_cases hj : j < l.length
    · rw [if_pos hj, if_pos hj]
      by_cases h1 : j < i
      · rw [if_pos h1, if_pos (by omega)]
      · rw [if_neg h1, if_neg (by omega)]
    · rw [if_neg hj, if_neg hj]
theorem by_ev {p : Int} (hp : Supp p) (T : Int) {z l : List Int} (hz : ∀ x ∈ z, Res p x) (hl : ∀ x ∈ l, Res p x) (hzl : l.length ≤ z.length) (hll : l.length ≤ 1000) {d : Int} (hd : Res p d) : Ev (fun k => tapeshift_mover_by.f k p T z d l) (byL p z d l) := by
  unfold tapeshift_mover_by.f
  have hcl : slices_Clone_uint64_uint64.f l = some l := by unfold slices_Clone_uint64_uint64.f; rw [if_pos (by omega)]
  refine ev_now_bind hcl ?_
  have e0 : byS p z d l 0 = l := by
    unfold byS
    refine (tabL_congr fun j hj => ?_).trans (tabL_of l)
    rw [if_neg (by omega)]
  have e1 : byS p z d l l.length = byL p z d l := tabL_congr fun j hj => by rw [if_pos hj]
  have h := up (Q := fun i => Ev (fun k => tapeshift_mover_by.l0 k d (byS p z d l i) (l.length : Int) (i : Int) p T z) (byL p z d l)) (n := l.length) ?_ fun i hi h => ?_
  · rw [e0] at h; exact h
  · rw [e1]
    refine Ev.step (fun k => ?_) (Ev.now _)
    simp only [tapeshift_mover_by.l0]
    rw [if_neg (by omega)]
  · have hbl : (byS p z d l i).length = l.length := tabL_length _ _
    have hbi : (byS p z d l i).getD i 0 = l.getD i 0 := by unfold byS; rw [tabL_getD, if_pos hi, if_neg (Nat.lt_irrefl _)]
    rw [← byS_next p z d l i hi] at h
    refine Ev.step (f := fun k => (field_Mul.f k p d (z.getD i 0)).bind fun t => (field_Add.f k p (l.getD i 0) t).bind fun t2 => tapeshift_mover_by.l0 k d ((byS p z d l i).set i t2) (l.length : Int) ((i + 1 : Nat) : Int) p T z) (fun k => ?_) (Ev.bind (mul_ev hp hd (res_getD hp hz i)) (Ev.bind (add_ev hp (res_getD hp hl i) (Res.mod hp _)) h))
    simp only [tapeshift_mover_by.l0]
    rw [if_pos (by omega), if_pos (by omega), if_pos (by omega), if_pos (by omega), rd_nat, rd_nat, hbi, wnat (by omega), Int.toNat_natCast]
/-- The products z i * z j, 1 ≤ i ≤ j, in the order of the words. -/
def wL (p T : Int) (z : List Int) : List Int := if T = 1 then [z.getD 1 0 * z.getD 1 0 % p] else [z.getD 1 0 * z.getD 1 0 % p, z.getD 1 0 * z.getD 2 0 % p, z.getD 2 0 * z.getD 2 0 % p]
theorem wL1 (p : Int) (z : List Int) : wL p 1 z = [z.getD 1 0 * z.getD 1 0 % p] := if_pos rfl
theorem wL2 (p : Int) (z : List Int) : wL p 2 z = [z.getD 1 0 * z.getD 1 0 % p, z.getD 1 0 * z.getD 2 0 % p, z.getD 2 0 * z.getD 2 0 % p] := if_neg (by omega)
theorem mul3 (p d a b : Int) : d * a % p * b % p = d * (a * b % p) % p := by
  rw [mulm (a := d * a % p) (a' := d * a) (b := b) (b' := b) (Int.emod_emod_of_dvd _ (Int.dvd_refl _)) rfl, mulm (a := d) (a' := d) (b := a * b % p) (b' := a * b) rfl (Int.emod_emod_of_dvd _ (Int.dvd_refl _)), Int.mul_assoc]
theorem mov_by {p T d : Int} {z r : List Int} (hT : T = 1 ∨ T = 2) (hr : r.length = T.toNat * (T.toNat + 1) / 2) : movI p d T.toNat z r T.toNat 1 0 = byL p (wL p T z) d r := by
  rcases hT with rfl | rfl
  · have h1 : r.length = 1 := hr
    have e : byL p (wL p 1 z) d r = [(r.getD 0 0 + d * (z.getD 1 0 * z.getD 1 0 % p) % p) % p] := by
      unfold byL; rw [h1, wL1]; rfl
    rw [e, ← mul3]; rfl
  · have h1 : r.length = 3 := hr
    have e : byL p (wL p 2 z) d r = [(r.getD 0 0 + d * (z.getD 1 0 * z.getD 1 0 % p) % p) % p, (r.getD 1 0 + d * (z.getD 1 0 * z.getD 2 0 % p) % p) % p, (r.getD 2 0 + d * (z.getD 2 0 * z.getD 2 0 % p) % p) % p] := by
      unfold byL; rw [h1, wL2]; rfl
    rw [e, ← mul3, ← mul3, ← mul3]; rfl
theorem sharing_ev {p N T : Int} {bad : List Int} (h : OkM p N T bad) {d : Int} (hd : Res p d) {q r : List Int} (hq : ∀ x ∈ q, Res p x) (hr : ∀ x ∈ r, Res p x) (lq : q.length = T.toNat + 1) (lr : r.length = T.toNat * (T.toNat + 1) / 2) :
    Ev (fun k => tapeshift_Sharing.f k p N T bad d q r) (byL p (vanZ p N T bad) d q, byL p (wL p T (vanZ p N T bad)) d r) := by
  have hp := h.ok.hp
  have hT := h.t
  have hzl := vanZ_length h.ok
  have hzr : ∀ x ∈ vanZ p N T bad, Res p x := van_res hp h.ok.van
  have hm := mov_by (p := p) (d := d) (z := vanZ p N T bad) hT lr
  have hml : (movI p d T.toNat (vanZ p N T bad) r T.toNat 1 0).length = r.length := by rw [hm, byL_length]
  have h3 : r.length ≤ 3 := by rw [lr]; rcases hT with rfl | rfl <;> decide
  have hrest : tapeshift_mover_rest.f p T (vanZ p N T bad) d r = some (byL p (wL p T (vanZ p N T bad)) d r) := by
    unfold tapeshift_mover_rest.f
    rw [if_pos (supB_iff.2 hp), if_pos (by omega), if_pos (by omega), if_pos (resB_iff.2 hd), if_pos (ressB_iff.2 hzr), if_pos (by omega), if_pos (ressB_iff.2 hr), if_pos (by rw [hml]; exact Nat.le_refl _), if_pos (by omega), hm]
  unfold tapeshift_Sharing.f tapeshift_of.f
  refine Ev.bind (a := (p, T, vanZ p N T bad)) (f := fun k bt => (tapeshift_mover_by.f k bt.1 bt.2.1 bt.2.2 d q).bind fun t220 => ((tapeshift_mover_rest.f bt.1 bt.2.1 bt.2.2 d r).bind fun t223 => (some (t220, t223)))) (Ev.bind (f := fun _ t => some (p, T, t)) (vanpol_ev h.ok) (Ev.now _)) ?_
  exact Ev.bind (by_ev hp T hzr hq (by omega) (by omega) hd) (ev_now_bind hrest (Ev.now _))
theorem awake43 : Ev (fun k => privitylaw43_awake.f k) true := Ev.of (fun k => privitylaw43_awake.mono _) (k := 60) privitylaw43_awake.is
theorem awake43' : Ev (fun k => (privitylaw43_awake.f k).bind fun t => some t) true := Ev.bind awake43 (Ev.now _)
end Go.Proofs.Ytejeelpnmdfibaa.E
end
section
/-
  Chapter 43: the matrix of a sharing's words, its rows at a point, the shift as a translation.
-/
namespace Go.Proofs.Ytejeelpnmdfibaa.E
open Go.RowKit Go.Proofs.Ytejeelpnmdfibaa.Pr Go.Proofs.Ytejeelpnmdfibaa.Hw Go.Proofs.Ytejeelpnmdfibaa.Pl Go.Proofs.YtejeelpnmdfibaaW.PrintWords Go.Proofs.YtejeelpnmdfibaaW.PrintLast Go.Proofs.YtejeelpnmdfibaaW.PrintMore
set_option linter.unusedVariables false
set_option linter.unusedSimpArgs false

theorem value43 {p : Int} (hp : Supp p) {l : List Int} (hl : ∀ x ∈ l, Res p x) (hll : l.length ≤ 1000000) {x : Int} (hx : Res p x) : Ev (fun k => privityref10_Value.f k p l x) (evI p x l) := by
  have hb := hp.bd
  have main : ∀ m, m ≤ l.length → Ev (fun k => privityref10_Value.l0 k p l x (evI p x (l.drop m)) ((m : Int) - 1)) (evI p x l) := by
    intro m
    induction m with
    | zero =>
      intro _
      refine Ev.step (f := fun _ => some (evI p x l)) (fun k => ?_) (Ev.now _)
      simp only [privityref10_Value.l0]
      rw [if_neg (by omega)]; rfl
    | succ m ih =>
      intro hm
      have ih := ih (by omega)
      have e : l.drop m = l.getD m 0 :: l.drop (m + 1) := by
        rw [Hw.getD_in _ _ (show m < l.length by omega)]
        exact List.drop_eq_getElem_cons (by omega)
      rw [e] at ih
      refine Ev.step (f := fun k => (privityref01_Mul.f k p (evI p x (l.drop (m + 1))) x).bind fun t => ((privityref01_Add.f p t (l.getD m 0)).bind fun t2 => privityref10_Value.l0 k p l x t2 ((m : Int) - 1))) (fun k => ?_) (Ev.bind (rmul_ev hp (evI_res hp _ _) hx) (ev_now_bind (radd_eq hp (Res.mod hp _) (res_getD hp hl m)) ih))
      have e2 : ((m + 1 : Nat) : Int) - 1 = (m : Int) := by omega
      simp only [privityref10_Value.l0]
      rw [e2, if_pos (by omega)]
      refine congrArg (Option.bind _) (funext fun t => ?_)
      rw [if_pos (by omega), if_pos (by omega), rd_nat, w64' (by omega) (by omega)]
  refine (main l.length (Nat.le_refl _)).congr fun k => ?_
  unfold privityref10_Value.f
  rw [List.drop_length, w64' (by omega) (by omega)]; rfl
theorem rdR_nat (l : List (List Int)) (i : Nat) : rd_L4 l (i : Int) = l.getD i [] := by unfold rd_L4; rw [Int.toNat_natCast]
theorem rrow_ev {p : Int} (hp : Supp p) {n : Nat} (hn : n ≤ 1000) {g : Nat → Nat → Int} (hg : ∀ i j, Res p (g i j)) {x : Int} (hx : Res p x) : Ev (fun k => privityref10_Row.f k p (matL n g) x) (rowX p n g x) := by
  have hml : (matL n g).length = n := (matL_sq n g).len
  have hrow : ∀ j : Nat, j < n → rd_L4 (matL n g) (j : Int) = tabL n (g j) := fun j hj => by rw [rdR_nat]; exact matP_getD _ _ _ _ hj
  unfold privityref10_Row.f
  have h := up (Q := fun i => Ev (fun k => privityref10_Row.l0 k p (matL n g) x (tabL i fun j => evI p x (tabL n fun a => g a j)) (i : Int)) (rowX p n g x)) (n := n) ?_ fun i hi h => ?_
  · exact h
  · refine Ev.step (fun k => ?_) (Ev.now _)
    simp only [privityref10_Row.l0]
    rw [if_neg (by omega)]; rfl
  · refine Ev.step (f := fun k => privityref10_Row.l1 k p (matL n g) x (tabL i fun j => evI p x (tabL n fun a => g a j)) (i : Int) [] 0) (fun k => by simp only [privityref10_Row.l0]; rw [if_pos (by omega)]) ?_
    have h1 := up (Q := fun j => Ev (fun k => privityref10_Row.l1 k p (matL n g) x (tabL i fun j => evI p x (tabL n fun a => g a j)) (i : Int) (tabL j fun a => g a i) (j : Int)) (rowX p n g x)) (n := n) ?_ fun j hj h1 => ?_
    · exact h1
    · rw [tabL_succ] at h
      refine Ev.step (f := fun k => (privityref10_Value.f k p (tabL n fun a => g a i) x).bind fun t => privityref10_Row.l0 k p (matL n g) x ((tabL i fun j => evI p x (tabL n fun a => g a j)) ++ [t]) ((i + 1 : Nat) : Int)) (fun k => ?_) (Ev.bind (value43 hp (tabL_res fun a _ => hg a i) (by rw [tabL_length]; omega) hx) h)
      simp only [privityref10_Row.l1]
      rw [if_neg (by omega), tabL_length]
      refine congrArg (Option.bind _) (funext fun t => ?_)
      rw [if_pos (by omega), wnat (by omega)]
    · rw [tabL_succ] at h1
      refine Ev.step (fun k => ?_) h1
      simp only [privityref10_Row.l1]
      rw [if_pos (by omega), if_pos (by omega), if_pos (by omega), hrow j hj, tabL_length, if_pos (by omega), tabL_length, if_pos (by omega), rd_nat, tabL_getD, if_pos hi, wnat (by omega)]
/-! The matrix of the words. -/
theorem offs_T {T : Int} (hT : T = 1 ∨ T = 2) : offs (T.toNat + 1) (T.toNat + 1) = T.toNat * (T.toNat + 1) / 2 := by
  rcases hT with rfl | rfl <;> decide
theorem rnew_eq {T : Int} (hT : T = 1 ∨ T = 2) {q r : List Int} (lq : q.length = T.toNat + 1) (lr : r.length = T.toNat * (T.toNat + 1) / 2) : privityref10_New.f q r = some (matL (T.toNat + 1) (newG (T.toNat + 1) q r), 0) := by
  have h3 : T.toNat + 1 ≤ 3 ∧ T.toNat * (T.toNat + 1) / 2 ≤ 3 := by rcases hT with rfl | rfl <;> decide
  unfold privityref10_New.f
  rw [if_pos (by omega), if_pos (by omega), if_neg, lq]
  intro h
  rcases newBad_iff.1 h with h | h
  · omega
  · rw [lq, offs_T hT] at h; exact h lr
theorem newG_res {p : Int} (hp : Supp p) {q r : List Int} (hq : ∀ x ∈ q, Res p x) (hr : ∀ x ∈ r, Res p x) (n i j : Nat) : Res p (newG n q r i j) := by
  unfold newG
  split
  · exact res_getD hp hq _
  · exact res_getD hp hr _
theorem by_getD {p : Int} {z : List Int} {d : Int} {l : List Int} {j : Nat} (hj : j < l.length) : (byL p z d l).getD j 0 = (l.getD j 0 + d * z.getD j 0 % p) % p := by unfold byL; rw [tabL_getD, if_pos hj]
theorem newG_shift {p : Int} (hp : Supp p) {T : Int} (hT : T = 1 ∨ T = 2) {z : List Int} (hz : ∀ x ∈ z, Res p x) (z0 : z.getD 0 0 = 1) (d : Int) {q r : List Int} (lq : q.length = T.toNat + 1) (lr : r.length = T.toNat * (T.toNat + 1) / 2) :
    ∀ i, i < T.toNat + 1 → ∀ j, j < T.toNat + 1 → newG (T.toNat + 1) (byL p z d q) (byL p (wL p T z) d r) i j = trG p d (fun a => z.getD a 0) (newG (T.toNat + 1) q r) i j := by
  intro i hi j hj
  unfold trG
  by_cases h0 : min i j = 0
  · unfold newG
    rw [if_pos h0, if_pos h0, by_getD (by omega)]
    have e : z.getD i 0 * z.getD j 0 = z.getD (max i j) 0 := by
      rcases Nat.eq_zero_or_pos i with rfl | h
      · rw [z0, Int.one_mul, Nat.zero_max]
      · have : j = 0 := by omega
        subst this
        rw [z0, Int.mul_one, Nat.max_zero]
    rw [e, (res_getD hp hz (max i j)).eq]
  · unfold newG
    rw [if_neg h0, if_neg h0]
    have key : ∀ m : Nat, m < r.length → (wL p T z).getD m 0 = z.getD i 0 * z.getD j 0 % p → offs (T.toNat + 1) (min i j) + (max i j - min i j) = m → (byL p (wL p T z) d r).getD (offs (T.toNat + 1) (min i j) + (max i j - min i j)) 0 = (r.getD (offs (T.toNat + 1) (min i j) + (max i j - min i j)) 0 + d * (z.getD i 0 * z.getD j 0 % p) % p) % p := fun m hm hw e => by
      rw [e, by_getD hm, hw]
    rcases hT with rfl | rfl
    · have hi1 : i = 1 := by have : i < 2 := hi; omega
      have hj1 : j = 1 := by have : j < 2 := hj; omega
      subst hi1; subst hj1
      exact key 0 (by rw [lr]; decide) (by rw [wL1]; rfl) rfl
    · have hi3 : i < 3 := hi
      have hj3 : j < 3 := hj
      have ci : i = 1 ∨ i = 2 := by omega
      have cj : j = 1 ∨ j = 2 := by omega
      rcases ci with rfl | rfl
      · rcases cj with rfl | rfl
        · exact key 0 (by rw [lr]; decide) (by rw [wL2]; rfl) rfl
        · exact key 1 (by rw [lr]; decide) (by rw [wL2]; rfl) rfl
      · rcases cj with rfl | rfl
        · exact key 1 (by rw [lr]; decide) (by rw [wL2]; show z.getD 1 0 * z.getD 2 0 % p = _; rw [Int.mul_comm]) rfl
        · exact key 2 (by rw [lr]; decide) (by rw [wL2]; rfl) rfl
/-- The matrix tells the words. -/
theorem newG_inj {T : Int} (hT : T = 1 ∨ T = 2) {q q' r r' : List Int} (lq : q.length = T.toNat + 1) (lq' : q'.length = T.toNat + 1) (lr : r.length = T.toNat * (T.toNat + 1) / 2) (lr' : r'.length = T.toNat * (T.toNat + 1) / 2)
    (h : ∀ i, i < T.toNat + 1 → ∀ j, j < T.toNat + 1 → newG (T.toNat + 1) q r i j = newG (T.toNat + 1) q' r' i j) : q = q' ∧ r = r' := by
  refine ⟨list_ext_getD (by rw [lq, lq']) fun j => ?_, list_ext_getD (by rw [lr, lr']) fun j => ?_⟩
  · by_cases hj : j < T.toNat + 1
    · have := h 0 (by omega) j hj
      unfold newG at this
      rw [if_pos (by omega), if_pos (by omega), Nat.zero_max] at this
      exact this
    · rw [getD_out _ _ (by omega), getD_out _ _ (by omega)]
  · by_cases hj : j < T.toNat * (T.toNat + 1) / 2
    · rcases hT with rfl | rfl
      · have h1 : j < 1 := hj
        have : j = 0 := by omega
        subst this
        exact h 1 (by decide) 1 (by decide)
      · have h1 : j < 3 := hj
        have c : j = 0 ∨ j = 1 ∨ j = 2 := by omega
        rcases c with rfl | rfl | rfl
        · exact h 1 (by decide) 1 (by decide)
        · exact h 1 (by decide) 2 (by decide)
        · exact h 2 (by decide) 2 (by decide)
    · rw [getD_out _ _ (by omega), getD_out _ _ (by omega)]
/-- What is known of the vanishing polynomial of a valid coalition. -/
structure Zs (p N T : Int) (bad z : List Int) : Prop where
  res : ∀ x ∈ z, Res p x
  len : z.length = T.toNat + 1
  z0 : z.getD 0 0 = 1
  root : ∀ x ∈ extB N T bad, evI p x z = 0
theorem vanZs {p N T : Int} {bad : List Int} (h : Ok12 p N T bad) : Zs p N T bad (vanZ p N T bad) := by
  have hr : ∀ x ∈ vanZ p N T bad, Res p x := van_res h.hp h.van
  have hl := vanZ_length h
  have ht := h.coa.t0
  refine ⟨hr, by omega, ?_, fun x hx => van_root h.hp h.van x hx⟩
  rw [← evI_zero' h.hp hr]
  exact van_zero h.hp h.van
theorem Zs.tab {p N T : Int} {bad z : List Int} (h : Zs p N T bad z) : tabL (T.toNat + 1) (fun a => z.getD a 0) = z := by
  rw [← h.len]; exact tabL_of z
end Go.Proofs.Ytejeelpnmdfibaa.E
end
section
/-
  Sharings with the same rows at the extended coalition's points are shifts of each other.
-/
namespace Go.Proofs.Ytejeelpnmdfibaa.Pure
open Go.RowKit Go.Proofs.Ytejeelpnmdfibaa.Pr Go.Proofs.Ytejeelpnmdfibaa.Hw Go.Proofs.Ytejeelpnmdfibaa.E Go.Proofs.Ytejeelpnmdfibaa.Pl Go.Proofs.YtejeelpnmdfibaaW.PrintWords Go.Proofs.YtejeelpnmdfibaaW.PrintLast Go.Proofs.YtejeelpnmdfibaaW.PrintMore
set_option linter.unusedVariables false
set_option linter.unusedSimpArgs false

theorem in_ev (l : List Int) (x : Int) (hl : l.length ≤ 1000) : Ev (fun k => privityref12_In.f k l x) (decide (x ∈ l)) := by
  unfold privityref12_In.f
  by_cases hx : x ∈ l
  · rw [decide_eq_true hx]
    obtain ⟨i, hi, e⟩ := List.getElem_of_mem hx
    refine up (Q := fun j => Ev (fun k => privityref12_In.l0 k l x (j : Int)) true) (n := i) ?_ fun j hj h => ?_
    · refine Ev.step (fun k => ?_) (Ev.now _)
      simp only [privityref12_In.l0]
      rw [if_pos (by omega), if_pos (by omega), rd_nat, Hw.getD_in _ _ hi, if_pos e]
    · by_cases he : l.getD j 0 = x
      · refine Ev.step (fun k => ?_) (Ev.now _)
        simp only [privityref12_In.l0]
        rw [if_pos (by omega), if_pos (by omega), rd_nat, if_pos he]
      · refine Ev.step (fun k => ?_) h
        simp only [privityref12_In.l0]
        rw [if_pos (by omega), if_pos (by omega), rd_nat, if_neg he, wnat (by omega)]
  · rw [decide_eq_false hx]
    refine up (Q := fun j => Ev (fun k => privityref12_In.l0 k l x (j : Int)) false) (n := l.length) ?_ fun j hj h => ?_
    · refine Ev.step (fun k => ?_) (Ev.now _)
      simp only [privityref12_In.l0]
      rw [if_neg (by omega)]
    · have he : l.getD j 0 ≠ x := fun e => hx (by rw [← e, Hw.getD_in _ _ hj]; exact List.getElem_mem _)
      refine Ev.step (fun k => ?_) h
      simp only [privityref12_In.l0]
      rw [if_pos (by omega), if_pos (by omega), rd_nat, if_neg he, wnat (by omega)]
theorem rext_l0 (p N T : Int) (bad : List Int) (hl : bad.length ≤ 1000) (hN : N ≤ 13) : ∀ (n : Nat) (m lack : Int) (acc : List Int), 1 ≤ m → m + n = N + 1 → -1000 ≤ lack → lack ≤ 1000 → (acc.length : Int) + 1 ≤ m →
    Ev (fun k => privityref12_ExtendCoalition.l0 k bad lack acc m p N T) (acc ++ extL bad n m lack)
  | 0, m, lack, acc, h1, h2, _, _, _ => by
    refine Ev.step (fun k => ?_) (Ev.now _)
    simp only [privityref12_ExtendCoalition.l0]
    rw [if_neg (by omega), extL, List.append_nil]
  | n + 1, m, lack, acc, h1, h2, h3, h4, h5 => by
    have hw : wrap64 (m + 1) = m + 1 := w64' (by omega) (by omega)
    refine Ev.step (f := fun k => (privityref12_In.f k bad m).bind fun t412 => (if t412 = true then (if acc.length < 17592186044416 then (privityref12_ExtendCoalition.l0 k bad lack (acc ++ [m]) (wrap64 (m + 1)) p N T) else (none)) else (if lack > 0 then (if acc.length < 17592186044416 then (privityref12_ExtendCoalition.l0 k bad (wrap64 (lack - 1)) (acc ++ [m]) (wrap64 (m + 1)) p N T) else (none)) else (privityref12_ExtendCoalition.l0 k bad lack acc (wrap64 (m + 1)) p N T)))) (fun k => ?_) ?_
    · simp only [privityref12_ExtendCoalition.l0]
      rw [if_pos (by omega)]
    · refine ev_if (in_ev bad m hl) (fun h => ?_) (fun h => ?_)
      · rw [decide_eq_true_eq] at h
        refine ev_ite (fun _ => ?_) (fun h => absurd (show acc.length < 17592186044416 by omega) h)
        rw [hw, ext_yes h]
        have := rext_l0 p N T bad hl hN n (m + 1) lack (acc ++ [m]) (by omega) (by omega) h3 h4 (by rw [List.length_append]; simp only [List.length_cons, List.length_nil]; omega)
        rwa [List.append_assoc] at this
      · rw [decide_eq_false_iff_not] at h
        refine ev_ite (fun hk => ?_) (fun hk => ?_)
        · refine ev_ite (fun _ => ?_) (fun h => absurd (show acc.length < 17592186044416 by omega) h)
          rw [hw, ext_more h hk, w64' (n := lack - 1) (by omega) (by omega)]
          have := rext_l0 p N T bad hl hN n (m + 1) (lack - 1) (acc ++ [m]) (by omega) (by omega) (by omega) (by omega) (by rw [List.length_append]; simp only [List.length_cons, List.length_nil]; omega)
          rwa [List.append_assoc] at this
        · rw [hw, ext_skip h hk]
          exact rext_l0 p N T bad hl hN n (m + 1) lack acc (by omega) (by omega) h3 h4 (by omega)
theorem rext_ev {p N T : Int} {bad : List Int} (h : Ok12 p N T bad) : Ev (fun k => privityref12_ExtendCoalition.f k p N T bad) (extB N T bad) := by
  have h1 := h.coa.n0
  have h2 := h.coa.n1
  have h3 := h.coa.len
  have h4 := h.coa.t1
  unfold privityref12_ExtendCoalition.f
  rw [w64' (by omega) (by omega)]
  have := rext_l0 p N T bad (by omega) h2 N.toNat 1 (T - bad.length) [] (by omega) (by omega) (by omega) (by omega) (by simp)
  rwa [List.nil_append] at this
theorem TapeshiftComplete (p N T : Int) (bad : List Int) (da db : Int) (w l1 : List Int) (wp : (Lit.int .u64 p).wf = true) (wN : (Lit.int .i64 N).wf = true) (wT : (Lit.int .i64 T).wf = true) (wb : ∀ x_ ∈ bad, (Lit.int .i64 x_).wf = true) (wda : (Lit.int .u64 da).wf = true) (wdb : (Lit.int .u64 db).wf = true) (ww : ∀ x_ ∈ w, (Lit.int .u64 x_).wf = true) (wl : ∀ x_ ∈ l1, (Lit.int .u64 x_).wf = true) : ∃ k, privitylaw43_TapeshiftComplete.f k p N T bad da db w l1 = some true := by
  refine Ev.rounds (r := true) ?_
  unfold privitylaw43_TapeshiftComplete.f
  refine ev_if (may_ev p N T bad da db w) (fun h => ?_) (fun _ => awake43')
  have hm := okM h
  have hp := hm.ok.hp
  have hb := hp.bd
  have hT := hm.t
  have hw : ∀ x ∈ w, 0 ≤ x := fun x hx => (wf64 (ww x hx)).1
  have hw2 : ∀ x ∈ l1, 0 ≤ x := fun x hx => (wf64 (wl x hx)).1
  have l3 : T.toNat + 1 ≤ 3 ∧ T.toNat * (T.toNat + 1) / 2 ≤ 3 := by rcases hT with rfl | rfl <;> decide
  have hone := one_ev hp N hT bad da db hw
  have hone2 := one_ev hp N hT [] 0 0 hw2
  obtain ⟨q, r, eq, er, hq, hr, lq, lr⟩ : ∃ q r, q = qL p T w ∧ r = rL p T w ∧ (∀ x ∈ q, Res p x) ∧ (∀ x ∈ r, Res p x) ∧ q.length = T.toNat + 1 ∧ r.length = T.toNat * (T.toNat + 1) / 2 := ⟨_, _, rfl, rfl, cutL_res hp _ _ _, cutL_res hp _ _ _, cutL_length _ _ _ _, cutL_length _ _ _ _⟩
  obtain ⟨a, b, ea, eb, ha, hb', la, lb⟩ : ∃ a b, a = qL p T l1 ∧ b = rL p T l1 ∧ (∀ x ∈ a, Res p x) ∧ (∀ x ∈ b, Res p x) ∧ a.length = T.toNat + 1 ∧ b.length = T.toNat * (T.toNat + 1) / 2 := ⟨_, _, rfl, rfl, cutL_res hp _ _ _, cutL_res hp _ _ _, cutL_length _ _ _ _, cutL_length _ _ _ _⟩
  rw [← eq, ← er] at hone
  rw [← ea, ← eb] at hone2
  have hz := vanZs hm.ok
  have hd : Res p ((a.getD 0 0 - q.getD 0 0) % p) := Res.mod hp _
  have s1 := sharing_ev hm hd hq hr lq lr
  obtain ⟨z, ez⟩ : ∃ z, z = vanZ p N T bad := ⟨_, rfl⟩
  rw [← ez] at hz s1
  have hel := extB_length hm.ok.coa
  have her := extB_range hm.ok.coa
  have hext := rext_ev hm.ok
  have hvan := hm.ok.van
  obtain ⟨e, ee⟩ : ∃ e, e = extB N T bad := ⟨_, rfl⟩
  have hroot := hz.root
  rw [← ee] at hel her hext hvan hroot
  have hnp := hm.ok.np
  have h7 := hm.n7
  have ht0 := hm.ok.coa.t0
  have n1 := rnew_eq hT lq lr
  have n2 := rnew_eq hT la lb
  have hsh := newG_shift hp hT hz.res hz.z0 ((a.getD 0 0 - q.getD 0 0) % p) lq lr
  have g1 := newG_res hp hq hr (T.toNat + 1)
  have g2 := newG_res hp ha hb' (T.toNat + 1)
  have y1 := newG_sym (T.toNat + 1) q r
  have y2 := newG_sym (T.toNat + 1) a b
  have v1 : newG (T.toNat + 1) q r 0 0 = q.getD 0 0 := rfl
  have v2 : newG (T.toNat + 1) a b 0 0 = a.getD 0 0 := rfl
  have hinj := newG_inj hT (q := a) (q' := byL p z ((a.getD 0 0 - q.getD 0 0) % p) q) (r := b) (r' := byL p (wL p T z) ((a.getD 0 0 - q.getD 0 0) % p) r) la (by rw [byL_length]; exact lq) lb (by rw [byL_length]; exact lr)
  have htab := hz.tab
  have hn3 : T.toNat + 1 = e.length + 1 := by omega
  obtain ⟨n, en⟩ : ∃ n, n = T.toNat + 1 := ⟨_, rfl⟩
  rw [← en] at n1 n2 hsh g1 g2 y1 y2 v1 v2 hinj htab hn3
  obtain ⟨g, eg⟩ : ∃ g, g = newG n q r := ⟨_, rfl⟩
  obtain ⟨o, eo⟩ : ∃ o, o = newG n a b := ⟨_, rfl⟩
  rw [← eg] at n1 hsh g1 y1 v1
  rw [← eo] at n2 g2 y2 v2 hinj
  obtain ⟨d, ed⟩ : ∃ d, d = (a.getD 0 0 - q.getD 0 0) % p := ⟨_, rfl⟩
  rw [← ed] at hd s1 hsh hinj
  have hxe : ∀ i, i < e.length → e.getD i 0 ∈ e := fun i hi => by rw [Hw.getD_in _ _ hi]; exact List.getElem_mem _
  have hst : ∀ i, i < e.length → ∀ r_ : Bool, Ev (fun k => (privityref10_Row.f k p (matL n g) (e.getD i 0)).bind fun t446 => ((privityref10_Row.f k p (matL n o) (e.getD i 0)).bind fun t450 => ((privityref14_Words.f k t446 t450).bind fun t453 => (if t453 = true then (privitylaw43_TapeshiftComplete.l0 k p q r a b (matL n g) (matL n o) e ((i + 1 : Nat) : Int) p N T bad da db w) else ((privitylaw43_awake.f k).bind fun t454 => (some t454)))))) r_ → Ev (fun k => privitylaw43_TapeshiftComplete.l0 k p q r a b (matL n g) (matL n o) e (i : Int) p N T bad da db w) r_ := fun i hi r_ h => by
    have hx := her _ (hxe i hi)
    refine Ev.step (fun k => ?_) h
    simp only [privitylaw43_TapeshiftComplete.l0]
    rw [if_pos (by omega), if_pos (by omega), rd_nat, wrapU_id (by omega) (by omega), wnat (by omega)]
  have hro := fun i (hi : i < e.length) => rrow_ev hp (n := n) (by omega) g1 (x := e.getD i 0) (by have := her _ (hxe i hi); exact ⟨by omega, by omega⟩)
  have hrs := fun i (hi : i < e.length) => rrow_ev hp (n := n) (by omega) g2 (x := e.getD i 0) (by have := her _ (hxe i hi); exact ⟨by omega, by omega⟩)
  have hwd := fun i => words_ev (rowX p n g (e.getD i 0)) (rowX p n o (e.getD i 0)) (by rw [rowX_length]; omega)
  have hl0 : Ev (fun k => privitylaw43_TapeshiftComplete.l0 k p q r a b (matL n g) (matL n o) e ((0 : Nat) : Int) p N T bad da db w) true := by
    by_cases hall : ∀ i, i < e.length → rowX p n g (e.getD i 0) = rowX p n o (e.getD i 0)
    · refine up (Q := fun i => Ev (fun k => privitylaw43_TapeshiftComplete.l0 k p q r a b (matL n g) (matL n o) e (i : Int) p N T bad da db w) true) (n := e.length) ?_ fun i hi h => ?_
      · have hu : ∀ i, i < n → ∀ j, j < n → trG p d (fun a => z.getD a 0) g i j = o i j := fun i hi j hj => by
          have h1 := tr_unique hp (xs := e) (fun x hx => hvan.res x hx) (List.nodup_cons.2 ⟨fun hx => hvan.nz 0 hx rfl, hvan.nd⟩) hn3 (z := fun a => z.getD a 0) (fun i _ => res_getD hp hz.res i) hz.z0 (fun x hx => by rw [htab]; exact hroot x hx) g1 g2 (fun i _ j _ => y1 i j) (fun i _ j _ => y2 i j) (fun x hx => by
            obtain ⟨i, hi, rfl⟩ := List.getElem_of_mem hx
            have := hall i hi
            rw [Hw.getD_in _ _ hi] at this
            exact this.symm) i hi j hj
          rw [v1, v2, ← ed] at h1
          exact h1
        obtain ⟨f1, f2⟩ := hinj fun i hi j hj => by rw [hsh i hi j hj, hu i hi j hj]
        have w1 := words_ev a (byL p z d q) (by omega)
        have w2 := words_ev b (byL p (wL p T z) d r) (by omega)
        rw [decide_eq_true f1] at w1
        rw [decide_eq_true f2] at w2
        have hsub := rsub_eq hp (res_getD hp ha 0) (res_getD hp hq 0)
        rw [← ed] at hsub
        refine Ev.step (f := fun k => (privityref01_Sub.f p (a.getD 0 0) (q.getD 0 0)).bind fun t457 => ((tapeshift_Sharing.f k p N T bad t457 q r).bind fun bt458 => ((privitylaw43_awake.f k).bind fun t464 => (if t464 = true then ((privityref14_Words.f k a bt458.1).bind fun t465 => (if t465 = true then ((privityref14_Words.f k b bt458.2).bind fun t466 => (some t466)) else (some false))) else (some false))))) (fun k => ?_) ?_
        · simp only [privitylaw43_TapeshiftComplete.l0]
          have r1 := rd_nat a 0
          have r2 := rd_nat q 0
          rw [show ((0 : Nat) : Int) = 0 from rfl] at r1 r2
          rw [if_neg (by omega), if_pos (by omega), if_pos (by omega), r1, r2]
        · exact ev_now_bind hsub (Ev.bind s1 (ev_if awake43 (fun _ => ev_if w1 (fun _ => Ev.bind w2 (Ev.now _)) (fun h => by cases h)) (fun h => by cases h)))
      · refine hst i hi _ (Ev.bind (hro i hi) (Ev.bind (hrs i hi) (ev_if (hwd i) (fun _ => h) (fun hf => ?_))))
        rw [decide_eq_false_iff_not] at hf
        exact absurd (hall i hi) hf
    · obtain ⟨i, hi, hne⟩ : ∃ i, i < e.length ∧ rowX p n g (e.getD i 0) ≠ rowX p n o (e.getD i 0) := Classical.byContradiction fun h => hall fun i hi => Classical.byContradiction fun hq => h ⟨i, hi, hq⟩
      refine up (Q := fun i => Ev (fun k => privitylaw43_TapeshiftComplete.l0 k p q r a b (matL n g) (matL n o) e (i : Int) p N T bad da db w) true) (n := i) ?_ fun j hj h => ?_
      · refine hst i hi _ (Ev.bind (hro i hi) (Ev.bind (hrs i hi) (ev_if (hwd i) (fun hf => ?_) (fun _ => awake43'))))
        rw [decide_eq_true_eq] at hf
        exact absurd hf hne
      · exact hst j (by omega) _ (Ev.bind (hro j (by omega)) (Ev.bind (hrs j (by omega)) (ev_if (hwd j) (fun _ => h) (fun _ => awake43'))))
  refine Ev.bind hone (Ev.bind hone2 (ev_now_bind n1 (ev_now_bind n2 ?_)))
  refine ev_ite (fun _ => ?_) (fun h => absurd rfl h)
  refine Ev.step (f := fun k => (privityref12_ExtendCoalition.f k p N T bad).bind fun t442 => (privitylaw43_TapeshiftComplete.l0 k p q r a b (matL n g) (matL n o) t442 0 p N T bad da db w)) (fun k => ?_) (Ev.bind hext hl0)
  simp only [privitylaw43_TapeshiftComplete.j0]
  rw [if_neg (by simp)]
end Go.Proofs.Ytejeelpnmdfibaa.Pure
end
section
/-
  What came in, opened: numbers, bools, rows and structs of them, to any depth.
-/
namespace Go.Proofs.Ytejeelpnmdfibaa.Op
open Go.RowKit Go.Proofs.YtejeelpnmdfibaaW.PrintWords
set_option linter.unusedVariables false

/-- What is read of a type's value is a value of d, and Q holds of it. -/
def OpenK {α : Type} (P : Program) (t : TypeId) (d : Kd α) (Q : α → Prop) : Prop :=
  ∀ {H : Type} {enc : TypeId × Value → H} {w : World} {base : Nat} {sp : Nat → Bool} {hd : Bool} {fuel : Nat} {cs : List Value} {x : DataW H × List MemPlace}, DataW.trod enc P w base sp hd fuel t cs = some x → ∃ v : α, d.K w v cs ∧ Q v
theorem openInt {P : Program} {t : TypeId} {k : IntKind} (ht : P.underlying t = some (.int k)) : OpenK P t (Kd.int k) (fun n => (Lit.int k n).wf = true) := by
  intro H enc w base sp hd fuel cs x h
  obtain ⟨n, rfl, _, hw⟩ := DataW.trod_int ht h
  exact ⟨n, rfl, hw⟩
theorem exists_list {α : Type} {R : Nat → α → Prop} : ∀ (n : Nat), (∀ i, i < n → ∃ v, R i v) → ∃ l : List α, l.length = n ∧ ∀ i v, l[i]? = some v → R i v
  | 0, _ => ⟨[], rfl, fun i v h => by simp at h⟩
  | n + 1, h => by
    obtain ⟨l, hl, hr⟩ := exists_list n (fun i hi => h i (by omega))
    obtain ⟨v, hv⟩ := h n (by omega)
    refine ⟨l ++ [v], by simp [hl], fun i u hu => ?_⟩
    by_cases hi : i < n
    · rw [List.getElem?_append_left (by omega)] at hu
      exact hr i u hu
    · rw [List.getElem?_append_right (by omega)] at hu
      by_cases h0 : i - l.length = 0
      · rw [h0] at hu
        simp only [List.getElem?_cons_zero, Option.some.injEq] at hu
        rw [← hu, show i = n from by omega]; exact hv
      · rw [List.getElem?_eq_none (by simp; omega)] at hu; cases hu
theorem openSlice {α : Type} {P : Program} {t e : TypeId} {d : Kd α} {Q : α → Prop} (ht : P.underlying t = some (.slice e)) (hc : P.cellsOf e = d.sz) (he : OpenK P e d Q) : OpenK P t (Kd.slice e d) (fun l => ∀ x ∈ l, Q x) := by
  intro H enc w base sp hd fuel cs x h
  rcases DataW.trod_slice ht h with ⟨rfl, _⟩ | ⟨a, len, cap, elems, rest, n, _, rfl, _, _, hlc, hm, hlen, hel, _, _⟩
  · exact ⟨[], ⟨none, 0, rfl, Nat.le_refl _, rfl, Nat.zero_le _, fun h => absurd h (Nat.lt_irrefl 0)⟩, fun x hx => by cases hx⟩
  · have each : ∀ i, i < len → ∃ v, (∃ c, c.length = d.sz ∧ d.K w v c ∧ ∀ j u, c[j]? = some u → w.cell? (a.add (i * d.sz + j)) = some u) ∧ Q v := by
      intro i hi
      have h1 := hel i hi
      rw [List.getElem?_eq_getElem (by omega), hc] at h1
      obtain ⟨c, hcs, htr⟩ := Option.bind_eq_some_iff.1 h1
      obtain ⟨v, hk, hq⟩ := he htr
      refine ⟨v, ⟨c, d.K_len hk, hk, fun j u hu => ?_⟩, hq⟩
      have h2 := World.cells?_some hcs
      have hj := (List.getElem?_eq_some_iff.1 hu).1
      have h3 := h2.2.2 j (by rw [← d.K_len hk]; exact hj)
      rw [hu] at h3
      rw [← h3, ← Addr.add_add]
    obtain ⟨l, hl, hr⟩ := exists_list len each
    refine ⟨l, ⟨some a, cap, by rw [hl], by omega, rfl, by rw [hl]; simp only [maxLen] at hm; omega, fun _ => ⟨a, rfl, fun j p hj => (hr j p hj).1⟩⟩, fun x hx => ?_⟩
    obtain ⟨i, hi, rfl⟩ := List.getElem_of_mem hx
    exact (hr i _ (List.getElem?_eq_getElem hi)).2
/-- A struct's fields. -/
theorem openFields {P : Program} {H : Type} {enc : TypeId × Value → H} {w : World} {base : Nat} {sp : Nat → Bool} {hd : Bool} {fuel : Nat} {t : TypeId} {cs : List Value} {x : DataW H × List MemPlace} {fs : Array Field} (ht : P.underlying t = some (.struct fs))
    (h : DataW.trod enc P w base sp hd fuel t cs = some x) : cs.length = P.cellsOf t ∧ ∀ (i : Nat) (f : Field), fs[i]? = some f → ∃ n y, DataW.trod enc P w base sp hd n f.type ((cs.drop f.offset).take (P.cellsOf f.type)) = some y := by
  obtain ⟨xs, n, _, _, hl, hlen, hf⟩ := DataW.trod_struct ht h
  refine ⟨hl, fun i f hi => ?_⟩
  have h1 := hf i f hi
  have h2 : i < fs.size := (Array.getElem?_eq_some_iff.1 hi).1
  rw [List.getElem?_eq_getElem (by omega)] at h1
  exact ⟨n, _, h1⟩
end Go.Proofs.Ytejeelpnmdfibaa.Op
end
section
/- The row of the law TapeshiftComplete, out of its plain law and the walk. -/
namespace Go.Proofs.Ytejeelpnmdfibaa.tapeshiftComplete
open Go.ChangeShapes Go.WideShapes Go.ChangeAt Go.RowKit Go.Proofs.Ytejeelpnmdfibaa.Pr Go.Proofs.YtejeelpnmdfibaaW.PrintWords
set_option linter.unusedVariables false
theorem own : ownKnob Try.prog.godebug = none := by kernel_rfl
theorem laidOut : laidOutB Try.prog = true := by kernel_rfl
theorem arr7 (cs : Array Value) (h : cs.size = 7) : ∃ c0_ c1_ c2_ c3_ c4_ c5_ c6_, cs = #[c0_, c1_, c2_, c3_, c4_, c5_, c6_] := by
  obtain ⟨l_⟩ := cs
  match l_, h with
  | [c0_, c1_, c2_, c3_, c4_, c5_, c6_], _ => exact ⟨_, _, _, _, _, _, _, rfl⟩
set_option maxHeartbeats 4000000 in
set_option maxRecDepth 100000 in
theorem lifted (os : Os) (started : os.Started) (H : Type) (enc : TypeId × Value → H) :
    ReturnsInHanded {} Try.checked os 5 .any (Rows.tapeshiftCompleteSpec.pre6 enc Try.prog Try.f5 Rows.tapeshiftCompleteRow.domain false) (Rows.tapeshiftCompleteSpec.post enc Try.prog Try.f5 false true false false) := by
  refine returnsInHanded_of_change_sized (C := Try.checked) own started (by kernel_rfl) Try.func5
    (ChangeSpec.witness6 (enc := enc) (C := Try.checked) false ⟨#[], #[.agg #[.int .u64 0, .int .i64 0, .int .i64 0, .slice none 0 0, .int .u64 0, .int .u64 0, .slice none 0 0], .slice none 0 0], []⟩ 8 (by kernel_rfl) (by kernel_rfl) (by kernel_rfl) (by kernel_rfl)) ?_
  intro W base args ds gs before hval0 hW hcnd hsz0 _
  have hval : ∀ (j : Nat) t v, Try.f5.params[j]? = some t → args[j]? = some v → Value.okWide Try.prog W .any base t v := hval0
  have hW' := hW
  obtain ⟨p, q, hA0, hV, rfl, hfz, hnd⟩ := hW
  have hA : DataW.TrodAll enc Try.prog W 0 (fun _ => true) true Try.f5.params.toList args.toList ds p := hA0
  rw [Try.params5] at hA hval
  obtain ⟨v0, vs0, d0, ds0, p0, q0, hargs, rfl, rfl, h0, r0⟩ := trodAll_cons hA
  obtain ⟨v1, vs1, d1, ds1, p1, q1, rfl, rfl, rfl, h1, r1⟩ := trodAll_cons r0
  obtain ⟨rfl, rfl, rfl⟩ := trodAll_nil r1
  obtain rfl : args = #[v0, v1] := by cases args; simp_all
  obtain ⟨rfl, rfl⟩ := trodVars_none hV
  have k0 := h0
  have lt0 : ∀ x ∈ p0, x.block < W.heap.size := by obtain ⟨m, hm⟩ := k0; exact DataW.trod_lt m _ _ _ hm
  obtain ⟨cs0, rfl, hs0⟩ := okWide_struct Try.underlying28 (hval 0 28 v0 rfl rfl)
  have hN0 : Try.prog.cellsOf 28 = 7 := by kernel_rfl
  rw [hN0] at hs0
  obtain ⟨x0_0, x0_1, x0_2, x0_3, x0_4, x0_5, x0_6, rfl⟩ := arr7 cs0 hs0
  obtain ⟨fu0, hf0⟩ := h0
  have hg0 : DataW.trod enc Try.prog W 0 (fun _ => true) true fu0 28 [x0_0, x0_1, x0_2, x0_3, x0_4, x0_5, x0_6] = some (d0, p0) := hf0
  have f0 := (Op.openFields Try.underlying28 hg0).2
  obtain ⟨n0_0, y0_0, e0_0⟩ := f0 0 _ rfl
  have b0_0 : DataW.trod enc Try.prog W 0 (fun _ => true) true n0_0 24 [x0_0, x0_1, x0_2] = some y0_0 := e0_0
  have f0_0 := (Op.openFields Try.underlying24 b0_0).2
  obtain ⟨n0_0_0, y0_0_0, e0_0_0⟩ := f0_0 0 _ rfl
  have b0_0_0 : DataW.trod enc Try.prog W 0 (fun _ => true) true n0_0_0 22 [x0_0] = some y0_0_0 := e0_0_0
  obtain ⟨a0_0_0, e0_0_0, w0_0_0⟩ := (Op.openInt (k := .u64) Try.underlying22) b0_0_0
  cases e0_0_0
  obtain ⟨n0_0_1, y0_0_1, e0_0_1⟩ := f0_0 1 _ rfl
  have b0_0_1 : DataW.trod enc Try.prog W 0 (fun _ => true) true n0_0_1 3 [x0_1] = some y0_0_1 := e0_0_1
  obtain ⟨a0_0_1, e0_0_1, w0_0_1⟩ := (Op.openInt (k := .i64) Try.underlying3) b0_0_1
  cases e0_0_1
  obtain ⟨n0_0_2, y0_0_2, e0_0_2⟩ := f0_0 2 _ rfl
  have b0_0_2 : DataW.trod enc Try.prog W 0 (fun _ => true) true n0_0_2 3 [x0_2] = some y0_0_2 := e0_0_2
  obtain ⟨a0_0_2, e0_0_2, w0_0_2⟩ := (Op.openInt (k := .i64) Try.underlying3) b0_0_2
  cases e0_0_2
  obtain ⟨n0_1, y0_1, e0_1⟩ := f0 1 _ rfl
  have b0_1 : DataW.trod enc Try.prog W 0 (fun _ => true) true n0_1 25 [x0_3] = some y0_1 := e0_1
  obtain ⟨z0_1, ⟨A0_1, c0_1, e0_1, hc0_1, g0_1⟩, w0_1⟩ := (Op.openSlice (d := (Kd.int .i64)) Try.underlying25 (by kernel_rfl) (Op.openInt (k := .i64) Try.underlying3)) b0_1
  cases e0_1
  obtain ⟨n0_2, y0_2, e0_2⟩ := f0 2 _ rfl
  have b0_2 : DataW.trod enc Try.prog W 0 (fun _ => true) true n0_2 22 [x0_4] = some y0_2 := e0_2
  obtain ⟨a0_2, e0_2, w0_2⟩ := (Op.openInt (k := .u64) Try.underlying22) b0_2
  cases e0_2
  obtain ⟨n0_3, y0_3, e0_3⟩ := f0 3 _ rfl
  have b0_3 : DataW.trod enc Try.prog W 0 (fun _ => true) true n0_3 22 [x0_5] = some y0_3 := e0_3
  obtain ⟨a0_3, e0_3, w0_3⟩ := (Op.openInt (k := .u64) Try.underlying22) b0_3
  cases e0_3
  obtain ⟨n0_4, y0_4, e0_4⟩ := f0 4 _ rfl
  have b0_4 : DataW.trod enc Try.prog W 0 (fun _ => true) true n0_4 26 [x0_6] = some y0_4 := e0_4
  obtain ⟨z0_4, ⟨A0_4, c0_4, e0_4, hc0_4, g0_4⟩, w0_4⟩ := (Op.openSlice (d := (Kd.int .u64)) Try.underlying26 (by kernel_rfl) (Op.openInt (k := .u64) Try.underlying22)) b0_4
  cases e0_4
  have k1 := h1
  have lt1 : ∀ x ∈ p1, x.block < W.heap.size := by obtain ⟨m, hm⟩ := k1; exact DataW.trod_lt m _ _ _ hm
  obtain ⟨a1, len1, cap1, rfl⟩ := okWide_slice Try.underlying26 (hval 1 26 v1 rfl rfl)
  obtain ⟨fu1, hf1⟩ := h1
  obtain ⟨z1, ⟨A1, c1, e1, hc1, g1⟩, w1⟩ := (Op.openSlice (d := (Kd.int .u64)) Try.underlying26 (by kernel_rfl) (Op.openInt (k := .u64) Try.underlying22)) hf1
  cases e1
  clear hA0 hval0 hsz0
  obtain ⟨kk, hk⟩ := Pure.TapeshiftComplete a0_0_0 a0_0_1 a0_0_2 z0_1 a0_2 a0_3 z0_4 z1 w0_0_0 w0_0_1 w0_0_2 w0_1 w0_2 w0_3 w0_4 w1
  refine (privitylaw43_TapeshiftComplete.calls kk a0_0_0 a0_0_1 a0_0_2 _ _ z0_1 a0_2 a0_3 _ _ z0_4 _ _ z1 true W g0_1 hc0_1 g0_4 hc0_4 g1 hc1 rfl hk).mono fun e W' ⟨he, bel⟩ => ?_
  subst he
  exact ⟨_, rfl, _, _, _, [], _, [], hW', trodAll_mk1 (shut_bool Try.underlying4 _), (trodAll_cons_mk (Below.trod laidOut (by kernel_rfl) (of_decide_eq_true (by kernel_rfl)) k0 bel lt0) (trodAll_cons_mk (Below.trod laidOut (by kernel_rfl) (of_decide_eq_true (by kernel_rfl)) k1 bel lt1) trodAll_mk0)), rfl, bel.frame _, fun h => by cases h⟩
theorem over : Rows.tapeshiftCompleteRow.holds Try.pinned (OpenSpec.ofChange Rows.tapeshiftCompleteSpec) :=
  OpenClaim.holds_of_wide 5 Try.f5 rfl rfl rfl rfl rfl rfl rfl ⟨rfl, rfl, rfl, rfl, rfl⟩ rfl rfl rfl rfl rfl (by kernel_rfl) Try.func5 (by kernel_rfl)
    (of_decide_eq_true (by kernel_rfl)) (by unfold Func.isWrapper; first | (rw [if_pos (by decide +kernel)]; kernel_rfl) | (rw [if_neg (by decide +kernel)]; exact ⟨rfl, rfl⟩))
    (fun os started H enc _ => lifted os started H enc)
theorem proved : Rows.TapeshiftCompleteSaid := over
#print axioms proved
end Go.Proofs.Ytejeelpnmdfibaa.tapeshiftComplete
namespace Go.Proofs.Ytejeelpnmdfibaa
/-- The row, under a short name, for the claim. -/
theorem tapeshiftComplete_holds : Rows.TapeshiftCompleteSaid := tapeshiftComplete.proved
end Go.Proofs.Ytejeelpnmdfibaa
end
