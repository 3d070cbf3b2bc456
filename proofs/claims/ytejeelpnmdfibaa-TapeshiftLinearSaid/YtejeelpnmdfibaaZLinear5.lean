/- The row of the law TapeshiftLinear, out of its plain law and the walk. -/
import Derived.Test.YtejeelpnmdfibaaZLinear1
import Derived.Test.YtejeelpnmdfibaaZLinear4
import Derived.Test.YtejeelpnmdfibaaZLinear3
import Derived.Test.YtejeelpnmdfibaaProg
import Derived.ChangeArms
import Derived.DataReads
import Derived.DataElems
import Derived.ShutString
import Derived.ChangeSame
import Derived.Test.YtejeelpnmdfibaaZLinear0
import Derived.Test.YtejeelpnmdfibaaRows
import Derived.WalkKit
import Derived.ProofKit
import Derived.OpenShut
import Derived.ChangeOld
import Derived.Below
import Derived.SizedLaws
section
/- Printed by a program of this seat (the kit's printer, with the functions that were proved by hand given to it). What stands here: the functions that the statements reach, as plain functions, and that the Go code computes them. -/
namespace Go.Proofs.Ytejeelpnmdfibaa.Pr
open Go.RowKit Go.Proofs.YtejeelpnmdfibaaW.PrintWords Go.Proofs.YtejeelpnmdfibaaW.PrintLast Go.Proofs.YtejeelpnmdfibaaW.PrintMore
attribute [local go_sem] max2_int min2_int max_two min_two max_three min_three max_four min_four   -- for this text's walks alone
set_option linter.unusedVariables false
set_option linter.unusedSimpArgs false

open Go.Proofs.Ytejeelpnmdfibaa.Hw
/-! ### privitylaw43_TapeshiftLinear: function 4 -/
def privitylaw43_TapeshiftLinear.j0 : Nat → Int → Int → Int → List Int → List Int → List Int → List Int → Bool → Int → Int → Int → List Int → Int → Int → List Int → Option (Bool)
 | 0,_,_,_,_,_,_,_,_,_,_,_,_,_,_,_ => none
 | k + 1,x3,x4,x5,x6,x7,x8,x9,x83,x353000,x353001,x353002,x353003,x353004,x353005,x353006 => if x83 = true then (some false) else ((tapeshift_Sharing.f k x353000 x353001 x353002 x353003 x5 x6 x7).bind fun bt382 => ((privityref01_Add.f x3 x4 x5).bind fun t388 => ((privitylaw43_sum.f k x3 x6 x6).bind fun t389 => ((privitylaw43_sum.f k x3 x7 x7).bind fun t392 => ((tapeshift_Sharing.f k x353000 x353001 x353002 x353003 t388 t389 t392).bind fun bt395 => ((privitylaw43_awake.f k).bind fun t401 => (if t401 = true then ((privitylaw43_sum.f k x3 x8 bt382.1).bind fun t402 => ((privityref14_Words.f k bt395.1 t402).bind fun t405 => (if t405 = true then ((privitylaw43_sum.f k x3 x9 bt382.2).bind fun t406 => ((privityref14_Words.f k bt395.2 t406).bind fun t409 => (some t409))) else (some false)))) else (some false))))))))
def privitylaw43_TapeshiftLinear.f (k : Nat) (a0_0 : Int) (a0_1 : Int) (a0_2 : Int) (l0_3 : List Int) (a0_4 : Int) (a0_5 : Int) (l0_6 : List Int) : Option (Bool) := (privitylaw43_may.f k a0_0 a0_1 a0_2 l0_3 a0_4 a0_5 l0_6).bind fun t353 => (if t353 = true then (if a0_0 = 0 then (none) else ((privitylaw43_one.f k a0_0 a0_1 a0_2 l0_3 a0_4 a0_5 l0_6).bind fun bt355 => ((tapeshift_Sharing.f k a0_0 a0_1 a0_2 l0_3 (Int.tmod a0_4 a0_0) bt355.1 bt355.2).bind fun bt361 => ((tapeshift_Sharing.f k a0_0 a0_1 a0_2 l0_3 (Int.tmod a0_5 a0_0) bt361.1 bt361.2).bind fun bt367 => ((privityref01_Add.f a0_0 (Int.tmod a0_4 a0_0) (Int.tmod a0_5 a0_0)).bind fun t373 => ((tapeshift_Sharing.f k a0_0 a0_1 a0_2 l0_3 t373 bt355.1 bt355.2).bind fun bt374 => ((privityref14_Words.f k bt367.1 bt374.1).bind fun t380 => (if t380 = true then ((privityref14_Words.f k bt367.2 bt374.2).bind fun t381 => (privitylaw43_TapeshiftLinear.j0 k a0_0 (Int.tmod a0_4 a0_0) (Int.tmod a0_5 a0_0) bt355.1 bt355.2 bt361.1 bt361.2 (!t381) a0_0 a0_1 a0_2 l0_3 a0_4 a0_5 l0_6)) else (privitylaw43_TapeshiftLinear.j0 k a0_0 (Int.tmod a0_4 a0_0) (Int.tmod a0_5 a0_0) bt355.1 bt355.2 bt361.1 bt361.2 true a0_0 a0_1 a0_2 l0_3 a0_4 a0_5 l0_6))))))))) else ((privitylaw43_awake.f k).bind fun t354 => (some t354)))
def privitylaw43_TapeshiftLinear.T4 : Bool × List (List Nat × List Nat) := (true, [([], []), ([0], [0]), ([], []), ([1, 2], [1, 2]), ([], []), ([4], [4]), ([], []), ([5, 6], [5, 6]), ([3, 0, 1, 2, 3], [3]), ([7, 8, 0, 1, 2, 3, 4, 5, 6, 7, 8], [7])])
def privitylaw43_TapeshiftLinear.B4 : List Nat := [0, 1, 0, 7, 0, 16, 0, 112, 15, 511]
theorem privitylaw43_TapeshiftLinear.tab4 : rtab .any (opsOf Try.f4 4) = privitylaw43_TapeshiftLinear.T4 := by kernel_rfl
theorem privitylaw43_TapeshiftLinear.bits4 : waitsOk privitylaw43_TapeshiftLinear.T4.2 privitylaw43_TapeshiftLinear.B4 = true := by kernel_rfl
def privitylaw43_TapeshiftLinear.T8 : Bool × List (List Nat × List Nat) := (true, [([], []), ([0], [0]), ([], []), ([2], [2]), ([], []), ([], []), ([], []), ([4, 5, 6], [4, 5, 6]), ([], []), ([], []), ([1, 3, 7, 8, 9, 7], [1, 3, 7, 8, 9]), ([10], [10]), ([11], [11]), ([11], [11]), ([12, 10, 0, 1, 2, 3, 4, 5, 6, 7, 8, 9, 10, 11, 12], [12]), ([13, 14, 0, 1, 2, 3, 4, 5, 6, 7, 8, 9, 10, 11, 12, 13, 14], [13])])
def privitylaw43_TapeshiftLinear.B8 : List Nat := [0, 1, 0, 4, 0, 0, 0, 112, 0, 0, 1023, 2047, 4095, 4095, 8191, 32767]
theorem privitylaw43_TapeshiftLinear.tab8 : rtab .any (opsOf Try.f4 8) = privitylaw43_TapeshiftLinear.T8 := by kernel_rfl
theorem privitylaw43_TapeshiftLinear.bits8 : waitsOk privitylaw43_TapeshiftLinear.T8.2 privitylaw43_TapeshiftLinear.B8 = true := by kernel_rfl
def privitylaw43_TapeshiftLinear.T12 : Bool × List (List Nat × List Nat) := (true, [([], []), ([0], [0]), ([], []), ([2], [2]), ([], []), ([], []), ([], []), ([4, 5, 6], [4, 5, 6]), ([], []), ([], []), ([], []), ([8, 9, 10, 7], [8, 9, 10]), ([], []), ([], []), ([], []), ([12, 13, 14, 11], [12, 13, 14]), ([1, 3, 7, 11, 15, 15], [1, 3, 7, 11, 15]), ([16], [16]), ([17], [17]), ([17], [17]), ([18, 16, 0, 1, 2, 3, 4, 5, 6, 7, 8, 9, 10, 11, 12, 13, 14, 15, 16, 17, 18], [18]), ([19, 20, 0, 1, 2, 3, 4, 5, 6, 7, 8, 9, 10, 11, 12, 13, 14, 15, 16, 17, 18, 19, 20], [19])])
def privitylaw43_TapeshiftLinear.B12 : List Nat := [0, 1, 0, 4, 0, 0, 0, 112, 0, 0, 0, 2032, 0, 0, 0, 32752, 65535, 131071, 262143, 262143, 524287, 2097151]
theorem privitylaw43_TapeshiftLinear.tab12 : rtab .any (opsOf Try.f4 12) = privitylaw43_TapeshiftLinear.T12 := by kernel_rfl
theorem privitylaw43_TapeshiftLinear.bits12 : waitsOk privitylaw43_TapeshiftLinear.T12.2 privitylaw43_TapeshiftLinear.B12 = true := by kernel_rfl
set_option maxHeartbeats 8000000 in
set_option maxRecDepth 100000 in
theorem privitylaw43_TapeshiftLinear.calls (k : Nat) (a0_0 : Int) (a0_1 : Int) (a0_2 : Int) (A0_3 : Option Addr) (c0_3 : Nat) (l0_3 : List Int) (a0_4 : Int) (a0_5 : Int) (A0_6 : Option Addr) (c0_6 : Nat) (l0_6 : List Int) (r : Bool) (w : World) (hr0_3 : Kd.C (Kd.int .i64) w A0_3 l0_3.length l0_3) (hc0_3 : l0_3.length ≤ c0_3) (hr0_6 : Kd.C (Kd.int .u64) w A0_6 l0_6.length l0_6) (hc0_6 : l0_6.length ≤ c0_6) (hr1_ : r = true) (h : privitylaw43_TapeshiftLinear.f k a0_0 a0_1 a0_2 l0_3 a0_4 a0_5 l0_6 = some r) :
  Calls Try.prog 4 #[.agg #[.int .u64 a0_0,.int .i64 a0_1,.int .i64 a0_2,.slice A0_3 l0_3.length c0_3,.int .u64 a0_4,.int .u64 a0_5,.slice A0_6 l0_6.length c0_6]] w fun e w' => e = .returned (.bool r) ∧ Below w.heap.size w w' := by
 have HRT_ := Aside0.mk hr1_
 clear hr1_
 have hu28 := Try.underlying28
 have hu24 := Try.underlying24
 have HR0_3 := Aside0.mk hr0_3
 have HC0_3 := Aside0.mk hc0_3
 clear hr0_3 hc0_3
 have HR0_6 := Aside0.mk hr0_6
 have HC0_6 := Aside0.mk hc0_6
 clear hr0_6 hc0_6
 have HB := Aside0.mk (Below.refl w.heap.size w)
 have H : ((privitylaw43_may.f k a0_0 a0_1 a0_2 l0_3 a0_4 a0_5 l0_6).bind fun t353 => (if t353 = true then (if a0_0 = 0 then (none) else ((privitylaw43_one.f k a0_0 a0_1 a0_2 l0_3 a0_4 a0_5 l0_6).bind fun bt355 => ((tapeshift_Sharing.f k a0_0 a0_1 a0_2 l0_3 (Int.tmod a0_4 a0_0) bt355.1 bt355.2).bind fun bt361 => ((tapeshift_Sharing.f k a0_0 a0_1 a0_2 l0_3 (Int.tmod a0_5 a0_0) bt361.1 bt361.2).bind fun bt367 => ((privityref01_Add.f a0_0 (Int.tmod a0_4 a0_0) (Int.tmod a0_5 a0_0)).bind fun t373 => ((tapeshift_Sharing.f k a0_0 a0_1 a0_2 l0_3 t373 bt355.1 bt355.2).bind fun bt374 => ((privityref14_Words.f k bt367.1 bt374.1).bind fun t380 => (if t380 = true then ((privityref14_Words.f k bt367.2 bt374.2).bind fun t381 => (privitylaw43_TapeshiftLinear.j0 k a0_0 (Int.tmod a0_4 a0_0) (Int.tmod a0_5 a0_0) bt355.1 bt355.2 bt361.1 bt361.2 (!t381) a0_0 a0_1 a0_2 l0_3 a0_4 a0_5 l0_6)) else (privitylaw43_TapeshiftLinear.j0 k a0_0 (Int.tmod a0_4 a0_0) (Int.tmod a0_5 a0_0) bt355.1 bt355.2 bt361.1 bt361.2 true a0_0 a0_1 a0_2 l0_3 a0_4 a0_5 l0_6))))))))) else ((privitylaw43_awake.f k).bind fun t354 => (some t354)))) = some r := h
 clear h
 replace H := Option.bind_eq_some_iff.mp H
 obtain ⟨t353,A20,H⟩ := H
 replace H : (if t353 = true then (if a0_0 = 0 then (none) else ((privitylaw43_one.f k a0_0 a0_1 a0_2 l0_3 a0_4 a0_5 l0_6).bind fun bt355 => ((tapeshift_Sharing.f k a0_0 a0_1 a0_2 l0_3 (Int.tmod a0_4 a0_0) bt355.1 bt355.2).bind fun bt361 => ((tapeshift_Sharing.f k a0_0 a0_1 a0_2 l0_3 (Int.tmod a0_5 a0_0) bt361.1 bt361.2).bind fun bt367 => ((privityref01_Add.f a0_0 (Int.tmod a0_4 a0_0) (Int.tmod a0_5 a0_0)).bind fun t373 => ((tapeshift_Sharing.f k a0_0 a0_1 a0_2 l0_3 t373 bt355.1 bt355.2).bind fun bt374 => ((privityref14_Words.f k bt367.1 bt374.1).bind fun t380 => (if t380 = true then ((privityref14_Words.f k bt367.2 bt374.2).bind fun t381 => (privitylaw43_TapeshiftLinear.j0 k a0_0 (Int.tmod a0_4 a0_0) (Int.tmod a0_5 a0_0) bt355.1 bt355.2 bt361.1 bt361.2 (!t381) a0_0 a0_1 a0_2 l0_3 a0_4 a0_5 l0_6)) else (privitylaw43_TapeshiftLinear.j0 k a0_0 (Int.tmod a0_4 a0_0) (Int.tmod a0_5 a0_0) bt355.1 bt355.2 bt361.1 bt361.2 true a0_0 a0_1 a0_2 l0_3 a0_4 a0_5 l0_6))))))))) else ((privitylaw43_awake.f k).bind fun t354 => (some t354))) = some r := H
 have A2 := Aside0.mk A20
 clear A20
 by_cases c3 : t353 = true
 ·subst c3
  have H1 : (if a0_0 = 0 then (none) else ((privitylaw43_one.f k a0_0 a0_1 a0_2 l0_3 a0_4 a0_5 l0_6).bind fun bt355 => ((tapeshift_Sharing.f k a0_0 a0_1 a0_2 l0_3 (Int.tmod a0_4 a0_0) bt355.1 bt355.2).bind fun bt361 => ((tapeshift_Sharing.f k a0_0 a0_1 a0_2 l0_3 (Int.tmod a0_5 a0_0) bt361.1 bt361.2).bind fun bt367 => ((privityref01_Add.f a0_0 (Int.tmod a0_4 a0_0) (Int.tmod a0_5 a0_0)).bind fun t373 => ((tapeshift_Sharing.f k a0_0 a0_1 a0_2 l0_3 t373 bt355.1 bt355.2).bind fun bt374 => ((privityref14_Words.f k bt367.1 bt374.1).bind fun t380 => (if t380 = true then ((privityref14_Words.f k bt367.2 bt374.2).bind fun t381 => (privitylaw43_TapeshiftLinear.j0 k a0_0 (Int.tmod a0_4 a0_0) (Int.tmod a0_5 a0_0) bt355.1 bt355.2 bt361.1 bt361.2 (!t381) a0_0 a0_1 a0_2 l0_3 a0_4 a0_5 l0_6)) else (privitylaw43_TapeshiftLinear.j0 k a0_0 (Int.tmod a0_4 a0_0) (Int.tmod a0_5 a0_0) bt355.1 bt355.2 bt361.1 bt361.2 true a0_0 a0_1 a0_2 l0_3 a0_4 a0_5 l0_6))))))))) = some r := by rw [if_pos rfl] at H;exact H
  clear H
  have H := H1
  clear H1
  by_cases c4 : a0_0 = 0
  ·rw [if_pos c4] at H
   exact absurd H (by simp)
  ·rw [if_neg c4] at H
   have c4b0 : (a0_0 == 0) = false := beq_eq_false_iff_ne.mpr c4
   have c4b1 : (a0_0 != 0) = true := bne_iff_ne.mpr c4
   replace H := Option.bind_eq_some_iff.mp H
   obtain ⟨⟨t355,t358⟩,A50,H⟩ := H
   replace H : ((tapeshift_Sharing.f k a0_0 a0_1 a0_2 l0_3 (Int.tmod a0_4 a0_0) t355 t358).bind fun bt361 => ((tapeshift_Sharing.f k a0_0 a0_1 a0_2 l0_3 (Int.tmod a0_5 a0_0) bt361.1 bt361.2).bind fun bt367 => ((privityref01_Add.f a0_0 (Int.tmod a0_4 a0_0) (Int.tmod a0_5 a0_0)).bind fun t373 => ((tapeshift_Sharing.f k a0_0 a0_1 a0_2 l0_3 t373 t355 t358).bind fun bt374 => ((privityref14_Words.f k bt367.1 bt374.1).bind fun t380 => (if t380 = true then ((privityref14_Words.f k bt367.2 bt374.2).bind fun t381 => (privitylaw43_TapeshiftLinear.j0 k a0_0 (Int.tmod a0_4 a0_0) (Int.tmod a0_5 a0_0) t355 t358 bt361.1 bt361.2 (!t381) a0_0 a0_1 a0_2 l0_3 a0_4 a0_5 l0_6)) else (privitylaw43_TapeshiftLinear.j0 k a0_0 (Int.tmod a0_4 a0_0) (Int.tmod a0_5 a0_0) t355 t358 bt361.1 bt361.2 true a0_0 a0_1 a0_2 l0_3 a0_4 a0_5 l0_6))))))) = some r := H
   have A5 := Aside0.mk A50
   clear A50
   replace H := Option.bind_eq_some_iff.mp H
   obtain ⟨⟨t361,t364⟩,A60,H⟩ := H
   replace H : ((tapeshift_Sharing.f k a0_0 a0_1 a0_2 l0_3 (Int.tmod a0_5 a0_0) t361 t364).bind fun bt367 => ((privityref01_Add.f a0_0 (Int.tmod a0_4 a0_0) (Int.tmod a0_5 a0_0)).bind fun t373 => ((tapeshift_Sharing.f k a0_0 a0_1 a0_2 l0_3 t373 t355 t358).bind fun bt374 => ((privityref14_Words.f k bt367.1 bt374.1).bind fun t380 => (if t380 = true then ((privityref14_Words.f k bt367.2 bt374.2).bind fun t381 => (privitylaw43_TapeshiftLinear.j0 k a0_0 (Int.tmod a0_4 a0_0) (Int.tmod a0_5 a0_0) t355 t358 t361 t364 (!t381) a0_0 a0_1 a0_2 l0_3 a0_4 a0_5 l0_6)) else (privitylaw43_TapeshiftLinear.j0 k a0_0 (Int.tmod a0_4 a0_0) (Int.tmod a0_5 a0_0) t355 t358 t361 t364 true a0_0 a0_1 a0_2 l0_3 a0_4 a0_5 l0_6)))))) = some r := H
   have A6 := Aside0.mk A60
   clear A60
   replace H := Option.bind_eq_some_iff.mp H
   obtain ⟨⟨t367,t370⟩,A70,H⟩ := H
   replace H : ((privityref01_Add.f a0_0 (Int.tmod a0_4 a0_0) (Int.tmod a0_5 a0_0)).bind fun t373 => ((tapeshift_Sharing.f k a0_0 a0_1 a0_2 l0_3 t373 t355 t358).bind fun bt374 => ((privityref14_Words.f k t367 bt374.1).bind fun t380 => (if t380 = true then ((privityref14_Words.f k t370 bt374.2).bind fun t381 => (privitylaw43_TapeshiftLinear.j0 k a0_0 (Int.tmod a0_4 a0_0) (Int.tmod a0_5 a0_0) t355 t358 t361 t364 (!t381) a0_0 a0_1 a0_2 l0_3 a0_4 a0_5 l0_6)) else (privitylaw43_TapeshiftLinear.j0 k a0_0 (Int.tmod a0_4 a0_0) (Int.tmod a0_5 a0_0) t355 t358 t361 t364 true a0_0 a0_1 a0_2 l0_3 a0_4 a0_5 l0_6))))) = some r := H
   have A7 := Aside0.mk A70
   clear A70
   replace H := Option.bind_eq_some_iff.mp H
   obtain ⟨t373,A80,H⟩ := H
   replace H : ((tapeshift_Sharing.f k a0_0 a0_1 a0_2 l0_3 t373 t355 t358).bind fun bt374 => ((privityref14_Words.f k t367 bt374.1).bind fun t380 => (if t380 = true then ((privityref14_Words.f k t370 bt374.2).bind fun t381 => (privitylaw43_TapeshiftLinear.j0 k a0_0 (Int.tmod a0_4 a0_0) (Int.tmod a0_5 a0_0) t355 t358 t361 t364 (!t381) a0_0 a0_1 a0_2 l0_3 a0_4 a0_5 l0_6)) else (privitylaw43_TapeshiftLinear.j0 k a0_0 (Int.tmod a0_4 a0_0) (Int.tmod a0_5 a0_0) t355 t358 t361 t364 true a0_0 a0_1 a0_2 l0_3 a0_4 a0_5 l0_6)))) = some r := H
   have A8 := Aside0.mk A80
   clear A80
   replace H := Option.bind_eq_some_iff.mp H
   obtain ⟨⟨t374,t377⟩,A90,H⟩ := H
   replace H : ((privityref14_Words.f k t367 t374).bind fun t380 => (if t380 = true then ((privityref14_Words.f k t370 t377).bind fun t381 => (privitylaw43_TapeshiftLinear.j0 k a0_0 (Int.tmod a0_4 a0_0) (Int.tmod a0_5 a0_0) t355 t358 t361 t364 (!t381) a0_0 a0_1 a0_2 l0_3 a0_4 a0_5 l0_6)) else (privitylaw43_TapeshiftLinear.j0 k a0_0 (Int.tmod a0_4 a0_0) (Int.tmod a0_5 a0_0) t355 t358 t361 t364 true a0_0 a0_1 a0_2 l0_3 a0_4 a0_5 l0_6))) = some r := H
   have A9 := Aside0.mk A90
   clear A90
   have HC10 := Aside0.mk H
   clear H
   go_enter Try.func4,Try.ntmps4
   try go_wp2_with (first|((with_reducible refine gate_dst (N := 1) rfl ?_);refine box_event ?hg (N := 1) ?hd (cs := #[.int .u64 a0_0,.int .i64 a0_1,.int .i64 a0_2,.slice A0_3 l0_3.length c0_3,.int .u64 a0_4,.int .u64 a0_5,.slice A0_6 l0_6.length c0_6]) (t := 28) ?hr ?_;(case hd => rfl);(case hg => rfl);(case hr => first|(go_simp;done)|(go_simp;rfl));intro gb352 hg w11 hbox hb;have n0_ := Aside0.mk (below_step (by repeat (first|(with_reducible first|exact HB.out|apply below_alloc|apply pw_below_drewN|apply below_drew1)|exact HB.out)) hb);have n1_ := Aside0.mk (hbox);have n2_ := Aside0.mk ((by rw [hg];exact (below_size (by repeat (first|(with_reducible first|exact HB.out|apply below_alloc|apply pw_below_drewN|apply below_drew1)|exact HB.out))) : w.heap.size ≤ gb352));have n3_ := Aside0.mk ((by rw [hg];exact (below_size (by repeat (first|(with_reducible first|exact HB.out|apply below_alloc|apply pw_below_drewN|apply below_drew1)|exact HB.out))) : w.heap.size ≤ gb352));clear HB;have HB := n0_;have BK352 := n1_;have GW352 := n2_;have GE352 := n3_;clear n0_ n1_ n2_ n3_;clear hb hbox hg;have hcz12_0 : w11.cell? ⟨gb352,0,none⟩ = some (.int .u64 a0_0) := (blk_cell BK352.out 0).trans rfl;have hcz12_1 : w11.cell? ⟨gb352,1,none⟩ = some (.int .i64 a0_1) := (blk_cell BK352.out 1).trans rfl;have hcz12_2 : w11.cell? ⟨gb352,2,none⟩ = some (.int .i64 a0_2) := (blk_cell BK352.out 2).trans rfl;have hcz12_3 : w11.cell? ⟨gb352,3,none⟩ = some (.slice A0_3 l0_3.length c0_3) := (blk_cell BK352.out 3).trans rfl;have hcz12_4 : w11.cell? ⟨gb352,4,none⟩ = some (.int .u64 a0_4) := (blk_cell BK352.out 4).trans rfl;have hcz12_5 : w11.cell? ⟨gb352,5,none⟩ = some (.int .u64 a0_5) := (blk_cell BK352.out 5).trans rfl;have hcz12_6 : w11.cell? ⟨gb352,6,none⟩ = some (.slice A0_6 l0_6.length c0_6) := (blk_cell BK352.out 6).trans rfl;have hfz12_0 := blk_frozen BK352.out 0;have hfz12_1 := blk_frozen BK352.out 1;have hfz12_2 := blk_frozen BK352.out 2;have hfz12_3 := blk_frozen BK352.out 3;have hfz12_4 := blk_frozen BK352.out 4;have hfz12_5 := blk_frozen BK352.out 5;have hfz12_6 := blk_frozen BK352.out 6)|((with_reducible refine gate_callee (f := 12) rfl ?_);refine goesL_ (some 19) rfl rfl Try.func12 (by kernel_rfl) rfl #[.agg #[.int .u64 a0_0,.int .i64 a0_1,.int .i64 a0_2,.slice A0_3 l0_3.length c0_3,.int .u64 a0_4,.int .u64 a0_5,.slice A0_6 l0_6.length c0_6]] rfl (by (try simp only [List.map_toArray,List.map_cons,List.map_nil]);first|done|rfl|(simp only [List.length_drop,List.length_take];rfl)) ?_;(with_reducible refine (privitylaw43_may.calls k a0_0 a0_1 a0_2 _ _ l0_3 a0_4 a0_5 _ _ l0_6 true _ ?side1 ?side2 ?side3 ?side4 A2.out).mono ?_);(case side1 => repeat (first|exact (Kd.C_below HR0_3.out HB.out)|(with_reducible refine Kd.C_alloc ?_ _)|(with_reducible refine Kd.C_drewN ?_ _)|(with_reducible refine Kd.C_drew ?_)));(case side2 => exact HC0_3.out);(case side3 => repeat (first|exact (Kd.C_below HR0_6.out HB.out)|(with_reducible refine Kd.C_alloc ?_ _)|(with_reducible refine Kd.C_drewN ?_ _)|(with_reducible refine Kd.C_drew ?_)));(case side4 => exact HC0_6.out);rintro e w13 ⟨rfl,hb⟩;refine ⟨_,rfl,?_⟩;have n0_ := Aside0.mk (blk_below (g := gb352) (o := .cells #[.int .u64 a0_0,.int .i64 a0_1,.int .i64 a0_2,.slice A0_3 l0_3.length c0_3,.int .u64 a0_4,.int .u64 a0_5,.slice A0_6 l0_6.length c0_6] 28 (0,0)) (by (with_reducible repeat (first|refine blk_drewN ?_ _|refine blk_drew ?_|refine blk_alloc ?_ _));exact BK352.out) hb);have n1_ := Aside0.mk (below_step (by repeat (first|(with_reducible first|exact HB.out|apply below_alloc|apply pw_below_drewN|apply below_drew1|refine below_set ?_ GE352.out)|exact HB.out)) hb);clear BK352;clear HB;have BK352 := n0_;have HB := n1_;clear n0_ n1_;(try clear hb);(try clear hb2);(try clear hk);(try clear hi);have hcz14_0 : w13.cell? ⟨gb352,0,none⟩ = some (.int .u64 a0_0) := (blk_cell BK352.out 0).trans rfl;have hcz14_1 : w13.cell? ⟨gb352,1,none⟩ = some (.int .i64 a0_1) := (blk_cell BK352.out 1).trans rfl;have hcz14_2 : w13.cell? ⟨gb352,2,none⟩ = some (.int .i64 a0_2) := (blk_cell BK352.out 2).trans rfl;have hcz14_3 : w13.cell? ⟨gb352,3,none⟩ = some (.slice A0_3 l0_3.length c0_3) := (blk_cell BK352.out 3).trans rfl;have hcz14_4 : w13.cell? ⟨gb352,4,none⟩ = some (.int .u64 a0_4) := (blk_cell BK352.out 4).trans rfl;have hcz14_5 : w13.cell? ⟨gb352,5,none⟩ = some (.int .u64 a0_5) := (blk_cell BK352.out 5).trans rfl;have hcz14_6 : w13.cell? ⟨gb352,6,none⟩ = some (.slice A0_6 l0_6.length c0_6) := (blk_cell BK352.out 6).trans rfl;have hfz14_0 := blk_frozen BK352.out 0;have hfz14_1 := blk_frozen BK352.out 1;have hfz14_2 := blk_frozen BK352.out 2;have hfz14_3 := blk_frozen BK352.out 3;have hfz14_4 := blk_frozen BK352.out 4;have hfz14_5 := blk_frozen BK352.out 5;have hfz14_6 := blk_frozen BK352.out 6))
   have n0_ := Aside0.mk (blk_drew BK352.out)
   have n1_ := Aside0.mk (below_drew1 HB.out)
   clear BK352
   clear HB
   have BK352 := n0_
   have HB := n1_
   clear n0_ n1_
   refine start_ (n := 10) (S := fun w' => w'.cell? ⟨gb352,0,none⟩ = some (.int .u64 a0_0) ∧ w'.cell? ⟨gb352,1,none⟩ = some (.int .i64 a0_1) ∧ w'.cell? ⟨gb352,2,none⟩ = some (.int .i64 a0_2) ∧ w'.cell? ⟨gb352,3,none⟩ = some (.slice A0_3 l0_3.length c0_3) ∧ w'.cell? ⟨gb352,4,none⟩ = some (.int .u64 a0_4) ∧ w'.cell? ⟨gb352,5,none⟩ = some (.int .u64 a0_5) ∧ w'.cell? ⟨gb352,6,none⟩ = some (.slice A0_6 l0_6.length c0_6)) (ds := []) #[false,false,false,false,false,false,false,false,false,false] (by kernel_rfl) rfl rfl ⟨(blk_cell BK352.out 0).trans rfl,(blk_cell BK352.out 1).trans rfl,(blk_cell BK352.out 2).trans rfl,(blk_cell BK352.out 3).trans rfl,(blk_cell BK352.out 4).trans rfl,(blk_cell BK352.out 5).trans rfl,(blk_cell BK352.out 6).trans rfl⟩ (fun hHeld => ?_);refine with_tabW privitylaw43_TapeshiftLinear.tab4 privitylaw43_TapeshiftLinear.bits4 (fun HT_ HW_ => ?_)
   generalize w13.drew = w15 at BK352 HB hHeld ⊢
   refine pure_ (i := 0) (N := some 25) (v := ?_) (a' := ?_) #[true,false,false,false,false,false,false,false,false,false] rfl rfl (any_of HT_.out (by kernel_rfl)) (fun _ _ _ h => h) (Or.inl ⟨by rfl,?_⟩) ?_ ?_
   rotate_left
   ·intro w'
    go_simp
    with_reducible rfl
   rotate_left
   ·simp only [Act.put,List.setIfInBounds_toArray,List.set_cons_zero,List.set_cons_succ,i64_w,i32_w]
    rfl
   refine pure_ (i := 2) (N := some 27) (v := ?_) (a' := ?_) #[true,false,true,false,false,false,false,false,false,false] rfl rfl (any_of HT_.out (by kernel_rfl)) (fun _ _ _ h => h) (Or.inl ⟨by rfl,?_⟩) ?_ ?_
   rotate_left
   ·intro w'
    go_simp
    with_reducible rfl
   rotate_left
   ·simp only [Act.put,List.setIfInBounds_toArray,List.set_cons_zero,List.set_cons_succ,i64_w,i32_w]
    rfl
   refine pure_ (i := 4) (N := some 29) (v := ?_) (a' := ?_) #[true,false,true,false,true,false,false,false,false,false] rfl rfl (any_of HT_.out (by kernel_rfl)) (fun _ _ _ h => h) (Or.inl ⟨by rfl,?_⟩) ?_ ?_
   rotate_left
   ·intro w'
    go_simp
    with_reducible rfl
   rotate_left
   ·simp only [Act.put,List.setIfInBounds_toArray,List.set_cons_zero,List.set_cons_succ,i64_w,i32_w]
    rfl
   refine pure_ (i := 6) (N := some 31) (v := ?_) (a' := ?_) #[true,false,true,false,true,false,true,false,false,false] rfl rfl (any_of HT_.out (by kernel_rfl)) (fun _ _ _ h => h) (Or.inl ⟨by rfl,?_⟩) ?_ ?_
   rotate_left
   ·intro w'
    go_simp
    with_reducible rfl
   rotate_left
   ·simp only [Act.put,List.setIfInBounds_toArray,List.set_cons_zero,List.set_cons_succ,i64_w,i32_w]
    rfl
   refine take_ (i := 1) (N := some 26) (v := ?_) (a' := ?_) #[true,true,true,false,true,false,true,false,false,false] rfl rfl (take_ofW HT_.out HW_.out (by kernel_rfl)) (fun _ _ _ h => h) (Or.inl ⟨by rfl,?_⟩) hHeld ?_ ?_
   rotate_left
   ·rintro w' ⟨s0,s1,s2,s3,s4,s5,s6⟩
    go_simp
    with_reducible rfl
   rotate_left
   ·simp only [Act.put,List.setIfInBounds_toArray,List.set_cons_zero,List.set_cons_succ,i64_w,i32_w]
    rfl
   refine pure_ (i := 3) (N := some 28) (v := ?_) (a' := ?_) #[true,true,true,true,true,false,true,false,false,false] rfl rfl (any_of HT_.out (by kernel_rfl)) (fun _ _ _ h => h) (Or.inl ⟨by rfl,?_⟩) ?_ ?_
   rotate_left
   ·intro w'
    go_simp
    with_reducible rfl
   rotate_left
   ·simp only [Act.put,List.setIfInBounds_toArray,List.set_cons_zero,List.set_cons_succ,i64_w,i32_w]
    rfl
   refine pure_ (i := 8) (N := some 4) (v := ?_) (a' := ?_) #[true,true,true,true,true,false,true,false,true,false] rfl rfl (any_of HT_.out (by kernel_rfl)) (fun _ _ _ h => h) (Or.inl ⟨by rfl,?_⟩) ?_ ?_
   rotate_left
   ·intro w'
    go_simp
    with_reducible rfl
   rotate_left
   ·simp only [Act.put,List.setIfInBounds_toArray,List.set_cons_zero,List.set_cons_succ,i64_w,i32_w]
    rfl
   refine take_ (i := 5) (N := some 30) (v := ?_) (a' := ?_) #[true,true,true,true,true,true,true,false,true,false] rfl rfl (take_ofW HT_.out HW_.out (by kernel_rfl)) (fun _ _ _ h => h) (Or.inl ⟨by rfl,?_⟩) hHeld ?_ ?_
   rotate_left
   ·rintro w' ⟨s0,s1,s2,s3,s4,s5,s6⟩
    go_simp
    with_reducible rfl
   rotate_left
   ·simp only [Act.put,List.setIfInBounds_toArray,List.set_cons_zero,List.set_cons_succ,i64_w,i32_w]
    rfl
   refine pure_ (i := 7) (N := some 32) (v := ?_) (a' := ?_) #[true,true,true,true,true,true,true,true,true,false] rfl rfl (any_of HT_.out (by kernel_rfl)) (fun _ _ _ h => h) (Or.inl ⟨by rfl,?_⟩) ?_ ?_
   rotate_left
   ·intro w'
    go_simp
    with_reducible rfl
   rotate_left
   ·simp only [Act.put,List.setIfInBounds_toArray,List.set_cons_zero,List.set_cons_succ,i64_w,i32_w]
    rfl
   refine pure_ (i := 9) (N := some 5) (v := ?_) (a' := ?_) #[true,true,true,true,true,true,true,true,true,true] rfl rfl (any_of HT_.out (by kernel_rfl)) (fun _ _ _ h => h) (Or.inl ⟨by rfl,?_⟩) ?_ ?_
   rotate_left
   ·intro w'
    go_simp
    with_reducible rfl
   rotate_left
   ·simp only [Act.put,List.setIfInBounds_toArray,List.set_cons_zero,List.set_cons_succ,i64_w,i32_w]
    rfl
   refine done_ (done_of HT_.out (by kernel_rfl)) ?_
   have hcz16_0 : w15.cell? ⟨gb352,0,none⟩ = some (.int .u64 a0_0) := (blk_cell BK352.out 0).trans rfl
   have hcz16_1 : w15.cell? ⟨gb352,1,none⟩ = some (.int .i64 a0_1) := (blk_cell BK352.out 1).trans rfl
   have hcz16_2 : w15.cell? ⟨gb352,2,none⟩ = some (.int .i64 a0_2) := (blk_cell BK352.out 2).trans rfl
   have hcz16_3 : w15.cell? ⟨gb352,3,none⟩ = some (.slice A0_3 l0_3.length c0_3) := (blk_cell BK352.out 3).trans rfl
   have hcz16_4 : w15.cell? ⟨gb352,4,none⟩ = some (.int .u64 a0_4) := (blk_cell BK352.out 4).trans rfl
   have hcz16_5 : w15.cell? ⟨gb352,5,none⟩ = some (.int .u64 a0_5) := (blk_cell BK352.out 5).trans rfl
   have hcz16_6 : w15.cell? ⟨gb352,6,none⟩ = some (.slice A0_6 l0_6.length c0_6) := (blk_cell BK352.out 6).trans rfl
   have hfz16_0 := blk_frozen BK352.out 0
   have hfz16_1 := blk_frozen BK352.out 1
   have hfz16_2 := blk_frozen BK352.out 2
   have hfz16_3 := blk_frozen BK352.out 3
   have hfz16_4 := blk_frozen BK352.out 4
   have hfz16_5 := blk_frozen BK352.out 5
   have hfz16_6 := blk_frozen BK352.out 6
   try go_wp2_with (first|((with_reducible refine gate_callee (f := 14) rfl ?_);refine goesL_ (some 35) rfl rfl Try.func14 (by kernel_rfl) rfl #[.agg #[.int .u64 a0_0,.int .i64 a0_1,.int .i64 a0_2,.slice A0_3 l0_3.length c0_3,.int .u64 a0_4,.int .u64 a0_5,.slice A0_6 l0_6.length c0_6]] rfl (by (try simp only [List.map_toArray,List.map_cons,List.map_nil]);first|done|rfl|(simp only [List.length_drop,List.length_take];rfl)) ?_;(with_reducible refine (privitylaw43_one.calls k a0_0 a0_1 a0_2 _ _ l0_3 a0_4 a0_5 _ _ l0_6 t355 t358 _ ?side1 ?side2 ?side3 ?side4 A5.out).mono ?_);(case side1 => repeat (first|exact (Kd.C_below HR0_3.out HB.out)|(with_reducible refine Kd.C_alloc ?_ _)|(with_reducible refine Kd.C_drewN ?_ _)|(with_reducible refine Kd.C_drew ?_)));(case side2 => exact HC0_3.out);(case side3 => repeat (first|exact (Kd.C_below HR0_6.out HB.out)|(with_reducible refine Kd.C_alloc ?_ _)|(with_reducible refine Kd.C_drewN ?_ _)|(with_reducible refine Kd.C_drew ?_)));(case side4 => exact HC0_6.out);rintro e w17 ⟨v356,v359,rfl,ho0,ho1,hb⟩;refine ⟨_,rfl,?_⟩;have n0_ := Aside0.mk (Kd.R_lower ho0 (below_size (by repeat (first|(with_reducible first|exact HB.out|apply below_alloc|apply pw_below_drewN|apply below_drew1|refine below_set ?_ GE352.out)|exact HB.out))));have n1_ := Aside0.mk (Kd.R_lower ho1 (below_size (by repeat (first|(with_reducible first|exact HB.out|apply below_alloc|apply pw_below_drewN|apply below_drew1|refine below_set ?_ GE352.out)|exact HB.out))));have n2_ := Aside0.mk (blk_below (g := gb352) (o := .cells #[.int .u64 a0_0,.int .i64 a0_1,.int .i64 a0_2,.slice A0_3 l0_3.length c0_3,.int .u64 a0_4,.int .u64 a0_5,.slice A0_6 l0_6.length c0_6] 28 (0,0)) (by (with_reducible repeat (first|refine blk_drewN ?_ _|refine blk_drew ?_|refine blk_alloc ?_ _));exact BK352.out) hb);have n3_ := Aside0.mk (below_step (by repeat (first|(with_reducible first|exact HB.out|apply below_alloc|apply pw_below_drewN|apply below_drew1|refine below_set ?_ GE352.out)|exact HB.out)) hb);clear BK352;clear HB;have HO357 := n0_;have HO360 := n1_;have BK352 := n2_;have HB := n3_;clear n0_ n1_ n2_ n3_;(try clear hb);(try clear hb2);(try clear hk);(try clear hi);(try clear ho0);(try clear ho1);have hcz18_0 : w17.cell? ⟨gb352,0,none⟩ = some (.int .u64 a0_0) := (blk_cell BK352.out 0).trans rfl;have hcz18_1 : w17.cell? ⟨gb352,1,none⟩ = some (.int .i64 a0_1) := (blk_cell BK352.out 1).trans rfl;have hcz18_2 : w17.cell? ⟨gb352,2,none⟩ = some (.int .i64 a0_2) := (blk_cell BK352.out 2).trans rfl;have hcz18_3 : w17.cell? ⟨gb352,3,none⟩ = some (.slice A0_3 l0_3.length c0_3) := (blk_cell BK352.out 3).trans rfl;have hcz18_4 : w17.cell? ⟨gb352,4,none⟩ = some (.int .u64 a0_4) := (blk_cell BK352.out 4).trans rfl;have hcz18_5 : w17.cell? ⟨gb352,5,none⟩ = some (.int .u64 a0_5) := (blk_cell BK352.out 5).trans rfl;have hcz18_6 : w17.cell? ⟨gb352,6,none⟩ = some (.slice A0_6 l0_6.length c0_6) := (blk_cell BK352.out 6).trans rfl;have hfz18_0 := blk_frozen BK352.out 0;have hfz18_1 := blk_frozen BK352.out 1;have hfz18_2 := blk_frozen BK352.out 2;have hfz18_3 := blk_frozen BK352.out 3;have hfz18_4 := blk_frozen BK352.out 4;have hfz18_5 := blk_frozen BK352.out 5;have hfz18_6 := blk_frozen BK352.out 6;obtain ⟨Ao19,co19,eo19⟩ := Kd.R_slice HO357.out;subst eo19;obtain ⟨Ao20,co20,eo20⟩ := Kd.R_slice HO360.out;subst eo20)|((with_reducible refine gate_callee (f := 15) rfl ?_);refine goesL_ (some 46) rfl rfl Try.func15 (by kernel_rfl) rfl #[.agg #[.int .u64 a0_0,.int .i64 a0_1,.int .i64 a0_2],.slice A0_3 l0_3.length c0_3,.int .u64 (Int.tmod a0_4 a0_0),.slice Ao19 t355.length co19,.slice Ao20 t358.length co20] rfl (by (try simp only [List.map_toArray,List.map_cons,List.map_nil]);first|done|rfl|(simp only [List.length_drop,List.length_take];rfl)) ?_;(with_reducible refine (tapeshift_Sharing.calls k a0_0 a0_1 a0_2 _ _ l0_3 (Int.tmod a0_4 a0_0) _ _ t355 _ _ t358 t361 t364 _ ?side1 ?side2 ?side3 ?side4 ?side5 ?side6 A6.out).mono ?_);(case side1 => repeat (first|exact (Kd.C_below HR0_3.out HB.out)|(with_reducible refine Kd.C_alloc ?_ _)|(with_reducible refine Kd.C_drewN ?_ _)|(with_reducible refine Kd.C_drew ?_)));(case side2 => exact HC0_3.out);(case side3 => repeat (first|exact (Kd.R_reads' HO357.out).2.2|(with_reducible refine Kd.C_alloc ?_ _)|(with_reducible refine Kd.C_drewN ?_ _)|(with_reducible refine Kd.C_drew ?_)));(case side4 => exact (Kd.R_reads' HO357.out).2.1);(case side5 => repeat (first|exact (Kd.R_reads' HO360.out).2.2|(with_reducible refine Kd.C_alloc ?_ _)|(with_reducible refine Kd.C_drewN ?_ _)|(with_reducible refine Kd.C_drew ?_)));(case side6 => exact (Kd.R_reads' HO360.out).2.1);rintro e w21 ⟨v362,v365,rfl,ho0,ho1,hb⟩;refine ⟨_,rfl,?_⟩;have n0_ := Aside0.mk (Kd.R_mono (Kd.R_told (Kd.R_told (Kd.R_old (by (with_reducible repeat (first|apply Kd.R_alloc|apply Kd.R_drewN|apply Kd.R_drew));exact HO357.out) hb) (Kd.R_base ho0)) (Kd.R_base ho1)) (fun _ h_ => h_.1));have n1_ := Aside0.mk (Kd.R_mono (Kd.R_told (Kd.R_told (Kd.R_old (by (with_reducible repeat (first|apply Kd.R_alloc|apply Kd.R_drewN|apply Kd.R_drew));exact HO360.out) hb) (Kd.R_base ho0)) (Kd.R_base ho1)) (fun _ h_ => h_.1));have n2_ := Aside0.mk (Kd.R_lower (Kd.R_new' (Kd.R_new' ho0 (Kd.R_lt (by (with_reducible repeat (first|apply Kd.R_alloc|apply Kd.R_drewN|apply Kd.R_drew));exact HO357.out))) (Kd.R_lt (by (with_reducible repeat (first|apply Kd.R_alloc|apply Kd.R_drewN|apply Kd.R_drew));exact HO360.out))) (below_size (by repeat (first|(with_reducible first|exact HB.out|apply below_alloc|apply pw_below_drewN|apply below_drew1|refine below_set ?_ GE352.out)|exact HB.out))));have n3_ := Aside0.mk (Kd.R_lower (Kd.R_new' (Kd.R_new' ho1 (Kd.R_lt (by (with_reducible repeat (first|apply Kd.R_alloc|apply Kd.R_drewN|apply Kd.R_drew));exact HO357.out))) (Kd.R_lt (by (with_reducible repeat (first|apply Kd.R_alloc|apply Kd.R_drewN|apply Kd.R_drew));exact HO360.out))) (below_size (by repeat (first|(with_reducible first|exact HB.out|apply below_alloc|apply pw_below_drewN|apply below_drew1|refine below_set ?_ GE352.out)|exact HB.out))));have n4_ := Aside0.mk (blk_below (g := gb352) (o := .cells #[.int .u64 a0_0,.int .i64 a0_1,.int .i64 a0_2,.slice A0_3 l0_3.length c0_3,.int .u64 a0_4,.int .u64 a0_5,.slice A0_6 l0_6.length c0_6] 28 (0,0)) (by (with_reducible repeat (first|refine blk_drewN ?_ _|refine blk_drew ?_|refine blk_alloc ?_ _));exact BK352.out) hb);have n5_ := Aside0.mk (below_step (by repeat (first|(with_reducible first|exact HB.out|apply below_alloc|apply pw_below_drewN|apply below_drew1|refine below_set ?_ GE352.out)|exact HB.out)) hb);clear HO357;clear HO360;clear BK352;clear HB;have HO357 := n0_;have HO360 := n1_;have HO363 := n2_;have HO366 := n3_;have BK352 := n4_;have HB := n5_;clear n0_ n1_ n2_ n3_ n4_ n5_;(try clear hb);(try clear hb2);(try clear hk);(try clear hi);(try clear ho0);(try clear ho1);have hcz22_0 : w21.cell? ⟨gb352,0,none⟩ = some (.int .u64 a0_0) := (blk_cell BK352.out 0).trans rfl;have hcz22_1 : w21.cell? ⟨gb352,1,none⟩ = some (.int .i64 a0_1) := (blk_cell BK352.out 1).trans rfl;have hcz22_2 : w21.cell? ⟨gb352,2,none⟩ = some (.int .i64 a0_2) := (blk_cell BK352.out 2).trans rfl;have hcz22_3 : w21.cell? ⟨gb352,3,none⟩ = some (.slice A0_3 l0_3.length c0_3) := (blk_cell BK352.out 3).trans rfl;have hcz22_4 : w21.cell? ⟨gb352,4,none⟩ = some (.int .u64 a0_4) := (blk_cell BK352.out 4).trans rfl;have hcz22_5 : w21.cell? ⟨gb352,5,none⟩ = some (.int .u64 a0_5) := (blk_cell BK352.out 5).trans rfl;have hcz22_6 : w21.cell? ⟨gb352,6,none⟩ = some (.slice A0_6 l0_6.length c0_6) := (blk_cell BK352.out 6).trans rfl;have hfz22_0 := blk_frozen BK352.out 0;have hfz22_1 := blk_frozen BK352.out 1;have hfz22_2 := blk_frozen BK352.out 2;have hfz22_3 := blk_frozen BK352.out 3;have hfz22_4 := blk_frozen BK352.out 4;have hfz22_5 := blk_frozen BK352.out 5;have hfz22_6 := blk_frozen BK352.out 6;obtain ⟨Ao23,co23,eo23⟩ := Kd.R_slice HO363.out;subst eo23;obtain ⟨Ao24,co24,eo24⟩ := Kd.R_slice HO366.out;subst eo24)|((with_reducible refine gate_callee (f := 15) rfl ?_);refine goesL_ (some 57) rfl rfl Try.func15 (by kernel_rfl) rfl #[.agg #[.int .u64 a0_0,.int .i64 a0_1,.int .i64 a0_2],.slice A0_3 l0_3.length c0_3,.int .u64 (Int.tmod a0_5 a0_0),.slice Ao23 t361.length co23,.slice Ao24 t364.length co24] rfl (by (try simp only [List.map_toArray,List.map_cons,List.map_nil]);first|done|rfl|(simp only [List.length_drop,List.length_take];rfl)) ?_;(with_reducible refine (tapeshift_Sharing.calls k a0_0 a0_1 a0_2 _ _ l0_3 (Int.tmod a0_5 a0_0) _ _ t361 _ _ t364 t367 t370 _ ?side1 ?side2 ?side3 ?side4 ?side5 ?side6 A7.out).mono ?_);(case side1 => repeat (first|exact (Kd.C_below HR0_3.out HB.out)|(with_reducible refine Kd.C_alloc ?_ _)|(with_reducible refine Kd.C_drewN ?_ _)|(with_reducible refine Kd.C_drew ?_)));(case side2 => exact HC0_3.out);(case side3 => repeat (first|exact (Kd.R_reads' HO363.out).2.2|(with_reducible refine Kd.C_alloc ?_ _)|(with_reducible refine Kd.C_drewN ?_ _)|(with_reducible refine Kd.C_drew ?_)));(case side4 => exact (Kd.R_reads' HO363.out).2.1);(case side5 => repeat (first|exact (Kd.R_reads' HO366.out).2.2|(with_reducible refine Kd.C_alloc ?_ _)|(with_reducible refine Kd.C_drewN ?_ _)|(with_reducible refine Kd.C_drew ?_)));(case side6 => exact (Kd.R_reads' HO366.out).2.1);rintro e w25 ⟨v368,v371,rfl,ho0,ho1,hb⟩;refine ⟨_,rfl,?_⟩;have n0_ := Aside0.mk (Kd.R_mono (Kd.R_told (Kd.R_told (Kd.R_old (by (with_reducible repeat (first|apply Kd.R_alloc|apply Kd.R_drewN|apply Kd.R_drew));exact HO357.out) hb) (Kd.R_base ho0)) (Kd.R_base ho1)) (fun _ h_ => h_.1));have n1_ := Aside0.mk (Kd.R_mono (Kd.R_told (Kd.R_told (Kd.R_old (by (with_reducible repeat (first|apply Kd.R_alloc|apply Kd.R_drewN|apply Kd.R_drew));exact HO360.out) hb) (Kd.R_base ho0)) (Kd.R_base ho1)) (fun _ h_ => h_.1));have n2_ := Aside0.mk (Kd.R_mono (Kd.R_told (Kd.R_told (Kd.R_old (by (with_reducible repeat (first|apply Kd.R_alloc|apply Kd.R_drewN|apply Kd.R_drew));exact HO363.out) hb) (Kd.R_base ho0)) (Kd.R_base ho1)) (fun _ h_ => h_.1));have n3_ := Aside0.mk (Kd.R_mono (Kd.R_told (Kd.R_told (Kd.R_old (by (with_reducible repeat (first|apply Kd.R_alloc|apply Kd.R_drewN|apply Kd.R_drew));exact HO366.out) hb) (Kd.R_base ho0)) (Kd.R_base ho1)) (fun _ h_ => h_.1));have n4_ := Aside0.mk (Kd.R_lower (Kd.R_new' (Kd.R_new' (Kd.R_new' (Kd.R_new' ho0 (Kd.R_lt (by (with_reducible repeat (first|apply Kd.R_alloc|apply Kd.R_drewN|apply Kd.R_drew));exact HO357.out))) (Kd.R_lt (by (with_reducible repeat (first|apply Kd.R_alloc|apply Kd.R_drewN|apply Kd.R_drew));exact HO360.out))) (Kd.R_lt (by (with_reducible repeat (first|apply Kd.R_alloc|apply Kd.R_drewN|apply Kd.R_drew));exact HO363.out))) (Kd.R_lt (by (with_reducible repeat (first|apply Kd.R_alloc|apply Kd.R_drewN|apply Kd.R_drew));exact HO366.out))) (below_size (by repeat (first|(with_reducible first|exact HB.out|apply below_alloc|apply pw_below_drewN|apply below_drew1|refine below_set ?_ GE352.out)|exact HB.out))));have n5_ := Aside0.mk (Kd.R_lower (Kd.R_new' (Kd.R_new' (Kd.R_new' (Kd.R_new' ho1 (Kd.R_lt (by (with_reducible repeat (first|apply Kd.R_alloc|apply Kd.R_drewN|apply Kd.R_drew));exact HO357.out))) (Kd.R_lt (by (with_reducible repeat (first|apply Kd.R_alloc|apply Kd.R_drewN|apply Kd.R_drew));exact HO360.out))) (Kd.R_lt (by (with_reducible repeat (first|apply Kd.R_alloc|apply Kd.R_drewN|apply Kd.R_drew));exact HO363.out))) (Kd.R_lt (by (with_reducible repeat (first|apply Kd.R_alloc|apply Kd.R_drewN|apply Kd.R_drew));exact HO366.out))) (below_size (by repeat (first|(with_reducible first|exact HB.out|apply below_alloc|apply pw_below_drewN|apply below_drew1|refine below_set ?_ GE352.out)|exact HB.out))));have n6_ := Aside0.mk (blk_below (g := gb352) (o := .cells #[.int .u64 a0_0,.int .i64 a0_1,.int .i64 a0_2,.slice A0_3 l0_3.length c0_3,.int .u64 a0_4,.int .u64 a0_5,.slice A0_6 l0_6.length c0_6] 28 (0,0)) (by (with_reducible repeat (first|refine blk_drewN ?_ _|refine blk_drew ?_|refine blk_alloc ?_ _));exact BK352.out) hb);have n7_ := Aside0.mk (below_step (by repeat (first|(with_reducible first|exact HB.out|apply below_alloc|apply pw_below_drewN|apply below_drew1|refine below_set ?_ GE352.out)|exact HB.out)) hb);clear HO357;clear HO360;clear HO363;clear HO366;clear BK352;clear HB;have HO357 := n0_;have HO360 := n1_;have HO363 := n2_;have HO366 := n3_;have HO369 := n4_;have HO372 := n5_;have BK352 := n6_;have HB := n7_;clear n0_ n1_ n2_ n3_ n4_ n5_ n6_ n7_;(try clear hb);(try clear hb2);(try clear hk);(try clear hi);(try clear ho0);(try clear ho1)))
   have n0_ := Aside0.mk (Kd.R_drew HO357.out)
   have n1_ := Aside0.mk (Kd.R_drew HO360.out)
   have n2_ := Aside0.mk (Kd.R_drew HO363.out)
   have n3_ := Aside0.mk (Kd.R_drew HO366.out)
   have n4_ := Aside0.mk (Kd.R_drew HO369.out)
   have n5_ := Aside0.mk (Kd.R_drew HO372.out)
   have n6_ := Aside0.mk (blk_drew BK352.out)
   have n7_ := Aside0.mk (below_drew1 HB.out)
   clear HO357
   clear HO360
   clear HO363
   clear HO366
   clear HO369
   clear HO372
   clear BK352
   clear HB
   have HO357 := n0_
   have HO360 := n1_
   have HO363 := n2_
   have HO366 := n3_
   have HO369 := n4_
   have HO372 := n5_
   have BK352 := n6_
   have HB := n7_
   clear n0_ n1_ n2_ n3_ n4_ n5_ n6_ n7_
   refine start_ (n := 16) (S := fun w' => w'.cell? ⟨gb352,0,none⟩ = some (.int .u64 a0_0) ∧ w'.cell? ⟨gb352,1,none⟩ = some (.int .i64 a0_1) ∧ w'.cell? ⟨gb352,2,none⟩ = some (.int .i64 a0_2) ∧ w'.cell? ⟨gb352,3,none⟩ = some (.slice A0_3 l0_3.length c0_3) ∧ w'.cell? ⟨gb352,4,none⟩ = some (.int .u64 a0_4) ∧ w'.cell? ⟨gb352,5,none⟩ = some (.int .u64 a0_5) ∧ w'.cell? ⟨gb352,6,none⟩ = some (.slice A0_6 l0_6.length c0_6)) (ds := []) #[false,false,false,false,false,false,false,false,false,false,false,false,false,false,false,false] (by kernel_rfl) rfl rfl ⟨(blk_cell BK352.out 0).trans rfl,(blk_cell BK352.out 1).trans rfl,(blk_cell BK352.out 2).trans rfl,(blk_cell BK352.out 3).trans rfl,(blk_cell BK352.out 4).trans rfl,(blk_cell BK352.out 5).trans rfl,(blk_cell BK352.out 6).trans rfl⟩ (fun hHeld => ?_);refine with_tabW privitylaw43_TapeshiftLinear.tab8 privitylaw43_TapeshiftLinear.bits8 (fun HT_ HW_ => ?_)
   generalize w25.drew = w26 at HO357 HO360 HO363 HO366 HO369 HO372 BK352 HB hHeld ⊢
   refine pure_ (i := 0) (N := some 61) (v := ?_) (a' := ?_) #[true,false,false,false,false,false,false,false,false,false,false,false,false,false,false,false] rfl rfl (any_of HT_.out (by kernel_rfl)) (fun _ _ _ h => h) (Or.inl ⟨by rfl,?_⟩) ?_ ?_
   rotate_left
   ·intro w'
    go_simp
    with_reducible rfl
   rotate_left
   ·simp only [Act.put,List.setIfInBounds_toArray,List.set_cons_zero,List.set_cons_succ,i64_w,i32_w]
    rfl
   refine pure_ (i := 2) (N := some 63) (v := ?_) (a' := ?_) #[true,false,true,false,false,false,false,false,false,false,false,false,false,false,false,false] rfl rfl (any_of HT_.out (by kernel_rfl)) (fun _ _ _ h => h) (Or.inl ⟨by rfl,?_⟩) ?_ ?_
   rotate_left
   ·intro w'
    go_simp
    with_reducible rfl
   rotate_left
   ·simp only [Act.put,List.setIfInBounds_toArray,List.set_cons_zero,List.set_cons_succ,i64_w,i32_w]
    rfl
   refine pure_ (i := 4) (N := some 65) (v := ?_) (a' := ?_) #[true,false,true,false,true,false,false,false,false,false,false,false,false,false,false,false] rfl rfl (any_of HT_.out (by kernel_rfl)) (fun _ _ _ h => h) (Or.inl ⟨by rfl,?_⟩) ?_ ?_
   rotate_left
   ·intro w'
    go_simp
    with_reducible rfl
   rotate_left
   ·simp only [Act.put,List.setIfInBounds_toArray,List.set_cons_zero,List.set_cons_succ,i64_w,i32_w]
    rfl
   refine pure_ (i := 5) (N := some 66) (v := ?_) (a' := ?_) #[true,false,true,false,true,true,false,false,false,false,false,false,false,false,false,false] rfl rfl (any_of HT_.out (by kernel_rfl)) (fun _ _ _ h => h) (Or.inl ⟨by rfl,?_⟩) ?_ ?_
   rotate_left
   ·intro w'
    go_simp
    with_reducible rfl
   rotate_left
   ·simp only [Act.put,List.setIfInBounds_toArray,List.set_cons_zero,List.set_cons_succ,i64_w,i32_w]
    rfl
   refine pure_ (i := 6) (N := some 67) (v := ?_) (a' := ?_) #[true,false,true,false,true,true,true,false,false,false,false,false,false,false,false,false] rfl rfl (any_of HT_.out (by kernel_rfl)) (fun _ _ _ h => h) (Or.inl ⟨by rfl,?_⟩) ?_ ?_
   rotate_left
   ·intro w'
    go_simp
    with_reducible rfl
   rotate_left
   ·simp only [Act.put,List.setIfInBounds_toArray,List.set_cons_zero,List.set_cons_succ,i64_w,i32_w]
    rfl
   refine pure_ (i := 8) (N := some 69) (v := ?_) (a' := ?_) #[true,false,true,false,true,true,true,false,true,false,false,false,false,false,false,false] rfl rfl (any_of HT_.out (by kernel_rfl)) (fun _ _ _ h => h) (Or.inl ⟨by rfl,?_⟩) ?_ ?_
   rotate_left
   ·intro w'
    go_simp
    with_reducible rfl
   rotate_left
   ·simp only [Act.put,List.setIfInBounds_toArray,List.set_cons_zero,List.set_cons_succ,i64_w,i32_w]
    rfl
   refine pure_ (i := 9) (N := some 70) (v := ?_) (a' := ?_) #[true,false,true,false,true,true,true,false,true,true,false,false,false,false,false,false] rfl rfl (any_of HT_.out (by kernel_rfl)) (fun _ _ _ h => h) (Or.inl ⟨by rfl,?_⟩) ?_ ?_
   rotate_left
   ·intro w'
    go_simp
    with_reducible rfl
   rotate_left
   ·simp only [Act.put,List.setIfInBounds_toArray,List.set_cons_zero,List.set_cons_succ,i64_w,i32_w]
    rfl
   refine take_ (i := 1) (N := some 62) (v := ?_) (a' := ?_) #[true,true,true,false,true,true,true,false,true,true,false,false,false,false,false,false] rfl rfl (take_ofW HT_.out HW_.out (by kernel_rfl)) (fun _ _ _ h => h) (Or.inl ⟨by rfl,?_⟩) hHeld ?_ ?_
   rotate_left
   ·rintro w' ⟨s0,s1,s2,s3,s4,s5,s6⟩
    go_simp
    with_reducible rfl
   rotate_left
   ·simp only [Act.put,List.setIfInBounds_toArray,List.set_cons_zero,List.set_cons_succ,i64_w,i32_w]
    rfl
   refine take_ (i := 3) (N := some 64) (v := ?_) (a' := ?_) #[true,true,true,true,true,true,true,false,true,true,false,false,false,false,false,false] rfl rfl (take_ofW HT_.out HW_.out (by kernel_rfl)) (fun _ _ _ h => h) (Or.inl ⟨by rfl,?_⟩) hHeld ?_ ?_
   rotate_left
   ·rintro w' ⟨s0,s1,s2,s3,s4,s5,s6⟩
    go_simp
    with_reducible rfl
   rotate_left
   ·simp only [Act.put,List.setIfInBounds_toArray,List.set_cons_zero,List.set_cons_succ,i64_w,i32_w]
    rfl
   refine one_ (i := 7) (N := some 68) #[true,true,true,true,true,true,true,true,true,true,false,false,false,false,false,false] rfl rfl (one_of HT_.out (by kernel_rfl)) (by decide) (fun K hK => ?_)
   refine goes_ Try.func17 (by kernel_rfl) rfl #[.int .u64 a0_0,.int .u64 (Int.tmod a0_4 a0_0),.int .u64 (Int.tmod a0_5 a0_0)] (by rfl) rfl rfl (by (try simp only [List.map_toArray,List.map_cons,List.map_nil]);first|done|rfl|(simp only [List.length_drop,List.length_take];rfl)) ?_
   with_reducible refine (privityref01_Add.calls a0_0 (Int.tmod a0_4 a0_0) (Int.tmod a0_5 a0_0) t373 _ A8.out).mono ?_
   rintro e w' ⟨rfl,⟨nd,rfl⟩⟩
   refine ⟨_,rfl,?_⟩
   refine hK.out _ _ ⟨(blk_cell BK352.out 0).trans rfl,(blk_cell BK352.out 1).trans rfl,(blk_cell BK352.out 2).trans rfl,(blk_cell BK352.out 3).trans rfl,(blk_cell BK352.out 4).trans rfl,(blk_cell BK352.out 5).trans rfl,(blk_cell BK352.out 6).trans rfl⟩ (fun hHeld => ?_)
   clear hK K
   refine norm_ (a' := ?_) ?_ ?_
   rotate_left
   ·show Act.put _ (some 68) _ = _
    simp only [Act.put,List.setIfInBounds_toArray,List.set_cons_zero,List.set_cons_succ,i64_w,i32_w]
    rfl
   refine one_ (i := 10) (N := some 71) #[true,true,true,true,true,true,true,true,true,true,true,false,false,false,false,false] rfl rfl (one_of HT_.out (by kernel_rfl)) (by decide) (fun K hK => ?_)
   refine goes_ Try.func15 (by kernel_rfl) rfl #[.agg #[.int .u64 a0_0,.int .i64 a0_1,.int .i64 a0_2],.slice A0_3 l0_3.length c0_3,.int .u64 t373,.slice Ao19 t355.length co19,.slice Ao20 t358.length co20] (by rfl) rfl rfl (by (try simp only [List.map_toArray,List.map_cons,List.map_nil]);first|done|rfl|(simp only [List.length_drop,List.length_take];rfl)) ?_
   with_reducible refine (tapeshift_Sharing.calls k a0_0 a0_1 a0_2 _ _ l0_3 t373 _ _ t355 _ _ t358 t374 t377 _ ?side1 ?side2 ?side3 ?side4 ?side5 ?side6 A9.out).mono ?_
   (case side1 => repeat (first|exact (Kd.C_below HR0_3.out (by repeat (first|(with_reducible first|exact HB.out|apply below_alloc|apply pw_below_drewN|apply below_drew1|refine below_set ?_ GE352.out)|exact HB.out)))|(with_reducible refine Kd.C_alloc ?_ _)|(with_reducible refine Kd.C_drewN ?_ _)|(with_reducible refine Kd.C_drew ?_)))
   (case side2 => exact HC0_3.out)
   (case side3 => repeat (first|exact (Kd.R_reads' HO357.out).2.2|(with_reducible refine Kd.C_alloc ?_ _)|(with_reducible refine Kd.C_drewN ?_ _)|(with_reducible refine Kd.C_drew ?_)))
   (case side4 => exact (Kd.R_reads' HO357.out).2.1)
   (case side5 => repeat (first|exact (Kd.R_reads' HO360.out).2.2|(with_reducible refine Kd.C_alloc ?_ _)|(with_reducible refine Kd.C_drewN ?_ _)|(with_reducible refine Kd.C_drew ?_)))
   (case side6 => exact (Kd.R_reads' HO360.out).2.1)
   rintro e w27 ⟨v375,v378,rfl,ho0,ho1,hb⟩
   refine ⟨_,rfl,?_⟩
   have n0_ := Aside0.mk (Kd.R_mono (Kd.R_told (Kd.R_told (Kd.R_old (by (with_reducible repeat (first|apply Kd.R_alloc|apply Kd.R_drewN|apply Kd.R_drew));exact HO357.out) hb) (Kd.R_base ho0)) (Kd.R_base ho1)) (fun _ h_ => h_.1))
   have n1_ := Aside0.mk (Kd.R_mono (Kd.R_told (Kd.R_told (Kd.R_old (by (with_reducible repeat (first|apply Kd.R_alloc|apply Kd.R_drewN|apply Kd.R_drew));exact HO360.out) hb) (Kd.R_base ho0)) (Kd.R_base ho1)) (fun _ h_ => h_.1))
   have n2_ := Aside0.mk (Kd.R_mono (Kd.R_told (Kd.R_told (Kd.R_old (by (with_reducible repeat (first|apply Kd.R_alloc|apply Kd.R_drewN|apply Kd.R_drew));exact HO363.out) hb) (Kd.R_base ho0)) (Kd.R_base ho1)) (fun _ h_ => h_.1))
   have n3_ := Aside0.mk (Kd.R_mono (Kd.R_told (Kd.R_told (Kd.R_old (by (with_reducible repeat (first|apply Kd.R_alloc|apply Kd.R_drewN|apply Kd.R_drew));exact HO366.out) hb) (Kd.R_base ho0)) (Kd.R_base ho1)) (fun _ h_ => h_.1))
   have n4_ := Aside0.mk (Kd.R_mono (Kd.R_told (Kd.R_told (Kd.R_old (by (with_reducible repeat (first|apply Kd.R_alloc|apply Kd.R_drewN|apply Kd.R_drew));exact HO369.out) hb) (Kd.R_base ho0)) (Kd.R_base ho1)) (fun _ h_ => h_.1))
   have n5_ := Aside0.mk (Kd.R_mono (Kd.R_told (Kd.R_told (Kd.R_old (by (with_reducible repeat (first|apply Kd.R_alloc|apply Kd.R_drewN|apply Kd.R_drew));exact HO372.out) hb) (Kd.R_base ho0)) (Kd.R_base ho1)) (fun _ h_ => h_.1))
   have n6_ := Aside0.mk (Kd.R_lower (Kd.R_new' (Kd.R_new' (Kd.R_new' (Kd.R_new' (Kd.R_new' (Kd.R_new' ho0 (Kd.R_lt (by (with_reducible repeat (first|apply Kd.R_alloc|apply Kd.R_drewN|apply Kd.R_drew));exact HO357.out))) (Kd.R_lt (by (with_reducible repeat (first|apply Kd.R_alloc|apply Kd.R_drewN|apply Kd.R_drew));exact HO360.out))) (Kd.R_lt (by (with_reducible repeat (first|apply Kd.R_alloc|apply Kd.R_drewN|apply Kd.R_drew));exact HO363.out))) (Kd.R_lt (by (with_reducible repeat (first|apply Kd.R_alloc|apply Kd.R_drewN|apply Kd.R_drew));exact HO366.out))) (Kd.R_lt (by (with_reducible repeat (first|apply Kd.R_alloc|apply Kd.R_drewN|apply Kd.R_drew));exact HO369.out))) (Kd.R_lt (by (with_reducible repeat (first|apply Kd.R_alloc|apply Kd.R_drewN|apply Kd.R_drew));exact HO372.out))) (below_size (by repeat (first|(with_reducible first|exact HB.out|apply below_alloc|apply pw_below_drewN|apply below_drew1|refine below_set ?_ GE352.out)|exact HB.out))))
   have n7_ := Aside0.mk (Kd.R_lower (Kd.R_new' (Kd.R_new' (Kd.R_new' (Kd.R_new' (Kd.R_new' (Kd.R_new' ho1 (Kd.R_lt (by (with_reducible repeat (first|apply Kd.R_alloc|apply Kd.R_drewN|apply Kd.R_drew));exact HO357.out))) (Kd.R_lt (by (with_reducible repeat (first|apply Kd.R_alloc|apply Kd.R_drewN|apply Kd.R_drew));exact HO360.out))) (Kd.R_lt (by (with_reducible repeat (first|apply Kd.R_alloc|apply Kd.R_drewN|apply Kd.R_drew));exact HO363.out))) (Kd.R_lt (by (with_reducible repeat (first|apply Kd.R_alloc|apply Kd.R_drewN|apply Kd.R_drew));exact HO366.out))) (Kd.R_lt (by (with_reducible repeat (first|apply Kd.R_alloc|apply Kd.R_drewN|apply Kd.R_drew));exact HO369.out))) (Kd.R_lt (by (with_reducible repeat (first|apply Kd.R_alloc|apply Kd.R_drewN|apply Kd.R_drew));exact HO372.out))) (below_size (by repeat (first|(with_reducible first|exact HB.out|apply below_alloc|apply pw_below_drewN|apply below_drew1|refine below_set ?_ GE352.out)|exact HB.out))))
   have n8_ := Aside0.mk (blk_below (g := gb352) (o := .cells #[.int .u64 a0_0,.int .i64 a0_1,.int .i64 a0_2,.slice A0_3 l0_3.length c0_3,.int .u64 a0_4,.int .u64 a0_5,.slice A0_6 l0_6.length c0_6] 28 (0,0)) (by (with_reducible repeat (first|refine blk_drewN ?_ _|refine blk_drew ?_|refine blk_alloc ?_ _));exact BK352.out) hb)
   have n9_ := Aside0.mk (below_step (by repeat (first|(with_reducible first|exact HB.out|apply below_alloc|apply pw_below_drewN|apply below_drew1|refine below_set ?_ GE352.out)|exact HB.out)) hb)
   clear HO357
   clear HO360
   clear HO363
   clear HO366
   clear HO369
   clear HO372
   clear BK352
   clear HB
   have HO357 := n0_
   have HO360 := n1_
   have HO363 := n2_
   have HO366 := n3_
   have HO369 := n4_
   have HO372 := n5_
   have HO376 := n6_
   have HO379 := n7_
   have BK352 := n8_
   have HB := n9_
   clear n0_ n1_ n2_ n3_ n4_ n5_ n6_ n7_ n8_ n9_
   (try clear hb)
   (try clear hb2)
   (try clear hk)
   (try clear hi)
   (try clear ho0)
   (try clear ho1)
   refine hK.out _ _ ⟨(blk_cell BK352.out 0).trans rfl,(blk_cell BK352.out 1).trans rfl,(blk_cell BK352.out 2).trans rfl,(blk_cell BK352.out 3).trans rfl,(blk_cell BK352.out 4).trans rfl,(blk_cell BK352.out 5).trans rfl,(blk_cell BK352.out 6).trans rfl⟩ (fun hHeld => ?_)
   clear hK K
   refine norm_ (a' := ?_) ?_ ?_
   rotate_left
   ·show Act.put _ (some 71) _ = _
    simp only [Act.put,List.setIfInBounds_toArray,List.set_cons_zero,List.set_cons_succ,i64_w,i32_w]
    rfl
   refine pure_ (i := 11) (N := some 60) (v := ?_) (a' := ?_) #[true,true,true,true,true,true,true,true,true,true,true,true,false,false,false,false] rfl rfl (any_of HT_.out (by kernel_rfl)) (fun _ _ _ h => h) (Or.inl ⟨by rfl,?_⟩) ?_ ?_
   rotate_left
   ·intro w'
    go_simp
    with_reducible rfl
   rotate_left
   ·simp only [Act.put,List.setIfInBounds_toArray,List.set_cons_zero,List.set_cons_succ,i64_w,i32_w]
    rfl
   refine pure_ (i := 12) (N := some 72) (v := ?_) (a' := ?_) #[true,true,true,true,true,true,true,true,true,true,true,true,true,false,false,false] rfl rfl (any_of HT_.out (by kernel_rfl)) (fun _ _ _ h => h) (Or.inl ⟨by rfl,?_⟩) ?_ ?_
   rotate_left
   ·intro w'
    go_simp
    with_reducible rfl
   rotate_left
   ·simp only [Act.put,List.setIfInBounds_toArray,List.set_cons_zero,List.set_cons_succ,i64_w,i32_w]
    rfl
   refine pure_ (i := 13) (N := some 73) (v := ?_) (a' := ?_) #[true,true,true,true,true,true,true,true,true,true,true,true,true,true,false,false] rfl rfl (any_of HT_.out (by kernel_rfl)) (fun _ _ _ h => h) (Or.inl ⟨by rfl,?_⟩) ?_ ?_
   rotate_left
   ·intro w'
    go_simp
    with_reducible rfl
   rotate_left
   ·simp only [Act.put,List.setIfInBounds_toArray,List.set_cons_zero,List.set_cons_succ,i64_w,i32_w]
    rfl
   refine pure_ (i := 14) (N := some 12) (v := ?_) (a' := ?_) #[true,true,true,true,true,true,true,true,true,true,true,true,true,true,true,false] rfl rfl (any_of HT_.out (by kernel_rfl)) (fun _ _ _ h => h) (Or.inl ⟨by rfl,?_⟩) ?_ ?_
   rotate_left
   ·intro w'
    go_simp
    with_reducible rfl
   rotate_left
   ·simp only [Act.put,List.setIfInBounds_toArray,List.set_cons_zero,List.set_cons_succ,i64_w,i32_w]
    rfl
   refine pure_ (i := 15) (N := some 13) (v := ?_) (a' := ?_) #[true,true,true,true,true,true,true,true,true,true,true,true,true,true,true,true] rfl rfl (any_of HT_.out (by kernel_rfl)) (fun _ _ _ h => h) (Or.inl ⟨by rfl,?_⟩) ?_ ?_
   rotate_left
   ·intro w'
    go_simp
    with_reducible rfl
   rotate_left
   ·simp only [Act.put,List.setIfInBounds_toArray,List.set_cons_zero,List.set_cons_succ,i64_w,i32_w]
    rfl
   refine done_ (done_of HT_.out (by kernel_rfl)) ?_
   go_upto_region 9 with (fail)
   go_cut [83] (fun v83 wc => ∃ (kq : Nat) (x83_9 : Bool),v83 = .bool x83_9 ∧ Aside0 (privitylaw43_TapeshiftLinear.j0 kq a0_0 (Int.tmod a0_4 a0_0) (Int.tmod a0_5 a0_0) t355 t358 t361 t364 x83_9 a0_0 a0_1 a0_2 l0_3 a0_4 a0_5 l0_6 = some r) ∧ Aside0 (kq ≤ k) ∧ Aside0 (Kd.R (Kd.int .u64) 22 wc w.heap.size (fun k_ => some k_ ≠ ((.slice Ao20 t358.length co20) : Value).ownBlock ∧ some k_ ≠ ((.slice Ao23 t361.length co23) : Value).ownBlock ∧ some k_ ≠ ((.slice Ao24 t364.length co24) : Value).ownBlock) (.slice Ao19 t355.length co19) t355) ∧ Aside0 (Kd.R (Kd.int .u64) 22 wc w.heap.size (fun k_ => some k_ ≠ ((.slice Ao19 t355.length co19) : Value).ownBlock ∧ some k_ ≠ ((.slice Ao23 t361.length co23) : Value).ownBlock ∧ some k_ ≠ ((.slice Ao24 t364.length co24) : Value).ownBlock) (.slice Ao20 t358.length co20) t358) ∧ Aside0 (Kd.R (Kd.int .u64) 22 wc w.heap.size (fun k_ => some k_ ≠ ((.slice Ao19 t355.length co19) : Value).ownBlock ∧ some k_ ≠ ((.slice Ao20 t358.length co20) : Value).ownBlock ∧ some k_ ≠ ((.slice Ao24 t364.length co24) : Value).ownBlock) (.slice Ao23 t361.length co23) t361) ∧ Aside0 (Kd.R (Kd.int .u64) 22 wc w.heap.size (fun k_ => some k_ ≠ ((.slice Ao19 t355.length co19) : Value).ownBlock ∧ some k_ ≠ ((.slice Ao20 t358.length co20) : Value).ownBlock ∧ some k_ ≠ ((.slice Ao23 t361.length co23) : Value).ownBlock) (.slice Ao24 t364.length co24) t364) ∧ Aside0 (wc.heap[gb352]? = some (.cells #[.int .u64 a0_0,.int .i64 a0_1,.int .i64 a0_2,(.slice A0_3 l0_3.length c0_3),.int .u64 a0_4,.int .u64 a0_5,(.slice A0_6 l0_6.length c0_6)] 28 (0,0))) ∧ Aside0 (Below w.heap.size w wc))
   case first =>
    have H := HC10.out
    clear HC10
    replace H := Option.bind_eq_some_iff.mp H
    obtain ⟨t380,A280,H⟩ := H
    replace H : (if t380 = true then ((privityref14_Words.f k t370 t377).bind fun t381 => (privitylaw43_TapeshiftLinear.j0 k a0_0 (Int.tmod a0_4 a0_0) (Int.tmod a0_5 a0_0) t355 t358 t361 t364 (!t381) a0_0 a0_1 a0_2 l0_3 a0_4 a0_5 l0_6)) else (privitylaw43_TapeshiftLinear.j0 k a0_0 (Int.tmod a0_4 a0_0) (Int.tmod a0_5 a0_0) t355 t358 t361 t364 true a0_0 a0_1 a0_2 l0_3 a0_4 a0_5 l0_6)) = some r := H
    have A28 := Aside0.mk A280
    clear A280
    by_cases c29 : t380 = true
    ·subst c29
     have H1 : ((privityref14_Words.f k t370 t377).bind fun t381 => (privitylaw43_TapeshiftLinear.j0 k a0_0 (Int.tmod a0_4 a0_0) (Int.tmod a0_5 a0_0) t355 t358 t361 t364 (!t381) a0_0 a0_1 a0_2 l0_3 a0_4 a0_5 l0_6)) = some r := by rw [if_pos rfl] at H;exact H
     clear H
     have H := H1
     clear H1
     replace H := Option.bind_eq_some_iff.mp H
     obtain ⟨t381,A300,H⟩ := H
     replace H : (privitylaw43_TapeshiftLinear.j0 k a0_0 (Int.tmod a0_4 a0_0) (Int.tmod a0_5 a0_0) t355 t358 t361 t364 (!t381) a0_0 a0_1 a0_2 l0_3 a0_4 a0_5 l0_6) = some r := H
     have A30 := Aside0.mk A300
     clear A300
     have H' := Aside0.mk H
     clear H
     obtain ⟨Ao31,co31,eo31⟩ := Kd.R_slice HO369.out
     subst eo31
     obtain ⟨Ao32,co32,eo32⟩ := Kd.R_slice HO376.out
     subst eo32
     go_wp2_with (first|((with_reducible refine gate_callee (f := 18) rfl ?_);refine goesL_ (some 76) rfl rfl Try.func18 (by kernel_rfl) rfl #[.slice Ao31 t367.length co31,.slice Ao32 t374.length co32] rfl (by (try simp only [List.map_toArray,List.map_cons,List.map_nil]);first|done|rfl|(simp only [List.length_drop,List.length_take];rfl)) ?_;(with_reducible refine (privityref14_Words.calls k _ _ t367 _ _ t374 true _ ?side1 ?side2 ?side3 ?side4 A28.out).mono ?_);(case side1 => repeat (first|exact (Kd.R_reads' HO369.out).2.2|(with_reducible refine Kd.C_alloc ?_ _)|(with_reducible refine Kd.C_drewN ?_ _)|(with_reducible refine Kd.C_drew ?_)));(case side2 => exact (Kd.R_reads' HO369.out).2.1);(case side3 => repeat (first|exact (Kd.R_reads' HO376.out).2.2|(with_reducible refine Kd.C_alloc ?_ _)|(with_reducible refine Kd.C_drewN ?_ _)|(with_reducible refine Kd.C_drew ?_)));(case side4 => exact (Kd.R_reads' HO376.out).2.1);rintro e w' ⟨rfl,⟨nd,rfl⟩⟩;refine ⟨_,rfl,?_⟩;obtain ⟨Ao33,co33,eo33⟩ := Kd.R_slice HO372.out;subst eo33;obtain ⟨Ao34,co34,eo34⟩ := Kd.R_slice HO379.out;subst eo34)|(go_at_call 18;(with_reducible refine (privityref14_Words.calls k _ _ t370 _ _ t377 t381 _ ?side1 ?side2 ?side3 ?side4 A30.out).mono ?_);(case side1 => repeat (first|exact (Kd.R_reads' HO372.out).2.2|(with_reducible refine Kd.C_alloc ?_ _)|(with_reducible refine Kd.C_drewN ?_ _)|(with_reducible refine Kd.C_drew ?_)));(case side2 => exact (Kd.R_reads' HO372.out).2.1);(case side3 => repeat (first|exact (Kd.R_reads' HO379.out).2.2|(with_reducible refine Kd.C_alloc ?_ _)|(with_reducible refine Kd.C_drewN ?_ _)|(with_reducible refine Kd.C_drew ?_)));(case side4 => exact (Kd.R_reads' HO379.out).2.1);rintro e w' ⟨rfl,⟨nd,rfl⟩⟩))
     go_meet
     case rel => exact ⟨_,(!t381),(by first|rfl|(simp;done)|(simp [*];done)),H',⟨by first|omega|exact Nat.le_refl _⟩,⟨by (with_reducible repeat (first|apply Kd.R_alloc|apply Kd.R_drewN|apply Kd.R_drew));exact Kd.R_mono HO357.out (fun _ hk => ⟨hk.1.1.1.1.1.1,⟨hk.1.1.1.1.1.2,hk.1.1.1.1.2⟩⟩)⟩,⟨by (with_reducible repeat (first|apply Kd.R_alloc|apply Kd.R_drewN|apply Kd.R_drew));exact Kd.R_mono HO360.out (fun _ hk => ⟨hk.1.1.1.1.1.1,⟨hk.1.1.1.1.1.2,hk.1.1.1.1.2⟩⟩)⟩,⟨by (with_reducible repeat (first|apply Kd.R_alloc|apply Kd.R_drewN|apply Kd.R_drew));exact Kd.R_mono HO363.out (fun _ hk => ⟨hk.1.1.1.1.1.2,⟨hk.1.1.1.1.2,hk.1.1.1.1.1.1⟩⟩)⟩,⟨by (with_reducible repeat (first|apply Kd.R_alloc|apply Kd.R_drewN|apply Kd.R_drew));exact Kd.R_mono HO366.out (fun _ hk => ⟨hk.1.1.1.1.1.2,⟨hk.1.1.1.1.2,hk.1.1.1.1.1.1⟩⟩)⟩,⟨by (with_reducible repeat (first|refine blk_drewN ?_ _|refine blk_drew ?_|refine blk_alloc ?_ _));exact BK352.out⟩,⟨by repeat (first|(with_reducible first|exact HB.out|apply below_alloc|apply pw_below_drewN|apply below_drew1|refine below_set ?_ GE352.out)|exact HB.out)⟩⟩
    ·replace c29 := Bool.eq_false_iff.mpr c29
     subst c29
     have H1 : (privitylaw43_TapeshiftLinear.j0 k a0_0 (Int.tmod a0_4 a0_0) (Int.tmod a0_5 a0_0) t355 t358 t361 t364 true a0_0 a0_1 a0_2 l0_3 a0_4 a0_5 l0_6) = some r := by rw [if_neg (show ¬ (false = true) by decide)] at H;exact H
     clear H
     have H := H1
     clear H1
     have H' := Aside0.mk H
     clear H
     obtain ⟨Ao35,co35,eo35⟩ := Kd.R_slice HO369.out
     subst eo35
     obtain ⟨Ao36,co36,eo36⟩ := Kd.R_slice HO376.out
     subst eo36
     go_wp2_with (first|((with_reducible refine gate_callee (f := 18) rfl ?_);refine goesL_ (some 76) rfl rfl Try.func18 (by kernel_rfl) rfl #[.slice Ao35 t367.length co35,.slice Ao36 t374.length co36] rfl (by (try simp only [List.map_toArray,List.map_cons,List.map_nil]);first|done|rfl|(simp only [List.length_drop,List.length_take];rfl)) ?_;(with_reducible refine (privityref14_Words.calls k _ _ t367 _ _ t374 false _ ?side1 ?side2 ?side3 ?side4 A28.out).mono ?_);(case side1 => repeat (first|exact (Kd.R_reads' HO369.out).2.2|(with_reducible refine Kd.C_alloc ?_ _)|(with_reducible refine Kd.C_drewN ?_ _)|(with_reducible refine Kd.C_drew ?_)));(case side2 => exact (Kd.R_reads' HO369.out).2.1);(case side3 => repeat (first|exact (Kd.R_reads' HO376.out).2.2|(with_reducible refine Kd.C_alloc ?_ _)|(with_reducible refine Kd.C_drewN ?_ _)|(with_reducible refine Kd.C_drew ?_)));(case side4 => exact (Kd.R_reads' HO376.out).2.1);rintro e w' ⟨rfl,⟨nd,rfl⟩⟩;refine ⟨_,rfl,?_⟩))
     go_meet
     case rel => exact ⟨_,(true),(by first|rfl|(simp;done)|(simp [*];done)),H',⟨by first|omega|exact Nat.le_refl _⟩,⟨by (with_reducible repeat (first|apply Kd.R_alloc|apply Kd.R_drewN|apply Kd.R_drew));exact Kd.R_mono HO357.out (fun _ hk => ⟨hk.1.1.1.1.1.1,⟨hk.1.1.1.1.1.2,hk.1.1.1.1.2⟩⟩)⟩,⟨by (with_reducible repeat (first|apply Kd.R_alloc|apply Kd.R_drewN|apply Kd.R_drew));exact Kd.R_mono HO360.out (fun _ hk => ⟨hk.1.1.1.1.1.1,⟨hk.1.1.1.1.1.2,hk.1.1.1.1.2⟩⟩)⟩,⟨by (with_reducible repeat (first|apply Kd.R_alloc|apply Kd.R_drewN|apply Kd.R_drew));exact Kd.R_mono HO363.out (fun _ hk => ⟨hk.1.1.1.1.1.2,⟨hk.1.1.1.1.2,hk.1.1.1.1.1.1⟩⟩)⟩,⟨by (with_reducible repeat (first|apply Kd.R_alloc|apply Kd.R_drewN|apply Kd.R_drew));exact Kd.R_mono HO366.out (fun _ hk => ⟨hk.1.1.1.1.1.2,⟨hk.1.1.1.1.2,hk.1.1.1.1.1.1⟩⟩)⟩,⟨by (with_reducible repeat (first|refine blk_drewN ?_ _|refine blk_drew ?_|refine blk_alloc ?_ _));exact BK352.out⟩,⟨by repeat (first|(with_reducible first|exact HB.out|apply below_alloc|apply pw_below_drewN|apply below_drew1|refine below_set ?_ GE352.out)|exact HB.out)⟩⟩
   case rest =>
    clear HC10
    try clear c1
    try clear c2
    try clear p2
    try clear c3
    try clear c4
    try clear c4b0
    try clear c4b1
    try clear c12
    try clear c14
    try clear c15
    try clear c17
    try clear c18
    try clear c29
    try clear hcz12_0
    try clear hcz12_1
    try clear hcz12_2
    try clear hcz12_3
    try clear hcz12_4
    try clear hcz12_5
    try clear hcz12_6
    try clear hcz14_0
    try clear hcz14_1
    try clear hcz14_2
    try clear hcz14_3
    try clear hcz14_4
    try clear hcz14_5
    try clear hcz14_6
    try clear hcz16_0
    try clear hcz16_1
    try clear hcz16_2
    try clear hcz16_3
    try clear hcz16_4
    try clear hcz16_5
    try clear hcz16_6
    try clear hcz18_0
    try clear hcz18_1
    try clear hcz18_2
    try clear hcz18_3
    try clear hcz18_4
    try clear hcz18_5
    try clear hcz18_6
    try clear hcz22_0
    try clear hcz22_1
    try clear hcz22_2
    try clear hcz22_3
    try clear hcz22_4
    try clear hcz22_5
    try clear hcz22_6
    try clear hfz12_0
    try clear hfz12_1
    try clear hfz12_2
    try clear hfz12_3
    try clear hfz12_4
    try clear hfz12_5
    try clear hfz12_6
    try clear hfz14_0
    try clear hfz14_1
    try clear hfz14_2
    try clear hfz14_3
    try clear hfz14_4
    try clear hfz14_5
    try clear hfz14_6
    try clear hfz16_0
    try clear hfz16_1
    try clear hfz16_2
    try clear hfz16_3
    try clear hfz16_4
    try clear hfz16_5
    try clear hfz16_6
    try clear hfz18_0
    try clear hfz18_1
    try clear hfz18_2
    try clear hfz18_3
    try clear hfz18_4
    try clear hfz18_5
    try clear hfz18_6
    try clear hfz22_0
    try clear hfz22_1
    try clear hfz22_2
    try clear hfz22_3
    try clear hfz22_4
    try clear hfz22_5
    try clear hfz22_6
    obtain ⟨kq,x83_9,rfl,HA,HJ9,HO_6,HO_7,HO_8,HO_9,BK352,HB⟩ := hcut
    cases kq with
    | zero => exact absurd HA.out (by simp [privitylaw43_TapeshiftLinear.j0])
    | succ kj9 =>
     have H := HA.out
     clear HA
     simp only [privitylaw43_TapeshiftLinear.j0] at H
     by_cases c37 : x83_9 = true
     ·subst c37
      have H1 : (some false) = some r := by rw [if_pos rfl] at H;exact H
      clear H
      have H := H1
      clear H1
      exact absurd (Option.some.inj H) (by rw [HRT_.out];simp)
     ·replace c37 := Bool.eq_false_iff.mpr c37
      subst c37
      have H1 : ((tapeshift_Sharing.f kj9 a0_0 a0_1 a0_2 l0_3 (Int.tmod a0_5 a0_0) t355 t358).bind fun bt382 => ((privityref01_Add.f a0_0 (Int.tmod a0_4 a0_0) (Int.tmod a0_5 a0_0)).bind fun t388 => ((privitylaw43_sum.f kj9 a0_0 t355 t355).bind fun t389 => ((privitylaw43_sum.f kj9 a0_0 t358 t358).bind fun t392 => ((tapeshift_Sharing.f kj9 a0_0 a0_1 a0_2 l0_3 t388 t389 t392).bind fun bt395 => ((privitylaw43_awake.f kj9).bind fun t401 => (if t401 = true then ((privitylaw43_sum.f kj9 a0_0 t361 bt382.1).bind fun t402 => ((privityref14_Words.f kj9 bt395.1 t402).bind fun t405 => (if t405 = true then ((privitylaw43_sum.f kj9 a0_0 t364 bt382.2).bind fun t406 => ((privityref14_Words.f kj9 bt395.2 t406).bind fun t409 => (some t409))) else (some false)))) else (some false)))))))) = some r := by rw [if_neg (show ¬ (false = true) by decide)] at H;exact H
      clear H
      have H := H1
      clear H1
      replace H := Option.bind_eq_some_iff.mp H
      obtain ⟨⟨t382,t385⟩,A380,H⟩ := H
      replace H : ((privityref01_Add.f a0_0 (Int.tmod a0_4 a0_0) (Int.tmod a0_5 a0_0)).bind fun t388 => ((privitylaw43_sum.f kj9 a0_0 t355 t355).bind fun t389 => ((privitylaw43_sum.f kj9 a0_0 t358 t358).bind fun t392 => ((tapeshift_Sharing.f kj9 a0_0 a0_1 a0_2 l0_3 t388 t389 t392).bind fun bt395 => ((privitylaw43_awake.f kj9).bind fun t401 => (if t401 = true then ((privitylaw43_sum.f kj9 a0_0 t361 t382).bind fun t402 => ((privityref14_Words.f kj9 bt395.1 t402).bind fun t405 => (if t405 = true then ((privitylaw43_sum.f kj9 a0_0 t364 t385).bind fun t406 => ((privityref14_Words.f kj9 bt395.2 t406).bind fun t409 => (some t409))) else (some false)))) else (some false))))))) = some r := H
      have A38 := Aside0.mk A380
      clear A380
      replace H := Option.bind_eq_some_iff.mp H
      obtain ⟨t388,A390,H⟩ := H
      replace H : ((privitylaw43_sum.f kj9 a0_0 t355 t355).bind fun t389 => ((privitylaw43_sum.f kj9 a0_0 t358 t358).bind fun t392 => ((tapeshift_Sharing.f kj9 a0_0 a0_1 a0_2 l0_3 t388 t389 t392).bind fun bt395 => ((privitylaw43_awake.f kj9).bind fun t401 => (if t401 = true then ((privitylaw43_sum.f kj9 a0_0 t361 t382).bind fun t402 => ((privityref14_Words.f kj9 bt395.1 t402).bind fun t405 => (if t405 = true then ((privitylaw43_sum.f kj9 a0_0 t364 t385).bind fun t406 => ((privityref14_Words.f kj9 bt395.2 t406).bind fun t409 => (some t409))) else (some false)))) else (some false)))))) = some r := H
      have A39 := Aside0.mk A390
      clear A390
      replace H := Option.bind_eq_some_iff.mp H
      obtain ⟨t389,A400,H⟩ := H
      replace H : ((privitylaw43_sum.f kj9 a0_0 t358 t358).bind fun t392 => ((tapeshift_Sharing.f kj9 a0_0 a0_1 a0_2 l0_3 t388 t389 t392).bind fun bt395 => ((privitylaw43_awake.f kj9).bind fun t401 => (if t401 = true then ((privitylaw43_sum.f kj9 a0_0 t361 t382).bind fun t402 => ((privityref14_Words.f kj9 bt395.1 t402).bind fun t405 => (if t405 = true then ((privitylaw43_sum.f kj9 a0_0 t364 t385).bind fun t406 => ((privityref14_Words.f kj9 bt395.2 t406).bind fun t409 => (some t409))) else (some false)))) else (some false))))) = some r := H
      have A40 := Aside0.mk A400
      clear A400
      replace H := Option.bind_eq_some_iff.mp H
      obtain ⟨t392,A410,H⟩ := H
      replace H : ((tapeshift_Sharing.f kj9 a0_0 a0_1 a0_2 l0_3 t388 t389 t392).bind fun bt395 => ((privitylaw43_awake.f kj9).bind fun t401 => (if t401 = true then ((privitylaw43_sum.f kj9 a0_0 t361 t382).bind fun t402 => ((privityref14_Words.f kj9 bt395.1 t402).bind fun t405 => (if t405 = true then ((privitylaw43_sum.f kj9 a0_0 t364 t385).bind fun t406 => ((privityref14_Words.f kj9 bt395.2 t406).bind fun t409 => (some t409))) else (some false)))) else (some false)))) = some r := H
      have A41 := Aside0.mk A410
      clear A410
      replace H := Option.bind_eq_some_iff.mp H
      obtain ⟨⟨t395,t398⟩,A420,H⟩ := H
      replace H : ((privitylaw43_awake.f kj9).bind fun t401 => (if t401 = true then ((privitylaw43_sum.f kj9 a0_0 t361 t382).bind fun t402 => ((privityref14_Words.f kj9 t395 t402).bind fun t405 => (if t405 = true then ((privitylaw43_sum.f kj9 a0_0 t364 t385).bind fun t406 => ((privityref14_Words.f kj9 t398 t406).bind fun t409 => (some t409))) else (some false)))) else (some false))) = some r := H
      have A42 := Aside0.mk A420
      clear A420
      replace H := Option.bind_eq_some_iff.mp H
      obtain ⟨t401,A430,H⟩ := H
      replace H : (if t401 = true then ((privitylaw43_sum.f kj9 a0_0 t361 t382).bind fun t402 => ((privityref14_Words.f kj9 t395 t402).bind fun t405 => (if t405 = true then ((privitylaw43_sum.f kj9 a0_0 t364 t385).bind fun t406 => ((privityref14_Words.f kj9 t398 t406).bind fun t409 => (some t409))) else (some false)))) else (some false)) = some r := H
      have A43 := Aside0.mk A430
      clear A430
      by_cases c44 : t401 = true
      ·subst c44
       have H1 : ((privitylaw43_sum.f kj9 a0_0 t361 t382).bind fun t402 => ((privityref14_Words.f kj9 t395 t402).bind fun t405 => (if t405 = true then ((privitylaw43_sum.f kj9 a0_0 t364 t385).bind fun t406 => ((privityref14_Words.f kj9 t398 t406).bind fun t409 => (some t409))) else (some false)))) = some r := by rw [if_pos rfl] at H;exact H
       clear H
       have H := H1
       clear H1
       replace H := Option.bind_eq_some_iff.mp H
       obtain ⟨t402,A450,H⟩ := H
       replace H : ((privityref14_Words.f kj9 t395 t402).bind fun t405 => (if t405 = true then ((privitylaw43_sum.f kj9 a0_0 t364 t385).bind fun t406 => ((privityref14_Words.f kj9 t398 t406).bind fun t409 => (some t409))) else (some false))) = some r := H
       have A45 := Aside0.mk A450
       clear A450
       replace H := Option.bind_eq_some_iff.mp H
       obtain ⟨t405,A460,H⟩ := H
       replace H : (if t405 = true then ((privitylaw43_sum.f kj9 a0_0 t364 t385).bind fun t406 => ((privityref14_Words.f kj9 t398 t406).bind fun t409 => (some t409))) else (some false)) = some r := H
       have A46 := Aside0.mk A460
       clear A460
       by_cases c47 : t405 = true
       ·subst c47
        have H1 : ((privitylaw43_sum.f kj9 a0_0 t364 t385).bind fun t406 => ((privityref14_Words.f kj9 t398 t406).bind fun t409 => (some t409))) = some r := by rw [if_pos rfl] at H;exact H
        clear H
        have H := H1
        clear H1
        replace H := Option.bind_eq_some_iff.mp H
        obtain ⟨t406,A480,H⟩ := H
        replace H : ((privityref14_Words.f kj9 t398 t406).bind fun t409 => (some t409)) = some r := H
        have A48 := Aside0.mk A480
        clear A480
        replace H := Option.bind_eq_some_iff.mp H
        obtain ⟨t409,A490,H⟩ := H
        replace H : (some t409) = some r := H
        have A49 := Aside0.mk A490
        clear A490
        obtain rfl := Option.some.inj H
        have hcz50_0 : wc.cell? ⟨gb352,0,none⟩ = some (.int .u64 a0_0) := (blk_cell BK352.out 0).trans rfl
        have hcz50_1 : wc.cell? ⟨gb352,1,none⟩ = some (.int .i64 a0_1) := (blk_cell BK352.out 1).trans rfl
        have hcz50_2 : wc.cell? ⟨gb352,2,none⟩ = some (.int .i64 a0_2) := (blk_cell BK352.out 2).trans rfl
        have hcz50_3 : wc.cell? ⟨gb352,3,none⟩ = some (.slice A0_3 l0_3.length c0_3) := (blk_cell BK352.out 3).trans rfl
        have hcz50_4 : wc.cell? ⟨gb352,4,none⟩ = some (.int .u64 a0_4) := (blk_cell BK352.out 4).trans rfl
        have hcz50_5 : wc.cell? ⟨gb352,5,none⟩ = some (.int .u64 a0_5) := (blk_cell BK352.out 5).trans rfl
        have hcz50_6 : wc.cell? ⟨gb352,6,none⟩ = some (.slice A0_6 l0_6.length c0_6) := (blk_cell BK352.out 6).trans rfl
        have hfz50_0 := blk_frozen BK352.out 0
        have hfz50_1 := blk_frozen BK352.out 1
        have hfz50_2 := blk_frozen BK352.out 2
        have hfz50_3 := blk_frozen BK352.out 3
        have hfz50_4 := blk_frozen BK352.out 4
        have hfz50_5 := blk_frozen BK352.out 5
        have hfz50_6 := blk_frozen BK352.out 6
        try go_wp2_with (first|((with_reducible refine gate_callee (f := 15) rfl ?_);refine goesL_ (some 92) rfl rfl Try.func15 (by kernel_rfl) rfl #[.agg #[.int .u64 a0_0,.int .i64 a0_1,.int .i64 a0_2],.slice A0_3 l0_3.length c0_3,.int .u64 (Int.tmod a0_5 a0_0),.slice Ao19 t355.length co19,.slice Ao20 t358.length co20] rfl (by (try simp only [List.map_toArray,List.map_cons,List.map_nil]);first|done|rfl|(simp only [List.length_drop,List.length_take];rfl)) ?_;(with_reducible refine (tapeshift_Sharing.calls kj9 a0_0 a0_1 a0_2 _ _ l0_3 (Int.tmod a0_5 a0_0) _ _ t355 _ _ t358 t382 t385 _ ?side1 ?side2 ?side3 ?side4 ?side5 ?side6 A38.out).mono ?_);(case side1 => repeat (first|exact (Kd.C_below HR0_3.out HB.out)|(with_reducible refine Kd.C_alloc ?_ _)|(with_reducible refine Kd.C_drewN ?_ _)|(with_reducible refine Kd.C_drew ?_)));(case side2 => exact HC0_3.out);(case side3 => repeat (first|exact (Kd.R_reads' HO_6.out).2.2|(with_reducible refine Kd.C_alloc ?_ _)|(with_reducible refine Kd.C_drewN ?_ _)|(with_reducible refine Kd.C_drew ?_)));(case side4 => exact (Kd.R_reads' HO_6.out).2.1);(case side5 => repeat (first|exact (Kd.R_reads' HO_7.out).2.2|(with_reducible refine Kd.C_alloc ?_ _)|(with_reducible refine Kd.C_drewN ?_ _)|(with_reducible refine Kd.C_drew ?_)));(case side6 => exact (Kd.R_reads' HO_7.out).2.1);rintro e w51 ⟨v383,v386,rfl,ho0,ho1,hb⟩;refine ⟨_,rfl,?_⟩;have n0_ := Aside0.mk (Kd.R_mono (Kd.R_told (Kd.R_told (Kd.R_old (by (with_reducible repeat (first|apply Kd.R_alloc|apply Kd.R_drewN|apply Kd.R_drew));exact HO_6.out) hb) (Kd.R_base ho0)) (Kd.R_base ho1)) (fun _ h_ => h_.1));have n1_ := Aside0.mk (Kd.R_mono (Kd.R_told (Kd.R_told (Kd.R_old (by (with_reducible repeat (first|apply Kd.R_alloc|apply Kd.R_drewN|apply Kd.R_drew));exact HO_7.out) hb) (Kd.R_base ho0)) (Kd.R_base ho1)) (fun _ h_ => h_.1));have n2_ := Aside0.mk (Kd.R_mono (Kd.R_told (Kd.R_told (Kd.R_old (by (with_reducible repeat (first|apply Kd.R_alloc|apply Kd.R_drewN|apply Kd.R_drew));exact HO_8.out) hb) (Kd.R_base ho0)) (Kd.R_base ho1)) (fun _ h_ => h_.1));have n3_ := Aside0.mk (Kd.R_mono (Kd.R_told (Kd.R_told (Kd.R_old (by (with_reducible repeat (first|apply Kd.R_alloc|apply Kd.R_drewN|apply Kd.R_drew));exact HO_9.out) hb) (Kd.R_base ho0)) (Kd.R_base ho1)) (fun _ h_ => h_.1));have n4_ := Aside0.mk (Kd.R_lower (Kd.R_new' (Kd.R_new' (Kd.R_new' (Kd.R_new' ho0 (Kd.R_lt (by (with_reducible repeat (first|apply Kd.R_alloc|apply Kd.R_drewN|apply Kd.R_drew));exact HO_6.out))) (Kd.R_lt (by (with_reducible repeat (first|apply Kd.R_alloc|apply Kd.R_drewN|apply Kd.R_drew));exact HO_7.out))) (Kd.R_lt (by (with_reducible repeat (first|apply Kd.R_alloc|apply Kd.R_drewN|apply Kd.R_drew));exact HO_8.out))) (Kd.R_lt (by (with_reducible repeat (first|apply Kd.R_alloc|apply Kd.R_drewN|apply Kd.R_drew));exact HO_9.out))) (below_size (by repeat (first|(with_reducible first|exact HB.out|apply below_alloc|apply pw_below_drewN|apply below_drew1|refine below_set ?_ GE352.out)|exact HB.out))));have n5_ := Aside0.mk (Kd.R_lower (Kd.R_new' (Kd.R_new' (Kd.R_new' (Kd.R_new' ho1 (Kd.R_lt (by (with_reducible repeat (first|apply Kd.R_alloc|apply Kd.R_drewN|apply Kd.R_drew));exact HO_6.out))) (Kd.R_lt (by (with_reducible repeat (first|apply Kd.R_alloc|apply Kd.R_drewN|apply Kd.R_drew));exact HO_7.out))) (Kd.R_lt (by (with_reducible repeat (first|apply Kd.R_alloc|apply Kd.R_drewN|apply Kd.R_drew));exact HO_8.out))) (Kd.R_lt (by (with_reducible repeat (first|apply Kd.R_alloc|apply Kd.R_drewN|apply Kd.R_drew));exact HO_9.out))) (below_size (by repeat (first|(with_reducible first|exact HB.out|apply below_alloc|apply pw_below_drewN|apply below_drew1|refine below_set ?_ GE352.out)|exact HB.out))));have n6_ := Aside0.mk (blk_below (g := gb352) (o := .cells #[.int .u64 a0_0,.int .i64 a0_1,.int .i64 a0_2,.slice A0_3 l0_3.length c0_3,.int .u64 a0_4,.int .u64 a0_5,.slice A0_6 l0_6.length c0_6] 28 (0,0)) (by (with_reducible repeat (first|refine blk_drewN ?_ _|refine blk_drew ?_|refine blk_alloc ?_ _));exact BK352.out) hb);have n7_ := Aside0.mk (below_step (by repeat (first|(with_reducible first|exact HB.out|apply below_alloc|apply pw_below_drewN|apply below_drew1|refine below_set ?_ GE352.out)|exact HB.out)) hb);clear HO_6;clear HO_7;clear HO_8;clear HO_9;clear BK352;clear HB;have HO_6 := n0_;have HO_7 := n1_;have HO_8 := n2_;have HO_9 := n3_;have HO384 := n4_;have HO387 := n5_;have BK352 := n6_;have HB := n7_;clear n0_ n1_ n2_ n3_ n4_ n5_ n6_ n7_;(try clear hb);(try clear hb2);(try clear hk);(try clear hi);(try clear ho0);(try clear ho1)))
        have n0_ := Aside0.mk (Kd.R_drew HO_6.out)
        have n1_ := Aside0.mk (Kd.R_drew HO_7.out)
        have n2_ := Aside0.mk (Kd.R_drew HO_8.out)
        have n3_ := Aside0.mk (Kd.R_drew HO_9.out)
        have n4_ := Aside0.mk (Kd.R_drew HO384.out)
        have n5_ := Aside0.mk (Kd.R_drew HO387.out)
        have n6_ := Aside0.mk (blk_drew BK352.out)
        have n7_ := Aside0.mk (below_drew1 HB.out)
        clear HO_6
        clear HO_7
        clear HO_8
        clear HO_9
        clear HO384
        clear HO387
        clear BK352
        clear HB
        have HO_6 := n0_
        have HO_7 := n1_
        have HO_8 := n2_
        have HO_9 := n3_
        have HO384 := n4_
        have HO387 := n5_
        have BK352 := n6_
        have HB := n7_
        clear n0_ n1_ n2_ n3_ n4_ n5_ n6_ n7_
        refine start_ (n := 22) (S := fun w' => w'.cell? ⟨gb352,0,none⟩ = some (.int .u64 a0_0) ∧ w'.cell? ⟨gb352,1,none⟩ = some (.int .i64 a0_1) ∧ w'.cell? ⟨gb352,2,none⟩ = some (.int .i64 a0_2) ∧ w'.cell? ⟨gb352,3,none⟩ = some (.slice A0_3 l0_3.length c0_3) ∧ w'.cell? ⟨gb352,4,none⟩ = some (.int .u64 a0_4) ∧ w'.cell? ⟨gb352,5,none⟩ = some (.int .u64 a0_5) ∧ w'.cell? ⟨gb352,6,none⟩ = some (.slice A0_6 l0_6.length c0_6)) (ds := []) #[false,false,false,false,false,false,false,false,false,false,false,false,false,false,false,false,false,false,false,false,false,false] (by kernel_rfl) rfl rfl ⟨(blk_cell BK352.out 0).trans rfl,(blk_cell BK352.out 1).trans rfl,(blk_cell BK352.out 2).trans rfl,(blk_cell BK352.out 3).trans rfl,(blk_cell BK352.out 4).trans rfl,(blk_cell BK352.out 5).trans rfl,(blk_cell BK352.out 6).trans rfl⟩ (fun hHeld => ?_);refine with_tabW privitylaw43_TapeshiftLinear.tab12 privitylaw43_TapeshiftLinear.bits12 (fun HT_ HW_ => ?_)
        generalize w51.drew = w52 at HO_6 HO_7 HO_8 HO_9 HO384 HO387 BK352 HB hHeld ⊢
        refine pure_ (i := 0) (N := some 96) (v := ?_) (a' := ?_) #[true,false,false,false,false,false,false,false,false,false,false,false,false,false,false,false,false,false,false,false,false,false] rfl rfl (any_of HT_.out (by kernel_rfl)) (fun _ _ _ h => h) (Or.inl ⟨by rfl,?_⟩) ?_ ?_
        rotate_left
        ·intro w'
         go_simp
         with_reducible rfl
        rotate_left
        ·simp only [Act.put,List.setIfInBounds_toArray,List.set_cons_zero,List.set_cons_succ,i64_w,i32_w]
         rfl
        refine pure_ (i := 2) (N := some 98) (v := ?_) (a' := ?_) #[true,false,true,false,false,false,false,false,false,false,false,false,false,false,false,false,false,false,false,false,false,false] rfl rfl (any_of HT_.out (by kernel_rfl)) (fun _ _ _ h => h) (Or.inl ⟨by rfl,?_⟩) ?_ ?_
        rotate_left
        ·intro w'
         go_simp
         with_reducible rfl
        rotate_left
        ·simp only [Act.put,List.setIfInBounds_toArray,List.set_cons_zero,List.set_cons_succ,i64_w,i32_w]
         rfl
        refine pure_ (i := 4) (N := some 100) (v := ?_) (a' := ?_) #[true,false,true,false,true,false,false,false,false,false,false,false,false,false,false,false,false,false,false,false,false,false] rfl rfl (any_of HT_.out (by kernel_rfl)) (fun _ _ _ h => h) (Or.inl ⟨by rfl,?_⟩) ?_ ?_
        rotate_left
        ·intro w'
         go_simp
         with_reducible rfl
        rotate_left
        ·simp only [Act.put,List.setIfInBounds_toArray,List.set_cons_zero,List.set_cons_succ,i64_w,i32_w]
         rfl
        refine pure_ (i := 5) (N := some 101) (v := ?_) (a' := ?_) #[true,false,true,false,true,true,false,false,false,false,false,false,false,false,false,false,false,false,false,false,false,false] rfl rfl (any_of HT_.out (by kernel_rfl)) (fun _ _ _ h => h) (Or.inl ⟨by rfl,?_⟩) ?_ ?_
        rotate_left
        ·intro w'
         go_simp
         with_reducible rfl
        rotate_left
        ·simp only [Act.put,List.setIfInBounds_toArray,List.set_cons_zero,List.set_cons_succ,i64_w,i32_w]
         rfl
        refine pure_ (i := 6) (N := some 102) (v := ?_) (a' := ?_) #[true,false,true,false,true,true,true,false,false,false,false,false,false,false,false,false,false,false,false,false,false,false] rfl rfl (any_of HT_.out (by kernel_rfl)) (fun _ _ _ h => h) (Or.inl ⟨by rfl,?_⟩) ?_ ?_
        rotate_left
        ·intro w'
         go_simp
         with_reducible rfl
        rotate_left
        ·simp only [Act.put,List.setIfInBounds_toArray,List.set_cons_zero,List.set_cons_succ,i64_w,i32_w]
         rfl
        refine pure_ (i := 8) (N := some 104) (v := ?_) (a' := ?_) #[true,false,true,false,true,true,true,false,true,false,false,false,false,false,false,false,false,false,false,false,false,false] rfl rfl (any_of HT_.out (by kernel_rfl)) (fun _ _ _ h => h) (Or.inl ⟨by rfl,?_⟩) ?_ ?_
        rotate_left
        ·intro w'
         go_simp
         with_reducible rfl
        rotate_left
        ·simp only [Act.put,List.setIfInBounds_toArray,List.set_cons_zero,List.set_cons_succ,i64_w,i32_w]
         rfl
        refine pure_ (i := 9) (N := some 105) (v := ?_) (a' := ?_) #[true,false,true,false,true,true,true,false,true,true,false,false,false,false,false,false,false,false,false,false,false,false] rfl rfl (any_of HT_.out (by kernel_rfl)) (fun _ _ _ h => h) (Or.inl ⟨by rfl,?_⟩) ?_ ?_
        rotate_left
        ·intro w'
         go_simp
         with_reducible rfl
        rotate_left
        ·simp only [Act.put,List.setIfInBounds_toArray,List.set_cons_zero,List.set_cons_succ,i64_w,i32_w]
         rfl
        refine pure_ (i := 10) (N := some 106) (v := ?_) (a' := ?_) #[true,false,true,false,true,true,true,false,true,true,true,false,false,false,false,false,false,false,false,false,false,false] rfl rfl (any_of HT_.out (by kernel_rfl)) (fun _ _ _ h => h) (Or.inl ⟨by rfl,?_⟩) ?_ ?_
        rotate_left
        ·intro w'
         go_simp
         with_reducible rfl
        rotate_left
        ·simp only [Act.put,List.setIfInBounds_toArray,List.set_cons_zero,List.set_cons_succ,i64_w,i32_w]
         rfl
        refine pure_ (i := 12) (N := some 108) (v := ?_) (a' := ?_) #[true,false,true,false,true,true,true,false,true,true,true,false,true,false,false,false,false,false,false,false,false,false] rfl rfl (any_of HT_.out (by kernel_rfl)) (fun _ _ _ h => h) (Or.inl ⟨by rfl,?_⟩) ?_ ?_
        rotate_left
        ·intro w'
         go_simp
         with_reducible rfl
        rotate_left
        ·simp only [Act.put,List.setIfInBounds_toArray,List.set_cons_zero,List.set_cons_succ,i64_w,i32_w]
         rfl
        refine pure_ (i := 13) (N := some 109) (v := ?_) (a' := ?_) #[true,false,true,false,true,true,true,false,true,true,true,false,true,true,false,false,false,false,false,false,false,false] rfl rfl (any_of HT_.out (by kernel_rfl)) (fun _ _ _ h => h) (Or.inl ⟨by rfl,?_⟩) ?_ ?_
        rotate_left
        ·intro w'
         go_simp
         with_reducible rfl
        rotate_left
        ·simp only [Act.put,List.setIfInBounds_toArray,List.set_cons_zero,List.set_cons_succ,i64_w,i32_w]
         rfl
        refine pure_ (i := 14) (N := some 110) (v := ?_) (a' := ?_) #[true,false,true,false,true,true,true,false,true,true,true,false,true,true,true,false,false,false,false,false,false,false] rfl rfl (any_of HT_.out (by kernel_rfl)) (fun _ _ _ h => h) (Or.inl ⟨by rfl,?_⟩) ?_ ?_
        rotate_left
        ·intro w'
         go_simp
         with_reducible rfl
        rotate_left
        ·simp only [Act.put,List.setIfInBounds_toArray,List.set_cons_zero,List.set_cons_succ,i64_w,i32_w]
         rfl
        refine take_ (i := 1) (N := some 97) (v := ?_) (a' := ?_) #[true,true,true,false,true,true,true,false,true,true,true,false,true,true,true,false,false,false,false,false,false,false] rfl rfl (take_ofW HT_.out HW_.out (by kernel_rfl)) (fun _ _ _ h => h) (Or.inl ⟨by rfl,?_⟩) hHeld ?_ ?_
        rotate_left
        ·rintro w' ⟨s0,s1,s2,s3,s4,s5,s6⟩
         go_simp
         with_reducible rfl
        rotate_left
        ·simp only [Act.put,List.setIfInBounds_toArray,List.set_cons_zero,List.set_cons_succ,i64_w,i32_w]
         rfl
        refine take_ (i := 3) (N := some 99) (v := ?_) (a' := ?_) #[true,true,true,true,true,true,true,false,true,true,true,false,true,true,true,false,false,false,false,false,false,false] rfl rfl (take_ofW HT_.out HW_.out (by kernel_rfl)) (fun _ _ _ h => h) (Or.inl ⟨by rfl,?_⟩) hHeld ?_ ?_
        rotate_left
        ·rintro w' ⟨s0,s1,s2,s3,s4,s5,s6⟩
         go_simp
         with_reducible rfl
        rotate_left
        ·simp only [Act.put,List.setIfInBounds_toArray,List.set_cons_zero,List.set_cons_succ,i64_w,i32_w]
         rfl
        refine one_ (i := 7) (N := some 103) #[true,true,true,true,true,true,true,true,true,true,true,false,true,true,true,false,false,false,false,false,false,false] rfl rfl (one_of HT_.out (by kernel_rfl)) (by decide) (fun K hK => ?_)
        refine goes_ Try.func17 (by kernel_rfl) rfl #[.int .u64 a0_0,.int .u64 (Int.tmod a0_4 a0_0),.int .u64 (Int.tmod a0_5 a0_0)] (by rfl) rfl rfl (by (try simp only [List.map_toArray,List.map_cons,List.map_nil]);first|done|rfl|(simp only [List.length_drop,List.length_take];rfl)) ?_
        with_reducible refine (privityref01_Add.calls a0_0 (Int.tmod a0_4 a0_0) (Int.tmod a0_5 a0_0) t388 _ A39.out).mono ?_
        rintro e w' ⟨rfl,⟨nd,rfl⟩⟩
        refine ⟨_,rfl,?_⟩
        refine hK.out _ _ ⟨(blk_cell BK352.out 0).trans rfl,(blk_cell BK352.out 1).trans rfl,(blk_cell BK352.out 2).trans rfl,(blk_cell BK352.out 3).trans rfl,(blk_cell BK352.out 4).trans rfl,(blk_cell BK352.out 5).trans rfl,(blk_cell BK352.out 6).trans rfl⟩ (fun hHeld => ?_)
        clear hK K
        refine norm_ (a' := ?_) ?_ ?_
        rotate_left
        ·show Act.put _ (some 103) _ = _
         simp only [Act.put,List.setIfInBounds_toArray,List.set_cons_zero,List.set_cons_succ,i64_w,i32_w]
         rfl
        refine one_ (i := 11) (N := some 107) #[true,true,true,true,true,true,true,true,true,true,true,true,true,true,true,false,false,false,false,false,false,false] rfl rfl (one_of HT_.out (by kernel_rfl)) (by decide) (fun K hK => ?_)
        refine goes_ Try.func20 (by kernel_rfl) rfl #[.int .u64 a0_0,.slice Ao19 t355.length co19,.slice Ao19 t355.length co19] (by rfl) rfl rfl (by (try simp only [List.map_toArray,List.map_cons,List.map_nil]);first|done|rfl|(simp only [List.length_drop,List.length_take];rfl)) ?_
        with_reducible refine (privitylaw43_sum.calls kj9 a0_0 _ _ t355 _ _ t355 t389 _ ?side1 ?side2 ?side3 ?side4 A40.out).mono ?_
        (case side1 => repeat (first|exact (Kd.R_reads' HO_6.out).2.2|(with_reducible refine Kd.C_alloc ?_ _)|(with_reducible refine Kd.C_drewN ?_ _)|(with_reducible refine Kd.C_drew ?_)))
        (case side2 => exact (Kd.R_reads' HO_6.out).2.1)
        (case side3 => repeat (first|exact (Kd.R_reads' HO_6.out).2.2|(with_reducible refine Kd.C_alloc ?_ _)|(with_reducible refine Kd.C_drewN ?_ _)|(with_reducible refine Kd.C_drew ?_)))
        (case side4 => exact (Kd.R_reads' HO_6.out).2.1)
        rintro e w53 ⟨v390,rfl,ho0,hb⟩
        refine ⟨_,rfl,?_⟩
        have n0_ := Aside0.mk (Kd.R_elder' (by (with_reducible repeat (first|apply Kd.R_alloc|apply Kd.R_drewN|apply Kd.R_drew));exact HO_6.out) (Kd.R_base ho0) hb)
        have n1_ := Aside0.mk (Kd.R_elder' (by (with_reducible repeat (first|apply Kd.R_alloc|apply Kd.R_drewN|apply Kd.R_drew));exact HO_7.out) (Kd.R_base ho0) hb)
        have n2_ := Aside0.mk (Kd.R_elder' (by (with_reducible repeat (first|apply Kd.R_alloc|apply Kd.R_drewN|apply Kd.R_drew));exact HO_8.out) (Kd.R_base ho0) hb)
        have n3_ := Aside0.mk (Kd.R_elder' (by (with_reducible repeat (first|apply Kd.R_alloc|apply Kd.R_drewN|apply Kd.R_drew));exact HO_9.out) (Kd.R_base ho0) hb)
        have n4_ := Aside0.mk (Kd.R_elder' (by (with_reducible repeat (first|apply Kd.R_alloc|apply Kd.R_drewN|apply Kd.R_drew));exact HO384.out) (Kd.R_base ho0) hb)
        have n5_ := Aside0.mk (Kd.R_elder' (by (with_reducible repeat (first|apply Kd.R_alloc|apply Kd.R_drewN|apply Kd.R_drew));exact HO387.out) (Kd.R_base ho0) hb)
        have n6_ := Aside0.mk (Kd.R_lower (Kd.R_new' (Kd.R_new' (Kd.R_new' (Kd.R_new' (Kd.R_new' (Kd.R_new' ho0 (Kd.R_lt (by (with_reducible repeat (first|apply Kd.R_alloc|apply Kd.R_drewN|apply Kd.R_drew));exact HO_6.out))) (Kd.R_lt (by (with_reducible repeat (first|apply Kd.R_alloc|apply Kd.R_drewN|apply Kd.R_drew));exact HO_7.out))) (Kd.R_lt (by (with_reducible repeat (first|apply Kd.R_alloc|apply Kd.R_drewN|apply Kd.R_drew));exact HO_8.out))) (Kd.R_lt (by (with_reducible repeat (first|apply Kd.R_alloc|apply Kd.R_drewN|apply Kd.R_drew));exact HO_9.out))) (Kd.R_lt (by (with_reducible repeat (first|apply Kd.R_alloc|apply Kd.R_drewN|apply Kd.R_drew));exact HO384.out))) (Kd.R_lt (by (with_reducible repeat (first|apply Kd.R_alloc|apply Kd.R_drewN|apply Kd.R_drew));exact HO387.out))) (below_size (by repeat (first|(with_reducible first|exact HB.out|apply below_alloc|apply pw_below_drewN|apply below_drew1|refine below_set ?_ GE352.out)|exact HB.out))))
        have n7_ := Aside0.mk (blk_below (g := gb352) (o := .cells #[.int .u64 a0_0,.int .i64 a0_1,.int .i64 a0_2,.slice A0_3 l0_3.length c0_3,.int .u64 a0_4,.int .u64 a0_5,.slice A0_6 l0_6.length c0_6] 28 (0,0)) (by (with_reducible repeat (first|refine blk_drewN ?_ _|refine blk_drew ?_|refine blk_alloc ?_ _));exact BK352.out) hb)
        have n8_ := Aside0.mk (below_step (by repeat (first|(with_reducible first|exact HB.out|apply below_alloc|apply pw_below_drewN|apply below_drew1|refine below_set ?_ GE352.out)|exact HB.out)) hb)
        clear HO_6
        clear HO_7
        clear HO_8
        clear HO_9
        clear HO384
        clear HO387
        clear BK352
        clear HB
        have HO_6 := n0_
        have HO_7 := n1_
        have HO_8 := n2_
        have HO_9 := n3_
        have HO384 := n4_
        have HO387 := n5_
        have HO391 := n6_
        have BK352 := n7_
        have HB := n8_
        clear n0_ n1_ n2_ n3_ n4_ n5_ n6_ n7_ n8_
        (try clear hb)
        (try clear hb2)
        (try clear hk)
        (try clear hi)
        (try clear ho0)
        refine hK.out _ _ ⟨(blk_cell BK352.out 0).trans rfl,(blk_cell BK352.out 1).trans rfl,(blk_cell BK352.out 2).trans rfl,(blk_cell BK352.out 3).trans rfl,(blk_cell BK352.out 4).trans rfl,(blk_cell BK352.out 5).trans rfl,(blk_cell BK352.out 6).trans rfl⟩ (fun hHeld => ?_)
        clear hK K
        refine norm_ (a' := ?_) ?_ ?_
        rotate_left
        ·show Act.put _ (some 107) _ = _
         simp only [Act.put,List.setIfInBounds_toArray,List.set_cons_zero,List.set_cons_succ,i64_w,i32_w]
         rfl
        refine one_ (i := 15) (N := some 111) #[true,true,true,true,true,true,true,true,true,true,true,true,true,true,true,true,false,false,false,false,false,false] rfl rfl (one_of HT_.out (by kernel_rfl)) (by decide) (fun K hK => ?_)
        refine goes_ Try.func20 (by kernel_rfl) rfl #[.int .u64 a0_0,.slice Ao20 t358.length co20,.slice Ao20 t358.length co20] (by rfl) rfl rfl (by (try simp only [List.map_toArray,List.map_cons,List.map_nil]);first|done|rfl|(simp only [List.length_drop,List.length_take];rfl)) ?_
        with_reducible refine (privitylaw43_sum.calls kj9 a0_0 _ _ t358 _ _ t358 t392 _ ?side1 ?side2 ?side3 ?side4 A41.out).mono ?_
        (case side1 => repeat (first|exact (Kd.R_reads' HO_7.out).2.2|(with_reducible refine Kd.C_alloc ?_ _)|(with_reducible refine Kd.C_drewN ?_ _)|(with_reducible refine Kd.C_drew ?_)))
        (case side2 => exact (Kd.R_reads' HO_7.out).2.1)
        (case side3 => repeat (first|exact (Kd.R_reads' HO_7.out).2.2|(with_reducible refine Kd.C_alloc ?_ _)|(with_reducible refine Kd.C_drewN ?_ _)|(with_reducible refine Kd.C_drew ?_)))
        (case side4 => exact (Kd.R_reads' HO_7.out).2.1)
        rintro e w54 ⟨v393,rfl,ho0,hb⟩
        refine ⟨_,rfl,?_⟩
        have n0_ := Aside0.mk (Kd.R_elder' (by (with_reducible repeat (first|apply Kd.R_alloc|apply Kd.R_drewN|apply Kd.R_drew));exact HO_6.out) (Kd.R_base ho0) hb)
        have n1_ := Aside0.mk (Kd.R_elder' (by (with_reducible repeat (first|apply Kd.R_alloc|apply Kd.R_drewN|apply Kd.R_drew));exact HO_7.out) (Kd.R_base ho0) hb)
        have n2_ := Aside0.mk (Kd.R_elder' (by (with_reducible repeat (first|apply Kd.R_alloc|apply Kd.R_drewN|apply Kd.R_drew));exact HO_8.out) (Kd.R_base ho0) hb)
        have n3_ := Aside0.mk (Kd.R_elder' (by (with_reducible repeat (first|apply Kd.R_alloc|apply Kd.R_drewN|apply Kd.R_drew));exact HO_9.out) (Kd.R_base ho0) hb)
        have n4_ := Aside0.mk (Kd.R_elder' (by (with_reducible repeat (first|apply Kd.R_alloc|apply Kd.R_drewN|apply Kd.R_drew));exact HO384.out) (Kd.R_base ho0) hb)
        have n5_ := Aside0.mk (Kd.R_elder' (by (with_reducible repeat (first|apply Kd.R_alloc|apply Kd.R_drewN|apply Kd.R_drew));exact HO387.out) (Kd.R_base ho0) hb)
        have n6_ := Aside0.mk (Kd.R_elder' (by (with_reducible repeat (first|apply Kd.R_alloc|apply Kd.R_drewN|apply Kd.R_drew));exact HO391.out) (Kd.R_base ho0) hb)
        have n7_ := Aside0.mk (Kd.R_lower (Kd.R_new' (Kd.R_new' (Kd.R_new' (Kd.R_new' (Kd.R_new' (Kd.R_new' (Kd.R_new' ho0 (Kd.R_lt (by (with_reducible repeat (first|apply Kd.R_alloc|apply Kd.R_drewN|apply Kd.R_drew));exact HO_6.out))) (Kd.R_lt (by (with_reducible repeat (first|apply Kd.R_alloc|apply Kd.R_drewN|apply Kd.R_drew));exact HO_7.out))) (Kd.R_lt (by (with_reducible repeat (first|apply Kd.R_alloc|apply Kd.R_drewN|apply Kd.R_drew));exact HO_8.out))) (Kd.R_lt (by (with_reducible repeat (first|apply Kd.R_alloc|apply Kd.R_drewN|apply Kd.R_drew));exact HO_9.out))) (Kd.R_lt (by (with_reducible repeat (first|apply Kd.R_alloc|apply Kd.R_drewN|apply Kd.R_drew));exact HO384.out))) (Kd.R_lt (by (with_reducible repeat (first|apply Kd.R_alloc|apply Kd.R_drewN|apply Kd.R_drew));exact HO387.out))) (Kd.R_lt (by (with_reducible repeat (first|apply Kd.R_alloc|apply Kd.R_drewN|apply Kd.R_drew));exact HO391.out))) (below_size (by repeat (first|(with_reducible first|exact HB.out|apply below_alloc|apply pw_below_drewN|apply below_drew1|refine below_set ?_ GE352.out)|exact HB.out))))
        have n8_ := Aside0.mk (blk_below (g := gb352) (o := .cells #[.int .u64 a0_0,.int .i64 a0_1,.int .i64 a0_2,.slice A0_3 l0_3.length c0_3,.int .u64 a0_4,.int .u64 a0_5,.slice A0_6 l0_6.length c0_6] 28 (0,0)) (by (with_reducible repeat (first|refine blk_drewN ?_ _|refine blk_drew ?_|refine blk_alloc ?_ _));exact BK352.out) hb)
        have n9_ := Aside0.mk (below_step (by repeat (first|(with_reducible first|exact HB.out|apply below_alloc|apply pw_below_drewN|apply below_drew1|refine below_set ?_ GE352.out)|exact HB.out)) hb)
        clear HO_6
        clear HO_7
        clear HO_8
        clear HO_9
        clear HO384
        clear HO387
        clear HO391
        clear BK352
        clear HB
        have HO_6 := n0_
        have HO_7 := n1_
        have HO_8 := n2_
        have HO_9 := n3_
        have HO384 := n4_
        have HO387 := n5_
        have HO391 := n6_
        have HO394 := n7_
        have BK352 := n8_
        have HB := n9_
        clear n0_ n1_ n2_ n3_ n4_ n5_ n6_ n7_ n8_ n9_
        (try clear hb)
        (try clear hb2)
        (try clear hk)
        (try clear hi)
        (try clear ho0)
        obtain ⟨Ao55,co55,eo55⟩ := Kd.R_slice HO391.out
        (first|subst eo55|(injection eo55 with f1_ f2_ f3_;have f4_ := f1_.symm;have f5_ := f3_.symm;clear f1_ f2_ f3_;subst f4_;subst f5_))
        obtain ⟨Ao56,co56,eo56⟩ := Kd.R_slice HO394.out
        (first|subst eo56|(injection eo56 with f1_ f2_ f3_;have f4_ := f1_.symm;have f5_ := f3_.symm;clear f1_ f2_ f3_;subst f4_;subst f5_))
        refine hK.out _ _ ⟨(blk_cell BK352.out 0).trans rfl,(blk_cell BK352.out 1).trans rfl,(blk_cell BK352.out 2).trans rfl,(blk_cell BK352.out 3).trans rfl,(blk_cell BK352.out 4).trans rfl,(blk_cell BK352.out 5).trans rfl,(blk_cell BK352.out 6).trans rfl⟩ (fun hHeld => ?_)
        clear hK K
        refine norm_ (a' := ?_) ?_ ?_
        rotate_left
        ·show Act.put _ (some 111) _ = _
         simp only [Act.put,List.setIfInBounds_toArray,List.set_cons_zero,List.set_cons_succ,i64_w,i32_w]
         rfl
        refine one_ (i := 16) (N := some 112) #[true,true,true,true,true,true,true,true,true,true,true,true,true,true,true,true,true,false,false,false,false,false] rfl rfl (one_of HT_.out (by kernel_rfl)) (by decide) (fun K hK => ?_)
        refine goes_ Try.func15 (by kernel_rfl) rfl #[.agg #[.int .u64 a0_0,.int .i64 a0_1,.int .i64 a0_2],.slice A0_3 l0_3.length c0_3,.int .u64 t388,.slice Ao55 t389.length co55,.slice Ao56 t392.length co56] (by rfl) rfl rfl (by (try simp only [List.map_toArray,List.map_cons,List.map_nil]);first|done|rfl|(simp only [List.length_drop,List.length_take];rfl)) ?_
        with_reducible refine (tapeshift_Sharing.calls kj9 a0_0 a0_1 a0_2 _ _ l0_3 t388 _ _ t389 _ _ t392 t395 t398 _ ?side1 ?side2 ?side3 ?side4 ?side5 ?side6 A42.out).mono ?_
        (case side1 => repeat (first|exact (Kd.C_below HR0_3.out HB.out)|(with_reducible refine Kd.C_alloc ?_ _)|(with_reducible refine Kd.C_drewN ?_ _)|(with_reducible refine Kd.C_drew ?_)))
        (case side2 => exact HC0_3.out)
        (case side3 => repeat (first|exact (Kd.R_reads' HO391.out).2.2|(with_reducible refine Kd.C_alloc ?_ _)|(with_reducible refine Kd.C_drewN ?_ _)|(with_reducible refine Kd.C_drew ?_)))
        (case side4 => exact (Kd.R_reads' HO391.out).2.1)
        (case side5 => repeat (first|exact (Kd.R_reads' HO394.out).2.2|(with_reducible refine Kd.C_alloc ?_ _)|(with_reducible refine Kd.C_drewN ?_ _)|(with_reducible refine Kd.C_drew ?_)))
        (case side6 => exact (Kd.R_reads' HO394.out).2.1)
        rintro e w57 ⟨v396,v399,rfl,ho0,ho1,hb⟩
        refine ⟨_,rfl,?_⟩
        have n0_ := Aside0.mk (Kd.R_mono (Kd.R_told (Kd.R_told (Kd.R_old (by (with_reducible repeat (first|apply Kd.R_alloc|apply Kd.R_drewN|apply Kd.R_drew));exact HO_6.out) hb) (Kd.R_base ho0)) (Kd.R_base ho1)) (fun _ h_ => h_.1))
        have n1_ := Aside0.mk (Kd.R_mono (Kd.R_told (Kd.R_told (Kd.R_old (by (with_reducible repeat (first|apply Kd.R_alloc|apply Kd.R_drewN|apply Kd.R_drew));exact HO_7.out) hb) (Kd.R_base ho0)) (Kd.R_base ho1)) (fun _ h_ => h_.1))
        have n2_ := Aside0.mk (Kd.R_mono (Kd.R_told (Kd.R_told (Kd.R_old (by (with_reducible repeat (first|apply Kd.R_alloc|apply Kd.R_drewN|apply Kd.R_drew));exact HO_8.out) hb) (Kd.R_base ho0)) (Kd.R_base ho1)) (fun _ h_ => h_.1))
        have n3_ := Aside0.mk (Kd.R_mono (Kd.R_told (Kd.R_told (Kd.R_old (by (with_reducible repeat (first|apply Kd.R_alloc|apply Kd.R_drewN|apply Kd.R_drew));exact HO_9.out) hb) (Kd.R_base ho0)) (Kd.R_base ho1)) (fun _ h_ => h_.1))
        have n4_ := Aside0.mk (Kd.R_mono (Kd.R_told (Kd.R_told (Kd.R_old (by (with_reducible repeat (first|apply Kd.R_alloc|apply Kd.R_drewN|apply Kd.R_drew));exact HO384.out) hb) (Kd.R_base ho0)) (Kd.R_base ho1)) (fun _ h_ => h_.1))
        have n5_ := Aside0.mk (Kd.R_mono (Kd.R_told (Kd.R_told (Kd.R_old (by (with_reducible repeat (first|apply Kd.R_alloc|apply Kd.R_drewN|apply Kd.R_drew));exact HO387.out) hb) (Kd.R_base ho0)) (Kd.R_base ho1)) (fun _ h_ => h_.1))
        have n6_ := Aside0.mk (Kd.R_mono (Kd.R_told (Kd.R_told (Kd.R_old (by (with_reducible repeat (first|apply Kd.R_alloc|apply Kd.R_drewN|apply Kd.R_drew));exact HO391.out) hb) (Kd.R_base ho0)) (Kd.R_base ho1)) (fun _ h_ => h_.1))
        have n7_ := Aside0.mk (Kd.R_mono (Kd.R_told (Kd.R_told (Kd.R_old (by (with_reducible repeat (first|apply Kd.R_alloc|apply Kd.R_drewN|apply Kd.R_drew));exact HO394.out) hb) (Kd.R_base ho0)) (Kd.R_base ho1)) (fun _ h_ => h_.1))
        have n8_ := Aside0.mk (Kd.R_lower (Kd.R_new' (Kd.R_new' (Kd.R_new' (Kd.R_new' (Kd.R_new' (Kd.R_new' (Kd.R_new' (Kd.R_new' ho0 (Kd.R_lt (by (with_reducible repeat (first|apply Kd.R_alloc|apply Kd.R_drewN|apply Kd.R_drew));exact HO_6.out))) (Kd.R_lt (by (with_reducible repeat (first|apply Kd.R_alloc|apply Kd.R_drewN|apply Kd.R_drew));exact HO_7.out))) (Kd.R_lt (by (with_reducible repeat (first|apply Kd.R_alloc|apply Kd.R_drewN|apply Kd.R_drew));exact HO_8.out))) (Kd.R_lt (by (with_reducible repeat (first|apply Kd.R_alloc|apply Kd.R_drewN|apply Kd.R_drew));exact HO_9.out))) (Kd.R_lt (by (with_reducible repeat (first|apply Kd.R_alloc|apply Kd.R_drewN|apply Kd.R_drew));exact HO384.out))) (Kd.R_lt (by (with_reducible repeat (first|apply Kd.R_alloc|apply Kd.R_drewN|apply Kd.R_drew));exact HO387.out))) (Kd.R_lt (by (with_reducible repeat (first|apply Kd.R_alloc|apply Kd.R_drewN|apply Kd.R_drew));exact HO391.out))) (Kd.R_lt (by (with_reducible repeat (first|apply Kd.R_alloc|apply Kd.R_drewN|apply Kd.R_drew));exact HO394.out))) (below_size (by repeat (first|(with_reducible first|exact HB.out|apply below_alloc|apply pw_below_drewN|apply below_drew1|refine below_set ?_ GE352.out)|exact HB.out))))
        have n9_ := Aside0.mk (Kd.R_lower (Kd.R_new' (Kd.R_new' (Kd.R_new' (Kd.R_new' (Kd.R_new' (Kd.R_new' (Kd.R_new' (Kd.R_new' ho1 (Kd.R_lt (by (with_reducible repeat (first|apply Kd.R_alloc|apply Kd.R_drewN|apply Kd.R_drew));exact HO_6.out))) (Kd.R_lt (by (with_reducible repeat (first|apply Kd.R_alloc|apply Kd.R_drewN|apply Kd.R_drew));exact HO_7.out))) (Kd.R_lt (by (with_reducible repeat (first|apply Kd.R_alloc|apply Kd.R_drewN|apply Kd.R_drew));exact HO_8.out))) (Kd.R_lt (by (with_reducible repeat (first|apply Kd.R_alloc|apply Kd.R_drewN|apply Kd.R_drew));exact HO_9.out))) (Kd.R_lt (by (with_reducible repeat (first|apply Kd.R_alloc|apply Kd.R_drewN|apply Kd.R_drew));exact HO384.out))) (Kd.R_lt (by (with_reducible repeat (first|apply Kd.R_alloc|apply Kd.R_drewN|apply Kd.R_drew));exact HO387.out))) (Kd.R_lt (by (with_reducible repeat (first|apply Kd.R_alloc|apply Kd.R_drewN|apply Kd.R_drew));exact HO391.out))) (Kd.R_lt (by (with_reducible repeat (first|apply Kd.R_alloc|apply Kd.R_drewN|apply Kd.R_drew));exact HO394.out))) (below_size (by repeat (first|(with_reducible first|exact HB.out|apply below_alloc|apply pw_below_drewN|apply below_drew1|refine below_set ?_ GE352.out)|exact HB.out))))
        have n10_ := Aside0.mk (blk_below (g := gb352) (o := .cells #[.int .u64 a0_0,.int .i64 a0_1,.int .i64 a0_2,.slice A0_3 l0_3.length c0_3,.int .u64 a0_4,.int .u64 a0_5,.slice A0_6 l0_6.length c0_6] 28 (0,0)) (by (with_reducible repeat (first|refine blk_drewN ?_ _|refine blk_drew ?_|refine blk_alloc ?_ _));exact BK352.out) hb)
        have n11_ := Aside0.mk (below_step (by repeat (first|(with_reducible first|exact HB.out|apply below_alloc|apply pw_below_drewN|apply below_drew1|refine below_set ?_ GE352.out)|exact HB.out)) hb)
        clear HO_6
        clear HO_7
        clear HO_8
        clear HO_9
        clear HO384
        clear HO387
        clear HO391
        clear HO394
        clear BK352
        clear HB
        have HO_6 := n0_
        have HO_7 := n1_
        have HO_8 := n2_
        have HO_9 := n3_
        have HO384 := n4_
        have HO387 := n5_
        have HO391 := n6_
        have HO394 := n7_
        have HO397 := n8_
        have HO400 := n9_
        have BK352 := n10_
        have HB := n11_
        clear n0_ n1_ n2_ n3_ n4_ n5_ n6_ n7_ n8_ n9_ n10_ n11_
        (try clear hb)
        (try clear hb2)
        (try clear hk)
        (try clear hi)
        (try clear ho0)
        (try clear ho1)
        refine hK.out _ _ ⟨(blk_cell BK352.out 0).trans rfl,(blk_cell BK352.out 1).trans rfl,(blk_cell BK352.out 2).trans rfl,(blk_cell BK352.out 3).trans rfl,(blk_cell BK352.out 4).trans rfl,(blk_cell BK352.out 5).trans rfl,(blk_cell BK352.out 6).trans rfl⟩ (fun hHeld => ?_)
        clear hK K
        refine norm_ (a' := ?_) ?_ ?_
        rotate_left
        ·show Act.put _ (some 112) _ = _
         simp only [Act.put,List.setIfInBounds_toArray,List.set_cons_zero,List.set_cons_succ,i64_w,i32_w]
         rfl
        refine pure_ (i := 17) (N := some 95) (v := ?_) (a' := ?_) #[true,true,true,true,true,true,true,true,true,true,true,true,true,true,true,true,true,true,false,false,false,false] rfl rfl (any_of HT_.out (by kernel_rfl)) (fun _ _ _ h => h) (Or.inl ⟨by rfl,?_⟩) ?_ ?_
        rotate_left
        ·intro w'
         go_simp
         with_reducible rfl
        rotate_left
        ·simp only [Act.put,List.setIfInBounds_toArray,List.set_cons_zero,List.set_cons_succ,i64_w,i32_w]
         rfl
        refine pure_ (i := 18) (N := some 113) (v := ?_) (a' := ?_) #[true,true,true,true,true,true,true,true,true,true,true,true,true,true,true,true,true,true,true,false,false,false] rfl rfl (any_of HT_.out (by kernel_rfl)) (fun _ _ _ h => h) (Or.inl ⟨by rfl,?_⟩) ?_ ?_
        rotate_left
        ·intro w'
         go_simp
         with_reducible rfl
        rotate_left
        ·simp only [Act.put,List.setIfInBounds_toArray,List.set_cons_zero,List.set_cons_succ,i64_w,i32_w]
         rfl
        refine pure_ (i := 19) (N := some 114) (v := ?_) (a' := ?_) #[true,true,true,true,true,true,true,true,true,true,true,true,true,true,true,true,true,true,true,true,false,false] rfl rfl (any_of HT_.out (by kernel_rfl)) (fun _ _ _ h => h) (Or.inl ⟨by rfl,?_⟩) ?_ ?_
        rotate_left
        ·intro w'
         go_simp
         with_reducible rfl
        rotate_left
        ·simp only [Act.put,List.setIfInBounds_toArray,List.set_cons_zero,List.set_cons_succ,i64_w,i32_w]
         rfl
        refine pure_ (i := 20) (N := some 16) (v := ?_) (a' := ?_) #[true,true,true,true,true,true,true,true,true,true,true,true,true,true,true,true,true,true,true,true,true,false] rfl rfl (any_of HT_.out (by kernel_rfl)) (fun _ _ _ h => h) (Or.inl ⟨by rfl,?_⟩) ?_ ?_
        rotate_left
        ·intro w'
         go_simp
         with_reducible rfl
        rotate_left
        ·simp only [Act.put,List.setIfInBounds_toArray,List.set_cons_zero,List.set_cons_succ,i64_w,i32_w]
         rfl
        refine pure_ (i := 21) (N := some 17) (v := ?_) (a' := ?_) #[true,true,true,true,true,true,true,true,true,true,true,true,true,true,true,true,true,true,true,true,true,true] rfl rfl (any_of HT_.out (by kernel_rfl)) (fun _ _ _ h => h) (Or.inl ⟨by rfl,?_⟩) ?_ ?_
        rotate_left
        ·intro w'
         go_simp
         with_reducible rfl
        rotate_left
        ·simp only [Act.put,List.setIfInBounds_toArray,List.set_cons_zero,List.set_cons_succ,i64_w,i32_w]
         rfl
        refine done_ (done_of HT_.out (by kernel_rfl)) ?_
        try go_wp2_with (first|((with_reducible refine gate_callee (f := 13) rfl ?_);refine goesL_ (some 115) rfl rfl Try.func13 (by kernel_rfl) rfl #[] rfl (by (try simp only [List.map_toArray,List.map_cons,List.map_nil]);first|done|rfl|(simp only [List.length_drop,List.length_take];rfl)) ?_;(with_reducible refine (privitylaw43_awake.calls kj9  true _ A43.out).mono ?_);rintro e w58 ⟨rfl,hb⟩;refine ⟨_,rfl,?_⟩;have n0_ := Aside0.mk (Kd.R_below (by (with_reducible repeat (first|apply Kd.R_alloc|apply Kd.R_drewN|apply Kd.R_drew));exact HO_6.out) hb);have n1_ := Aside0.mk (Kd.R_below (by (with_reducible repeat (first|apply Kd.R_alloc|apply Kd.R_drewN|apply Kd.R_drew));exact HO_7.out) hb);have n2_ := Aside0.mk (Kd.R_below (by (with_reducible repeat (first|apply Kd.R_alloc|apply Kd.R_drewN|apply Kd.R_drew));exact HO_8.out) hb);have n3_ := Aside0.mk (Kd.R_below (by (with_reducible repeat (first|apply Kd.R_alloc|apply Kd.R_drewN|apply Kd.R_drew));exact HO_9.out) hb);have n4_ := Aside0.mk (Kd.R_below (by (with_reducible repeat (first|apply Kd.R_alloc|apply Kd.R_drewN|apply Kd.R_drew));exact HO384.out) hb);have n5_ := Aside0.mk (Kd.R_below (by (with_reducible repeat (first|apply Kd.R_alloc|apply Kd.R_drewN|apply Kd.R_drew));exact HO387.out) hb);have n6_ := Aside0.mk (Kd.R_below (by (with_reducible repeat (first|apply Kd.R_alloc|apply Kd.R_drewN|apply Kd.R_drew));exact HO391.out) hb);have n7_ := Aside0.mk (Kd.R_below (by (with_reducible repeat (first|apply Kd.R_alloc|apply Kd.R_drewN|apply Kd.R_drew));exact HO394.out) hb);have n8_ := Aside0.mk (Kd.R_below (by (with_reducible repeat (first|apply Kd.R_alloc|apply Kd.R_drewN|apply Kd.R_drew));exact HO397.out) hb);have n9_ := Aside0.mk (Kd.R_below (by (with_reducible repeat (first|apply Kd.R_alloc|apply Kd.R_drewN|apply Kd.R_drew));exact HO400.out) hb);have n10_ := Aside0.mk (blk_below (g := gb352) (o := .cells #[.int .u64 a0_0,.int .i64 a0_1,.int .i64 a0_2,.slice A0_3 l0_3.length c0_3,.int .u64 a0_4,.int .u64 a0_5,.slice A0_6 l0_6.length c0_6] 28 (0,0)) (by (with_reducible repeat (first|refine blk_drewN ?_ _|refine blk_drew ?_|refine blk_alloc ?_ _));exact BK352.out) hb);have n11_ := Aside0.mk (below_step (by repeat (first|(with_reducible first|exact HB.out|apply below_alloc|apply pw_below_drewN|apply below_drew1|refine below_set ?_ GE352.out)|exact HB.out)) hb);clear HO_6;clear HO_7;clear HO_8;clear HO_9;clear HO384;clear HO387;clear HO391;clear HO394;clear HO397;clear HO400;clear BK352;clear HB;have HO_6 := n0_;have HO_7 := n1_;have HO_8 := n2_;have HO_9 := n3_;have HO384 := n4_;have HO387 := n5_;have HO391 := n6_;have HO394 := n7_;have HO397 := n8_;have HO400 := n9_;have BK352 := n10_;have HB := n11_;clear n0_ n1_ n2_ n3_ n4_ n5_ n6_ n7_ n8_ n9_ n10_ n11_;(try clear hb);(try clear hb2);(try clear hk);(try clear hi);obtain ⟨Ao59,co59,eo59⟩ := Kd.R_slice HO384.out;subst eo59)|(go_at_call 20;(with_reducible refine (privitylaw43_sum.calls kj9 a0_0 _ _ t361 _ _ t382 t402 _ ?side1 ?side2 ?side3 ?side4 A45.out).mono ?_);(case side1 => repeat (first|exact (Kd.R_reads' HO_8.out).2.2|(with_reducible refine Kd.C_alloc ?_ _)|(with_reducible refine Kd.C_drewN ?_ _)|(with_reducible refine Kd.C_drew ?_)));(case side2 => exact (Kd.R_reads' HO_8.out).2.1);(case side3 => repeat (first|exact (Kd.R_reads' HO384.out).2.2|(with_reducible refine Kd.C_alloc ?_ _)|(with_reducible refine Kd.C_drewN ?_ _)|(with_reducible refine Kd.C_drew ?_)));(case side4 => exact (Kd.R_reads' HO384.out).2.1);rintro e w60 ⟨v403,rfl,ho0,hb⟩;have n0_ := Aside0.mk (Kd.R_elder' (by (with_reducible repeat (first|apply Kd.R_alloc|apply Kd.R_drewN|apply Kd.R_drew));exact HO_6.out) (Kd.R_base ho0) hb);have n1_ := Aside0.mk (Kd.R_elder' (by (with_reducible repeat (first|apply Kd.R_alloc|apply Kd.R_drewN|apply Kd.R_drew));exact HO_7.out) (Kd.R_base ho0) hb);have n2_ := Aside0.mk (Kd.R_elder' (by (with_reducible repeat (first|apply Kd.R_alloc|apply Kd.R_drewN|apply Kd.R_drew));exact HO_8.out) (Kd.R_base ho0) hb);have n3_ := Aside0.mk (Kd.R_elder' (by (with_reducible repeat (first|apply Kd.R_alloc|apply Kd.R_drewN|apply Kd.R_drew));exact HO_9.out) (Kd.R_base ho0) hb);have n4_ := Aside0.mk (Kd.R_elder' (by (with_reducible repeat (first|apply Kd.R_alloc|apply Kd.R_drewN|apply Kd.R_drew));exact HO384.out) (Kd.R_base ho0) hb);have n5_ := Aside0.mk (Kd.R_elder' (by (with_reducible repeat (first|apply Kd.R_alloc|apply Kd.R_drewN|apply Kd.R_drew));exact HO387.out) (Kd.R_base ho0) hb);have n6_ := Aside0.mk (Kd.R_elder' (by (with_reducible repeat (first|apply Kd.R_alloc|apply Kd.R_drewN|apply Kd.R_drew));exact HO391.out) (Kd.R_base ho0) hb);have n7_ := Aside0.mk (Kd.R_elder' (by (with_reducible repeat (first|apply Kd.R_alloc|apply Kd.R_drewN|apply Kd.R_drew));exact HO394.out) (Kd.R_base ho0) hb);have n8_ := Aside0.mk (Kd.R_elder' (by (with_reducible repeat (first|apply Kd.R_alloc|apply Kd.R_drewN|apply Kd.R_drew));exact HO397.out) (Kd.R_base ho0) hb);have n9_ := Aside0.mk (Kd.R_elder' (by (with_reducible repeat (first|apply Kd.R_alloc|apply Kd.R_drewN|apply Kd.R_drew));exact HO400.out) (Kd.R_base ho0) hb);have n10_ := Aside0.mk (Kd.R_lower (Kd.R_new' (Kd.R_new' (Kd.R_new' (Kd.R_new' (Kd.R_new' (Kd.R_new' (Kd.R_new' (Kd.R_new' (Kd.R_new' (Kd.R_new' ho0 (Kd.R_lt (by (with_reducible repeat (first|apply Kd.R_alloc|apply Kd.R_drewN|apply Kd.R_drew));exact HO_6.out))) (Kd.R_lt (by (with_reducible repeat (first|apply Kd.R_alloc|apply Kd.R_drewN|apply Kd.R_drew));exact HO_7.out))) (Kd.R_lt (by (with_reducible repeat (first|apply Kd.R_alloc|apply Kd.R_drewN|apply Kd.R_drew));exact HO_8.out))) (Kd.R_lt (by (with_reducible repeat (first|apply Kd.R_alloc|apply Kd.R_drewN|apply Kd.R_drew));exact HO_9.out))) (Kd.R_lt (by (with_reducible repeat (first|apply Kd.R_alloc|apply Kd.R_drewN|apply Kd.R_drew));exact HO384.out))) (Kd.R_lt (by (with_reducible repeat (first|apply Kd.R_alloc|apply Kd.R_drewN|apply Kd.R_drew));exact HO387.out))) (Kd.R_lt (by (with_reducible repeat (first|apply Kd.R_alloc|apply Kd.R_drewN|apply Kd.R_drew));exact HO391.out))) (Kd.R_lt (by (with_reducible repeat (first|apply Kd.R_alloc|apply Kd.R_drewN|apply Kd.R_drew));exact HO394.out))) (Kd.R_lt (by (with_reducible repeat (first|apply Kd.R_alloc|apply Kd.R_drewN|apply Kd.R_drew));exact HO397.out))) (Kd.R_lt (by (with_reducible repeat (first|apply Kd.R_alloc|apply Kd.R_drewN|apply Kd.R_drew));exact HO400.out))) (below_size (by repeat (first|(with_reducible first|exact HB.out|apply below_alloc|apply pw_below_drewN|apply below_drew1|refine below_set ?_ GE352.out)|exact HB.out))));have n11_ := Aside0.mk (blk_below (g := gb352) (o := .cells #[.int .u64 a0_0,.int .i64 a0_1,.int .i64 a0_2,.slice A0_3 l0_3.length c0_3,.int .u64 a0_4,.int .u64 a0_5,.slice A0_6 l0_6.length c0_6] 28 (0,0)) (by (with_reducible repeat (first|refine blk_drewN ?_ _|refine blk_drew ?_|refine blk_alloc ?_ _));exact BK352.out) hb);have n12_ := Aside0.mk (below_step (by repeat (first|(with_reducible first|exact HB.out|apply below_alloc|apply pw_below_drewN|apply below_drew1|refine below_set ?_ GE352.out)|exact HB.out)) hb);clear HO_6;clear HO_7;clear HO_8;clear HO_9;clear HO384;clear HO387;clear HO391;clear HO394;clear HO397;clear HO400;clear BK352;clear HB;have HO_6 := n0_;have HO_7 := n1_;have HO_8 := n2_;have HO_9 := n3_;have HO384 := n4_;have HO387 := n5_;have HO391 := n6_;have HO394 := n7_;have HO397 := n8_;have HO400 := n9_;have HO404 := n10_;have BK352 := n11_;have HB := n12_;clear n0_ n1_ n2_ n3_ n4_ n5_ n6_ n7_ n8_ n9_ n10_ n11_ n12_;(try clear hb);(try clear hb2);(try clear hk);(try clear hi);(try clear ho0);obtain ⟨Ao61,co61,eo61⟩ := Kd.R_slice HO397.out;subst eo61;obtain ⟨Ao62,co62,eo62⟩ := Kd.R_slice HO404.out;subst eo62)|(go_at_call 18;(with_reducible refine (privityref14_Words.calls kj9 _ _ t395 _ _ t402 true _ ?side1 ?side2 ?side3 ?side4 A46.out).mono ?_);(case side1 => repeat (first|exact (Kd.R_reads' HO397.out).2.2|(with_reducible refine Kd.C_alloc ?_ _)|(with_reducible refine Kd.C_drewN ?_ _)|(with_reducible refine Kd.C_drew ?_)));(case side2 => exact (Kd.R_reads' HO397.out).2.1);(case side3 => repeat (first|exact (Kd.R_reads' HO404.out).2.2|(with_reducible refine Kd.C_alloc ?_ _)|(with_reducible refine Kd.C_drewN ?_ _)|(with_reducible refine Kd.C_drew ?_)));(case side4 => exact (Kd.R_reads' HO404.out).2.1);rintro e w' ⟨rfl,⟨nd,rfl⟩⟩;obtain ⟨Ao63,co63,eo63⟩ := Kd.R_slice HO387.out;subst eo63)|(go_at_call 20;(with_reducible refine (privitylaw43_sum.calls kj9 a0_0 _ _ t364 _ _ t385 t406 _ ?side1 ?side2 ?side3 ?side4 A48.out).mono ?_);(case side1 => repeat (first|exact (Kd.R_reads' HO_9.out).2.2|(with_reducible refine Kd.C_alloc ?_ _)|(with_reducible refine Kd.C_drewN ?_ _)|(with_reducible refine Kd.C_drew ?_)));(case side2 => exact (Kd.R_reads' HO_9.out).2.1);(case side3 => repeat (first|exact (Kd.R_reads' HO387.out).2.2|(with_reducible refine Kd.C_alloc ?_ _)|(with_reducible refine Kd.C_drewN ?_ _)|(with_reducible refine Kd.C_drew ?_)));(case side4 => exact (Kd.R_reads' HO387.out).2.1);rintro e w64 ⟨v407,rfl,ho0,hb⟩;have n0_ := Aside0.mk (Kd.R_elder' (by (with_reducible repeat (first|apply Kd.R_alloc|apply Kd.R_drewN|apply Kd.R_drew));exact HO_6.out) (Kd.R_base ho0) hb);have n1_ := Aside0.mk (Kd.R_elder' (by (with_reducible repeat (first|apply Kd.R_alloc|apply Kd.R_drewN|apply Kd.R_drew));exact HO_7.out) (Kd.R_base ho0) hb);have n2_ := Aside0.mk (Kd.R_elder' (by (with_reducible repeat (first|apply Kd.R_alloc|apply Kd.R_drewN|apply Kd.R_drew));exact HO_8.out) (Kd.R_base ho0) hb);have n3_ := Aside0.mk (Kd.R_elder' (by (with_reducible repeat (first|apply Kd.R_alloc|apply Kd.R_drewN|apply Kd.R_drew));exact HO_9.out) (Kd.R_base ho0) hb);have n4_ := Aside0.mk (Kd.R_elder' (by (with_reducible repeat (first|apply Kd.R_alloc|apply Kd.R_drewN|apply Kd.R_drew));exact HO384.out) (Kd.R_base ho0) hb);have n5_ := Aside0.mk (Kd.R_elder' (by (with_reducible repeat (first|apply Kd.R_alloc|apply Kd.R_drewN|apply Kd.R_drew));exact HO387.out) (Kd.R_base ho0) hb);have n6_ := Aside0.mk (Kd.R_elder' (by (with_reducible repeat (first|apply Kd.R_alloc|apply Kd.R_drewN|apply Kd.R_drew));exact HO391.out) (Kd.R_base ho0) hb);have n7_ := Aside0.mk (Kd.R_elder' (by (with_reducible repeat (first|apply Kd.R_alloc|apply Kd.R_drewN|apply Kd.R_drew));exact HO394.out) (Kd.R_base ho0) hb);have n8_ := Aside0.mk (Kd.R_elder' (by (with_reducible repeat (first|apply Kd.R_alloc|apply Kd.R_drewN|apply Kd.R_drew));exact HO397.out) (Kd.R_base ho0) hb);have n9_ := Aside0.mk (Kd.R_elder' (by (with_reducible repeat (first|apply Kd.R_alloc|apply Kd.R_drewN|apply Kd.R_drew));exact HO400.out) (Kd.R_base ho0) hb);have n10_ := Aside0.mk (Kd.R_elder' (by (with_reducible repeat (first|apply Kd.R_alloc|apply Kd.R_drewN|apply Kd.R_drew));exact HO404.out) (Kd.R_base ho0) hb);have n11_ := Aside0.mk (Kd.R_lower (Kd.R_new' (Kd.R_new' (Kd.R_new' (Kd.R_new' (Kd.R_new' (Kd.R_new' (Kd.R_new' (Kd.R_new' (Kd.R_new' (Kd.R_new' (Kd.R_new' ho0 (Kd.R_lt (by (with_reducible repeat (first|apply Kd.R_alloc|apply Kd.R_drewN|apply Kd.R_drew));exact HO_6.out))) (Kd.R_lt (by (with_reducible repeat (first|apply Kd.R_alloc|apply Kd.R_drewN|apply Kd.R_drew));exact HO_7.out))) (Kd.R_lt (by (with_reducible repeat (first|apply Kd.R_alloc|apply Kd.R_drewN|apply Kd.R_drew));exact HO_8.out))) (Kd.R_lt (by (with_reducible repeat (first|apply Kd.R_alloc|apply Kd.R_drewN|apply Kd.R_drew));exact HO_9.out))) (Kd.R_lt (by (with_reducible repeat (first|apply Kd.R_alloc|apply Kd.R_drewN|apply Kd.R_drew));exact HO384.out))) (Kd.R_lt (by (with_reducible repeat (first|apply Kd.R_alloc|apply Kd.R_drewN|apply Kd.R_drew));exact HO387.out))) (Kd.R_lt (by (with_reducible repeat (first|apply Kd.R_alloc|apply Kd.R_drewN|apply Kd.R_drew));exact HO391.out))) (Kd.R_lt (by (with_reducible repeat (first|apply Kd.R_alloc|apply Kd.R_drewN|apply Kd.R_drew));exact HO394.out))) (Kd.R_lt (by (with_reducible repeat (first|apply Kd.R_alloc|apply Kd.R_drewN|apply Kd.R_drew));exact HO397.out))) (Kd.R_lt (by (with_reducible repeat (first|apply Kd.R_alloc|apply Kd.R_drewN|apply Kd.R_drew));exact HO400.out))) (Kd.R_lt (by (with_reducible repeat (first|apply Kd.R_alloc|apply Kd.R_drewN|apply Kd.R_drew));exact HO404.out))) (below_size (by repeat (first|(with_reducible first|exact HB.out|apply below_alloc|apply pw_below_drewN|apply below_drew1|refine below_set ?_ GE352.out)|exact HB.out))));have n12_ := Aside0.mk (blk_below (g := gb352) (o := .cells #[.int .u64 a0_0,.int .i64 a0_1,.int .i64 a0_2,.slice A0_3 l0_3.length c0_3,.int .u64 a0_4,.int .u64 a0_5,.slice A0_6 l0_6.length c0_6] 28 (0,0)) (by (with_reducible repeat (first|refine blk_drewN ?_ _|refine blk_drew ?_|refine blk_alloc ?_ _));exact BK352.out) hb);have n13_ := Aside0.mk (below_step (by repeat (first|(with_reducible first|exact HB.out|apply below_alloc|apply pw_below_drewN|apply below_drew1|refine below_set ?_ GE352.out)|exact HB.out)) hb);clear HO_6;clear HO_7;clear HO_8;clear HO_9;clear HO384;clear HO387;clear HO391;clear HO394;clear HO397;clear HO400;clear HO404;clear BK352;clear HB;have HO_6 := n0_;have HO_7 := n1_;have HO_8 := n2_;have HO_9 := n3_;have HO384 := n4_;have HO387 := n5_;have HO391 := n6_;have HO394 := n7_;have HO397 := n8_;have HO400 := n9_;have HO404 := n10_;have HO408 := n11_;have BK352 := n12_;have HB := n13_;clear n0_ n1_ n2_ n3_ n4_ n5_ n6_ n7_ n8_ n9_ n10_ n11_ n12_ n13_;(try clear hb);(try clear hb2);(try clear hk);(try clear hi);(try clear ho0);obtain ⟨Ao65,co65,eo65⟩ := Kd.R_slice HO400.out;subst eo65;obtain ⟨Ao66,co66,eo66⟩ := Kd.R_slice HO408.out;subst eo66)|(go_at_call 18;(with_reducible refine (privityref14_Words.calls kj9 _ _ t398 _ _ t406 t409 _ ?side1 ?side2 ?side3 ?side4 A49.out).mono ?_);(case side1 => repeat (first|exact (Kd.R_reads' HO400.out).2.2|(with_reducible refine Kd.C_alloc ?_ _)|(with_reducible refine Kd.C_drewN ?_ _)|(with_reducible refine Kd.C_drew ?_)));(case side2 => exact (Kd.R_reads' HO400.out).2.1);(case side3 => repeat (first|exact (Kd.R_reads' HO408.out).2.2|(with_reducible refine Kd.C_alloc ?_ _)|(with_reducible refine Kd.C_drewN ?_ _)|(with_reducible refine Kd.C_drew ?_)));(case side4 => exact (Kd.R_reads' HO408.out).2.1);rintro e w' ⟨rfl,⟨nd,rfl⟩⟩))
        go_ret
        exact ⟨by first|rfl|(simp [errW_none,errW_some] <;> rfl)|(simp [*,errW_none,errW_some] <;> rfl),by repeat (first|(with_reducible first|exact HB.out|apply below_alloc|apply pw_below_drewN|apply below_drew1|refine below_set ?_ GE352.out)|exact HB.out)⟩
       ·replace c47 := Bool.eq_false_iff.mpr c47
        subst c47
        have H1 : (some false) = some r := by rw [if_neg (show ¬ (false = true) by decide)] at H;exact H
        clear H
        have H := H1
        clear H1
        exact absurd (Option.some.inj H) (by rw [HRT_.out];simp)
      ·replace c44 := Bool.eq_false_iff.mpr c44
       subst c44
       have H1 : (some false) = some r := by rw [if_neg (show ¬ (false = true) by decide)] at H;exact H
       clear H
       have H := H1
       clear H1
       exact absurd (Option.some.inj H) (by rw [HRT_.out];simp)
 ·replace c3 := Bool.eq_false_iff.mpr c3
  subst c3
  have H1 : ((privitylaw43_awake.f k).bind fun t354 => (some t354)) = some r := by rw [if_neg (show ¬ (false = true) by decide)] at H;exact H
  clear H
  have H := H1
  clear H1
  replace H := Option.bind_eq_some_iff.mp H
  obtain ⟨t354,A890,H⟩ := H
  replace H : (some t354) = some r := H
  have A89 := Aside0.mk A890
  clear A890
  obtain rfl := Option.some.inj H
  go_enter Try.func4,Try.ntmps4
  go_wp2_with (first|((with_reducible refine gate_dst (N := 1) rfl ?_);refine box_event ?hg (N := 1) ?hd (cs := #[.int .u64 a0_0,.int .i64 a0_1,.int .i64 a0_2,.slice A0_3 l0_3.length c0_3,.int .u64 a0_4,.int .u64 a0_5,.slice A0_6 l0_6.length c0_6]) (t := 28) ?hr ?_;(case hd => rfl);(case hg => rfl);(case hr => first|(go_simp;done)|(go_simp;rfl));intro gb352 hg w90 hbox hb;have n0_ := Aside0.mk (below_step (by repeat (first|(with_reducible first|exact HB.out|apply below_alloc|apply pw_below_drewN|apply below_drew1)|exact HB.out)) hb);have n1_ := Aside0.mk (hbox);have n2_ := Aside0.mk ((by rw [hg];exact (below_size (by repeat (first|(with_reducible first|exact HB.out|apply below_alloc|apply pw_below_drewN|apply below_drew1)|exact HB.out))) : w.heap.size ≤ gb352));have n3_ := Aside0.mk ((by rw [hg];exact (below_size (by repeat (first|(with_reducible first|exact HB.out|apply below_alloc|apply pw_below_drewN|apply below_drew1)|exact HB.out))) : w.heap.size ≤ gb352));clear HB;have HB := n0_;have BK352 := n1_;have GW352 := n2_;have GE352 := n3_;clear n0_ n1_ n2_ n3_;clear hb hbox hg;have hcz91_0 : w90.cell? ⟨gb352,0,none⟩ = some (.int .u64 a0_0) := (blk_cell BK352.out 0).trans rfl;have hcz91_1 : w90.cell? ⟨gb352,1,none⟩ = some (.int .i64 a0_1) := (blk_cell BK352.out 1).trans rfl;have hcz91_2 : w90.cell? ⟨gb352,2,none⟩ = some (.int .i64 a0_2) := (blk_cell BK352.out 2).trans rfl;have hcz91_3 : w90.cell? ⟨gb352,3,none⟩ = some (.slice A0_3 l0_3.length c0_3) := (blk_cell BK352.out 3).trans rfl;have hcz91_4 : w90.cell? ⟨gb352,4,none⟩ = some (.int .u64 a0_4) := (blk_cell BK352.out 4).trans rfl;have hcz91_5 : w90.cell? ⟨gb352,5,none⟩ = some (.int .u64 a0_5) := (blk_cell BK352.out 5).trans rfl;have hcz91_6 : w90.cell? ⟨gb352,6,none⟩ = some (.slice A0_6 l0_6.length c0_6) := (blk_cell BK352.out 6).trans rfl;have hfz91_0 := blk_frozen BK352.out 0;have hfz91_1 := blk_frozen BK352.out 1;have hfz91_2 := blk_frozen BK352.out 2;have hfz91_3 := blk_frozen BK352.out 3;have hfz91_4 := blk_frozen BK352.out 4;have hfz91_5 := blk_frozen BK352.out 5;have hfz91_6 := blk_frozen BK352.out 6)|((with_reducible refine gate_callee (f := 12) rfl ?_);refine goesL_ (some 19) rfl rfl Try.func12 (by kernel_rfl) rfl #[.agg #[.int .u64 a0_0,.int .i64 a0_1,.int .i64 a0_2,.slice A0_3 l0_3.length c0_3,.int .u64 a0_4,.int .u64 a0_5,.slice A0_6 l0_6.length c0_6]] rfl (by (try simp only [List.map_toArray,List.map_cons,List.map_nil]);first|done|rfl|(simp only [List.length_drop,List.length_take];rfl)) ?_;(with_reducible refine (privitylaw43_may.calls k a0_0 a0_1 a0_2 _ _ l0_3 a0_4 a0_5 _ _ l0_6 false _ ?side1 ?side2 ?side3 ?side4 A2.out).mono ?_);(case side1 => repeat (first|exact (Kd.C_below HR0_3.out HB.out)|(with_reducible refine Kd.C_alloc ?_ _)|(with_reducible refine Kd.C_drewN ?_ _)|(with_reducible refine Kd.C_drew ?_)));(case side2 => exact HC0_3.out);(case side3 => repeat (first|exact (Kd.C_below HR0_6.out HB.out)|(with_reducible refine Kd.C_alloc ?_ _)|(with_reducible refine Kd.C_drewN ?_ _)|(with_reducible refine Kd.C_drew ?_)));(case side4 => exact HC0_6.out);rintro e w92 ⟨rfl,hb⟩;refine ⟨_,rfl,?_⟩;have n0_ := Aside0.mk (blk_below (g := gb352) (o := .cells #[.int .u64 a0_0,.int .i64 a0_1,.int .i64 a0_2,.slice A0_3 l0_3.length c0_3,.int .u64 a0_4,.int .u64 a0_5,.slice A0_6 l0_6.length c0_6] 28 (0,0)) (by (with_reducible repeat (first|refine blk_drewN ?_ _|refine blk_drew ?_|refine blk_alloc ?_ _));exact BK352.out) hb);have n1_ := Aside0.mk (below_step (by repeat (first|(with_reducible first|exact HB.out|apply below_alloc|apply pw_below_drewN|apply below_drew1|refine below_set ?_ GE352.out)|exact HB.out)) hb);clear BK352;clear HB;have BK352 := n0_;have HB := n1_;clear n0_ n1_;(try clear hb);(try clear hb2);(try clear hk);(try clear hi))|((with_reducible refine gate_callee (f := 13) rfl ?_);refine goesL_ (some 21) rfl rfl Try.func13 (by kernel_rfl) rfl #[] rfl (by (try simp only [List.map_toArray,List.map_cons,List.map_nil]);first|done|rfl|(simp only [List.length_drop,List.length_take];rfl)) ?_;(with_reducible refine (privitylaw43_awake.calls k  t354 _ A89.out).mono ?_);rintro e w93 ⟨rfl,hb⟩;refine ⟨_,rfl,?_⟩;have n0_ := Aside0.mk (blk_below (g := gb352) (o := .cells #[.int .u64 a0_0,.int .i64 a0_1,.int .i64 a0_2,.slice A0_3 l0_3.length c0_3,.int .u64 a0_4,.int .u64 a0_5,.slice A0_6 l0_6.length c0_6] 28 (0,0)) (by (with_reducible repeat (first|refine blk_drewN ?_ _|refine blk_drew ?_|refine blk_alloc ?_ _));exact BK352.out) hb);have n1_ := Aside0.mk (below_step (by repeat (first|(with_reducible first|exact HB.out|apply below_alloc|apply pw_below_drewN|apply below_drew1|refine below_set ?_ GE352.out)|exact HB.out)) hb);clear BK352;clear HB;have BK352 := n0_;have HB := n1_;clear n0_ n1_;(try clear hb);(try clear hb2);(try clear hk);(try clear hi)))
  go_ret
  exact ⟨by first|rfl|(simp [errW_none,errW_some] <;> rfl)|(simp [*,errW_none,errW_some] <;> rfl),by repeat (first|(with_reducible first|exact HB.out|apply below_alloc|apply pw_below_drewN|apply below_drew1|refine below_set ?_ GE352.out)|exact HB.out)⟩
end Go.Proofs.Ytejeelpnmdfibaa.Pr
end
section
/-
  What the statements of chapter 43 share: valid coalitions, the words of a sharing, the vanishing polynomial, the shift of a sharing.
-/
namespace Go.Proofs.Ytejeelpnmdfibaa.E
open Go.RowKit Go.Proofs.Ytejeelpnmdfibaa.Pr Go.Proofs.Ytejeelpnmdfibaa.Hw Go.Proofs.Ytejeelpnmdfibaa.Pl Go.Proofs.YtejeelpnmdfibaaW.PrintWords Go.Proofs.YtejeelpnmdfibaaW.PrintLast Go.Proofs.YtejeelpnmdfibaaW.PrintMore
set_option linter.unusedVariables false
set_option linter.unusedSimpArgs false

/-- A loop that asks one thing of each index. -/
theorem allQ {F : Nat → Int → Option Bool} {n : Nat} {Q : Nat → Prop} [DecidablePred Q] {e : Bool} (hend : Ev (fun k => F k (n : Int)) e) (hyes : ∀ i, i < n → Q i → ∀ r, Ev (fun k => F k ((i + 1 : Nat) : Int)) r → Ev (fun k => F k (i : Int)) r)
    (hno : ∀ i, i < n → ¬ Q i → Ev (fun k => F k (i : Int)) false) (r : Bool) (hr : r = true ↔ ((∀ i, i < n → Q i) ∧ e = true)) : Ev (fun k => F k ((0 : Nat) : Int)) r := by
  by_cases hall : ∀ i, i < n → Q i
  · have : r = e := by
      cases e with
      | true => exact hr.2 ⟨hall, rfl⟩
      | false => exact Bool.eq_false_iff.mpr fun h => by have := (hr.1 h).2; cases this
    rw [this]
    exact up (Q := fun i => Ev (fun k => F k (i : Int)) e) (n := n) hend fun i hi h => hyes i hi (hall i hi) e h
  · have hf : r = false := Bool.eq_false_iff.mpr fun h => hall (hr.1 h).1
    rw [hf]
    obtain ⟨i, hi, hq⟩ : ∃ i, i < n ∧ ¬ Q i := Classical.byContradiction fun h => hall fun i hi => Classical.byContradiction fun hq => h ⟨i, hi, hq⟩
    refine up (Q := fun i => Ev (fun k => F k (i : Int)) false) (n := i) (hno i hi hq) fun j hj h => ?_
    by_cases hqj : Q j
    · exact hyes j (by omega) hqj false h
    · exact hno j (by omega) hqj
theorem words_ev (a b : List Int) (ha : a.length ≤ 1000000000) : Ev (fun k => privityref14_Words.f k a b) (decide (a = b)) := by
  by_cases hl : a.length = b.length
  · have h := allQ (F := fun k i => privityref14_Words.l0 k a b i) (n := a.length) (Q := fun i => a.getD i 0 = b.getD i 0) (e := true) ?_ (fun i hi hq r h => ?_) (fun i hi hq => ?_) (decide (a = b)) ?_
    · refine h.congr fun k => ?_
      unfold privityref14_Words.f
      rw [if_pos (by omega)]; rfl
    · refine Ev.step (fun k => ?_) (Ev.now _)
      simp only [privityref14_Words.l0]
      rw [if_neg (by omega)]
    · refine Ev.step (fun k => ?_) h
      simp only [privityref14_Words.l0]
      rw [if_pos (by omega), if_pos (by omega), if_pos (by omega), rd_nat, rd_nat, if_pos hq, wnat (by omega)]
    · refine Ev.step (fun k => ?_) (Ev.now _)
      simp only [privityref14_Words.l0]
      rw [if_pos (by omega), if_pos (by omega), if_pos (by omega), rd_nat, rd_nat, if_neg hq]
    · rw [decide_eq_true_iff]
      refine ⟨fun e => ⟨fun i _ => by rw [e], rfl⟩, fun h => list_ext_getD hl fun i => ?_⟩
      by_cases hi : i < a.length
      · exact h.1 i hi
      · rw [getD_out a i (by omega), getD_out b i (by omega)]
  · have : decide (a = b) = false := decide_eq_false fun e => hl (by rw [e])
    rw [this]
    refine Ev.congr (fun k => ?_) (Ev.now _)
    unfold privityref14_Words.f
    rw [if_neg (by omega)]
/-! Valid parameters and coalitions. -/
def val12B (p N T : Int) : Bool := supB p && decide (4 ≤ N ∧ N ≤ 13 ∧ N < p ∧ 1 ≤ T ∧ T < N ∧ 3 * T < N)
theorem val12_ev (p N T : Int) : Ev (fun k => privityref12_Valid.f k p N T) (val12B p N T) := by
  unfold privityref12_Valid.f
  refine ev_if (supported_ev p) (fun h => ?_) (fun h => ?_)
  · unfold val12B
    rw [h, Bool.true_and]
    refine Ev.congr (fun k => ?_) (Ev.now _)
    by_cases h1 : 4 ≤ N
    · rw [if_pos h1]
      by_cases h2 : N ≤ 13
      · rw [if_pos h2, wrapU_id (by omega) (by omega)]
        by_cases h3 : N < p
        · rw [if_pos h3]
          by_cases h4 : 1 ≤ T
          · rw [if_pos h4]
            by_cases h5 : T < N
            · rw [if_pos h5, w64' (by omega) (by omega)]
              by_cases h6 : 3 * T < N
              · rw [decide_eq_true h6, decide_eq_true ⟨h1, h2, h3, h4, h5, h6⟩]
              · rw [decide_eq_false h6, decide_eq_false fun h => h6 h.2.2.2.2.2]
            · rw [if_neg h5, decide_eq_false fun h => h5 h.2.2.2.2.1]
          · rw [if_neg h4, decide_eq_false fun h => h4 h.2.2.2.1]
        · rw [if_neg h3, decide_eq_false fun h => h3 h.2.2.1]
      · rw [if_neg h2, decide_eq_false fun h => h2 h.2.1]
    · rw [if_neg h1, decide_eq_false fun h => h1 h.1]
  · have : val12B p N T = false := by unfold val12B; rw [h]; rfl
    rw [this]; exact Ev.now _
/-- Increasing numbers of parties. -/
def IncAt (N : Int) (l : List Int) (i : Nat) : Prop := 1 ≤ l.getD i 0 ∧ l.getD i 0 ≤ N ∧ (i = 0 ∨ l.getD (i - 1) 0 < l.getD i 0)
instance (N : Int) (l : List Int) : DecidablePred (IncAt N l) := fun i => by unfold IncAt; infer_instance
def incB (N : Int) (l : List Int) : Bool := decide (∀ i, i < l.length → IncAt N l i)
def coaB (p N T : Int) (l : List Int) : Bool := val12B p N T && (decide ((l.length : Int) ≤ T) && incB N l)
theorem coa12_ev (p N T : Int) (l : List Int) : Ev (fun k => privityref12_ValidCoalition.f k p N T l) (coaB p N T l) := by
  unfold privityref12_ValidCoalition.f
  have hno : ∀ r, r = false → Ev (fun k => privityref12_ValidCoalition.j0 k l true p N T) r := fun r hr => by
    subst hr
    refine Ev.step (fun k => ?_) (Ev.now _)
    simp only [privityref12_ValidCoalition.j0]
    rw [if_pos trivial]
  refine ev_if (val12_ev p N T) (fun h => ?_) (fun h => hno _ (by unfold coaB; rw [h]; rfl))
  unfold coaB
  rw [h, Bool.true_and]
  unfold val12B at h
  rw [Bool.and_eq_true, decide_eq_true_eq] at h
  obtain ⟨_, a1, a2, a3, a4, a5, a6⟩ := h
  by_cases hl : (l.length : Int) > T
  · rw [decide_eq_true hl]
    exact hno _ (by rw [decide_eq_false (by omega)]; rfl)
  · rw [decide_eq_false hl, decide_eq_true (by omega), Bool.true_and]
    refine Ev.step (f := fun k => privityref12_ValidCoalition.l0 k l ((0 : Nat) : Int) p N T) (fun k => ?_) ?_
    · simp only [privityref12_ValidCoalition.j0]
      rw [if_neg (by simp)]; rfl
    · refine allQ (F := fun k i => privityref12_ValidCoalition.l0 k l i p N T) (n := l.length) (Q := IncAt N l) (e := true) ?_ (fun i hi hq r h => ?_) (fun i hi hq => ?_) (incB N l) (by unfold incB; rw [decide_eq_true_iff]; exact ⟨fun h => ⟨h, rfl⟩, fun h => h.1⟩)
      · refine Ev.step (fun k => ?_) (Ev.now _)
        simp only [privityref12_ValidCoalition.l0]
        rw [if_neg (by omega)]
      · obtain ⟨q1, q2, q3⟩ := hq
        refine Ev.step (fun k => ?_) h
        simp only [privityref12_ValidCoalition.l0]
        rw [if_pos (by omega), if_pos (by omega), rd_nat, if_neg (by omega), if_neg (by omega), wnat (by omega)]
        by_cases h0 : i = 0
        · rw [if_neg (by omega)]
        · rw [if_pos (by omega), w64' (n := (i : Int) - 1) (by omega) (by omega), if_pos (by omega), if_pos (by omega), show (i : Int) - 1 = ((i - 1 : Nat) : Int) from by omega, rd_nat, if_neg (by have := q3.resolve_left h0; omega)]
      · refine Ev.step (fun k => ?_) (Ev.now _)
        simp only [privityref12_ValidCoalition.l0]
        rw [if_pos (by omega), if_pos (by omega), rd_nat]
        by_cases q1 : l.getD i 0 < 1
        · rw [if_pos q1]
        · rw [if_neg q1]
          by_cases q2 : l.getD i 0 > N
          · rw [if_pos q2]
          · have h0 : i ≠ 0 := fun e => hq ⟨by omega, by omega, .inl e⟩
            rw [if_neg q2, if_pos (by omega), w64' (n := (i : Int) - 1) (by omega) (by omega), if_pos (by omega), if_pos (by omega), show (i : Int) - 1 = ((i - 1 : Nat) : Int) from by omega, rd_nat, if_pos (Int.not_lt.1 fun h => hq ⟨by omega, by omega, .inr h⟩)]
def mayB (p N T : Int) (l : List Int) : Bool := val12B p N T && (decide (N ≤ 7) && coaB p N T l)
theorem may_ev (p N T : Int) (l : List Int) (da db : Int) (w : List Int) : Ev (fun k => privitylaw43_may.f k p N T l da db w) (mayB p N T l) := by
  unfold privitylaw43_may.f
  refine ev_if (val12_ev p N T) (fun h => ?_) (fun h => by unfold mayB; rw [h]; exact Ev.now _)
  unfold mayB
  rw [h, Bool.true_and]
  refine ev_ite (fun h7 => ?_) (fun h7 => by rw [decide_eq_false h7]; exact Ev.now _)
  rw [decide_eq_true h7, Bool.true_and]
  exact Ev.bind (coa12_ev p N T l) (Ev.now _)
theorem inc_lt {N : Int} {l : List Int} (h : ∀ i, i < l.length → IncAt N l i) (i : Nat) : ∀ d, i + d + 1 < l.length → l.getD i 0 < l.getD (i + d + 1) 0
  | 0, hd => by
    have := (h (i + 1) hd).2.2.resolve_left (by omega)
    rwa [Nat.add_sub_cancel] at this
  | d + 1, hd => by
    have h1 := inc_lt h i d (by omega)
    have h2 := (h (i + d + 1 + 1) hd).2.2.resolve_left (by omega)
    rw [Nat.add_sub_cancel] at h2
    have : i + (d + 1) + 1 = i + d + 1 + 1 := by omega
    rw [this]; omega
/-- Valid parameters and a valid coalition. -/
structure Ok12 (p N T : Int) (bad : List Int) : Prop where
  hp : Supp p
  np : N < p
  coa : CoaB N T bad
theorem ok12 {p N T : Int} {l : List Int} (h : coaB p N T l = true) : Ok12 p N T l := by
  unfold coaB val12B incB at h
  rw [Bool.and_eq_true, Bool.and_eq_true, Bool.and_eq_true, decide_eq_true_eq, decide_eq_true_eq, decide_eq_true_eq] at h
  obtain ⟨⟨h1, a1, a2, a3, a4, a5, a6⟩, h2, h3⟩ := h
  have hin : ∀ x ∈ l, ∃ i, i < l.length ∧ l.getD i 0 = x := fun x hx => by
    obtain ⟨i, hi, rfl⟩ := List.getElem_of_mem hx
    exact ⟨i, hi, Hw.getD_in _ _ hi⟩
  refine ⟨supB_of h1, a3, ⟨a1, a2, a4, a6, h2, ?_, fun x hx => ?_⟩⟩
  · rw [List.nodup_iff_pairwise_ne]
    refine List.pairwise_iff_getElem.2 fun i j hi hj hij e => ?_
    have := inc_lt h3 i (j - i - 1) (by omega)
    rw [show i + (j - i - 1) + 1 = j from by omega, Hw.getD_in _ _ hi, Hw.getD_in _ _ hj, e] at this
    omega
  · obtain ⟨i, hi, rfl⟩ := hin x hx
    have := h3 i hi
    exact ⟨this.1, this.2.1⟩
structure OkM (p N T : Int) (bad : List Int) : Prop where
  ok : Ok12 p N T bad
  n7 : N ≤ 7
theorem okM {p N T : Int} {l : List Int} (h : mayB p N T l = true) : OkM p N T l := by
  unfold mayB at h
  rw [Bool.and_eq_true, Bool.and_eq_true, decide_eq_true_eq] at h
  exact ⟨ok12 h.2.2, h.2.1⟩
theorem OkM.t {p N T : Int} {bad : List Int} (h : OkM p N T bad) : T = 1 ∨ T = 2 := by
  have h1 := h.ok.coa.t0
  have h2 := h.ok.coa.t1
  have h3 := h.n7
  omega
/-! The words. -/
def cutL (p : Int) (w : List Int) (m n : Nat) : List Int := tabL n fun i => if m + i < w.length then w.getD (m + i) 0 % p else 0
theorem cutL_length (p : Int) (w : List Int) (m n : Nat) : (cutL p w m n).length = n := tabL_length _ _
theorem cutL_res {p : Int} (hp : Supp p) (w : List Int) (m n : Nat) : ∀ x ∈ cutL p w m n, Res p x := tabL_res fun i _ => by
  split
  · exact Res.mod hp _
  · have := hp.bd; exact ⟨Int.le_refl 0, by omega⟩
theorem cut_ev {p : Int} (hp : Supp p) (N T : Int) (bad : List Int) (da db : Int) {w : List Int} (hw : ∀ x ∈ w, 0 ≤ x) (m n : Nat) (hm : m ≤ 1000) (hn : n ≤ 1000) : Ev (fun k => privitylaw43_cut.f k p N T bad da db w (m : Int) (n : Int)) (cutL p w m n) := by
  have hb := hp.bd
  unfold privitylaw43_cut.f
  have hs : wrap64 ((m : Int) + (n : Int)) = ((m + n : Nat) : Int) := by rw [w64' (by omega) (by omega)]; omega
  have h := up (Q := fun i => Ev (fun k => privitylaw43_cut.l0 k (m : Int) (n : Int) (cutL p w m i) ((m + i : Nat) : Int) p N T bad da db w) (cutL p w m n)) (n := n) ?_ fun i hi h => ?_
  · exact h
  · refine Ev.step (fun k => ?_) (Ev.now _)
    simp only [privitylaw43_cut.l0]
    rw [hs, if_neg (by omega)]
  · have e : cutL p w m (i + 1) = cutL p w m i ++ [if m + i < w.length then w.getD (m + i) 0 % p else 0] := tabL_succ _ _
    rw [e] at h
    refine Ev.step (fun k => ?_) h
    simp only [privitylaw43_cut.l0]
    rw [hs, if_pos (by omega), wnat (by omega), cutL_length]
    by_cases hlt : m + i < w.length
    · have h0 : 0 ≤ w.getD (m + i) 0 := by rw [Hw.getD_in _ _ hlt]; exact hw _ (List.getElem_mem _)
      rw [if_pos hlt, if_pos (by omega), if_pos (by omega), if_neg (by omega), if_pos (by omega), rd_nat, tmod_pos h0]; rfl
    · rw [if_neg hlt, if_neg (by omega), if_pos (by omega)]; rfl
def qL (p T : Int) (w : List Int) : List Int := cutL p w 0 (T.toNat + 1)
def rL (p T : Int) (w : List Int) : List Int := cutL p w (T.toNat + 1) (T.toNat * (T.toNat + 1) / 2)
theorem one_ev {p : Int} (hp : Supp p) (N : Int) {T : Int} (hT : T = 1 ∨ T = 2) (bad : List Int) (da db : Int) {w : List Int} (hw : ∀ x ∈ w, 0 ≤ x) : Ev (fun k => privitylaw43_one.f k p N T bad da db w) (qL p T w, rL p T w) := by
  unfold privitylaw43_one.f
  rcases hT with rfl | rfl
  · have h1 := cut_ev hp N 1 bad da db hw 0 2 (by omega) (by omega)
    have h2 := cut_ev hp N 1 bad da db hw 2 1 (by omega) (by omega)
    have a1 : wrap64 ((1 : Int) + 1) = 2 := by unfold wrap64; omega
    have a2 : wrap64 ((1 : Int) * 2) = 2 := by unfold wrap64; omega
    have a3 : wrap64 (Int.tdiv 2 2) = 1 := by kernel_rfl
    rw [a1, a2, a3]
    exact Ev.bind h1 (Ev.bind h2 (Ev.now _))
  · have h1 := cut_ev hp N 2 bad da db hw 0 3 (by omega) (by omega)
    have h2 := cut_ev hp N 2 bad da db hw 3 3 (by omega) (by omega)
    have a1 : wrap64 ((2 : Int) + 1) = 3 := by unfold wrap64; omega
    have a2 : wrap64 ((2 : Int) * 3) = 6 := by unfold wrap64; omega
    have a3 : wrap64 (Int.tdiv 6 2) = 3 := by kernel_rfl
    rw [a1, a2, a3]
    exact Ev.bind h1 (Ev.bind h2 (Ev.now _))
/-! The vanishing polynomial. -/
theorem Ok12.van {p N T : Int} {bad : List Int} (h : Ok12 p N T bad) : VanOk p (extB N T bad) :=
  ⟨fun x hx => by have := extB_range h.coa x hx; have := h.np; exact ⟨by omega, by omega⟩, fun x hx => by have := extB_range h.coa x hx; omega, extB_nodup h.coa⟩
def vanZ (p N T : Int) (bad : List Int) : List Int := polL p (vanP (extB N T bad))
theorem vanZ_length {p N T : Int} {bad : List Int} (h : Ok12 p N T bad) : ((vanZ p N T bad).length : Int) = T + 1 := by
  unfold vanZ
  rw [van_len h.hp h.van]
  have := extB_length h.coa
  omega
theorem vanpol_ev {p N T : Int} {bad : List Int} (h : Ok12 p N T bad) : Ev (fun k => params_VanishingPolynomial.f k p N T bad) (vanZ p N T bad) := by
  have hp := h.hp
  have hc := h.coa
  have hn0 := hc.n0
  have hn1 := hc.n1
  have hlen := hc.len
  have ht := hc.t1
  have hel := extB_length hc
  have hext : params_ExtendCoalition.f p N T bad = some (extB N T bad) := by
    unfold params_ExtendCoalition.f
    rw [if_pos (by omega), if_pos (by omega), if_pos (by omega), if_pos]
    · rfl
    · refine List.all_eq_true.2 fun x hx => ?_
      have := hc.rng x hx
      rw [Bool.and_eq_true, decide_eq_true_eq, decide_eq_true_eq]; omega
  unfold params_VanishingPolynomial.f
  obtain ⟨e, he⟩ : ∃ e, e = extB N T bad := ⟨_, rfl⟩
  have hv := h.van
  have hr := extB_range hc
  unfold vanZ
  rw [← he] at hext hel hv hr ⊢
  refine ev_now_bind hext ?_
  have hmain := up (Q := fun i => Ev (fun k => params_VanishingPolynomial.l0 k (vanP (e.take i)) e (e.length : Int) (i : Int) p N T) (polL p (vanP e))) (n := e.length) ?_ fun i hi h => ?_
  · exact hmain
  · rw [List.take_length]
    refine Ev.step (f := fun k => (interpolate_Polynomial.f p (vanP e)).bind fun bt => some bt.1) (fun k => ?_) ?_
    · simp only [params_VanishingPolynomial.l0]
      rw [if_neg (by omega)]
    · refine ev_now_bind (ipol_eq hp (vanP_ok hp hv) (by rw [vanP_length]; omega)) ?_
      rw [if_pos (vanP_nd hp hv)]
      exact Ev.now _
  · have e1 : vanP (e.take (i + 1)) = vanP (e.take i) ++ [⟨e.getD i 0, 0⟩] := by
      have e2 : e.take (i + 1) = e.take i ++ [e.getD i 0] := by
        rw [List.take_add_one, List.getElem?_eq_getElem hi, Hw.getD_in _ _ hi]; rfl
      unfold vanP
      rw [e2, List.map_append]; rfl
    rw [e1] at h
    have hx := hr (e.getD i 0) (by rw [Hw.getD_in _ _ hi]; exact List.getElem_mem _)
    refine Ev.step (fun k => ?_) h
    simp only [params_VanishingPolynomial.l0]
    rw [if_pos (by omega), if_pos (by omega), if_pos (by omega), if_pos (by rw [vanP_length, List.length_take]; omega), rd_nat, wrapU_id (by omega) (by omega), wnat (by omega)]
/-! The shift. -/
def byL (p : Int) (z : List Int) (d : Int) (l : List Int) : List Int := tabL l.length fun j => (l.getD j 0 + d * z.getD j 0 % p) % p
theorem byL_length (p : Int) (z : List Int) (d : Int) (l : List Int) : (byL p z d l).length = l.length := tabL_length _ _
theorem byL_res {p : Int} (hp : Supp p) (z : List Int) (d : Int) (l : List Int) : ∀ x ∈ byL p z d l, Res p x := tabL_res fun _ _ => Res.mod hp _
def byS (p : Int) (z : List Int) (d : Int) (l : List Int) (i : Nat) : List Int := tabL l.length fun j => if j < i then (l.getD j 0 + d * z.getD j 0 % p) % p else l.getD j 0
theorem byS_next (p : Int) (z : List Int) (d : Int) (l : List Int) (i : Nat) (hi : i < l.length) : (byS p z d l i).set i ((l.getD i 0 + d * z.getD i 0 % p) % p) = byS p z d l (i + 1) := by
  refine list_ext_getD (by rw [List.length_set]; unfold byS; rw [tabL_length, tabL_length]) fun j => ?_
  have hl : (byS p z d l i).length = l.length := tabL_length _ _
  by_cases e : j = i
  · subst e
    unfold byS
    rw [List.getD_eq_getElem?_getD, List.getElem?_set_self (by rw [tabL_length]; exact hi), tabL_getD, if_pos hi, if_pos (Nat.lt_succ_self _)]
    rfl
  · rw [List.getD_eq_getElem?_getD, List.getElem?_set_ne (Ne.symm e), ← List.getD_eq_getElem?_getD]
    unfold byS
    rw [tabL_getD, tabL_getD]
    by_cases hj : j < l.length
    · rw [if_pos hj, if_pos hj]
      by_cases h1 : j < i
      · rw [if_pos h1, if_pos (by omega)]
      · rw [if_neg h1, if_neg (by omega)]
    · rw [if_neg hj, if_neg hj]
theorem by_ev {p : Int} (hp : Supp p) (T : Int) {z l : List Int} (hz : ∀ x ∈ z, Res p x) (hl : ∀ x ∈ l, Res p x) (hzl : l.length ≤ z.length) (hll : l.length ≤ 1000) {d : Int} (hd : Res p d) : Ev (fun k => tapeshift_mover_by.f k p T z d l) (byL p z d l) := by
  unfold tapeshift_mover_by.f
  have hcl : slices_Clone_uint64_uint64.f l = some l := by unfold slices_Clone_uint64_uint64.f; rw [if_pos (by omega)]
  refine ev_now_bind hcl ?_
  have e0 : byS p z d l 0 = l := by
    unfold byS
    refine (tabL_congr fun j hj => ?_).trans (tabL_of l)
    rw [if_neg (by omega)]
  have e1 : byS p z d l l.length = byL p z d l := tabL_congr fun j hj => by rw [if_pos hj]
  have h := up (Q := fun i => Ev (fun k => tapeshift_mover_by.l0 k d (byS p z d l i) (l.length : Int) (i : Int) p T z) (byL p z d l)) (n := l.length) ?_ fun i hi h => ?_
  · rw [e0] at h; exact h
  · rw [e1]
    refine Ev.step (fun k => ?_) (Ev.now _)
    simp only [tapeshift_mover_by.l0]
    rw [if_neg (by omega)]
  · have hbl : (byS p z d l i).length = l.length := tabL_length _ _
    have hbi : (byS p z d l i).getD i 0 = l.getD i 0 := by unfold byS; rw [tabL_getD, if_pos hi, if_neg (Nat.lt_irrefl _)]
    rw [← byS_next p z d l i hi] at h
    refine Ev.step (f := fun k => (field_Mul.f k p d (z.getD i 0)).bind fun t => (field_Add.f k p (l.getD i 0) t).bind fun t2 => tapeshift_mover_by.l0 k d ((byS p z d l i).set i t2) (l.length : Int) ((i + 1 : Nat) : Int) p T z) (fun k => ?_) (Ev.bind (mul_ev hp hd (res_getD hp hz i)) (Ev.bind (add_ev hp (res_getD hp hl i) (Res.mod hp _)) h))
    simp only [tapeshift_mover_by.l0]
    rw [if_pos (by omega), if_pos (by omega), if_pos (by omega), if_pos (by omega), rd_nat, rd_nat, hbi, wnat (by omega), Int.toNat_natCast]
/-- The products z i * z j, 1 ≤ i ≤ j, in the order of the words. -/
def wL (p T : Int) (z : List Int) : List Int := if T = 1 then [z.getD 1 0 * z.getD 1 0 % p] else [z.getD 1 0 * z.getD 1 0 % p, z.getD 1 0 * z.getD 2 0 % p, z.getD 2 0 * z.getD 2 0 % p]
theorem wL1 (p : Int) (z : List Int) : wL p 1 z = [z.getD 1 0 * z.getD 1 0 % p] := if_pos rfl
theorem wL2 (p : Int) (z : List Int) : wL p 2 z = [z.getD 1 0 * z.getD 1 0 % p, z.getD 1 0 * z.getD 2 0 % p, z.getD 2 0 * z.getD 2 0 % p] := if_neg (by omega)
theorem mul3 (p d a b : Int) : d * a % p * b % p = d * (a * b % p) % p := by
  rw [mulm (a := d * a % p) (a' := d * a) (b := b) (b' := b) (Int.emod_emod_of_dvd _ (Int.dvd_refl _)) rfl, mulm (a := d) (a' := d) (b := a * b % p) (b' := a * b) rfl (Int.emod_emod_of_dvd _ (Int.dvd_refl _)), Int.mul_assoc]
theorem mov_by {p T d : Int} {z r : List Int} (hT : T = 1 ∨ T = 2) (hr : r.length = T.toNat * (T.toNat + 1) / 2) : movI p d T.toNat z r T.toNat 1 0 = byL p (wL p T z) d r := by
  rcases hT with rfl | rfl
  · have h1 : r.length = 1 := hr
    have e : byL p (wL p 1 z) d r = [(r.getD 0 0 + d * (z.getD 1 0 * z.getD 1 0 % p) % p) % p] := by
      unfold byL; rw [h1, wL1]; rfl
    rw [e, ← mul3]; rfl
  · have h1 : r.length = 3 := hr
    have e : byL p (wL p 2 z) d r = [(r.getD 0 0 + d * (z.getD 1 0 * z.getD 1 0 % p) % p) % p, (r.getD 1 0 + d * (z.getD 1 0 * z.getD 2 0 % p) % p) % p, (r.getD 2 0 + d * (z.getD 2 0 * z.getD 2 0 % p) % p) % p] := by
      unfold byL; rw [h1, wL2]; rfl
    rw [e, ← mul3, ← mul3, ← mul3]; rfl
theorem sharing_ev {p N T : Int} {bad : List Int} (h : OkM p N T bad) {d : Int} (hd : Res p d) {q r : List Int} (hq : ∀ x ∈ q, Res p x) (hr : ∀ x ∈ r, Res p x) (lq : q.length = T.toNat + 1) (lr : r.length = T.toNat * (T.toNat + 1) / 2) :
    Ev (fun k => tapeshift_Sharing.f k p N T bad d q r) (byL p (vanZ p N T bad) d q, byL p (wL p T (vanZ p N T bad)) d r) := by
  have hp := h.ok.hp
  have hT := h.t
  have hzl := vanZ_length h.ok
  have hzr : ∀ x ∈ vanZ p N T bad, Res p x := van_res hp h.ok.van
  have hm := mov_by (p := p) (d := d) (z := vanZ p N T bad) hT lr
  have hml : (movI p d T.toNat (vanZ p N T bad) r T.toNat 1 0).length = r.length := by rw [hm, byL_length]
  have h3 : r.length ≤ 3 := by rw [lr]; rcases hT with rfl | rfl <;> decide
  have hrest : tapeshift_mover_rest.f p T (vanZ p N T bad) d r = some (byL p (wL p T (vanZ p N T bad)) d r) := by
    unfold tapeshift_mover_rest.f
    rw [if_pos (supB_iff.2 hp), if_pos (by omega), if_pos (by omega), if_pos (resB_iff.2 hd), if_pos (ressB_iff.2 hzr), if_pos (by omega), if_pos (ressB_iff.2 hr), if_pos (by rw [hml]; exact Nat.le_refl _), if_pos (by omega), hm]
  unfold tapeshift_Sharing.f tapeshift_of.f
  refine Ev.bind (a := (p, T, vanZ p N T bad)) (f := fun k bt => (tapeshift_mover_by.f k bt.1 bt.2.1 bt.2.2 d q).bind fun t220 => ((tapeshift_mover_rest.f bt.1 bt.2.1 bt.2.2 d r).bind fun t223 => (some (t220, t223)))) (Ev.bind (f := fun _ t => some (p, T, t)) (vanpol_ev h.ok) (Ev.now _)) ?_
  exact Ev.bind (by_ev hp T hzr hq (by omega) (by omega) hd) (ev_now_bind hrest (Ev.now _))
theorem awake43 : Ev (fun k => privitylaw43_awake.f k) true := Ev.of (fun k => privitylaw43_awake.mono _) (k := 60) privitylaw43_awake.is
theorem awake43' : Ev (fun k => (privitylaw43_awake.f k).bind fun t => some t) true := Ev.bind awake43 (Ev.now _)
end Go.Proofs.Ytejeelpnmdfibaa.E
end
section
/-
  Shifting twice is shifting by the sum; the sum of two shifted sharings is the shifted sum.
-/
namespace Go.Proofs.Ytejeelpnmdfibaa.Pure
open Go.RowKit Go.Proofs.Ytejeelpnmdfibaa.Pr Go.Proofs.Ytejeelpnmdfibaa.Hw Go.Proofs.Ytejeelpnmdfibaa.E Go.Proofs.Ytejeelpnmdfibaa.Pl Go.Proofs.YtejeelpnmdfibaaW.PrintWords Go.Proofs.YtejeelpnmdfibaaW.PrintLast Go.Proofs.YtejeelpnmdfibaaW.PrintMore
set_option linter.unusedVariables false
set_option linter.unusedSimpArgs false

def sumL (p : Int) (a b : List Int) : List Int := tabL a.length fun i => (a.getD i 0 + b.getD i 0) % p
theorem sumL_length (p : Int) (a b : List Int) : (sumL p a b).length = a.length := tabL_length _ _
theorem sumL_res {p : Int} (hp : Supp p) (a b : List Int) : ∀ x ∈ sumL p a b, Res p x := tabL_res fun _ _ => Res.mod hp _
theorem sum_ev {p : Int} (hp : Supp p) {a b : List Int} (ha : ∀ x ∈ a, Res p x) (hb : ∀ x ∈ b, Res p x) (hl : a.length = b.length) (h3 : a.length ≤ 1000) : Ev (fun k => privitylaw43_sum.f k p a b) (sumL p a b) := by
  unfold privitylaw43_sum.f
  have h := up (Q := fun i => Ev (fun k => privitylaw43_sum.l0 k p a b (tabL i fun i => (a.getD i 0 + b.getD i 0) % p) (i : Int)) (sumL p a b)) (n := a.length) ?_ fun i hi h => ?_
  · exact h
  · refine Ev.step (fun k => ?_) (Ev.now _)
    simp only [privitylaw43_sum.l0]
    rw [if_neg (by omega)]; rfl
  · rw [tabL_succ] at h
    refine Ev.step (fun k => ?_) h
    simp only [privitylaw43_sum.l0]
    rw [if_pos (by omega), if_pos (by omega), if_pos (by omega), rd_nat, rd_nat, radd_eq hp (res_getD hp ha i) (res_getD hp hb i), wnat (by omega)]
    show (if _ then _ else _) = _
    rw [tabL_length, if_pos (by omega)]
theorem by_two {p : Int} (hp : Supp p) (z : List Int) (da db : Int) (q : List Int) : byL p z db (byL p z da q) = byL p z ((da + db) % p) q := by
  haveI := nz hp
  unfold byL
  rw [tabL_length]
  refine tabL_congr fun j hj => ?_
  rw [tabL_getD, if_pos hj]
  refine T_inj hp (Res.mod hp _) (Res.mod hp _) ?_
  simp only [T_mod hp, T_add, T_mul]
  grind
theorem by_sum {p : Int} (hp : Supp p) (z : List Int) (da db : Int) (q : List Int) : byL p z ((da + db) % p) (sumL p q q) = sumL p (byL p z da q) (byL p z db q) := by
  haveI := nz hp
  unfold byL sumL
  rw [tabL_length, tabL_length]
  refine tabL_congr fun j hj => ?_
  rw [tabL_getD, if_pos hj, tabL_getD, if_pos hj, tabL_getD, if_pos hj]
  refine T_inj hp (Res.mod hp _) (Res.mod hp _) ?_
  simp only [T_mod hp, T_add, T_mul]
  grind
theorem TapeshiftLinear (p N T : Int) (bad : List Int) (da db : Int) (w : List Int) (wp : (Lit.int .u64 p).wf = true) (wN : (Lit.int .i64 N).wf = true) (wT : (Lit.int .i64 T).wf = true) (wb : ∀ x_ ∈ bad, (Lit.int .i64 x_).wf = true) (wda : (Lit.int .u64 da).wf = true) (wdb : (Lit.int .u64 db).wf = true) (ww : ∀ x_ ∈ w, (Lit.int .u64 x_).wf = true) : ∃ k, privitylaw43_TapeshiftLinear.f k p N T bad da db w = some true := by
  refine Ev.rounds (r := true) ?_
  unfold privitylaw43_TapeshiftLinear.f
  refine ev_if (may_ev p N T bad da db w) (fun h => ?_) (fun _ => awake43')
  have hm := okM h
  have hp := hm.ok.hp
  have hb := hp.bd
  have hT := hm.t
  have hw : ∀ x ∈ w, 0 ≤ x := fun x hx => (wf64 (ww x hx)).1
  have rda := Res.mod hp da
  have rdb := Res.mod hp db
  have rs := Res.mod hp (da % p + db % p)
  have hq : ∀ x ∈ qL p T w, Res p x := cutL_res hp _ _ _
  have hr : ∀ x ∈ rL p T w, Res p x := cutL_res hp _ _ _
  have lq : (qL p T w).length = T.toNat + 1 := cutL_length _ _ _ _
  have lr : (rL p T w).length = T.toNat * (T.toNat + 1) / 2 := cutL_length _ _ _ _
  have l3 : T.toNat + 1 ≤ 3 ∧ T.toNat * (T.toNat + 1) / 2 ≤ 3 := by rcases hT with rfl | rfl <;> decide
  obtain ⟨q, eq⟩ : ∃ q, q = qL p T w := ⟨_, rfl⟩
  obtain ⟨r, er⟩ : ∃ r, r = rL p T w := ⟨_, rfl⟩
  have hone := one_ev hp N hT bad da db hw
  rw [← eq, ← er] at hone
  rw [← eq] at hq lq
  rw [← er] at hr lr
  obtain ⟨z, hz⟩ : ∃ z, z = vanZ p N T bad := ⟨_, rfl⟩
  obtain ⟨v, hv⟩ : ∃ v, v = wL p T (vanZ p N T bad) := ⟨_, rfl⟩
  have hsh : ∀ {d : Int}, Res p d → ∀ {a b : List Int}, (∀ x ∈ a, Res p x) → (∀ x ∈ b, Res p x) → a.length = q.length → b.length = r.length → Ev (fun k => tapeshift_Sharing.f k p N T bad d a b) (byL p z d a, byL p v d b) := fun hd _ _ ha hb la lb => by
    rw [hz, hv]; exact sharing_ev hm hd ha hb (by omega) (by omega)
  rw [tmod_pos (wf64 wda).1, tmod_pos (wf64 wdb).1]
  refine ev_ite (fun h0 => absurd h0 (by omega)) fun _ => ?_
  have s1 := hsh rda hq hr rfl rfl
  have s2 := hsh rdb (byL_res hp z (da % p) q) (byL_res hp v (da % p) r) (byL_length _ _ _ _) (byL_length _ _ _ _)
  have s3 := hsh rs hq hr rfl rfl
  have s4 := hsh rdb hq hr rfl rfl
  have s5 := hsh rs (sumL_res hp q q) (sumL_res hp r r) (sumL_length _ _ _) (sumL_length _ _ _)
  have w1 := words_ev (byL p z (db % p) (byL p z (da % p) q)) (byL p z ((da % p + db % p) % p) q) (by rw [byL_length, byL_length]; omega)
  have w2 := words_ev (byL p v (db % p) (byL p v (da % p) r)) (byL p v ((da % p + db % p) % p) r) (by rw [byL_length, byL_length]; omega)
  rw [decide_eq_true (by_two hp z (da % p) (db % p) q)] at w1
  rw [decide_eq_true (by_two hp v (da % p) (db % p) r)] at w2
  have m1 := sum_ev hp hq hq rfl (by omega)
  have m2 := sum_ev hp hr hr rfl (by omega)
  have m3 := sum_ev hp (byL_res hp z (da % p) q) (byL_res hp z (db % p) q) (by rw [byL_length, byL_length]) (by rw [byL_length]; omega)
  have m4 := sum_ev hp (byL_res hp v (da % p) r) (byL_res hp v (db % p) r) (by rw [byL_length, byL_length]) (by rw [byL_length]; omega)
  have w3 := words_ev (byL p z ((da % p + db % p) % p) (sumL p q q)) (sumL p (byL p z (da % p) q) (byL p z (db % p) q)) (by rw [byL_length, sumL_length]; omega)
  have w4 := words_ev (byL p v ((da % p + db % p) % p) (sumL p r r)) (sumL p (byL p v (da % p) r) (byL p v (db % p) r)) (by rw [byL_length, sumL_length]; omega)
  rw [decide_eq_true (by_sum hp z (da % p) (db % p) q)] at w3
  rw [decide_eq_true (by_sum hp v (da % p) (db % p) r)] at w4
  have ha := radd_eq hp rda rdb
  have hj : Ev (fun k => privitylaw43_TapeshiftLinear.j0 k p (da % p) (db % p) q r (byL p z (da % p) q) (byL p v (da % p) r) (!true) p N T bad da db w) true := by
    refine Ev.step (fun k => by simp only [privitylaw43_TapeshiftLinear.j0]; rw [if_neg (by simp)]) ?_
    refine Ev.bind s4 (ev_now_bind ha (Ev.bind m1 (Ev.bind m2 (Ev.bind s5 ?_))))
    exact ev_if awake43 (fun _ => Ev.bind m3 (ev_if w3 (fun _ => Ev.bind m4 (Ev.bind w4 (Ev.now _))) (fun h => by cases h))) (fun h => by cases h)
  refine Ev.bind hone (Ev.bind s1 (Ev.bind s2 (ev_now_bind ha (Ev.bind s3 ?_))))
  exact ev_if w1 (fun _ => Ev.bind w2 hj) (fun h => by cases h)
end Go.Proofs.Ytejeelpnmdfibaa.Pure
end
section
/-
  What came in, opened: numbers, bools, rows and structs of them, to any depth.
-/
namespace Go.Proofs.Ytejeelpnmdfibaa.Op
open Go.RowKit Go.Proofs.YtejeelpnmdfibaaW.PrintWords
set_option linter.unusedVariables false

/-- What is read of a type's value is a value of d, and Q holds of it. -/
def OpenK {α : Type} (P : Program) (t : TypeId) (d : Kd α) (Q : α → Prop) : Prop :=
  ∀ {H : Type} {enc : TypeId × Value → H} {w : World} {base : Nat} {sp : Nat → Bool} {hd : Bool} {fuel : Nat} {cs : List Value} {x : DataW H × List MemPlace}, DataW.trod enc P w base sp hd fuel t cs = some x → ∃ v : α, d.K w v cs ∧ Q v
theorem openInt {P : Program} {t : TypeId} {k : IntKind} (ht : P.underlying t = some (.int k)) : OpenK P t (Kd.int k) (fun n => (Lit.int k n).wf = true) := by
  intro H enc w base sp hd fuel cs x h
  obtain ⟨n, rfl, _, hw⟩ := DataW.trod_int ht h
  exact ⟨n, rfl, hw⟩
theorem exists_list {α : Type} {R : Nat → α → Prop} : ∀ (n : Nat), (∀ i, i < n → ∃ v, R i v) → ∃ l : List α, l.length = n ∧ ∀ i v, l[i]? = some v → R i v
  | 0, _ => ⟨[], rfl, fun i v h => by simp at h⟩
  | n + 1, h => by
    obtain ⟨l, hl, hr⟩ := exists_list n (fun i hi => h i (by omega))
    obtain ⟨v, hv⟩ := h n (by omega)
    refine ⟨l ++ [v], by simp [hl], fun i u hu => ?_⟩
    by_cases hi : i < n
    · rw [List.getElem?_append_left (by omega)] at hu
      exact hr i u hu
    · rw [List.getElem?_append_right (by omega)] at hu
      by_cases h0 : i - l.length = 0
      · rw [h0] at hu
        simp only [List.getElem?_cons_zero, Option.some.injEq] at hu
        rw [← hu, show i = n from by omega]; exact hv
      · rw [List.getElem?_eq_none (by simp; omega)] at hu; cases hu
theorem openSlice {α : Type} {P : Program} {t e : TypeId} {d : Kd α} {Q : α → Prop} (ht : P.underlying t = some (.slice e)) (hc : P.cellsOf e = d.sz) (he : OpenK P e d Q) : OpenK P t (Kd.slice e d) (fun l => ∀ x ∈ l, Q x) := by
  intro H enc w base sp hd fuel cs x h
  rcases DataW.trod_slice ht h with ⟨rfl, _⟩ | ⟨a, len, cap, elems, rest, n, _, rfl, _, _, hlc, hm, hlen, hel, _, _⟩
  · exact ⟨[], ⟨none, 0, rfl, Nat.le_refl _, rfl, Nat.zero_le _, fun h => absurd h (Nat.lt_irrefl 0)⟩, fun x hx => by cases hx⟩
  · have each : ∀ i, i < len → ∃ v, (∃ c, c.length = d.sz ∧ d.K w v c ∧ ∀ j u, c[j]? = some u → w.cell? (a.add (i * d.sz + j)) = some u) ∧ Q v := by
      intro i hi
      have h1 := hel i hi
      rw [List.getElem?_eq_getElem (by omega), hc] at h1
      obtain ⟨c, hcs, htr⟩ := Option.bind_eq_some_iff.1 h1
      obtain ⟨v, hk, hq⟩ := he htr
      refine ⟨v, ⟨c, d.K_len hk, hk, fun j u hu => ?_⟩, hq⟩
      have h2 := World.cells?_some hcs
      have hj := (List.getElem?_eq_some_iff.1 hu).1
      have h3 := h2.2.2 j (by rw [← d.K_len hk]; exact hj)
      rw [hu] at h3
      rw [← h3, ← Addr.add_add]
    obtain ⟨l, hl, hr⟩ := exists_list len each
    refine ⟨l, ⟨some a, cap, by rw [hl], by omega, rfl, by rw [hl]; simp only [maxLen] at hm; omega, fun _ => ⟨a, rfl, fun j p hj => (hr j p hj).1⟩⟩, fun x hx => ?_⟩
    obtain ⟨i, hi, rfl⟩ := List.getElem_of_mem hx
    exact (hr i _ (List.getElem?_eq_getElem hi)).2
/-- A struct's fields. -/
theorem openFields {P : Program} {H : Type} {enc : TypeId × Value → H} {w : World} {base : Nat} {sp : Nat → Bool} {hd : Bool} {fuel : Nat} {t : TypeId} {cs : List Value} {x : DataW H × List MemPlace} {fs : Array Field} (ht : P.underlying t = some (.struct fs))
    (h : DataW.trod enc P w base sp hd fuel t cs = some x) : cs.length = P.cellsOf t ∧ ∀ (i : Nat) (f : Field), fs[i]? = some f → ∃ n y, DataW.trod enc P w base sp hd n f.type ((cs.drop f.offset).take (P.cellsOf f.type)) = some y := by
  obtain ⟨xs, n, _, _, hl, hlen, hf⟩ := DataW.trod_struct ht h
  refine ⟨hl, fun i f hi => ?_⟩
  have h1 := hf i f hi
  have h2 : i < fs.size := (Array.getElem?_eq_some_iff.1 hi).1
  rw [List.getElem?_eq_getElem (by omega)] at h1
  exact ⟨n, _, h1⟩
end Go.Proofs.Ytejeelpnmdfibaa.Op
end
section
/- The row of the law TapeshiftLinear, out of its plain law and the walk. -/
namespace Go.Proofs.Ytejeelpnmdfibaa.tapeshiftLinear
open Go.ChangeShapes Go.WideShapes Go.ChangeAt Go.RowKit Go.Proofs.Ytejeelpnmdfibaa.Pr Go.Proofs.YtejeelpnmdfibaaW.PrintWords
set_option linter.unusedVariables false
theorem own : ownKnob Try.prog.godebug = none := by kernel_rfl
theorem laidOut : laidOutB Try.prog = true := by kernel_rfl
theorem arr7 (cs : Array Value) (h : cs.size = 7) : ∃ c0_ c1_ c2_ c3_ c4_ c5_ c6_, cs = #[c0_, c1_, c2_, c3_, c4_, c5_, c6_] := by
  obtain ⟨l_⟩ := cs
  match l_, h with
  | [c0_, c1_, c2_, c3_, c4_, c5_, c6_], _ => exact ⟨_, _, _, _, _, _, _, rfl⟩
set_option maxHeartbeats 4000000 in
set_option maxRecDepth 100000 in
theorem lifted (os : Os) (started : os.Started) (H : Type) (enc : TypeId × Value → H) :
    ReturnsInHanded {} Try.checked os 4 .any (Rows.tapeshiftLinearSpec.pre6 enc Try.prog Try.f4 Rows.tapeshiftLinearRow.domain false) (Rows.tapeshiftLinearSpec.post enc Try.prog Try.f4 false true false false) := by
  refine returnsInHanded_of_change_sized (C := Try.checked) own started (by kernel_rfl) Try.func4
    (ChangeSpec.witness6 (enc := enc) (C := Try.checked) false ⟨#[], #[.agg #[.int .u64 0, .int .i64 0, .int .i64 0, .slice none 0 0, .int .u64 0, .int .u64 0, .slice none 0 0]], []⟩ 8 (by kernel_rfl) (by kernel_rfl) (by kernel_rfl) (by kernel_rfl)) ?_
  intro W base args ds gs before hval0 hW hcnd hsz0 _
  have hval : ∀ (j : Nat) t v, Try.f4.params[j]? = some t → args[j]? = some v → Value.okWide Try.prog W .any base t v := hval0
  have hW' := hW
  obtain ⟨p, q, hA0, hV, rfl, hfz, hnd⟩ := hW
  have hA : DataW.TrodAll enc Try.prog W 0 (fun _ => true) true Try.f4.params.toList args.toList ds p := hA0
  rw [Try.params4] at hA hval
  obtain ⟨v0, vs0, d0, ds0, p0, q0, hargs, rfl, rfl, h0, r0⟩ := trodAll_cons hA
  obtain ⟨rfl, rfl, rfl⟩ := trodAll_nil r0
  obtain rfl : args = #[v0] := by cases args; simp_all
  obtain ⟨rfl, rfl⟩ := trodVars_none hV
  have k0 := h0
  have lt0 : ∀ x ∈ p0, x.block < W.heap.size := by obtain ⟨m, hm⟩ := k0; exact DataW.trod_lt m _ _ _ hm
  obtain ⟨cs0, rfl, hs0⟩ := okWide_struct Try.underlying28 (hval 0 28 v0 rfl rfl)
  have hN0 : Try.prog.cellsOf 28 = 7 := by kernel_rfl
  rw [hN0] at hs0
  obtain ⟨x0_0, x0_1, x0_2, x0_3, x0_4, x0_5, x0_6, rfl⟩ := arr7 cs0 hs0
  obtain ⟨fu0, hf0⟩ := h0
  have hg0 : DataW.trod enc Try.prog W 0 (fun _ => true) true fu0 28 [x0_0, x0_1, x0_2, x0_3, x0_4, x0_5, x0_6] = some (d0, p0) := hf0
  have f0 := (Op.openFields Try.underlying28 hg0).2
  obtain ⟨n0_0, y0_0, e0_0⟩ := f0 0 _ rfl
  have b0_0 : DataW.trod enc Try.prog W 0 (fun _ => true) true n0_0 24 [x0_0, x0_1, x0_2] = some y0_0 := e0_0
  have f0_0 := (Op.openFields Try.underlying24 b0_0).2
  obtain ⟨n0_0_0, y0_0_0, e0_0_0⟩ := f0_0 0 _ rfl
  have b0_0_0 : DataW.trod enc Try.prog W 0 (fun _ => true) true n0_0_0 22 [x0_0] = some y0_0_0 := e0_0_0
  obtain ⟨a0_0_0, e0_0_0, w0_0_0⟩ := (Op.openInt (k := .u64) Try.underlying22) b0_0_0
  cases e0_0_0
  obtain ⟨n0_0_1, y0_0_1, e0_0_1⟩ := f0_0 1 _ rfl
  have b0_0_1 : DataW.trod enc Try.prog W 0 (fun _ => true) true n0_0_1 3 [x0_1] = some y0_0_1 := e0_0_1
  obtain ⟨a0_0_1, e0_0_1, w0_0_1⟩ := (Op.openInt (k := .i64) Try.underlying3) b0_0_1
  cases e0_0_1
  obtain ⟨n0_0_2, y0_0_2, e0_0_2⟩ := f0_0 2 _ rfl
  have b0_0_2 : DataW.trod enc Try.prog W 0 (fun _ => true) true n0_0_2 3 [x0_2] = some y0_0_2 := e0_0_2
  obtain ⟨a0_0_2, e0_0_2, w0_0_2⟩ := (Op.openInt (k := .i64) Try.underlying3) b0_0_2
  cases e0_0_2
  obtain ⟨n0_1, y0_1, e0_1⟩ := f0 1 _ rfl
  have b0_1 : DataW.trod enc Try.prog W 0 (fun _ => true) true n0_1 25 [x0_3] = some y0_1 := e0_1
  obtain ⟨z0_1, ⟨A0_1, c0_1, e0_1, hc0_1, g0_1⟩, w0_1⟩ := (Op.openSlice (d := (Kd.int .i64)) Try.underlying25 (by kernel_rfl) (Op.openInt (k := .i64) Try.underlying3)) b0_1
  cases e0_1
  obtain ⟨n0_2, y0_2, e0_2⟩ := f0 2 _ rfl
  have b0_2 : DataW.trod enc Try.prog W 0 (fun _ => true) true n0_2 22 [x0_4] = some y0_2 := e0_2
  obtain ⟨a0_2, e0_2, w0_2⟩ := (Op.openInt (k := .u64) Try.underlying22) b0_2
  cases e0_2
  obtain ⟨n0_3, y0_3, e0_3⟩ := f0 3 _ rfl
  have b0_3 : DataW.trod enc Try.prog W 0 (fun _ => true) true n0_3 22 [x0_5] = some y0_3 := e0_3
  obtain ⟨a0_3, e0_3, w0_3⟩ := (Op.openInt (k := .u64) Try.underlying22) b0_3
  cases e0_3
  obtain ⟨n0_4, y0_4, e0_4⟩ := f0 4 _ rfl
  have b0_4 : DataW.trod enc Try.prog W 0 (fun _ => true) true n0_4 26 [x0_6] = some y0_4 := e0_4
  obtain ⟨z0_4, ⟨A0_4, c0_4, e0_4, hc0_4, g0_4⟩, w0_4⟩ := (Op.openSlice (d := (Kd.int .u64)) Try.underlying26 (by kernel_rfl) (Op.openInt (k := .u64) Try.underlying22)) b0_4
  cases e0_4
  clear hA0 hval0 hsz0
  obtain ⟨kk, hk⟩ := Pure.TapeshiftLinear a0_0_0 a0_0_1 a0_0_2 z0_1 a0_2 a0_3 z0_4 w0_0_0 w0_0_1 w0_0_2 w0_1 w0_2 w0_3 w0_4
  refine (privitylaw43_TapeshiftLinear.calls kk a0_0_0 a0_0_1 a0_0_2 _ _ z0_1 a0_2 a0_3 _ _ z0_4 true W g0_1 hc0_1 g0_4 hc0_4 rfl hk).mono fun e W' ⟨he, bel⟩ => ?_
  subst he
  exact ⟨_, rfl, _, _, _, [], _, [], hW', trodAll_mk1 (shut_bool Try.underlying4 _), (trodAll_cons_mk (Below.trod laidOut (by kernel_rfl) (of_decide_eq_true (by kernel_rfl)) k0 bel lt0) trodAll_mk0), rfl, bel.frame _, fun h => by cases h⟩
theorem over : Rows.tapeshiftLinearRow.holds Try.pinned (OpenSpec.ofChange Rows.tapeshiftLinearSpec) :=
  OpenClaim.holds_of_wide 4 Try.f4 rfl rfl rfl rfl rfl rfl rfl ⟨rfl, rfl, rfl, rfl, rfl⟩ rfl rfl rfl rfl rfl (by kernel_rfl) Try.func4 (by kernel_rfl)
    (of_decide_eq_true (by kernel_rfl)) (by unfold Func.isWrapper; first | (rw [if_pos (by decide +kernel)]; kernel_rfl) | (rw [if_neg (by decide +kernel)]; exact ⟨rfl, rfl⟩))
    (fun os started H enc _ => lifted os started H enc)
theorem proved : Rows.TapeshiftLinearSaid := over
#print axioms proved
end Go.Proofs.Ytejeelpnmdfibaa.tapeshiftLinear
namespace Go.Proofs.Ytejeelpnmdfibaa
/-- The row, under a short name, for the claim. -/
theorem tapeshiftLinear_holds : Rows.TapeshiftLinearSaid := tapeshiftLinear.proved
end Go.Proofs.Ytejeelpnmdfibaa
end
