/- Part 8 of the proof's texts, joined in build order. -/
import Derived.Test.YtejeelpnmdfibaaZTId2
import Derived.Test.YtejeelpnmdfibaaZTId5
import Derived.Test.YtejeelpnmdfibaaZTId7
section
/- Printed by a program of this seat (the kit's printer, with the functions that were proved by hand given to it). What stands here: the functions that the statements reach, as plain functions, and that the Go code computes them. -/
namespace Go.Proofs.Ytejeelpnmdfibaa.Pr
open Go.RowKit Go.Proofs.YtejeelpnmdfibaaW.PrintWords Go.Proofs.YtejeelpnmdfibaaW.PrintLast Go.Proofs.YtejeelpnmdfibaaW.PrintMore
attribute [local go_sem] max2_int min2_int max_two min_two max_three min_three max_four min_four   -- for this text's walks alone
set_option linter.unusedVariables false
set_option linter.unusedSimpArgs false

open Go.Proofs.Ytejeelpnmdfibaa.Hw
/-! ### privitylaw43_TapeshiftIdentity: function 9 -/
def privitylaw43_TapeshiftIdentity.f (k : Nat) (a0_0 : Int) (a0_1 : Int) (a0_2 : Int) (l0_3 : List Int) (a0_4 : Int) (a0_5 : Int) (l0_6 : List Int) : Option (Bool) := (privitylaw43_may.f k a0_0 a0_1 a0_2 l0_3 a0_4 a0_5 l0_6).bind fun t789 => (if t789 = true then ((privitylaw43_one.f k a0_0 a0_1 a0_2 l0_3 a0_4 a0_5 l0_6).bind fun bt791 => (if a0_0 = 0 then (none) else ((tapeshift_Sharing.f k a0_0 a0_1 a0_2 l0_3 (Int.tmod a0_4 a0_0) bt791.1 bt791.2).bind fun bt797 => ((privitylaw43_triple.f k a0_0 a0_1 a0_2 l0_3 a0_4 a0_5 l0_6).bind fun bt803 => ((tapeshift_Triple.f a0_0 a0_1 a0_2 l0_3 (Int.tmod a0_4 a0_0) (Int.tmod a0_5 a0_0) bt803.1 bt803.2).bind fun bt809 => ((privityref14_Words.f k bt797.1 bt791.1).bind fun t815 => (if t815 = true then ((privityref14_Words.f k bt797.2 bt791.2).bind fun t816 => ((privityref14_Words.f k bt809.1 bt803.1).bind fun t817 => (if t817 = true then ((privityref14_Words.f k bt809.2 bt803.2).bind fun t818 => ((privitylaw43_awake.f k).bind fun t819 => (if t819 = true then (if (t816 == ((Int.tmod a0_4 a0_0) == 0)) = true then (if (Int.tmod a0_4 a0_0) = 0 then (some (t818 == ((Int.tmod a0_5 a0_0) == 0))) else (some (t818 == false))) else (some false)) else (some false)))) else ((privitylaw43_awake.f k).bind fun t820 => (if t820 = true then (if (t816 == ((Int.tmod a0_4 a0_0) == 0)) = true then (if (Int.tmod a0_4 a0_0) = 0 then (some (false == ((Int.tmod a0_5 a0_0) == 0))) else (some (false == false))) else (some false)) else (some false)))))) else ((privityref14_Words.f k bt809.1 bt803.1).bind fun t821 => (if t821 = true then ((privityref14_Words.f k bt809.2 bt803.2).bind fun t822 => ((privitylaw43_awake.f k).bind fun t823 => (if t823 = true then (if (false == ((Int.tmod a0_4 a0_0) == 0)) = true then (if (Int.tmod a0_4 a0_0) = 0 then (some (t822 == ((Int.tmod a0_5 a0_0) == 0))) else (some (t822 == false))) else (some false)) else (some false)))) else ((privitylaw43_awake.f k).bind fun t824 => (if t824 = true then (if (false == ((Int.tmod a0_4 a0_0) == 0)) = true then (if (Int.tmod a0_4 a0_0) = 0 then (some (false == ((Int.tmod a0_5 a0_0) == 0))) else (some (false == false))) else (some false)) else (some false)))))))))))) else ((privitylaw43_awake.f k).bind fun t790 => (some t790)))
def privitylaw43_TapeshiftIdentity.T5 : Bool × List (List Nat × List Nat) := (true,[([],[]),([0],[0]),([],[]),([2],[2]),([],[]),([4],[4]),([],[]),([5,6],[5,6]),([],[]),([],[]),([1,3,7,8,9],[1,3,7,8,9]),([10],[10]),([11],[11]),([11],[11]),([12,10,0,1,2,3,4,5,6,7,8,9,10,11,12],[12]),([13,14,0,1,2,3,4,5,6,7,8,9,10,11,12,13,14],[13])])
def privitylaw43_TapeshiftIdentity.B5 : List Nat := [0,1,0,4,0,16,0,112,0,0,1023,2047,4095,4095,8191,32767]
theorem privitylaw43_TapeshiftIdentity.tab5 : rtab .any (opsOf Try.f9 5) = privitylaw43_TapeshiftIdentity.T5 := by kernel_rfl
theorem privitylaw43_TapeshiftIdentity.bits5 : waitsOk privitylaw43_TapeshiftIdentity.T5.2 privitylaw43_TapeshiftIdentity.B5 = true := by kernel_rfl
def privitylaw43_TapeshiftIdentity.T7 : Bool × List (List Nat × List Nat) := (true,[([],[]),([0],[0]),([],[]),([2],[2]),([],[]),([4],[4]),([],[]),([5,6],[5,6]),([],[]),([8],[8]),([],[]),([9,10],[9,10]),([],[]),([],[]),([1,3,7,11,12,13],[1,3,7,11,12,13]),([14],[14]),([15],[15]),([15],[15]),([16,14,0,1,2,3,4,5,6,7,8,9,10,11,12,13,14,15,16],[16]),([17,18,0,1,2,3,4,5,6,7,8,9,10,11,12,13,14,15,16,17,18],[17])])
def privitylaw43_TapeshiftIdentity.B7 : List Nat := [0,1,0,4,0,16,0,112,0,256,0,1792,0,0,16383,32767,65535,65535,131071,524287]
theorem privitylaw43_TapeshiftIdentity.tab7 : rtab .any (opsOf Try.f9 7) = privitylaw43_TapeshiftIdentity.T7 := by kernel_rfl
theorem privitylaw43_TapeshiftIdentity.bits7 : waitsOk privitylaw43_TapeshiftIdentity.T7.2 privitylaw43_TapeshiftIdentity.B7 = true := by kernel_rfl
set_option maxHeartbeats 8000000 in
set_option maxRecDepth 100000 in
theorem privitylaw43_TapeshiftIdentity.calls (k : Nat) (a0_0 : Int) (a0_1 : Int) (a0_2 : Int) (A0_3 : Option Addr) (c0_3 : Nat) (l0_3 : List Int) (a0_4 : Int) (a0_5 : Int) (A0_6 : Option Addr) (c0_6 : Nat) (l0_6 : List Int) (r : Bool) (w : World) (hr0_3 : Kd.C (Kd.int .i64) w A0_3 l0_3.length l0_3) (hc0_3 : l0_3.length ≤ c0_3) (hr0_6 : Kd.C (Kd.int .u64) w A0_6 l0_6.length l0_6) (hc0_6 : l0_6.length ≤ c0_6) (hr1_ : r = true) (hP_ : ∀ x1 x2 y1 y2, privitylaw43_may.f k a0_0 a0_1 a0_2 l0_3 a0_4 a0_5 l0_6 = some true → privitylaw43_one.f k a0_0 a0_1 a0_2 l0_3 a0_4 a0_5 l0_6 = some (x1, x2) → tapeshift_Sharing.f k a0_0 a0_1 a0_2 l0_3 (Int.tmod a0_4 a0_0) x1 x2 = some (y1, y2) → privityref14_Words.f k y1 x1 = some true → (Int.tmod a0_4 a0_0) = 0) (hQ_ : ∀ x1 x2 y1 y2, privitylaw43_may.f k a0_0 a0_1 a0_2 l0_3 a0_4 a0_5 l0_6 = some true → privitylaw43_triple.f k a0_0 a0_1 a0_2 l0_3 a0_4 a0_5 l0_6 = some (x1, x2) → tapeshift_Triple.f a0_0 a0_1 a0_2 l0_3 (Int.tmod a0_4 a0_0) (Int.tmod a0_5 a0_0) x1 x2 = some (y1, y2) → privityref14_Words.f k y1 x1 = some true → (Int.tmod a0_4 a0_0) = 0) (h : privitylaw43_TapeshiftIdentity.f k a0_0 a0_1 a0_2 l0_3 a0_4 a0_5 l0_6 = some r) :
  Calls Try.prog 9 #[.agg #[.int .u64 a0_0,.int .i64 a0_1,.int .i64 a0_2,.slice A0_3 l0_3.length c0_3,.int .u64 a0_4,.int .u64 a0_5,.slice A0_6 l0_6.length c0_6]] w fun e w' => e = .returned (.bool r) ∧ Below w.heap.size w w' := by
 have HRT_ := Aside0.mk hr1_
 clear hr1_
 have HP_ := Aside0.mk hP_
 clear hP_
 have HQ_ := Aside0.mk hQ_
 clear hQ_
 have hu28 := Try.underlying28
 have hu24 := Try.underlying24
 have HR0_3 := Aside0.mk hr0_3
 have HC0_3 := Aside0.mk hc0_3
 clear hr0_3 hc0_3
 have HR0_6 := Aside0.mk hr0_6
 have HC0_6 := Aside0.mk hc0_6
 clear hr0_6 hc0_6
 have HB := Aside0.mk (Below.refl w.heap.size w)
 have H : ((privitylaw43_may.f k a0_0 a0_1 a0_2 l0_3 a0_4 a0_5 l0_6).bind fun t789 => (if t789 = true then ((privitylaw43_one.f k a0_0 a0_1 a0_2 l0_3 a0_4 a0_5 l0_6).bind fun bt791 => (if a0_0 = 0 then (none) else ((tapeshift_Sharing.f k a0_0 a0_1 a0_2 l0_3 (Int.tmod a0_4 a0_0) bt791.1 bt791.2).bind fun bt797 => ((privitylaw43_triple.f k a0_0 a0_1 a0_2 l0_3 a0_4 a0_5 l0_6).bind fun bt803 => ((tapeshift_Triple.f a0_0 a0_1 a0_2 l0_3 (Int.tmod a0_4 a0_0) (Int.tmod a0_5 a0_0) bt803.1 bt803.2).bind fun bt809 => ((privityref14_Words.f k bt797.1 bt791.1).bind fun t815 => (if t815 = true then ((privityref14_Words.f k bt797.2 bt791.2).bind fun t816 => ((privityref14_Words.f k bt809.1 bt803.1).bind fun t817 => (if t817 = true then ((privityref14_Words.f k bt809.2 bt803.2).bind fun t818 => ((privitylaw43_awake.f k).bind fun t819 => (if t819 = true then (if (t816 == ((Int.tmod a0_4 a0_0) == 0)) = true then (if (Int.tmod a0_4 a0_0) = 0 then (some (t818 == ((Int.tmod a0_5 a0_0) == 0))) else (some (t818 == false))) else (some false)) else (some false)))) else ((privitylaw43_awake.f k).bind fun t820 => (if t820 = true then (if (t816 == ((Int.tmod a0_4 a0_0) == 0)) = true then (if (Int.tmod a0_4 a0_0) = 0 then (some (false == ((Int.tmod a0_5 a0_0) == 0))) else (some (false == false))) else (some false)) else (some false)))))) else ((privityref14_Words.f k bt809.1 bt803.1).bind fun t821 => (if t821 = true then ((privityref14_Words.f k bt809.2 bt803.2).bind fun t822 => ((privitylaw43_awake.f k).bind fun t823 => (if t823 = true then (if (false == ((Int.tmod a0_4 a0_0) == 0)) = true then (if (Int.tmod a0_4 a0_0) = 0 then (some (t822 == ((Int.tmod a0_5 a0_0) == 0))) else (some (t822 == false))) else (some false)) else (some false)))) else ((privitylaw43_awake.f k).bind fun t824 => (if t824 = true then (if (false == ((Int.tmod a0_4 a0_0) == 0)) = true then (if (Int.tmod a0_4 a0_0) = 0 then (some (false == ((Int.tmod a0_5 a0_0) == 0))) else (some (false == false))) else (some false)) else (some false)))))))))))) else ((privitylaw43_awake.f k).bind fun t790 => (some t790)))) = some r := h
 clear h
 replace H := Option.bind_eq_some_iff.mp H
 obtain ⟨t789,A20,H⟩ := H
 replace H : (if t789 = true then ((privitylaw43_one.f k a0_0 a0_1 a0_2 l0_3 a0_4 a0_5 l0_6).bind fun bt791 => (if a0_0 = 0 then (none) else ((tapeshift_Sharing.f k a0_0 a0_1 a0_2 l0_3 (Int.tmod a0_4 a0_0) bt791.1 bt791.2).bind fun bt797 => ((privitylaw43_triple.f k a0_0 a0_1 a0_2 l0_3 a0_4 a0_5 l0_6).bind fun bt803 => ((tapeshift_Triple.f a0_0 a0_1 a0_2 l0_3 (Int.tmod a0_4 a0_0) (Int.tmod a0_5 a0_0) bt803.1 bt803.2).bind fun bt809 => ((privityref14_Words.f k bt797.1 bt791.1).bind fun t815 => (if t815 = true then ((privityref14_Words.f k bt797.2 bt791.2).bind fun t816 => ((privityref14_Words.f k bt809.1 bt803.1).bind fun t817 => (if t817 = true then ((privityref14_Words.f k bt809.2 bt803.2).bind fun t818 => ((privitylaw43_awake.f k).bind fun t819 => (if t819 = true then (if (t816 == ((Int.tmod a0_4 a0_0) == 0)) = true then (if (Int.tmod a0_4 a0_0) = 0 then (some (t818 == ((Int.tmod a0_5 a0_0) == 0))) else (some (t818 == false))) else (some false)) else (some false)))) else ((privitylaw43_awake.f k).bind fun t820 => (if t820 = true then (if (t816 == ((Int.tmod a0_4 a0_0) == 0)) = true then (if (Int.tmod a0_4 a0_0) = 0 then (some (false == ((Int.tmod a0_5 a0_0) == 0))) else (some (false == false))) else (some false)) else (some false)))))) else ((privityref14_Words.f k bt809.1 bt803.1).bind fun t821 => (if t821 = true then ((privityref14_Words.f k bt809.2 bt803.2).bind fun t822 => ((privitylaw43_awake.f k).bind fun t823 => (if t823 = true then (if (false == ((Int.tmod a0_4 a0_0) == 0)) = true then (if (Int.tmod a0_4 a0_0) = 0 then (some (t822 == ((Int.tmod a0_5 a0_0) == 0))) else (some (t822 == false))) else (some false)) else (some false)))) else ((privitylaw43_awake.f k).bind fun t824 => (if t824 = true then (if (false == ((Int.tmod a0_4 a0_0) == 0)) = true then (if (Int.tmod a0_4 a0_0) = 0 then (some (false == ((Int.tmod a0_5 a0_0) == 0))) else (some (false == false))) else (some false)) else (some false)))))))))))) else ((privitylaw43_awake.f k).bind fun t790 => (some t790))) = some r := H
 have A2 := Aside0.mk A20
 clear A20
 by_cases c3 : t789 = true
 ·subst c3
  have H1 : ((privitylaw43_one.f k a0_0 a0_1 a0_2 l0_3 a0_4 a0_5 l0_6).bind fun bt791 => (if a0_0 = 0 then (none) else ((tapeshift_Sharing.f k a0_0 a0_1 a0_2 l0_3 (Int.tmod a0_4 a0_0) bt791.1 bt791.2).bind fun bt797 => ((privitylaw43_triple.f k a0_0 a0_1 a0_2 l0_3 a0_4 a0_5 l0_6).bind fun bt803 => ((tapeshift_Triple.f a0_0 a0_1 a0_2 l0_3 (Int.tmod a0_4 a0_0) (Int.tmod a0_5 a0_0) bt803.1 bt803.2).bind fun bt809 => ((privityref14_Words.f k bt797.1 bt791.1).bind fun t815 => (if t815 = true then ((privityref14_Words.f k bt797.2 bt791.2).bind fun t816 => ((privityref14_Words.f k bt809.1 bt803.1).bind fun t817 => (if t817 = true then ((privityref14_Words.f k bt809.2 bt803.2).bind fun t818 => ((privitylaw43_awake.f k).bind fun t819 => (if t819 = true then (if (t816 == ((Int.tmod a0_4 a0_0) == 0)) = true then (if (Int.tmod a0_4 a0_0) = 0 then (some (t818 == ((Int.tmod a0_5 a0_0) == 0))) else (some (t818 == false))) else (some false)) else (some false)))) else ((privitylaw43_awake.f k).bind fun t820 => (if t820 = true then (if (t816 == ((Int.tmod a0_4 a0_0) == 0)) = true then (if (Int.tmod a0_4 a0_0) = 0 then (some (false == ((Int.tmod a0_5 a0_0) == 0))) else (some (false == false))) else (some false)) else (some false)))))) else ((privityref14_Words.f k bt809.1 bt803.1).bind fun t821 => (if t821 = true then ((privityref14_Words.f k bt809.2 bt803.2).bind fun t822 => ((privitylaw43_awake.f k).bind fun t823 => (if t823 = true then (if (false == ((Int.tmod a0_4 a0_0) == 0)) = true then (if (Int.tmod a0_4 a0_0) = 0 then (some (t822 == ((Int.tmod a0_5 a0_0) == 0))) else (some (t822 == false))) else (some false)) else (some false)))) else ((privitylaw43_awake.f k).bind fun t824 => (if t824 = true then (if (false == ((Int.tmod a0_4 a0_0) == 0)) = true then (if (Int.tmod a0_4 a0_0) = 0 then (some (false == ((Int.tmod a0_5 a0_0) == 0))) else (some (false == false))) else (some false)) else (some false)))))))))))) = some r := by rw [if_pos rfl] at H;exact H
  clear H
  have H := H1
  clear H1
  replace H := Option.bind_eq_some_iff.mp H
  obtain ⟨⟨t791,t794⟩,A40,H⟩ := H
  replace H : (if a0_0 = 0 then (none) else ((tapeshift_Sharing.f k a0_0 a0_1 a0_2 l0_3 (Int.tmod a0_4 a0_0) t791 t794).bind fun bt797 => ((privitylaw43_triple.f k a0_0 a0_1 a0_2 l0_3 a0_4 a0_5 l0_6).bind fun bt803 => ((tapeshift_Triple.f a0_0 a0_1 a0_2 l0_3 (Int.tmod a0_4 a0_0) (Int.tmod a0_5 a0_0) bt803.1 bt803.2).bind fun bt809 => ((privityref14_Words.f k bt797.1 t791).bind fun t815 => (if t815 = true then ((privityref14_Words.f k bt797.2 t794).bind fun t816 => ((privityref14_Words.f k bt809.1 bt803.1).bind fun t817 => (if t817 = true then ((privityref14_Words.f k bt809.2 bt803.2).bind fun t818 => ((privitylaw43_awake.f k).bind fun t819 => (if t819 = true then (if (t816 == ((Int.tmod a0_4 a0_0) == 0)) = true then (if (Int.tmod a0_4 a0_0) = 0 then (some (t818 == ((Int.tmod a0_5 a0_0) == 0))) else (some (t818 == false))) else (some false)) else (some false)))) else ((privitylaw43_awake.f k).bind fun t820 => (if t820 = true then (if (t816 == ((Int.tmod a0_4 a0_0) == 0)) = true then (if (Int.tmod a0_4 a0_0) = 0 then (some (false == ((Int.tmod a0_5 a0_0) == 0))) else (some (false == false))) else (some false)) else (some false)))))) else ((privityref14_Words.f k bt809.1 bt803.1).bind fun t821 => (if t821 = true then ((privityref14_Words.f k bt809.2 bt803.2).bind fun t822 => ((privitylaw43_awake.f k).bind fun t823 => (if t823 = true then (if (false == ((Int.tmod a0_4 a0_0) == 0)) = true then (if (Int.tmod a0_4 a0_0) = 0 then (some (t822 == ((Int.tmod a0_5 a0_0) == 0))) else (some (t822 == false))) else (some false)) else (some false)))) else ((privitylaw43_awake.f k).bind fun t824 => (if t824 = true then (if (false == ((Int.tmod a0_4 a0_0) == 0)) = true then (if (Int.tmod a0_4 a0_0) = 0 then (some (false == ((Int.tmod a0_5 a0_0) == 0))) else (some (false == false))) else (some false)) else (some false))))))))))) = some r := H
  have A4 := Aside0.mk A40
  clear A40
  by_cases c5 : a0_0 = 0
  ·rw [if_pos c5] at H
   exact absurd H (by simp)
  ·rw [if_neg c5] at H
   have c5b0 : (a0_0 == 0) = false := beq_eq_false_iff_ne.mpr c5
   have c5b1 : (a0_0 != 0) = true := bne_iff_ne.mpr c5
   replace H := Option.bind_eq_some_iff.mp H
   obtain ⟨⟨t797,t800⟩,A60,H⟩ := H
   replace H : ((privitylaw43_triple.f k a0_0 a0_1 a0_2 l0_3 a0_4 a0_5 l0_6).bind fun bt803 => ((tapeshift_Triple.f a0_0 a0_1 a0_2 l0_3 (Int.tmod a0_4 a0_0) (Int.tmod a0_5 a0_0) bt803.1 bt803.2).bind fun bt809 => ((privityref14_Words.f k t797 t791).bind fun t815 => (if t815 = true then ((privityref14_Words.f k t800 t794).bind fun t816 => ((privityref14_Words.f k bt809.1 bt803.1).bind fun t817 => (if t817 = true then ((privityref14_Words.f k bt809.2 bt803.2).bind fun t818 => ((privitylaw43_awake.f k).bind fun t819 => (if t819 = true then (if (t816 == ((Int.tmod a0_4 a0_0) == 0)) = true then (if (Int.tmod a0_4 a0_0) = 0 then (some (t818 == ((Int.tmod a0_5 a0_0) == 0))) else (some (t818 == false))) else (some false)) else (some false)))) else ((privitylaw43_awake.f k).bind fun t820 => (if t820 = true then (if (t816 == ((Int.tmod a0_4 a0_0) == 0)) = true then (if (Int.tmod a0_4 a0_0) = 0 then (some (false == ((Int.tmod a0_5 a0_0) == 0))) else (some (false == false))) else (some false)) else (some false)))))) else ((privityref14_Words.f k bt809.1 bt803.1).bind fun t821 => (if t821 = true then ((privityref14_Words.f k bt809.2 bt803.2).bind fun t822 => ((privitylaw43_awake.f k).bind fun t823 => (if t823 = true then (if (false == ((Int.tmod a0_4 a0_0) == 0)) = true then (if (Int.tmod a0_4 a0_0) = 0 then (some (t822 == ((Int.tmod a0_5 a0_0) == 0))) else (some (t822 == false))) else (some false)) else (some false)))) else ((privitylaw43_awake.f k).bind fun t824 => (if t824 = true then (if (false == ((Int.tmod a0_4 a0_0) == 0)) = true then (if (Int.tmod a0_4 a0_0) = 0 then (some (false == ((Int.tmod a0_5 a0_0) == 0))) else (some (false == false))) else (some false)) else (some false))))))))) = some r := H
   have A6 := Aside0.mk A60
   clear A60
   replace H := Option.bind_eq_some_iff.mp H
   obtain ⟨⟨t803,t806⟩,A70,H⟩ := H
   replace H : ((tapeshift_Triple.f a0_0 a0_1 a0_2 l0_3 (Int.tmod a0_4 a0_0) (Int.tmod a0_5 a0_0) t803 t806).bind fun bt809 => ((privityref14_Words.f k t797 t791).bind fun t815 => (if t815 = true then ((privityref14_Words.f k t800 t794).bind fun t816 => ((privityref14_Words.f k bt809.1 t803).bind fun t817 => (if t817 = true then ((privityref14_Words.f k bt809.2 t806).bind fun t818 => ((privitylaw43_awake.f k).bind fun t819 => (if t819 = true then (if (t816 == ((Int.tmod a0_4 a0_0) == 0)) = true then (if (Int.tmod a0_4 a0_0) = 0 then (some (t818 == ((Int.tmod a0_5 a0_0) == 0))) else (some (t818 == false))) else (some false)) else (some false)))) else ((privitylaw43_awake.f k).bind fun t820 => (if t820 = true then (if (t816 == ((Int.tmod a0_4 a0_0) == 0)) = true then (if (Int.tmod a0_4 a0_0) = 0 then (some (false == ((Int.tmod a0_5 a0_0) == 0))) else (some (false == false))) else (some false)) else (some false)))))) else ((privityref14_Words.f k bt809.1 t803).bind fun t821 => (if t821 = true then ((privityref14_Words.f k bt809.2 t806).bind fun t822 => ((privitylaw43_awake.f k).bind fun t823 => (if t823 = true then (if (false == ((Int.tmod a0_4 a0_0) == 0)) = true then (if (Int.tmod a0_4 a0_0) = 0 then (some (t822 == ((Int.tmod a0_5 a0_0) == 0))) else (some (t822 == false))) else (some false)) else (some false)))) else ((privitylaw43_awake.f k).bind fun t824 => (if t824 = true then (if (false == ((Int.tmod a0_4 a0_0) == 0)) = true then (if (Int.tmod a0_4 a0_0) = 0 then (some (false == ((Int.tmod a0_5 a0_0) == 0))) else (some (false == false))) else (some false)) else (some false)))))))) = some r := H
   have A7 := Aside0.mk A70
   clear A70
   replace H := Option.bind_eq_some_iff.mp H
   obtain ⟨⟨t809,t812⟩,A80,H⟩ := H
   replace H : ((privityref14_Words.f k t797 t791).bind fun t815 => (if t815 = true then ((privityref14_Words.f k t800 t794).bind fun t816 => ((privityref14_Words.f k t809 t803).bind fun t817 => (if t817 = true then ((privityref14_Words.f k t812 t806).bind fun t818 => ((privitylaw43_awake.f k).bind fun t819 => (if t819 = true then (if (t816 == ((Int.tmod a0_4 a0_0) == 0)) = true then (if (Int.tmod a0_4 a0_0) = 0 then (some (t818 == ((Int.tmod a0_5 a0_0) == 0))) else (some (t818 == false))) else (some false)) else (some false)))) else ((privitylaw43_awake.f k).bind fun t820 => (if t820 = true then (if (t816 == ((Int.tmod a0_4 a0_0) == 0)) = true then (if (Int.tmod a0_4 a0_0) = 0 then (some (false == ((Int.tmod a0_5 a0_0) == 0))) else (some (false == false))) else (some false)) else (some false)))))) else ((privityref14_Words.f k t809 t803).bind fun t821 => (if t821 = true then ((privityref14_Words.f k t812 t806).bind fun t822 => ((privitylaw43_awake.f k).bind fun t823 => (if t823 = true then (if (false == ((Int.tmod a0_4 a0_0) == 0)) = true then (if (Int.tmod a0_4 a0_0) = 0 then (some (t822 == ((Int.tmod a0_5 a0_0) == 0))) else (some (t822 == false))) else (some false)) else (some false)))) else ((privitylaw43_awake.f k).bind fun t824 => (if t824 = true then (if (false == ((Int.tmod a0_4 a0_0) == 0)) = true then (if (Int.tmod a0_4 a0_0) = 0 then (some (false == ((Int.tmod a0_5 a0_0) == 0))) else (some (false == false))) else (some false)) else (some false))))))) = some r := H
   have A8 := Aside0.mk A80
   clear A80
   replace H := Option.bind_eq_some_iff.mp H
   obtain ⟨t815,A90,H⟩ := H
   replace H : (if t815 = true then ((privityref14_Words.f k t800 t794).bind fun t816 => ((privityref14_Words.f k t809 t803).bind fun t817 => (if t817 = true then ((privityref14_Words.f k t812 t806).bind fun t818 => ((privitylaw43_awake.f k).bind fun t819 => (if t819 = true then (if (t816 == ((Int.tmod a0_4 a0_0) == 0)) = true then (if (Int.tmod a0_4 a0_0) = 0 then (some (t818 == ((Int.tmod a0_5 a0_0) == 0))) else (some (t818 == false))) else (some false)) else (some false)))) else ((privitylaw43_awake.f k).bind fun t820 => (if t820 = true then (if (t816 == ((Int.tmod a0_4 a0_0) == 0)) = true then (if (Int.tmod a0_4 a0_0) = 0 then (some (false == ((Int.tmod a0_5 a0_0) == 0))) else (some (false == false))) else (some false)) else (some false)))))) else ((privityref14_Words.f k t809 t803).bind fun t821 => (if t821 = true then ((privityref14_Words.f k t812 t806).bind fun t822 => ((privitylaw43_awake.f k).bind fun t823 => (if t823 = true then (if (false == ((Int.tmod a0_4 a0_0) == 0)) = true then (if (Int.tmod a0_4 a0_0) = 0 then (some (t822 == ((Int.tmod a0_5 a0_0) == 0))) else (some (t822 == false))) else (some false)) else (some false)))) else ((privitylaw43_awake.f k).bind fun t824 => (if t824 = true then (if (false == ((Int.tmod a0_4 a0_0) == 0)) = true then (if (Int.tmod a0_4 a0_0) = 0 then (some (false == ((Int.tmod a0_5 a0_0) == 0))) else (some (false == false))) else (some false)) else (some false)))))) = some r := H
   have A9 := Aside0.mk A90
   clear A90
   by_cases c10 : t815 = true
   ·subst c10
    have H1 : ((privityref14_Words.f k t800 t794).bind fun t816 => ((privityref14_Words.f k t809 t803).bind fun t817 => (if t817 = true then ((privityref14_Words.f k t812 t806).bind fun t818 => ((privitylaw43_awake.f k).bind fun t819 => (if t819 = true then (if (t816 == ((Int.tmod a0_4 a0_0) == 0)) = true then (if (Int.tmod a0_4 a0_0) = 0 then (some (t818 == ((Int.tmod a0_5 a0_0) == 0))) else (some (t818 == false))) else (some false)) else (some false)))) else ((privitylaw43_awake.f k).bind fun t820 => (if t820 = true then (if (t816 == ((Int.tmod a0_4 a0_0) == 0)) = true then (if (Int.tmod a0_4 a0_0) = 0 then (some (false == ((Int.tmod a0_5 a0_0) == 0))) else (some (false == false))) else (some false)) else (some false)))))) = some r := by rw [if_pos rfl] at H;exact H
    clear H
    have H := H1
    clear H1
    replace H := Option.bind_eq_some_iff.mp H
    obtain ⟨t816,A110,H⟩ := H
    replace H : ((privityref14_Words.f k t809 t803).bind fun t817 => (if t817 = true then ((privityref14_Words.f k t812 t806).bind fun t818 => ((privitylaw43_awake.f k).bind fun t819 => (if t819 = true then (if (t816 == ((Int.tmod a0_4 a0_0) == 0)) = true then (if (Int.tmod a0_4 a0_0) = 0 then (some (t818 == ((Int.tmod a0_5 a0_0) == 0))) else (some (t818 == false))) else (some false)) else (some false)))) else ((privitylaw43_awake.f k).bind fun t820 => (if t820 = true then (if (t816 == ((Int.tmod a0_4 a0_0) == 0)) = true then (if (Int.tmod a0_4 a0_0) = 0 then (some (false == ((Int.tmod a0_5 a0_0) == 0))) else (some (false == false))) else (some false)) else (some false))))) = some r := H
    have A11 := Aside0.mk A110
    clear A110
    replace H := Option.bind_eq_some_iff.mp H
    obtain ⟨t817,A120,H⟩ := H
    replace H : (if t817 = true then ((privityref14_Words.f k t812 t806).bind fun t818 => ((privitylaw43_awake.f k).bind fun t819 => (if t819 = true then (if (t816 == ((Int.tmod a0_4 a0_0) == 0)) = true then (if (Int.tmod a0_4 a0_0) = 0 then (some (t818 == ((Int.tmod a0_5 a0_0) == 0))) else (some (t818 == false))) else (some false)) else (some false)))) else ((privitylaw43_awake.f k).bind fun t820 => (if t820 = true then (if (t816 == ((Int.tmod a0_4 a0_0) == 0)) = true then (if (Int.tmod a0_4 a0_0) = 0 then (some (false == ((Int.tmod a0_5 a0_0) == 0))) else (some (false == false))) else (some false)) else (some false)))) = some r := H
    have A12 := Aside0.mk A120
    clear A120
    by_cases c13 : t817 = true
    ·subst c13
     have H1 : ((privityref14_Words.f k t812 t806).bind fun t818 => ((privitylaw43_awake.f k).bind fun t819 => (if t819 = true then (if (t816 == ((Int.tmod a0_4 a0_0) == 0)) = true then (if (Int.tmod a0_4 a0_0) = 0 then (some (t818 == ((Int.tmod a0_5 a0_0) == 0))) else (some (t818 == false))) else (some false)) else (some false)))) = some r := by rw [if_pos rfl] at H;exact H
     clear H
     have H := H1
     clear H1
     replace H := Option.bind_eq_some_iff.mp H
     obtain ⟨t818,A140,H⟩ := H
     replace H : ((privitylaw43_awake.f k).bind fun t819 => (if t819 = true then (if (t816 == ((Int.tmod a0_4 a0_0) == 0)) = true then (if (Int.tmod a0_4 a0_0) = 0 then (some (t818 == ((Int.tmod a0_5 a0_0) == 0))) else (some (t818 == false))) else (some false)) else (some false))) = some r := H
     have A14 := Aside0.mk A140
     clear A140
     replace H := Option.bind_eq_some_iff.mp H
     obtain ⟨t819,A150,H⟩ := H
     replace H : (if t819 = true then (if (t816 == ((Int.tmod a0_4 a0_0) == 0)) = true then (if (Int.tmod a0_4 a0_0) = 0 then (some (t818 == ((Int.tmod a0_5 a0_0) == 0))) else (some (t818 == false))) else (some false)) else (some false)) = some r := H
     have A15 := Aside0.mk A150
     clear A150
     by_cases c16 : t819 = true
     ·subst c16
      have H1 : (if (t816 == ((Int.tmod a0_4 a0_0) == 0)) = true then (if (Int.tmod a0_4 a0_0) = 0 then (some (t818 == ((Int.tmod a0_5 a0_0) == 0))) else (some (t818 == false))) else (some false)) = some r := by rw [if_pos rfl] at H;exact H
      clear H
      have H := H1
      clear H1
      by_cases c17 : (t816 == ((Int.tmod a0_4 a0_0) == 0)) = true
      ·rw [if_pos c17] at H
       have c17b0 : (t816 == ((Int.tmod a0_4 a0_0) == 0)) = true := c17
       (try (have c17b1 : decide (t816 = ((Int.tmod a0_4 a0_0) == 0)) = true := by simpa using c17))
       (try (have c17b2 : (t816 == ((Int.tmod a0_4 a0_0) == 0)) = true := by simpa using c17))
       clear c17
       by_cases c18 : (Int.tmod a0_4 a0_0) = 0
       ·rw [if_pos c18] at H
        have c18b0 : ((Int.tmod a0_4 a0_0) == 0) = true := beq_iff_eq.mpr c18
        have c18b1 : ((Int.tmod a0_4 a0_0) != 0) = false := bne_eq_false_iff_eq.mpr c18
        (try (have hb3_ : t816 = true := (by have h_ := c17b0; rw [c18b0] at h_; revert h_; cases t816 <;> simp)))
        clear c18
        obtain rfl := Option.some.inj H
        go_enter Try.func9,Try.ntmps9
        try go_wp2_with (first|((with_reducible refine gate_dst (N := 1) rfl ?_);refine box_event ?hg (N := 1) ?hd (cs := #[.int .u64 a0_0,.int .i64 a0_1,.int .i64 a0_2,.slice A0_3 l0_3.length c0_3,.int .u64 a0_4,.int .u64 a0_5,.slice A0_6 l0_6.length c0_6]) (t := 28) ?hr ?_;(case hd => rfl);(case hg => rfl);(case hr => first|(go_simp;done)|(go_simp;rfl));intro gb788 hg w19 hbox hb;have n0_ := Aside0.mk (below_step (by repeat (first|(with_reducible first|exact HB.out|apply below_alloc|apply pw_below_drewN|apply below_drew1)|exact HB.out)) hb);have n1_ := Aside0.mk (hbox);have n2_ := Aside0.mk ((by rw [hg];exact (below_size (by repeat (first|(with_reducible first|exact HB.out|apply below_alloc|apply pw_below_drewN|apply below_drew1)|exact HB.out))) : w.heap.size ≤ gb788));have n3_ := Aside0.mk ((by rw [hg];exact (below_size (by repeat (first|(with_reducible first|exact HB.out|apply below_alloc|apply pw_below_drewN|apply below_drew1)|exact HB.out))) : w.heap.size ≤ gb788));clear HB;have HB := n0_;have BK788 := n1_;have GW788 := n2_;have GE788 := n3_;clear n0_ n1_ n2_ n3_;clear hb hbox hg;have hcz20_0 : w19.cell? ⟨gb788,0,none⟩ = some (.int .u64 a0_0) := (blk_cell BK788.out 0).trans rfl;have hcz20_1 : w19.cell? ⟨gb788,1,none⟩ = some (.int .i64 a0_1) := (blk_cell BK788.out 1).trans rfl;have hcz20_2 : w19.cell? ⟨gb788,2,none⟩ = some (.int .i64 a0_2) := (blk_cell BK788.out 2).trans rfl;have hcz20_3 : w19.cell? ⟨gb788,3,none⟩ = some (.slice A0_3 l0_3.length c0_3) := (blk_cell BK788.out 3).trans rfl;have hcz20_4 : w19.cell? ⟨gb788,4,none⟩ = some (.int .u64 a0_4) := (blk_cell BK788.out 4).trans rfl;have hcz20_5 : w19.cell? ⟨gb788,5,none⟩ = some (.int .u64 a0_5) := (blk_cell BK788.out 5).trans rfl;have hcz20_6 : w19.cell? ⟨gb788,6,none⟩ = some (.slice A0_6 l0_6.length c0_6) := (blk_cell BK788.out 6).trans rfl;have hfz20_0 := blk_frozen BK788.out 0;have hfz20_1 := blk_frozen BK788.out 1;have hfz20_2 := blk_frozen BK788.out 2;have hfz20_3 := blk_frozen BK788.out 3;have hfz20_4 := blk_frozen BK788.out 4;have hfz20_5 := blk_frozen BK788.out 5;have hfz20_6 := blk_frozen BK788.out 6)|((with_reducible refine gate_callee (f := 12) rfl ?_);refine goesL_ (some 15) rfl rfl Try.func12 (by kernel_rfl) rfl #[.agg #[.int .u64 a0_0,.int .i64 a0_1,.int .i64 a0_2,.slice A0_3 l0_3.length c0_3,.int .u64 a0_4,.int .u64 a0_5,.slice A0_6 l0_6.length c0_6]] rfl (by (try simp only [List.map_toArray,List.map_cons,List.map_nil]);first|done|rfl|(simp only [List.length_drop,List.length_take];rfl)) ?_;(with_reducible refine (privitylaw43_may.calls k a0_0 a0_1 a0_2 _ _ l0_3 a0_4 a0_5 _ _ l0_6 true _ ?side1 ?side2 ?side3 ?side4 A2.out).mono ?_);(case side1 => repeat (first|exact (Kd.C_below HR0_3.out HB.out)|(with_reducible refine Kd.C_alloc ?_ _)|(with_reducible refine Kd.C_drewN ?_ _)|(with_reducible refine Kd.C_drew ?_)));(case side2 => exact HC0_3.out);(case side3 => repeat (first|exact (Kd.C_below HR0_6.out HB.out)|(with_reducible refine Kd.C_alloc ?_ _)|(with_reducible refine Kd.C_drewN ?_ _)|(with_reducible refine Kd.C_drew ?_)));(case side4 => exact HC0_6.out);rintro e w21 ⟨rfl,hb⟩;refine ⟨_,rfl,?_⟩;have n0_ := Aside0.mk (blk_below (g := gb788) (o := .cells #[.int .u64 a0_0,.int .i64 a0_1,.int .i64 a0_2,.slice A0_3 l0_3.length c0_3,.int .u64 a0_4,.int .u64 a0_5,.slice A0_6 l0_6.length c0_6] 28 (0,0)) (by (with_reducible repeat (first|refine blk_drewN ?_ _|refine blk_drew ?_|refine blk_alloc ?_ _));exact BK788.out) hb);have n1_ := Aside0.mk (below_step (by repeat (first|(with_reducible first|exact HB.out|apply below_alloc|apply pw_below_drewN|apply below_drew1|refine below_set ?_ GE788.out)|exact HB.out)) hb);clear BK788;clear HB;have BK788 := n0_;have HB := n1_;clear n0_ n1_;(try clear hb);(try clear hb2);(try clear hk);(try clear hi);have hcz22_0 : w21.cell? ⟨gb788,0,none⟩ = some (.int .u64 a0_0) := (blk_cell BK788.out 0).trans rfl;have hcz22_1 : w21.cell? ⟨gb788,1,none⟩ = some (.int .i64 a0_1) := (blk_cell BK788.out 1).trans rfl;have hcz22_2 : w21.cell? ⟨gb788,2,none⟩ = some (.int .i64 a0_2) := (blk_cell BK788.out 2).trans rfl;have hcz22_3 : w21.cell? ⟨gb788,3,none⟩ = some (.slice A0_3 l0_3.length c0_3) := (blk_cell BK788.out 3).trans rfl;have hcz22_4 : w21.cell? ⟨gb788,4,none⟩ = some (.int .u64 a0_4) := (blk_cell BK788.out 4).trans rfl;have hcz22_5 : w21.cell? ⟨gb788,5,none⟩ = some (.int .u64 a0_5) := (blk_cell BK788.out 5).trans rfl;have hcz22_6 : w21.cell? ⟨gb788,6,none⟩ = some (.slice A0_6 l0_6.length c0_6) := (blk_cell BK788.out 6).trans rfl;have hfz22_0 := blk_frozen BK788.out 0;have hfz22_1 := blk_frozen BK788.out 1;have hfz22_2 := blk_frozen BK788.out 2;have hfz22_3 := blk_frozen BK788.out 3;have hfz22_4 := blk_frozen BK788.out 4;have hfz22_5 := blk_frozen BK788.out 5;have hfz22_6 := blk_frozen BK788.out 6)|((with_reducible refine gate_callee (f := 14) rfl ?_);refine goesL_ (some 23) rfl rfl Try.func14 (by kernel_rfl) rfl #[.agg #[.int .u64 a0_0,.int .i64 a0_1,.int .i64 a0_2,.slice A0_3 l0_3.length c0_3,.int .u64 a0_4,.int .u64 a0_5,.slice A0_6 l0_6.length c0_6]] rfl (by (try simp only [List.map_toArray,List.map_cons,List.map_nil]);first|done|rfl|(simp only [List.length_drop,List.length_take];rfl)) ?_;(with_reducible refine (privitylaw43_one.calls k a0_0 a0_1 a0_2 _ _ l0_3 a0_4 a0_5 _ _ l0_6 t791 t794 _ ?side1 ?side2 ?side3 ?side4 A4.out).mono ?_);(case side1 => repeat (first|exact (Kd.C_below HR0_3.out HB.out)|(with_reducible refine Kd.C_alloc ?_ _)|(with_reducible refine Kd.C_drewN ?_ _)|(with_reducible refine Kd.C_drew ?_)));(case side2 => exact HC0_3.out);(case side3 => repeat (first|exact (Kd.C_below HR0_6.out HB.out)|(with_reducible refine Kd.C_alloc ?_ _)|(with_reducible refine Kd.C_drewN ?_ _)|(with_reducible refine Kd.C_drew ?_)));(case side4 => exact HC0_6.out);rintro e w23 ⟨v792,v795,rfl,ho0,ho1,hb⟩;refine ⟨_,rfl,?_⟩;have n0_ := Aside0.mk (Kd.R_lower ho0 (below_size (by repeat (first|(with_reducible first|exact HB.out|apply below_alloc|apply pw_below_drewN|apply below_drew1|refine below_set ?_ GE788.out)|exact HB.out))));have n1_ := Aside0.mk (Kd.R_lower ho1 (below_size (by repeat (first|(with_reducible first|exact HB.out|apply below_alloc|apply pw_below_drewN|apply below_drew1|refine below_set ?_ GE788.out)|exact HB.out))));have n2_ := Aside0.mk (blk_below (g := gb788) (o := .cells #[.int .u64 a0_0,.int .i64 a0_1,.int .i64 a0_2,.slice A0_3 l0_3.length c0_3,.int .u64 a0_4,.int .u64 a0_5,.slice A0_6 l0_6.length c0_6] 28 (0,0)) (by (with_reducible repeat (first|refine blk_drewN ?_ _|refine blk_drew ?_|refine blk_alloc ?_ _));exact BK788.out) hb);have n3_ := Aside0.mk (below_step (by repeat (first|(with_reducible first|exact HB.out|apply below_alloc|apply pw_below_drewN|apply below_drew1|refine below_set ?_ GE788.out)|exact HB.out)) hb);clear BK788;clear HB;have HO793 := n0_;have HO796 := n1_;have BK788 := n2_;have HB := n3_;clear n0_ n1_ n2_ n3_;(try clear hb);(try clear hb2);(try clear hk);(try clear hi);(try clear ho0);(try clear ho1)))
        have n0_ := Aside0.mk (Kd.R_drew HO793.out)
        have n1_ := Aside0.mk (Kd.R_drew HO796.out)
        have n2_ := Aside0.mk (blk_drew BK788.out)
        have n3_ := Aside0.mk (below_drew1 HB.out)
        clear HO793
        clear HO796
        clear BK788
        clear HB
        have HO793 := n0_
        have HO796 := n1_
        have BK788 := n2_
        have HB := n3_
        clear n0_ n1_ n2_ n3_
        obtain ⟨Ao25,co25,eo25⟩ := Kd.R_slice HO793.out
        (first|subst eo25|(injection eo25 with f1_ f2_ f3_;have f4_ := f1_.symm;have f5_ := f3_.symm;clear f1_ f2_ f3_;subst f4_;subst f5_))
        obtain ⟨Ao26,co26,eo26⟩ := Kd.R_slice HO796.out
        (first|subst eo26|(injection eo26 with f1_ f2_ f3_;have f4_ := f1_.symm;have f5_ := f3_.symm;clear f1_ f2_ f3_;subst f4_;subst f5_))
        refine start_ (n := 16) (S := fun w' => w'.cell? ⟨gb788,0,none⟩ = some (.int .u64 a0_0) ∧ w'.cell? ⟨gb788,1,none⟩ = some (.int .i64 a0_1) ∧ w'.cell? ⟨gb788,2,none⟩ = some (.int .i64 a0_2) ∧ w'.cell? ⟨gb788,3,none⟩ = some (.slice A0_3 l0_3.length c0_3) ∧ w'.cell? ⟨gb788,4,none⟩ = some (.int .u64 a0_4) ∧ w'.cell? ⟨gb788,5,none⟩ = some (.int .u64 a0_5) ∧ w'.cell? ⟨gb788,6,none⟩ = some (.slice A0_6 l0_6.length c0_6)) (ds := []) #[false,false,false,false,false,false,false,false,false,false,false,false,false,false,false,false] (by kernel_rfl) rfl rfl ⟨(blk_cell BK788.out 0).trans rfl,(blk_cell BK788.out 1).trans rfl,(blk_cell BK788.out 2).trans rfl,(blk_cell BK788.out 3).trans rfl,(blk_cell BK788.out 4).trans rfl,(blk_cell BK788.out 5).trans rfl,(blk_cell BK788.out 6).trans rfl⟩ (fun hHeld => ?_);refine with_tabW privitylaw43_TapeshiftIdentity.tab5 privitylaw43_TapeshiftIdentity.bits5 (fun HT_ HW_ => ?_)
        generalize w23.drew = w24 at HO793 HO796 BK788 HB hHeld ⊢
        refine pure_ (i := 0) (N := some 27) (v := ?_) (a' := ?_) #[true,false,false,false,false,false,false,false,false,false,false,false,false,false,false,false] rfl rfl (any_of HT_.out (by kernel_rfl)) (fun _ _ _ h => h) (Or.inl ⟨by rfl,?_⟩) ?_ ?_
        rotate_left
        ·intro w'
         go_simp
         with_reducible rfl
        rotate_left
        ·simp only [Act.put,List.setIfInBounds_toArray,List.set_cons_zero,List.set_cons_succ,i64_w,i32_w]
         rfl
        refine pure_ (i := 2) (N := some 29) (v := ?_) (a' := ?_) #[true,false,true,false,false,false,false,false,false,false,false,false,false,false,false,false] rfl rfl (any_of HT_.out (by kernel_rfl)) (fun _ _ _ h => h) (Or.inl ⟨by rfl,?_⟩) ?_ ?_
        rotate_left
        ·intro w'
         go_simp
         with_reducible rfl
        rotate_left
        ·simp only [Act.put,List.setIfInBounds_toArray,List.set_cons_zero,List.set_cons_succ,i64_w,i32_w]
         rfl
        refine pure_ (i := 4) (N := some 31) (v := ?_) (a' := ?_) #[true,false,true,false,true,false,false,false,false,false,false,false,false,false,false,false] rfl rfl (any_of HT_.out (by kernel_rfl)) (fun _ _ _ h => h) (Or.inl ⟨by rfl,?_⟩) ?_ ?_
        rotate_left
        ·intro w'
         go_simp
         with_reducible rfl
        rotate_left
        ·simp only [Act.put,List.setIfInBounds_toArray,List.set_cons_zero,List.set_cons_succ,i64_w,i32_w]
         rfl
        refine pure_ (i := 6) (N := some 33) (v := ?_) (a' := ?_) #[true,false,true,false,true,false,true,false,false,false,false,false,false,false,false,false] rfl rfl (any_of HT_.out (by kernel_rfl)) (fun _ _ _ h => h) (Or.inl ⟨by rfl,?_⟩) ?_ ?_
        rotate_left
        ·intro w'
         go_simp
         with_reducible rfl
        rotate_left
        ·simp only [Act.put,List.setIfInBounds_toArray,List.set_cons_zero,List.set_cons_succ,i64_w,i32_w]
         rfl
        refine pure_ (i := 8) (N := some 35) (v := ?_) (a' := ?_) #[true,false,true,false,true,false,true,false,true,false,false,false,false,false,false,false] rfl rfl (any_of HT_.out (by kernel_rfl)) (fun _ _ _ h => h) (Or.inl ⟨by rfl,?_⟩) ?_ ?_
        rotate_left
        ·intro w'
         go_simp
         with_reducible rfl
        rotate_left
        ·simp only [Act.put,List.setIfInBounds_toArray,List.set_cons_zero,List.set_cons_succ,i64_w,i32_w]
         rfl
        refine pure_ (i := 9) (N := some 36) (v := ?_) (a' := ?_) #[true,false,true,false,true,false,true,false,true,true,false,false,false,false,false,false] rfl rfl (any_of HT_.out (by kernel_rfl)) (fun _ _ _ h => h) (Or.inl ⟨by rfl,?_⟩) ?_ ?_
        rotate_left
        ·intro w'
         go_simp
         with_reducible rfl
        rotate_left
        ·simp only [Act.put,List.setIfInBounds_toArray,List.set_cons_zero,List.set_cons_succ,i64_w,i32_w]
         rfl
        refine take_ (i := 1) (N := some 28) (v := ?_) (a' := ?_) #[true,true,true,false,true,false,true,false,true,true,false,false,false,false,false,false] rfl rfl (take_ofW HT_.out HW_.out (by kernel_rfl)) (fun _ _ _ h => h) (Or.inl ⟨by rfl,?_⟩) hHeld ?_ ?_
        rotate_left
        ·rintro w' ⟨s0,s1,s2,s3,s4,s5,s6⟩
         go_simp
         with_reducible rfl
        rotate_left
        ·simp only [Act.put,List.setIfInBounds_toArray,List.set_cons_zero,List.set_cons_succ,i64_w,i32_w]
         rfl
        refine take_ (i := 3) (N := some 30) (v := ?_) (a' := ?_) #[true,true,true,true,true,false,true,false,true,true,false,false,false,false,false,false] rfl rfl (take_ofW HT_.out HW_.out (by kernel_rfl)) (fun _ _ _ h => h) (Or.inl ⟨by rfl,?_⟩) hHeld ?_ ?_
        rotate_left
        ·rintro w' ⟨s0,s1,s2,s3,s4,s5,s6⟩
         go_simp
         with_reducible rfl
        rotate_left
        ·simp only [Act.put,List.setIfInBounds_toArray,List.set_cons_zero,List.set_cons_succ,i64_w,i32_w]
         rfl
        refine take_ (i := 5) (N := some 32) (v := ?_) (a' := ?_) #[true,true,true,true,true,true,true,false,true,true,false,false,false,false,false,false] rfl rfl (take_ofW HT_.out HW_.out (by kernel_rfl)) (fun _ _ _ h => h) (Or.inl ⟨by rfl,?_⟩) hHeld ?_ ?_
        rotate_left
        ·rintro w' ⟨s0,s1,s2,s3,s4,s5,s6⟩
         go_simp
         with_reducible rfl
        rotate_left
        ·simp only [Act.put,List.setIfInBounds_toArray,List.set_cons_zero,List.set_cons_succ,i64_w,i32_w]
         rfl
        refine pure_ (i := 7) (N := some 34) (v := ?_) (a' := ?_) #[true,true,true,true,true,true,true,true,true,true,false,false,false,false,false,false] rfl rfl (any_of HT_.out (by kernel_rfl)) (fun _ _ _ h => h) (Or.inl ⟨by rfl,?_⟩) ?_ ?_
        rotate_left
        ·intro w'
         go_simp
         with_reducible rfl
        rotate_left
        ·simp only [Act.put,List.setIfInBounds_toArray,List.set_cons_zero,List.set_cons_succ,i64_w,i32_w]
         rfl
        refine one_ (i := 10) (N := some 37) #[true,true,true,true,true,true,true,true,true,true,true,false,false,false,false,false] rfl rfl (one_of HT_.out (by kernel_rfl)) (by decide) (fun K hK => ?_)
        refine goes_ Try.func15 (by kernel_rfl) rfl #[.agg #[.int .u64 a0_0,.int .i64 a0_1,.int .i64 a0_2],.slice A0_3 l0_3.length c0_3,.int .u64 (Int.tmod a0_4 a0_0),.slice Ao25 t791.length co25,.slice Ao26 t794.length co26] (by rfl) rfl rfl (by (try simp only [List.map_toArray,List.map_cons,List.map_nil]);first|done|rfl|(simp only [List.length_drop,List.length_take];rfl)) ?_
        with_reducible refine (tapeshift_Sharing.calls k a0_0 a0_1 a0_2 _ _ l0_3 (Int.tmod a0_4 a0_0) _ _ t791 _ _ t794 t797 t800 _ ?side1 ?side2 ?side3 ?side4 ?side5 ?side6 A6.out).mono ?_
        (case side1 => repeat (first|exact (Kd.C_below HR0_3.out HB.out)|(with_reducible refine Kd.C_alloc ?_ _)|(with_reducible refine Kd.C_drewN ?_ _)|(with_reducible refine Kd.C_drew ?_)))
        (case side2 => exact HC0_3.out)
        (case side3 => repeat (first|exact (Kd.R_reads' HO793.out).2.2|(with_reducible refine Kd.C_alloc ?_ _)|(with_reducible refine Kd.C_drewN ?_ _)|(with_reducible refine Kd.C_drew ?_)))
        (case side4 => exact (Kd.R_reads' HO793.out).2.1)
        (case side5 => repeat (first|exact (Kd.R_reads' HO796.out).2.2|(with_reducible refine Kd.C_alloc ?_ _)|(with_reducible refine Kd.C_drewN ?_ _)|(with_reducible refine Kd.C_drew ?_)))
        (case side6 => exact (Kd.R_reads' HO796.out).2.1)
        rintro e w27 ⟨v798,v801,rfl,ho0,ho1,hb⟩
        refine ⟨_,rfl,?_⟩
        have n0_ := Aside0.mk (Kd.R_mono (Kd.R_told (Kd.R_told (Kd.R_old (by (with_reducible repeat (first|apply Kd.R_alloc|apply Kd.R_drewN|apply Kd.R_drew));exact HO793.out) hb) (Kd.R_base ho0)) (Kd.R_base ho1)) (fun _ h_ => h_.1))
        have n1_ := Aside0.mk (Kd.R_mono (Kd.R_told (Kd.R_told (Kd.R_old (by (with_reducible repeat (first|apply Kd.R_alloc|apply Kd.R_drewN|apply Kd.R_drew));exact HO796.out) hb) (Kd.R_base ho0)) (Kd.R_base ho1)) (fun _ h_ => h_.1))
        have n2_ := Aside0.mk (Kd.R_lower (Kd.R_new' (Kd.R_new' ho0 (Kd.R_lt (by (with_reducible repeat (first|apply Kd.R_alloc|apply Kd.R_drewN|apply Kd.R_drew));exact HO793.out))) (Kd.R_lt (by (with_reducible repeat (first|apply Kd.R_alloc|apply Kd.R_drewN|apply Kd.R_drew));exact HO796.out))) (below_size (by repeat (first|(with_reducible first|exact HB.out|apply below_alloc|apply pw_below_drewN|apply below_drew1|refine below_set ?_ GE788.out)|exact HB.out))))
        have n3_ := Aside0.mk (Kd.R_lower (Kd.R_new' (Kd.R_new' ho1 (Kd.R_lt (by (with_reducible repeat (first|apply Kd.R_alloc|apply Kd.R_drewN|apply Kd.R_drew));exact HO793.out))) (Kd.R_lt (by (with_reducible repeat (first|apply Kd.R_alloc|apply Kd.R_drewN|apply Kd.R_drew));exact HO796.out))) (below_size (by repeat (first|(with_reducible first|exact HB.out|apply below_alloc|apply pw_below_drewN|apply below_drew1|refine below_set ?_ GE788.out)|exact HB.out))))
        have n4_ := Aside0.mk (blk_below (g := gb788) (o := .cells #[.int .u64 a0_0,.int .i64 a0_1,.int .i64 a0_2,.slice A0_3 l0_3.length c0_3,.int .u64 a0_4,.int .u64 a0_5,.slice A0_6 l0_6.length c0_6] 28 (0,0)) (by (with_reducible repeat (first|refine blk_drewN ?_ _|refine blk_drew ?_|refine blk_alloc ?_ _));exact BK788.out) hb)
        have n5_ := Aside0.mk (below_step (by repeat (first|(with_reducible first|exact HB.out|apply below_alloc|apply pw_below_drewN|apply below_drew1|refine below_set ?_ GE788.out)|exact HB.out)) hb)
        clear HO793
        clear HO796
        clear BK788
        clear HB
        have HO793 := n0_
        have HO796 := n1_
        have HO799 := n2_
        have HO802 := n3_
        have BK788 := n4_
        have HB := n5_
        clear n0_ n1_ n2_ n3_ n4_ n5_
        (try clear hb)
        (try clear hb2)
        (try clear hk)
        (try clear hi)
        (try clear ho0)
        (try clear ho1)
        refine hK.out _ _ ⟨(blk_cell BK788.out 0).trans rfl,(blk_cell BK788.out 1).trans rfl,(blk_cell BK788.out 2).trans rfl,(blk_cell BK788.out 3).trans rfl,(blk_cell BK788.out 4).trans rfl,(blk_cell BK788.out 5).trans rfl,(blk_cell BK788.out 6).trans rfl⟩ (fun hHeld => ?_)
        clear hK K
        refine norm_ (a' := ?_) ?_ ?_
        rotate_left
        ·show Act.put _ (some 37) _ = _
         simp only [Act.put,List.setIfInBounds_toArray,List.set_cons_zero,List.set_cons_succ,i64_w,i32_w]
         rfl
        refine pure_ (i := 11) (N := some 26) (v := ?_) (a' := ?_) #[true,true,true,true,true,true,true,true,true,true,true,true,false,false,false,false] rfl rfl (any_of HT_.out (by kernel_rfl)) (fun _ _ _ h => h) (Or.inl ⟨by rfl,?_⟩) ?_ ?_
        rotate_left
        ·intro w'
         go_simp
         with_reducible rfl
        rotate_left
        ·simp only [Act.put,List.setIfInBounds_toArray,List.set_cons_zero,List.set_cons_succ,i64_w,i32_w]
         rfl
        refine pure_ (i := 12) (N := some 38) (v := ?_) (a' := ?_) #[true,true,true,true,true,true,true,true,true,true,true,true,true,false,false,false] rfl rfl (any_of HT_.out (by kernel_rfl)) (fun _ _ _ h => h) (Or.inl ⟨by rfl,?_⟩) ?_ ?_
        rotate_left
        ·intro w'
         go_simp
         with_reducible rfl
        rotate_left
        ·simp only [Act.put,List.setIfInBounds_toArray,List.set_cons_zero,List.set_cons_succ,i64_w,i32_w]
         rfl
        refine pure_ (i := 13) (N := some 39) (v := ?_) (a' := ?_) #[true,true,true,true,true,true,true,true,true,true,true,true,true,true,false,false] rfl rfl (any_of HT_.out (by kernel_rfl)) (fun _ _ _ h => h) (Or.inl ⟨by rfl,?_⟩) ?_ ?_
        rotate_left
        ·intro w'
         go_simp
         with_reducible rfl
        rotate_left
        ·simp only [Act.put,List.setIfInBounds_toArray,List.set_cons_zero,List.set_cons_succ,i64_w,i32_w]
         rfl
        refine pure_ (i := 14) (N := some 6) (v := ?_) (a' := ?_) #[true,true,true,true,true,true,true,true,true,true,true,true,true,true,true,false] rfl rfl (any_of HT_.out (by kernel_rfl)) (fun _ _ _ h => h) (Or.inl ⟨by rfl,?_⟩) ?_ ?_
        rotate_left
        ·intro w'
         go_simp
         with_reducible rfl
        rotate_left
        ·simp only [Act.put,List.setIfInBounds_toArray,List.set_cons_zero,List.set_cons_succ,i64_w,i32_w]
         rfl
        refine pure_ (i := 15) (N := some 7) (v := ?_) (a' := ?_) #[true,true,true,true,true,true,true,true,true,true,true,true,true,true,true,true] rfl rfl (any_of HT_.out (by kernel_rfl)) (fun _ _ _ h => h) (Or.inl ⟨by rfl,?_⟩) ?_ ?_
        rotate_left
        ·intro w'
         go_simp
         with_reducible rfl
        rotate_left
        ·simp only [Act.put,List.setIfInBounds_toArray,List.set_cons_zero,List.set_cons_succ,i64_w,i32_w]
         rfl
        refine done_ (done_of HT_.out (by kernel_rfl)) ?_
        have hcz28_0 : w27.cell? ⟨gb788,0,none⟩ = some (.int .u64 a0_0) := (blk_cell BK788.out 0).trans rfl
        have hcz28_1 : w27.cell? ⟨gb788,1,none⟩ = some (.int .i64 a0_1) := (blk_cell BK788.out 1).trans rfl
        have hcz28_2 : w27.cell? ⟨gb788,2,none⟩ = some (.int .i64 a0_2) := (blk_cell BK788.out 2).trans rfl
        have hcz28_3 : w27.cell? ⟨gb788,3,none⟩ = some (.slice A0_3 l0_3.length c0_3) := (blk_cell BK788.out 3).trans rfl
        have hcz28_4 : w27.cell? ⟨gb788,4,none⟩ = some (.int .u64 a0_4) := (blk_cell BK788.out 4).trans rfl
        have hcz28_5 : w27.cell? ⟨gb788,5,none⟩ = some (.int .u64 a0_5) := (blk_cell BK788.out 5).trans rfl
        have hcz28_6 : w27.cell? ⟨gb788,6,none⟩ = some (.slice A0_6 l0_6.length c0_6) := (blk_cell BK788.out 6).trans rfl
        have hfz28_0 := blk_frozen BK788.out 0
        have hfz28_1 := blk_frozen BK788.out 1
        have hfz28_2 := blk_frozen BK788.out 2
        have hfz28_3 := blk_frozen BK788.out 3
        have hfz28_4 := blk_frozen BK788.out 4
        have hfz28_5 := blk_frozen BK788.out 5
        have hfz28_6 := blk_frozen BK788.out 6
        try go_wp2_with (first|((with_reducible refine gate_callee (f := 24) rfl ?_);refine goesL_ (some 42) rfl rfl Try.func24 (by kernel_rfl) rfl #[.agg #[.int .u64 a0_0,.int .i64 a0_1,.int .i64 a0_2,.slice A0_3 l0_3.length c0_3,.int .u64 a0_4,.int .u64 a0_5,.slice A0_6 l0_6.length c0_6]] rfl (by (try simp only [List.map_toArray,List.map_cons,List.map_nil]);first|done|rfl|(simp only [List.length_drop,List.length_take];rfl)) ?_;(with_reducible refine (privitylaw43_triple.calls k a0_0 a0_1 a0_2 _ _ l0_3 a0_4 a0_5 _ _ l0_6 t803 t806 _ ?side1 ?side2 ?side3 ?side4 A7.out).mono ?_);(case side1 => repeat (first|exact (Kd.C_below HR0_3.out HB.out)|(with_reducible refine Kd.C_alloc ?_ _)|(with_reducible refine Kd.C_drewN ?_ _)|(with_reducible refine Kd.C_drew ?_)));(case side2 => exact HC0_3.out);(case side3 => repeat (first|exact (Kd.C_below HR0_6.out HB.out)|(with_reducible refine Kd.C_alloc ?_ _)|(with_reducible refine Kd.C_drewN ?_ _)|(with_reducible refine Kd.C_drew ?_)));(case side4 => exact HC0_6.out);rintro e w29 ⟨v804,v807,rfl,ho0,ho1,hb⟩;refine ⟨_,rfl,?_⟩;have n0_ := Aside0.mk (Kd.R_mono (Kd.R_told (Kd.R_told (Kd.R_old (by (with_reducible repeat (first|apply Kd.R_alloc|apply Kd.R_drewN|apply Kd.R_drew));exact HO793.out) hb) (Kd.R_base ho0)) (Kd.R_base ho1)) (fun _ h_ => h_.1));have n1_ := Aside0.mk (Kd.R_mono (Kd.R_told (Kd.R_told (Kd.R_old (by (with_reducible repeat (first|apply Kd.R_alloc|apply Kd.R_drewN|apply Kd.R_drew));exact HO796.out) hb) (Kd.R_base ho0)) (Kd.R_base ho1)) (fun _ h_ => h_.1));have n2_ := Aside0.mk (Kd.R_mono (Kd.R_told (Kd.R_told (Kd.R_old (by (with_reducible repeat (first|apply Kd.R_alloc|apply Kd.R_drewN|apply Kd.R_drew));exact HO799.out) hb) (Kd.R_base ho0)) (Kd.R_base ho1)) (fun _ h_ => h_.1));have n3_ := Aside0.mk (Kd.R_mono (Kd.R_told (Kd.R_told (Kd.R_old (by (with_reducible repeat (first|apply Kd.R_alloc|apply Kd.R_drewN|apply Kd.R_drew));exact HO802.out) hb) (Kd.R_base ho0)) (Kd.R_base ho1)) (fun _ h_ => h_.1));have n4_ := Aside0.mk (Kd.R_lower (Kd.R_new' (Kd.R_new' (Kd.R_new' (Kd.R_new' ho0 (Kd.R_lt (by (with_reducible repeat (first|apply Kd.R_alloc|apply Kd.R_drewN|apply Kd.R_drew));exact HO793.out))) (Kd.R_lt (by (with_reducible repeat (first|apply Kd.R_alloc|apply Kd.R_drewN|apply Kd.R_drew));exact HO796.out))) (Kd.R_lt (by (with_reducible repeat (first|apply Kd.R_alloc|apply Kd.R_drewN|apply Kd.R_drew));exact HO799.out))) (Kd.R_lt (by (with_reducible repeat (first|apply Kd.R_alloc|apply Kd.R_drewN|apply Kd.R_drew));exact HO802.out))) (below_size (by repeat (first|(with_reducible first|exact HB.out|apply below_alloc|apply pw_below_drewN|apply below_drew1|refine below_set ?_ GE788.out)|exact HB.out))));have n5_ := Aside0.mk (Kd.R_lower (Kd.R_new' (Kd.R_new' (Kd.R_new' (Kd.R_new' ho1 (Kd.R_lt (by (with_reducible repeat (first|apply Kd.R_alloc|apply Kd.R_drewN|apply Kd.R_drew));exact HO793.out))) (Kd.R_lt (by (with_reducible repeat (first|apply Kd.R_alloc|apply Kd.R_drewN|apply Kd.R_drew));exact HO796.out))) (Kd.R_lt (by (with_reducible repeat (first|apply Kd.R_alloc|apply Kd.R_drewN|apply Kd.R_drew));exact HO799.out))) (Kd.R_lt (by (with_reducible repeat (first|apply Kd.R_alloc|apply Kd.R_drewN|apply Kd.R_drew));exact HO802.out))) (below_size (by repeat (first|(with_reducible first|exact HB.out|apply below_alloc|apply pw_below_drewN|apply below_drew1|refine below_set ?_ GE788.out)|exact HB.out))));have n6_ := Aside0.mk (blk_below (g := gb788) (o := .cells #[.int .u64 a0_0,.int .i64 a0_1,.int .i64 a0_2,.slice A0_3 l0_3.length c0_3,.int .u64 a0_4,.int .u64 a0_5,.slice A0_6 l0_6.length c0_6] 28 (0,0)) (by (with_reducible repeat (first|refine blk_drewN ?_ _|refine blk_drew ?_|refine blk_alloc ?_ _));exact BK788.out) hb);have n7_ := Aside0.mk (below_step (by repeat (first|(with_reducible first|exact HB.out|apply below_alloc|apply pw_below_drewN|apply below_drew1|refine below_set ?_ GE788.out)|exact HB.out)) hb);clear HO793;clear HO796;clear HO799;clear HO802;clear BK788;clear HB;have HO793 := n0_;have HO796 := n1_;have HO799 := n2_;have HO802 := n3_;have HO805 := n4_;have HO808 := n5_;have BK788 := n6_;have HB := n7_;clear n0_ n1_ n2_ n3_ n4_ n5_ n6_ n7_;(try clear hb);(try clear hb2);(try clear hk);(try clear hi);(try clear ho0);(try clear ho1)))
        have n0_ := Aside0.mk (Kd.R_drew HO793.out)
        have n1_ := Aside0.mk (Kd.R_drew HO796.out)
        have n2_ := Aside0.mk (Kd.R_drew HO799.out)
        have n3_ := Aside0.mk (Kd.R_drew HO802.out)
        have n4_ := Aside0.mk (Kd.R_drew HO805.out)
        have n5_ := Aside0.mk (Kd.R_drew HO808.out)
        have n6_ := Aside0.mk (blk_drew BK788.out)
        have n7_ := Aside0.mk (below_drew1 HB.out)
        clear HO793
        clear HO796
        clear HO799
        clear HO802
        clear HO805
        clear HO808
        clear BK788
        clear HB
        have HO793 := n0_
        have HO796 := n1_
        have HO799 := n2_
        have HO802 := n3_
        have HO805 := n4_
        have HO808 := n5_
        have BK788 := n6_
        have HB := n7_
        clear n0_ n1_ n2_ n3_ n4_ n5_ n6_ n7_
        obtain ⟨Ao31,co31,eo31⟩ := Kd.R_slice HO805.out
        (first|subst eo31|(injection eo31 with f1_ f2_ f3_;have f4_ := f1_.symm;have f5_ := f3_.symm;clear f1_ f2_ f3_;subst f4_;subst f5_))
        obtain ⟨Ao32,co32,eo32⟩ := Kd.R_slice HO808.out
        (first|subst eo32|(injection eo32 with f1_ f2_ f3_;have f4_ := f1_.symm;have f5_ := f3_.symm;clear f1_ f2_ f3_;subst f4_;subst f5_))
        refine start_ (n := 20) (S := fun w' => w'.cell? ⟨gb788,0,none⟩ = some (.int .u64 a0_0) ∧ w'.cell? ⟨gb788,1,none⟩ = some (.int .i64 a0_1) ∧ w'.cell? ⟨gb788,2,none⟩ = some (.int .i64 a0_2) ∧ w'.cell? ⟨gb788,3,none⟩ = some (.slice A0_3 l0_3.length c0_3) ∧ w'.cell? ⟨gb788,4,none⟩ = some (.int .u64 a0_4) ∧ w'.cell? ⟨gb788,5,none⟩ = some (.int .u64 a0_5) ∧ w'.cell? ⟨gb788,6,none⟩ = some (.slice A0_6 l0_6.length c0_6)) (ds := []) #[false,false,false,false,false,false,false,false,false,false,false,false,false,false,false,false,false,false,false,false] (by kernel_rfl) rfl rfl ⟨(blk_cell BK788.out 0).trans rfl,(blk_cell BK788.out 1).trans rfl,(blk_cell BK788.out 2).trans rfl,(blk_cell BK788.out 3).trans rfl,(blk_cell BK788.out 4).trans rfl,(blk_cell BK788.out 5).trans rfl,(blk_cell BK788.out 6).trans rfl⟩ (fun hHeld => ?_);refine with_tabW privitylaw43_TapeshiftIdentity.tab7 privitylaw43_TapeshiftIdentity.bits7 (fun HT_ HW_ => ?_)
        generalize w29.drew = w30 at HO793 HO796 HO799 HO802 HO805 HO808 BK788 HB hHeld ⊢
        refine pure_ (i := 0) (N := some 46) (v := ?_) (a' := ?_) #[true,false,false,false,false,false,false,false,false,false,false,false,false,false,false,false,false,false,false,false] rfl rfl (any_of HT_.out (by kernel_rfl)) (fun _ _ _ h => h) (Or.inl ⟨by rfl,?_⟩) ?_ ?_
        rotate_left
        ·intro w'
         go_simp
         with_reducible rfl
        rotate_left
        ·simp only [Act.put,List.setIfInBounds_toArray,List.set_cons_zero,List.set_cons_succ,i64_w,i32_w]
         rfl
        refine pure_ (i := 2) (N := some 48) (v := ?_) (a' := ?_) #[true,false,true,false,false,false,false,false,false,false,false,false,false,false,false,false,false,false,false,false] rfl rfl (any_of HT_.out (by kernel_rfl)) (fun _ _ _ h => h) (Or.inl ⟨by rfl,?_⟩) ?_ ?_
        rotate_left
        ·intro w'
         go_simp
         with_reducible rfl
        rotate_left
        ·simp only [Act.put,List.setIfInBounds_toArray,List.set_cons_zero,List.set_cons_succ,i64_w,i32_w]
         rfl
        refine pure_ (i := 4) (N := some 50) (v := ?_) (a' := ?_) #[true,false,true,false,true,false,false,false,false,false,false,false,false,false,false,false,false,false,false,false] rfl rfl (any_of HT_.out (by kernel_rfl)) (fun _ _ _ h => h) (Or.inl ⟨by rfl,?_⟩) ?_ ?_
        rotate_left
        ·intro w'
         go_simp
         with_reducible rfl
        rotate_left
        ·simp only [Act.put,List.setIfInBounds_toArray,List.set_cons_zero,List.set_cons_succ,i64_w,i32_w]
         rfl
        refine pure_ (i := 6) (N := some 52) (v := ?_) (a' := ?_) #[true,false,true,false,true,false,true,false,false,false,false,false,false,false,false,false,false,false,false,false] rfl rfl (any_of HT_.out (by kernel_rfl)) (fun _ _ _ h => h) (Or.inl ⟨by rfl,?_⟩) ?_ ?_
        rotate_left
        ·intro w'
         go_simp
         with_reducible rfl
        rotate_left
        ·simp only [Act.put,List.setIfInBounds_toArray,List.set_cons_zero,List.set_cons_succ,i64_w,i32_w]
         rfl
        refine pure_ (i := 8) (N := some 54) (v := ?_) (a' := ?_) #[true,false,true,false,true,false,true,false,true,false,false,false,false,false,false,false,false,false,false,false] rfl rfl (any_of HT_.out (by kernel_rfl)) (fun _ _ _ h => h) (Or.inl ⟨by rfl,?_⟩) ?_ ?_
        rotate_left
        ·intro w'
         go_simp
         with_reducible rfl
        rotate_left
        ·simp only [Act.put,List.setIfInBounds_toArray,List.set_cons_zero,List.set_cons_succ,i64_w,i32_w]
         rfl
        refine pure_ (i := 10) (N := some 56) (v := ?_) (a' := ?_) #[true,false,true,false,true,false,true,false,true,false,true,false,false,false,false,false,false,false,false,false] rfl rfl (any_of HT_.out (by kernel_rfl)) (fun _ _ _ h => h) (Or.inl ⟨by rfl,?_⟩) ?_ ?_
        rotate_left
        ·intro w'
         go_simp
         with_reducible rfl
        rotate_left
        ·simp only [Act.put,List.setIfInBounds_toArray,List.set_cons_zero,List.set_cons_succ,i64_w,i32_w]
         rfl
        refine pure_ (i := 12) (N := some 58) (v := ?_) (a' := ?_) #[true,false,true,false,true,false,true,false,true,false,true,false,true,false,false,false,false,false,false,false] rfl rfl (any_of HT_.out (by kernel_rfl)) (fun _ _ _ h => h) (Or.inl ⟨by rfl,?_⟩) ?_ ?_
        rotate_left
        ·intro w'
         go_simp
         with_reducible rfl
        rotate_left
        ·simp only [Act.put,List.setIfInBounds_toArray,List.set_cons_zero,List.set_cons_succ,i64_w,i32_w]
         rfl
        refine pure_ (i := 13) (N := some 59) (v := ?_) (a' := ?_) #[true,false,true,false,true,false,true,false,true,false,true,false,true,true,false,false,false,false,false,false] rfl rfl (any_of HT_.out (by kernel_rfl)) (fun _ _ _ h => h) (Or.inl ⟨by rfl,?_⟩) ?_ ?_
        rotate_left
        ·intro w'
         go_simp
         with_reducible rfl
        rotate_left
        ·simp only [Act.put,List.setIfInBounds_toArray,List.set_cons_zero,List.set_cons_succ,i64_w,i32_w]
         rfl
        refine take_ (i := 1) (N := some 47) (v := ?_) (a' := ?_) #[true,true,true,false,true,false,true,false,true,false,true,false,true,true,false,false,false,false,false,false] rfl rfl (take_ofW HT_.out HW_.out (by kernel_rfl)) (fun _ _ _ h => h) (Or.inl ⟨by rfl,?_⟩) hHeld ?_ ?_
        rotate_left
        ·rintro w' ⟨s0,s1,s2,s3,s4,s5,s6⟩
         go_simp
         with_reducible rfl
        rotate_left
        ·simp only [Act.put,List.setIfInBounds_toArray,List.set_cons_zero,List.set_cons_succ,i64_w,i32_w]
         rfl
        refine take_ (i := 3) (N := some 49) (v := ?_) (a' := ?_) #[true,true,true,true,true,false,true,false,true,false,true,false,true,true,false,false,false,false,false,false] rfl rfl (take_ofW HT_.out HW_.out (by kernel_rfl)) (fun _ _ _ h => h) (Or.inl ⟨by rfl,?_⟩) hHeld ?_ ?_
        rotate_left
        ·rintro w' ⟨s0,s1,s2,s3,s4,s5,s6⟩
         go_simp
         with_reducible rfl
        rotate_left
        ·simp only [Act.put,List.setIfInBounds_toArray,List.set_cons_zero,List.set_cons_succ,i64_w,i32_w]
         rfl
        refine take_ (i := 5) (N := some 51) (v := ?_) (a' := ?_) #[true,true,true,true,true,true,true,false,true,false,true,false,true,true,false,false,false,false,false,false] rfl rfl (take_ofW HT_.out HW_.out (by kernel_rfl)) (fun _ _ _ h => h) (Or.inl ⟨by rfl,?_⟩) hHeld ?_ ?_
        rotate_left
        ·rintro w' ⟨s0,s1,s2,s3,s4,s5,s6⟩
         go_simp
         with_reducible rfl
        rotate_left
        ·simp only [Act.put,List.setIfInBounds_toArray,List.set_cons_zero,List.set_cons_succ,i64_w,i32_w]
         rfl
        refine pure_ (i := 7) (N := some 53) (v := ?_) (a' := ?_) #[true,true,true,true,true,true,true,true,true,false,true,false,true,true,false,false,false,false,false,false] rfl rfl (any_of HT_.out (by kernel_rfl)) (fun _ _ _ h => h) (Or.inl ⟨by rfl,?_⟩) ?_ ?_
        rotate_left
        ·intro w'
         go_simp
         with_reducible rfl
        rotate_left
        ·simp only [Act.put,List.setIfInBounds_toArray,List.set_cons_zero,List.set_cons_succ,i64_w,i32_w]
         rfl
        refine take_ (i := 9) (N := some 55) (v := ?_) (a' := ?_) #[true,true,true,true,true,true,true,true,true,true,true,false,true,true,false,false,false,false,false,false] rfl rfl (take_ofW HT_.out HW_.out (by kernel_rfl)) (fun _ _ _ h => h) (Or.inl ⟨by rfl,?_⟩) hHeld ?_ ?_
        rotate_left
        ·rintro w' ⟨s0,s1,s2,s3,s4,s5,s6⟩
         go_simp
         with_reducible rfl
        rotate_left
        ·simp only [Act.put,List.setIfInBounds_toArray,List.set_cons_zero,List.set_cons_succ,i64_w,i32_w]
         rfl
        refine pure_ (i := 11) (N := some 57) (v := ?_) (a' := ?_) #[true,true,true,true,true,true,true,true,true,true,true,true,true,true,false,false,false,false,false,false] rfl rfl (any_of HT_.out (by kernel_rfl)) (fun _ _ _ h => h) (Or.inl ⟨by rfl,?_⟩) ?_ ?_
        rotate_left
        ·intro w'
         go_simp
         with_reducible rfl
        rotate_left
        ·simp only [Act.put,List.setIfInBounds_toArray,List.set_cons_zero,List.set_cons_succ,i64_w,i32_w]
         rfl
        refine one_ (i := 14) (N := some 60) #[true,true,true,true,true,true,true,true,true,true,true,true,true,true,true,false,false,false,false,false] rfl rfl (one_of HT_.out (by kernel_rfl)) (by decide) (fun K hK => ?_)
        refine goes_ Try.func25 (by kernel_rfl) rfl #[.agg #[.int .u64 a0_0,.int .i64 a0_1,.int .i64 a0_2],.slice A0_3 l0_3.length c0_3,.int .u64 (Int.tmod a0_4 a0_0),.int .u64 (Int.tmod a0_5 a0_0),.slice Ao31 t803.length co31,.slice Ao32 t806.length co32] (by rfl) rfl rfl (by (try simp only [List.map_toArray,List.map_cons,List.map_nil]);first|done|rfl|(simp only [List.length_drop,List.length_take];rfl)) ?_
        with_reducible refine (tapeshift_Triple.calls a0_0 a0_1 a0_2 _ _ l0_3 (Int.tmod a0_4 a0_0) (Int.tmod a0_5 a0_0) _ _ t803 _ _ t806 t809 t812 _ ?side1 ?side2 ?side3 ?side4 ?side5 ?side6 A8.out).mono ?_
        (case side1 => repeat (first|exact (Kd.C_below HR0_3.out HB.out)|(with_reducible refine Kd.C_alloc ?_ _)|(with_reducible refine Kd.C_drewN ?_ _)|(with_reducible refine Kd.C_drew ?_)))
        (case side2 => exact HC0_3.out)
        (case side3 => repeat (first|exact (Kd.R_reads' HO805.out).2.2|(with_reducible refine Kd.C_alloc ?_ _)|(with_reducible refine Kd.C_drewN ?_ _)|(with_reducible refine Kd.C_drew ?_)))
        (case side4 => exact (Kd.R_reads' HO805.out).2.1)
        (case side5 => repeat (first|exact (Kd.R_reads' HO808.out).2.2|(with_reducible refine Kd.C_alloc ?_ _)|(with_reducible refine Kd.C_drewN ?_ _)|(with_reducible refine Kd.C_drew ?_)))
        (case side6 => exact (Kd.R_reads' HO808.out).2.1)
        rintro e w33 ⟨v810,v813,rfl,ho0,ho1,hb⟩
        refine ⟨_,rfl,?_⟩
        have n0_ := Aside0.mk (Kd.R_mono (Kd.R_told (Kd.R_told (Kd.R_old (by (with_reducible repeat (first|apply Kd.R_alloc|apply Kd.R_drewN|apply Kd.R_drew));exact HO793.out) hb) (Kd.R_base ho0)) (Kd.R_base ho1)) (fun _ h_ => h_.1))
        have n1_ := Aside0.mk (Kd.R_mono (Kd.R_told (Kd.R_told (Kd.R_old (by (with_reducible repeat (first|apply Kd.R_alloc|apply Kd.R_drewN|apply Kd.R_drew));exact HO796.out) hb) (Kd.R_base ho0)) (Kd.R_base ho1)) (fun _ h_ => h_.1))
        have n2_ := Aside0.mk (Kd.R_mono (Kd.R_told (Kd.R_told (Kd.R_old (by (with_reducible repeat (first|apply Kd.R_alloc|apply Kd.R_drewN|apply Kd.R_drew));exact HO799.out) hb) (Kd.R_base ho0)) (Kd.R_base ho1)) (fun _ h_ => h_.1))
        have n3_ := Aside0.mk (Kd.R_mono (Kd.R_told (Kd.R_told (Kd.R_old (by (with_reducible repeat (first|apply Kd.R_alloc|apply Kd.R_drewN|apply Kd.R_drew));exact HO802.out) hb) (Kd.R_base ho0)) (Kd.R_base ho1)) (fun _ h_ => h_.1))
        have n4_ := Aside0.mk (Kd.R_mono (Kd.R_told (Kd.R_told (Kd.R_old (by (with_reducible repeat (first|apply Kd.R_alloc|apply Kd.R_drewN|apply Kd.R_drew));exact HO805.out) hb) (Kd.R_base ho0)) (Kd.R_base ho1)) (fun _ h_ => h_.1))
        have n5_ := Aside0.mk (Kd.R_mono (Kd.R_told (Kd.R_told (Kd.R_old (by (with_reducible repeat (first|apply Kd.R_alloc|apply Kd.R_drewN|apply Kd.R_drew));exact HO808.out) hb) (Kd.R_base ho0)) (Kd.R_base ho1)) (fun _ h_ => h_.1))
        have n6_ := Aside0.mk (Kd.R_lower (Kd.R_new' (Kd.R_new' (Kd.R_new' (Kd.R_new' (Kd.R_new' (Kd.R_new' ho0 (Kd.R_lt (by (with_reducible repeat (first|apply Kd.R_alloc|apply Kd.R_drewN|apply Kd.R_drew));exact HO793.out))) (Kd.R_lt (by (with_reducible repeat (first|apply Kd.R_alloc|apply Kd.R_drewN|apply Kd.R_drew));exact HO796.out))) (Kd.R_lt (by (with_reducible repeat (first|apply Kd.R_alloc|apply Kd.R_drewN|apply Kd.R_drew));exact HO799.out))) (Kd.R_lt (by (with_reducible repeat (first|apply Kd.R_alloc|apply Kd.R_drewN|apply Kd.R_drew));exact HO802.out))) (Kd.R_lt (by (with_reducible repeat (first|apply Kd.R_alloc|apply Kd.R_drewN|apply Kd.R_drew));exact HO805.out))) (Kd.R_lt (by (with_reducible repeat (first|apply Kd.R_alloc|apply Kd.R_drewN|apply Kd.R_drew));exact HO808.out))) (below_size (by repeat (first|(with_reducible first|exact HB.out|apply below_alloc|apply pw_below_drewN|apply below_drew1|refine below_set ?_ GE788.out)|exact HB.out))))
        have n7_ := Aside0.mk (Kd.R_lower (Kd.R_new' (Kd.R_new' (Kd.R_new' (Kd.R_new' (Kd.R_new' (Kd.R_new' ho1 (Kd.R_lt (by (with_reducible repeat (first|apply Kd.R_alloc|apply Kd.R_drewN|apply Kd.R_drew));exact HO793.out))) (Kd.R_lt (by (with_reducible repeat (first|apply Kd.R_alloc|apply Kd.R_drewN|apply Kd.R_drew));exact HO796.out))) (Kd.R_lt (by (with_reducible repeat (first|apply Kd.R_alloc|apply Kd.R_drewN|apply Kd.R_drew));exact HO799.out))) (Kd.R_lt (by (with_reducible repeat (first|apply Kd.R_alloc|apply Kd.R_drewN|apply Kd.R_drew));exact HO802.out))) (Kd.R_lt (by (with_reducible repeat (first|apply Kd.R_alloc|apply Kd.R_drewN|apply Kd.R_drew));exact HO805.out))) (Kd.R_lt (by (with_reducible repeat (first|apply Kd.R_alloc|apply Kd.R_drewN|apply Kd.R_drew));exact HO808.out))) (below_size (by repeat (first|(with_reducible first|exact HB.out|apply below_alloc|apply pw_below_drewN|apply below_drew1|refine below_set ?_ GE788.out)|exact HB.out))))
        have n8_ := Aside0.mk (blk_below (g := gb788) (o := .cells #[.int .u64 a0_0,.int .i64 a0_1,.int .i64 a0_2,.slice A0_3 l0_3.length c0_3,.int .u64 a0_4,.int .u64 a0_5,.slice A0_6 l0_6.length c0_6] 28 (0,0)) (by (with_reducible repeat (first|refine blk_drewN ?_ _|refine blk_drew ?_|refine blk_alloc ?_ _));exact BK788.out) hb)
        have n9_ := Aside0.mk (below_step (by repeat (first|(with_reducible first|exact HB.out|apply below_alloc|apply pw_below_drewN|apply below_drew1|refine below_set ?_ GE788.out)|exact HB.out)) hb)
        clear HO793
        clear HO796
        clear HO799
        clear HO802
        clear HO805
        clear HO808
        clear BK788
        clear HB
        have HO793 := n0_
        have HO796 := n1_
        have HO799 := n2_
        have HO802 := n3_
        have HO805 := n4_
        have HO808 := n5_
        have HO811 := n6_
        have HO814 := n7_
        have BK788 := n8_
        have HB := n9_
        clear n0_ n1_ n2_ n3_ n4_ n5_ n6_ n7_ n8_ n9_
        (try clear hb)
        (try clear hb2)
        (try clear hk)
        (try clear hi)
        (try clear ho0)
        (try clear ho1)
        refine hK.out _ _ ⟨(blk_cell BK788.out 0).trans rfl,(blk_cell BK788.out 1).trans rfl,(blk_cell BK788.out 2).trans rfl,(blk_cell BK788.out 3).trans rfl,(blk_cell BK788.out 4).trans rfl,(blk_cell BK788.out 5).trans rfl,(blk_cell BK788.out 6).trans rfl⟩ (fun hHeld => ?_)
        clear hK K
        refine norm_ (a' := ?_) ?_ ?_
        rotate_left
        ·show Act.put _ (some 60) _ = _
         simp only [Act.put,List.setIfInBounds_toArray,List.set_cons_zero,List.set_cons_succ,i64_w,i32_w]
         rfl
        refine pure_ (i := 15) (N := some 45) (v := ?_) (a' := ?_) #[true,true,true,true,true,true,true,true,true,true,true,true,true,true,true,true,false,false,false,false] rfl rfl (any_of HT_.out (by kernel_rfl)) (fun _ _ _ h => h) (Or.inl ⟨by rfl,?_⟩) ?_ ?_
        rotate_left
        ·intro w'
         go_simp
         with_reducible rfl
        rotate_left
        ·simp only [Act.put,List.setIfInBounds_toArray,List.set_cons_zero,List.set_cons_succ,i64_w,i32_w]
         rfl
        refine pure_ (i := 16) (N := some 61) (v := ?_) (a' := ?_) #[true,true,true,true,true,true,true,true,true,true,true,true,true,true,true,true,true,false,false,false] rfl rfl (any_of HT_.out (by kernel_rfl)) (fun _ _ _ h => h) (Or.inl ⟨by rfl,?_⟩) ?_ ?_
        rotate_left
        ·intro w'
         go_simp
         with_reducible rfl
        rotate_left
        ·simp only [Act.put,List.setIfInBounds_toArray,List.set_cons_zero,List.set_cons_succ,i64_w,i32_w]
         rfl
        refine pure_ (i := 17) (N := some 62) (v := ?_) (a' := ?_) #[true,true,true,true,true,true,true,true,true,true,true,true,true,true,true,true,true,true,false,false] rfl rfl (any_of HT_.out (by kernel_rfl)) (fun _ _ _ h => h) (Or.inl ⟨by rfl,?_⟩) ?_ ?_
        rotate_left
        ·intro w'
         go_simp
         with_reducible rfl
        rotate_left
        ·simp only [Act.put,List.setIfInBounds_toArray,List.set_cons_zero,List.set_cons_succ,i64_w,i32_w]
         rfl
        refine pure_ (i := 18) (N := some 10) (v := ?_) (a' := ?_) #[true,true,true,true,true,true,true,true,true,true,true,true,true,true,true,true,true,true,true,false] rfl rfl (any_of HT_.out (by kernel_rfl)) (fun _ _ _ h => h) (Or.inl ⟨by rfl,?_⟩) ?_ ?_
        rotate_left
        ·intro w'
         go_simp
         with_reducible rfl
        rotate_left
        ·simp only [Act.put,List.setIfInBounds_toArray,List.set_cons_zero,List.set_cons_succ,i64_w,i32_w]
         rfl
        refine pure_ (i := 19) (N := some 11) (v := ?_) (a' := ?_) #[true,true,true,true,true,true,true,true,true,true,true,true,true,true,true,true,true,true,true,true] rfl rfl (any_of HT_.out (by kernel_rfl)) (fun _ _ _ h => h) (Or.inl ⟨by rfl,?_⟩) ?_ ?_
        rotate_left
        ·intro w'
         go_simp
         with_reducible rfl
        rotate_left
        ·simp only [Act.put,List.setIfInBounds_toArray,List.set_cons_zero,List.set_cons_succ,i64_w,i32_w]
         rfl
        refine done_ (done_of HT_.out (by kernel_rfl)) ?_
        obtain ⟨Ao34,co34,eo34⟩ := Kd.R_slice HO799.out
        subst eo34
        try go_wp2_with (first|((with_reducible refine gate_callee (f := 18) rfl ?_);refine goesL_ (some 65) rfl rfl Try.func18 (by kernel_rfl) rfl #[.slice Ao34 t797.length co34,.slice Ao25 t791.length co25] rfl (by (try simp only [List.map_toArray,List.map_cons,List.map_nil]);first|done|rfl|(simp only [List.length_drop,List.length_take];rfl)) ?_;(with_reducible refine (privityref14_Words.calls k _ _ t797 _ _ t791 true _ ?side1 ?side2 ?side3 ?side4 A9.out).mono ?_);(case side1 => repeat (first|exact (Kd.R_reads' HO799.out).2.2|(with_reducible refine Kd.C_alloc ?_ _)|(with_reducible refine Kd.C_drewN ?_ _)|(with_reducible refine Kd.C_drew ?_)));(case side2 => exact (Kd.R_reads' HO799.out).2.1);(case side3 => repeat (first|exact (Kd.R_reads' HO793.out).2.2|(with_reducible refine Kd.C_alloc ?_ _)|(with_reducible refine Kd.C_drewN ?_ _)|(with_reducible refine Kd.C_drew ?_)));(case side4 => exact (Kd.R_reads' HO793.out).2.1);rintro e w' ⟨rfl,⟨nd,rfl⟩⟩;refine ⟨_,rfl,?_⟩;obtain ⟨Ao35,co35,eo35⟩ := Kd.R_slice HO802.out;subst eo35)|(go_at_call 18;(with_reducible refine (privityref14_Words.calls k _ _ t800 _ _ t794 t816 _ ?side1 ?side2 ?side3 ?side4 A11.out).mono ?_);(case side1 => repeat (first|exact (Kd.R_reads' HO802.out).2.2|(with_reducible refine Kd.C_alloc ?_ _)|(with_reducible refine Kd.C_drewN ?_ _)|(with_reducible refine Kd.C_drew ?_)));(case side2 => exact (Kd.R_reads' HO802.out).2.1);(case side3 => repeat (first|exact (Kd.R_reads' HO796.out).2.2|(with_reducible refine Kd.C_alloc ?_ _)|(with_reducible refine Kd.C_drewN ?_ _)|(with_reducible refine Kd.C_drew ?_)));(case side4 => exact (Kd.R_reads' HO796.out).2.1);rintro e w' ⟨rfl,⟨nd,rfl⟩⟩;obtain ⟨Ao36,co36,eo36⟩ := Kd.R_slice HO811.out;subst eo36)|((with_reducible refine gate_callee (f := 18) rfl ?_);refine goesL_ (some 73) rfl rfl Try.func18 (by kernel_rfl) rfl #[.slice Ao36 t809.length co36,.slice Ao31 t803.length co31] rfl (by (try simp only [List.map_toArray,List.map_cons,List.map_nil]);first|done|rfl|(simp only [List.length_drop,List.length_take];rfl)) ?_;(with_reducible refine (privityref14_Words.calls k _ _ t809 _ _ t803 true _ ?side1 ?side2 ?side3 ?side4 A12.out).mono ?_);(case side1 => repeat (first|exact (Kd.R_reads' HO811.out).2.2|(with_reducible refine Kd.C_alloc ?_ _)|(with_reducible refine Kd.C_drewN ?_ _)|(with_reducible refine Kd.C_drew ?_)));(case side2 => exact (Kd.R_reads' HO811.out).2.1);(case side3 => repeat (first|exact (Kd.R_reads' HO805.out).2.2|(with_reducible refine Kd.C_alloc ?_ _)|(with_reducible refine Kd.C_drewN ?_ _)|(with_reducible refine Kd.C_drew ?_)));(case side4 => exact (Kd.R_reads' HO805.out).2.1);rintro e w' ⟨rfl,⟨nd,rfl⟩⟩;refine ⟨_,rfl,?_⟩;obtain ⟨Ao37,co37,eo37⟩ := Kd.R_slice HO814.out;subst eo37)|(go_at_call 18;(with_reducible refine (privityref14_Words.calls k _ _ t812 _ _ t806 t818 _ ?side1 ?side2 ?side3 ?side4 A14.out).mono ?_);(case side1 => repeat (first|exact (Kd.R_reads' HO814.out).2.2|(with_reducible refine Kd.C_alloc ?_ _)|(with_reducible refine Kd.C_drewN ?_ _)|(with_reducible refine Kd.C_drew ?_)));(case side2 => exact (Kd.R_reads' HO814.out).2.1);(case side3 => repeat (first|exact (Kd.R_reads' HO808.out).2.2|(with_reducible refine Kd.C_alloc ?_ _)|(with_reducible refine Kd.C_drewN ?_ _)|(with_reducible refine Kd.C_drew ?_)));(case side4 => exact (Kd.R_reads' HO808.out).2.1);rintro e w' ⟨rfl,⟨nd,rfl⟩⟩)|((with_reducible refine gate_callee (f := 13) rfl ?_);refine goesL_ (some 79) rfl rfl Try.func13 (by kernel_rfl) rfl #[] rfl (by (try simp only [List.map_toArray,List.map_cons,List.map_nil]);first|done|rfl|(simp only [List.length_drop,List.length_take];rfl)) ?_;(with_reducible refine (privitylaw43_awake.calls k  true _ A15.out).mono ?_);rintro e w38 ⟨rfl,hb⟩;refine ⟨_,rfl,?_⟩;have n0_ := Aside0.mk (Kd.R_below (by (with_reducible repeat (first|apply Kd.R_alloc|apply Kd.R_drewN|apply Kd.R_drew));exact HO793.out) hb);have n1_ := Aside0.mk (Kd.R_below (by (with_reducible repeat (first|apply Kd.R_alloc|apply Kd.R_drewN|apply Kd.R_drew));exact HO796.out) hb);have n2_ := Aside0.mk (Kd.R_below (by (with_reducible repeat (first|apply Kd.R_alloc|apply Kd.R_drewN|apply Kd.R_drew));exact HO799.out) hb);have n3_ := Aside0.mk (Kd.R_below (by (with_reducible repeat (first|apply Kd.R_alloc|apply Kd.R_drewN|apply Kd.R_drew));exact HO802.out) hb);have n4_ := Aside0.mk (Kd.R_below (by (with_reducible repeat (first|apply Kd.R_alloc|apply Kd.R_drewN|apply Kd.R_drew));exact HO805.out) hb);have n5_ := Aside0.mk (Kd.R_below (by (with_reducible repeat (first|apply Kd.R_alloc|apply Kd.R_drewN|apply Kd.R_drew));exact HO808.out) hb);have n6_ := Aside0.mk (Kd.R_below (by (with_reducible repeat (first|apply Kd.R_alloc|apply Kd.R_drewN|apply Kd.R_drew));exact HO811.out) hb);have n7_ := Aside0.mk (Kd.R_below (by (with_reducible repeat (first|apply Kd.R_alloc|apply Kd.R_drewN|apply Kd.R_drew));exact HO814.out) hb);have n8_ := Aside0.mk (blk_below (g := gb788) (o := .cells #[.int .u64 a0_0,.int .i64 a0_1,.int .i64 a0_2,.slice A0_3 l0_3.length c0_3,.int .u64 a0_4,.int .u64 a0_5,.slice A0_6 l0_6.length c0_6] 28 (0,0)) (by (with_reducible repeat (first|refine blk_drewN ?_ _|refine blk_drew ?_|refine blk_alloc ?_ _));exact BK788.out) hb);have n9_ := Aside0.mk (below_step (by repeat (first|(with_reducible first|exact HB.out|apply below_alloc|apply pw_below_drewN|apply below_drew1|refine below_set ?_ GE788.out)|exact HB.out)) hb);clear HO793;clear HO796;clear HO799;clear HO802;clear HO805;clear HO808;clear HO811;clear HO814;clear BK788;clear HB;have HO793 := n0_;have HO796 := n1_;have HO799 := n2_;have HO802 := n3_;have HO805 := n4_;have HO808 := n5_;have HO811 := n6_;have HO814 := n7_;have BK788 := n8_;have HB := n9_;clear n0_ n1_ n2_ n3_ n4_ n5_ n6_ n7_ n8_ n9_;(try clear hb);(try clear hb2);(try clear hk);(try clear hi);have hcz39_0 : w38.cell? ⟨gb788,0,none⟩ = some (.int .u64 a0_0) := (blk_cell BK788.out 0).trans rfl;have hcz39_1 : w38.cell? ⟨gb788,1,none⟩ = some (.int .i64 a0_1) := (blk_cell BK788.out 1).trans rfl;have hcz39_2 : w38.cell? ⟨gb788,2,none⟩ = some (.int .i64 a0_2) := (blk_cell BK788.out 2).trans rfl;have hcz39_3 : w38.cell? ⟨gb788,3,none⟩ = some (.slice A0_3 l0_3.length c0_3) := (blk_cell BK788.out 3).trans rfl;have hcz39_4 : w38.cell? ⟨gb788,4,none⟩ = some (.int .u64 a0_4) := (blk_cell BK788.out 4).trans rfl;have hcz39_5 : w38.cell? ⟨gb788,5,none⟩ = some (.int .u64 a0_5) := (blk_cell BK788.out 5).trans rfl;have hcz39_6 : w38.cell? ⟨gb788,6,none⟩ = some (.slice A0_6 l0_6.length c0_6) := (blk_cell BK788.out 6).trans rfl;have hfz39_0 := blk_frozen BK788.out 0;have hfz39_1 := blk_frozen BK788.out 1;have hfz39_2 := blk_frozen BK788.out 2;have hfz39_3 := blk_frozen BK788.out 3;have hfz39_4 := blk_frozen BK788.out 4;have hfz39_5 := blk_frozen BK788.out 5;have hfz39_6 := blk_frozen BK788.out 6))
        go_ret
        exact ⟨by first|rfl|(cases t818 <;> rfl)|(cases t818 <;> simp [errW_none,errW_some])|(cases t822 <;> rfl)|(cases t822 <;> simp [errW_none,errW_some])|(simp [errW_none,errW_some] <;> rfl)|(simp [*,errW_none,errW_some] <;> rfl),by repeat (first|(with_reducible first|exact HB.out|apply below_alloc|apply pw_below_drewN|apply below_drew1|refine below_set ?_ GE788.out)|exact HB.out)⟩
       ·rw [if_neg c18] at H
        have c18b0 : ((Int.tmod a0_4 a0_0) == 0) = false := beq_eq_false_iff_ne.mpr c18
        have c18b1 : ((Int.tmod a0_4 a0_0) != 0) = true := bne_iff_ne.mpr c18
        (try (have hb3_ : t816 = false := (by have h_ := c17b0; rw [c18b0] at h_; revert h_; cases t816 <;> simp)))
        exact absurd (HP_.out _ _ _ _ A2.out A4.out A6.out A9.out) c18
      ·rw [if_neg c17] at H
       have c17b0 : (t816 == ((Int.tmod a0_4 a0_0) == 0)) = false := by simpa using c17
       (try (have c17b1 : decide (t816 = ((Int.tmod a0_4 a0_0) == 0)) = false := by simpa using c17))
       (try (have c17b2 : (t816 == ((Int.tmod a0_4 a0_0) == 0)) = false := by simpa using c17))
       (try (have c17b3 : ¬ (t816 = ((Int.tmod a0_4 a0_0) == 0)) := by simpa using c17))
       clear c17
       exact absurd (Option.some.inj H) (by rw [HRT_.out]; simp)
     ·replace c16 := Bool.eq_false_iff.mpr c16
      subst c16
      have H1 : (some false) = some r := by rw [if_neg (show ¬ (false = true) by decide)] at H;exact H
      clear H
      have H := H1
      clear H1
      exact absurd (Option.some.inj H) (by rw [HRT_.out]; simp)
    ·replace c13 := Bool.eq_false_iff.mpr c13
     subst c13
     have H1 : ((privitylaw43_awake.f k).bind fun t820 => (if t820 = true then (if (t816 == ((Int.tmod a0_4 a0_0) == 0)) = true then (if (Int.tmod a0_4 a0_0) = 0 then (some (false == ((Int.tmod a0_5 a0_0) == 0))) else (some (false == false))) else (some false)) else (some false))) = some r := by rw [if_neg (show ¬ (false = true) by decide)] at H;exact H
     clear H
     have H := H1
     clear H1
     replace H := Option.bind_eq_some_iff.mp H
     obtain ⟨t820,A1020,H⟩ := H
     replace H : (if t820 = true then (if (t816 == ((Int.tmod a0_4 a0_0) == 0)) = true then (if (Int.tmod a0_4 a0_0) = 0 then (some (false == ((Int.tmod a0_5 a0_0) == 0))) else (some (false == false))) else (some false)) else (some false)) = some r := H
     have A102 := Aside0.mk A1020
     clear A1020
     by_cases c103 : t820 = true
     ·subst c103
      have H1 : (if (t816 == ((Int.tmod a0_4 a0_0) == 0)) = true then (if (Int.tmod a0_4 a0_0) = 0 then (some (false == ((Int.tmod a0_5 a0_0) == 0))) else (some (false == false))) else (some false)) = some r := by rw [if_pos rfl] at H;exact H
      clear H
      have H := H1
      clear H1
      by_cases c104 : (t816 == ((Int.tmod a0_4 a0_0) == 0)) = true
      ·rw [if_pos c104] at H
       have c104b0 : (t816 == ((Int.tmod a0_4 a0_0) == 0)) = true := c104
       (try (have c104b1 : decide (t816 = ((Int.tmod a0_4 a0_0) == 0)) = true := by simpa using c104))
       (try (have c104b2 : (t816 == ((Int.tmod a0_4 a0_0) == 0)) = true := by simpa using c104))
       clear c104
       by_cases c105 : (Int.tmod a0_4 a0_0) = 0
       ·rw [if_pos c105] at H
        have c105b0 : ((Int.tmod a0_4 a0_0) == 0) = true := beq_iff_eq.mpr c105
        have c105b1 : ((Int.tmod a0_4 a0_0) != 0) = false := bne_eq_false_iff_eq.mpr c105
        (try (have hb3_ : t816 = true := (by have h_ := c104b0; rw [c105b0] at h_; revert h_; cases t816 <;> simp)))
        clear c105
        obtain rfl := Option.some.inj H
        go_enter Try.func9,Try.ntmps9
        try go_wp2_with (first|((with_reducible refine gate_dst (N := 1) rfl ?_);refine box_event ?hg (N := 1) ?hd (cs := #[.int .u64 a0_0,.int .i64 a0_1,.int .i64 a0_2,.slice A0_3 l0_3.length c0_3,.int .u64 a0_4,.int .u64 a0_5,.slice A0_6 l0_6.length c0_6]) (t := 28) ?hr ?_;(case hd => rfl);(case hg => rfl);(case hr => first|(go_simp;done)|(go_simp;rfl));intro gb788 hg w106 hbox hb;have n0_ := Aside0.mk (below_step (by repeat (first|(with_reducible first|exact HB.out|apply below_alloc|apply pw_below_drewN|apply below_drew1)|exact HB.out)) hb);have n1_ := Aside0.mk (hbox);have n2_ := Aside0.mk ((by rw [hg];exact (below_size (by repeat (first|(with_reducible first|exact HB.out|apply below_alloc|apply pw_below_drewN|apply below_drew1)|exact HB.out))) : w.heap.size ≤ gb788));have n3_ := Aside0.mk ((by rw [hg];exact (below_size (by repeat (first|(with_reducible first|exact HB.out|apply below_alloc|apply pw_below_drewN|apply below_drew1)|exact HB.out))) : w.heap.size ≤ gb788));clear HB;have HB := n0_;have BK788 := n1_;have GW788 := n2_;have GE788 := n3_;clear n0_ n1_ n2_ n3_;clear hb hbox hg;have hcz107_0 : w106.cell? ⟨gb788,0,none⟩ = some (.int .u64 a0_0) := (blk_cell BK788.out 0).trans rfl;have hcz107_1 : w106.cell? ⟨gb788,1,none⟩ = some (.int .i64 a0_1) := (blk_cell BK788.out 1).trans rfl;have hcz107_2 : w106.cell? ⟨gb788,2,none⟩ = some (.int .i64 a0_2) := (blk_cell BK788.out 2).trans rfl;have hcz107_3 : w106.cell? ⟨gb788,3,none⟩ = some (.slice A0_3 l0_3.length c0_3) := (blk_cell BK788.out 3).trans rfl;have hcz107_4 : w106.cell? ⟨gb788,4,none⟩ = some (.int .u64 a0_4) := (blk_cell BK788.out 4).trans rfl;have hcz107_5 : w106.cell? ⟨gb788,5,none⟩ = some (.int .u64 a0_5) := (blk_cell BK788.out 5).trans rfl;have hcz107_6 : w106.cell? ⟨gb788,6,none⟩ = some (.slice A0_6 l0_6.length c0_6) := (blk_cell BK788.out 6).trans rfl;have hfz107_0 := blk_frozen BK788.out 0;have hfz107_1 := blk_frozen BK788.out 1;have hfz107_2 := blk_frozen BK788.out 2;have hfz107_3 := blk_frozen BK788.out 3;have hfz107_4 := blk_frozen BK788.out 4;have hfz107_5 := blk_frozen BK788.out 5;have hfz107_6 := blk_frozen BK788.out 6)|((with_reducible refine gate_callee (f := 12) rfl ?_);refine goesL_ (some 15) rfl rfl Try.func12 (by kernel_rfl) rfl #[.agg #[.int .u64 a0_0,.int .i64 a0_1,.int .i64 a0_2,.slice A0_3 l0_3.length c0_3,.int .u64 a0_4,.int .u64 a0_5,.slice A0_6 l0_6.length c0_6]] rfl (by (try simp only [List.map_toArray,List.map_cons,List.map_nil]);first|done|rfl|(simp only [List.length_drop,List.length_take];rfl)) ?_;(with_reducible refine (privitylaw43_may.calls k a0_0 a0_1 a0_2 _ _ l0_3 a0_4 a0_5 _ _ l0_6 true _ ?side1 ?side2 ?side3 ?side4 A2.out).mono ?_);(case side1 => repeat (first|exact (Kd.C_below HR0_3.out HB.out)|(with_reducible refine Kd.C_alloc ?_ _)|(with_reducible refine Kd.C_drewN ?_ _)|(with_reducible refine Kd.C_drew ?_)));(case side2 => exact HC0_3.out);(case side3 => repeat (first|exact (Kd.C_below HR0_6.out HB.out)|(with_reducible refine Kd.C_alloc ?_ _)|(with_reducible refine Kd.C_drewN ?_ _)|(with_reducible refine Kd.C_drew ?_)));(case side4 => exact HC0_6.out);rintro e w108 ⟨rfl,hb⟩;refine ⟨_,rfl,?_⟩;have n0_ := Aside0.mk (blk_below (g := gb788) (o := .cells #[.int .u64 a0_0,.int .i64 a0_1,.int .i64 a0_2,.slice A0_3 l0_3.length c0_3,.int .u64 a0_4,.int .u64 a0_5,.slice A0_6 l0_6.length c0_6] 28 (0,0)) (by (with_reducible repeat (first|refine blk_drewN ?_ _|refine blk_drew ?_|refine blk_alloc ?_ _));exact BK788.out) hb);have n1_ := Aside0.mk (below_step (by repeat (first|(with_reducible first|exact HB.out|apply below_alloc|apply pw_below_drewN|apply below_drew1|refine below_set ?_ GE788.out)|exact HB.out)) hb);clear BK788;clear HB;have BK788 := n0_;have HB := n1_;clear n0_ n1_;(try clear hb);(try clear hb2);(try clear hk);(try clear hi);have hcz109_0 : w108.cell? ⟨gb788,0,none⟩ = some (.int .u64 a0_0) := (blk_cell BK788.out 0).trans rfl;have hcz109_1 : w108.cell? ⟨gb788,1,none⟩ = some (.int .i64 a0_1) := (blk_cell BK788.out 1).trans rfl;have hcz109_2 : w108.cell? ⟨gb788,2,none⟩ = some (.int .i64 a0_2) := (blk_cell BK788.out 2).trans rfl;have hcz109_3 : w108.cell? ⟨gb788,3,none⟩ = some (.slice A0_3 l0_3.length c0_3) := (blk_cell BK788.out 3).trans rfl;have hcz109_4 : w108.cell? ⟨gb788,4,none⟩ = some (.int .u64 a0_4) := (blk_cell BK788.out 4).trans rfl;have hcz109_5 : w108.cell? ⟨gb788,5,none⟩ = some (.int .u64 a0_5) := (blk_cell BK788.out 5).trans rfl;have hcz109_6 : w108.cell? ⟨gb788,6,none⟩ = some (.slice A0_6 l0_6.length c0_6) := (blk_cell BK788.out 6).trans rfl;have hfz109_0 := blk_frozen BK788.out 0;have hfz109_1 := blk_frozen BK788.out 1;have hfz109_2 := blk_frozen BK788.out 2;have hfz109_3 := blk_frozen BK788.out 3;have hfz109_4 := blk_frozen BK788.out 4;have hfz109_5 := blk_frozen BK788.out 5;have hfz109_6 := blk_frozen BK788.out 6)|((with_reducible refine gate_callee (f := 14) rfl ?_);refine goesL_ (some 23) rfl rfl Try.func14 (by kernel_rfl) rfl #[.agg #[.int .u64 a0_0,.int .i64 a0_1,.int .i64 a0_2,.slice A0_3 l0_3.length c0_3,.int .u64 a0_4,.int .u64 a0_5,.slice A0_6 l0_6.length c0_6]] rfl (by (try simp only [List.map_toArray,List.map_cons,List.map_nil]);first|done|rfl|(simp only [List.length_drop,List.length_take];rfl)) ?_;(with_reducible refine (privitylaw43_one.calls k a0_0 a0_1 a0_2 _ _ l0_3 a0_4 a0_5 _ _ l0_6 t791 t794 _ ?side1 ?side2 ?side3 ?side4 A4.out).mono ?_);(case side1 => repeat (first|exact (Kd.C_below HR0_3.out HB.out)|(with_reducible refine Kd.C_alloc ?_ _)|(with_reducible refine Kd.C_drewN ?_ _)|(with_reducible refine Kd.C_drew ?_)));(case side2 => exact HC0_3.out);(case side3 => repeat (first|exact (Kd.C_below HR0_6.out HB.out)|(with_reducible refine Kd.C_alloc ?_ _)|(with_reducible refine Kd.C_drewN ?_ _)|(with_reducible refine Kd.C_drew ?_)));(case side4 => exact HC0_6.out);rintro e w110 ⟨v792,v795,rfl,ho0,ho1,hb⟩;refine ⟨_,rfl,?_⟩;have n0_ := Aside0.mk (Kd.R_lower ho0 (below_size (by repeat (first|(with_reducible first|exact HB.out|apply below_alloc|apply pw_below_drewN|apply below_drew1|refine below_set ?_ GE788.out)|exact HB.out))));have n1_ := Aside0.mk (Kd.R_lower ho1 (below_size (by repeat (first|(with_reducible first|exact HB.out|apply below_alloc|apply pw_below_drewN|apply below_drew1|refine below_set ?_ GE788.out)|exact HB.out))));have n2_ := Aside0.mk (blk_below (g := gb788) (o := .cells #[.int .u64 a0_0,.int .i64 a0_1,.int .i64 a0_2,.slice A0_3 l0_3.length c0_3,.int .u64 a0_4,.int .u64 a0_5,.slice A0_6 l0_6.length c0_6] 28 (0,0)) (by (with_reducible repeat (first|refine blk_drewN ?_ _|refine blk_drew ?_|refine blk_alloc ?_ _));exact BK788.out) hb);have n3_ := Aside0.mk (below_step (by repeat (first|(with_reducible first|exact HB.out|apply below_alloc|apply pw_below_drewN|apply below_drew1|refine below_set ?_ GE788.out)|exact HB.out)) hb);clear BK788;clear HB;have HO793 := n0_;have HO796 := n1_;have BK788 := n2_;have HB := n3_;clear n0_ n1_ n2_ n3_;(try clear hb);(try clear hb2);(try clear hk);(try clear hi);(try clear ho0);(try clear ho1)))
        have n0_ := Aside0.mk (Kd.R_drew HO793.out)
        have n1_ := Aside0.mk (Kd.R_drew HO796.out)
        have n2_ := Aside0.mk (blk_drew BK788.out)
        have n3_ := Aside0.mk (below_drew1 HB.out)
        clear HO793
        clear HO796
        clear BK788
        clear HB
        have HO793 := n0_
        have HO796 := n1_
        have BK788 := n2_
        have HB := n3_
        clear n0_ n1_ n2_ n3_
        obtain ⟨Ao112,co112,eo112⟩ := Kd.R_slice HO793.out
        (first|subst eo112|(injection eo112 with f1_ f2_ f3_;have f4_ := f1_.symm;have f5_ := f3_.symm;clear f1_ f2_ f3_;subst f4_;subst f5_))
        obtain ⟨Ao113,co113,eo113⟩ := Kd.R_slice HO796.out
        (first|subst eo113|(injection eo113 with f1_ f2_ f3_;have f4_ := f1_.symm;have f5_ := f3_.symm;clear f1_ f2_ f3_;subst f4_;subst f5_))
        refine start_ (n := 16) (S := fun w' => w'.cell? ⟨gb788,0,none⟩ = some (.int .u64 a0_0) ∧ w'.cell? ⟨gb788,1,none⟩ = some (.int .i64 a0_1) ∧ w'.cell? ⟨gb788,2,none⟩ = some (.int .i64 a0_2) ∧ w'.cell? ⟨gb788,3,none⟩ = some (.slice A0_3 l0_3.length c0_3) ∧ w'.cell? ⟨gb788,4,none⟩ = some (.int .u64 a0_4) ∧ w'.cell? ⟨gb788,5,none⟩ = some (.int .u64 a0_5) ∧ w'.cell? ⟨gb788,6,none⟩ = some (.slice A0_6 l0_6.length c0_6)) (ds := []) #[false,false,false,false,false,false,false,false,false,false,false,false,false,false,false,false] (by kernel_rfl) rfl rfl ⟨(blk_cell BK788.out 0).trans rfl,(blk_cell BK788.out 1).trans rfl,(blk_cell BK788.out 2).trans rfl,(blk_cell BK788.out 3).trans rfl,(blk_cell BK788.out 4).trans rfl,(blk_cell BK788.out 5).trans rfl,(blk_cell BK788.out 6).trans rfl⟩ (fun hHeld => ?_);refine with_tabW privitylaw43_TapeshiftIdentity.tab5 privitylaw43_TapeshiftIdentity.bits5 (fun HT_ HW_ => ?_)
        generalize w110.drew = w111 at HO793 HO796 BK788 HB hHeld ⊢
        refine pure_ (i := 0) (N := some 27) (v := ?_) (a' := ?_) #[true,false,false,false,false,false,false,false,false,false,false,false,false,false,false,false] rfl rfl (any_of HT_.out (by kernel_rfl)) (fun _ _ _ h => h) (Or.inl ⟨by rfl,?_⟩) ?_ ?_
        rotate_left
        ·intro w'
         go_simp
         with_reducible rfl
        rotate_left
        ·simp only [Act.put,List.setIfInBounds_toArray,List.set_cons_zero,List.set_cons_succ,i64_w,i32_w]
         rfl
        refine pure_ (i := 2) (N := some 29) (v := ?_) (a' := ?_) #[true,false,true,false,false,false,false,false,false,false,false,false,false,false,false,false] rfl rfl (any_of HT_.out (by kernel_rfl)) (fun _ _ _ h => h) (Or.inl ⟨by rfl,?_⟩) ?_ ?_
        rotate_left
        ·intro w'
         go_simp
         with_reducible rfl
        rotate_left
        ·simp only [Act.put,List.setIfInBounds_toArray,List.set_cons_zero,List.set_cons_succ,i64_w,i32_w]
         rfl
        refine pure_ (i := 4) (N := some 31) (v := ?_) (a' := ?_) #[true,false,true,false,true,false,false,false,false,false,false,false,false,false,false,false] rfl rfl (any_of HT_.out (by kernel_rfl)) (fun _ _ _ h => h) (Or.inl ⟨by rfl,?_⟩) ?_ ?_
        rotate_left
        ·intro w'
         go_simp
         with_reducible rfl
        rotate_left
        ·simp only [Act.put,List.setIfInBounds_toArray,List.set_cons_zero,List.set_cons_succ,i64_w,i32_w]
         rfl
        refine pure_ (i := 6) (N := some 33) (v := ?_) (a' := ?_) #[true,false,true,false,true,false,true,false,false,false,false,false,false,false,false,false] rfl rfl (any_of HT_.out (by kernel_rfl)) (fun _ _ _ h => h) (Or.inl ⟨by rfl,?_⟩) ?_ ?_
        rotate_left
        ·intro w'
         go_simp
         with_reducible rfl
        rotate_left
        ·simp only [Act.put,List.setIfInBounds_toArray,List.set_cons_zero,List.set_cons_succ,i64_w,i32_w]
         rfl
        refine pure_ (i := 8) (N := some 35) (v := ?_) (a' := ?_) #[true,false,true,false,true,false,true,false,true,false,false,false,false,false,false,false] rfl rfl (any_of HT_.out (by kernel_rfl)) (fun _ _ _ h => h) (Or.inl ⟨by rfl,?_⟩) ?_ ?_
        rotate_left
        ·intro w'
         go_simp
         with_reducible rfl
        rotate_left
        ·simp only [Act.put,List.setIfInBounds_toArray,List.set_cons_zero,List.set_cons_succ,i64_w,i32_w]
         rfl
        refine pure_ (i := 9) (N := some 36) (v := ?_) (a' := ?_) #[true,false,true,false,true,false,true,false,true,true,false,false,false,false,false,false] rfl rfl (any_of HT_.out (by kernel_rfl)) (fun _ _ _ h => h) (Or.inl ⟨by rfl,?_⟩) ?_ ?_
        rotate_left
        ·intro w'
         go_simp
         with_reducible rfl
        rotate_left
        ·simp only [Act.put,List.setIfInBounds_toArray,List.set_cons_zero,List.set_cons_succ,i64_w,i32_w]
         rfl
        refine take_ (i := 1) (N := some 28) (v := ?_) (a' := ?_) #[true,true,true,false,true,false,true,false,true,true,false,false,false,false,false,false] rfl rfl (take_ofW HT_.out HW_.out (by kernel_rfl)) (fun _ _ _ h => h) (Or.inl ⟨by rfl,?_⟩) hHeld ?_ ?_
        rotate_left
        ·rintro w' ⟨s0,s1,s2,s3,s4,s5,s6⟩
         go_simp
         with_reducible rfl
        rotate_left
        ·simp only [Act.put,List.setIfInBounds_toArray,List.set_cons_zero,List.set_cons_succ,i64_w,i32_w]
         rfl
        refine take_ (i := 3) (N := some 30) (v := ?_) (a' := ?_) #[true,true,true,true,true,false,true,false,true,true,false,false,false,false,false,false] rfl rfl (take_ofW HT_.out HW_.out (by kernel_rfl)) (fun _ _ _ h => h) (Or.inl ⟨by rfl,?_⟩) hHeld ?_ ?_
        rotate_left
        ·rintro w' ⟨s0,s1,s2,s3,s4,s5,s6⟩
         go_simp
         with_reducible rfl
        rotate_left
        ·simp only [Act.put,List.setIfInBounds_toArray,List.set_cons_zero,List.set_cons_succ,i64_w,i32_w]
         rfl
        refine take_ (i := 5) (N := some 32) (v := ?_) (a' := ?_) #[true,true,true,true,true,true,true,false,true,true,false,false,false,false,false,false] rfl rfl (take_ofW HT_.out HW_.out (by kernel_rfl)) (fun _ _ _ h => h) (Or.inl ⟨by rfl,?_⟩) hHeld ?_ ?_
        rotate_left
        ·rintro w' ⟨s0,s1,s2,s3,s4,s5,s6⟩
         go_simp
         with_reducible rfl
        rotate_left
        ·simp only [Act.put,List.setIfInBounds_toArray,List.set_cons_zero,List.set_cons_succ,i64_w,i32_w]
         rfl
        refine pure_ (i := 7) (N := some 34) (v := ?_) (a' := ?_) #[true,true,true,true,true,true,true,true,true,true,false,false,false,false,false,false] rfl rfl (any_of HT_.out (by kernel_rfl)) (fun _ _ _ h => h) (Or.inl ⟨by rfl,?_⟩) ?_ ?_
        rotate_left
        ·intro w'
         go_simp
         with_reducible rfl
        rotate_left
        ·simp only [Act.put,List.setIfInBounds_toArray,List.set_cons_zero,List.set_cons_succ,i64_w,i32_w]
         rfl
        refine one_ (i := 10) (N := some 37) #[true,true,true,true,true,true,true,true,true,true,true,false,false,false,false,false] rfl rfl (one_of HT_.out (by kernel_rfl)) (by decide) (fun K hK => ?_)
        refine goes_ Try.func15 (by kernel_rfl) rfl #[.agg #[.int .u64 a0_0,.int .i64 a0_1,.int .i64 a0_2],.slice A0_3 l0_3.length c0_3,.int .u64 (Int.tmod a0_4 a0_0),.slice Ao112 t791.length co112,.slice Ao113 t794.length co113] (by rfl) rfl rfl (by (try simp only [List.map_toArray,List.map_cons,List.map_nil]);first|done|rfl|(simp only [List.length_drop,List.length_take];rfl)) ?_
        with_reducible refine (tapeshift_Sharing.calls k a0_0 a0_1 a0_2 _ _ l0_3 (Int.tmod a0_4 a0_0) _ _ t791 _ _ t794 t797 t800 _ ?side1 ?side2 ?side3 ?side4 ?side5 ?side6 A6.out).mono ?_
        (case side1 => repeat (first|exact (Kd.C_below HR0_3.out HB.out)|(with_reducible refine Kd.C_alloc ?_ _)|(with_reducible refine Kd.C_drewN ?_ _)|(with_reducible refine Kd.C_drew ?_)))
        (case side2 => exact HC0_3.out)
        (case side3 => repeat (first|exact (Kd.R_reads' HO793.out).2.2|(with_reducible refine Kd.C_alloc ?_ _)|(with_reducible refine Kd.C_drewN ?_ _)|(with_reducible refine Kd.C_drew ?_)))
        (case side4 => exact (Kd.R_reads' HO793.out).2.1)
        (case side5 => repeat (first|exact (Kd.R_reads' HO796.out).2.2|(with_reducible refine Kd.C_alloc ?_ _)|(with_reducible refine Kd.C_drewN ?_ _)|(with_reducible refine Kd.C_drew ?_)))
        (case side6 => exact (Kd.R_reads' HO796.out).2.1)
        rintro e w114 ⟨v798,v801,rfl,ho0,ho1,hb⟩
        refine ⟨_,rfl,?_⟩
        have n0_ := Aside0.mk (Kd.R_mono (Kd.R_told (Kd.R_told (Kd.R_old (by (with_reducible repeat (first|apply Kd.R_alloc|apply Kd.R_drewN|apply Kd.R_drew));exact HO793.out) hb) (Kd.R_base ho0)) (Kd.R_base ho1)) (fun _ h_ => h_.1))
        have n1_ := Aside0.mk (Kd.R_mono (Kd.R_told (Kd.R_told (Kd.R_old (by (with_reducible repeat (first|apply Kd.R_alloc|apply Kd.R_drewN|apply Kd.R_drew));exact HO796.out) hb) (Kd.R_base ho0)) (Kd.R_base ho1)) (fun _ h_ => h_.1))
        have n2_ := Aside0.mk (Kd.R_lower (Kd.R_new' (Kd.R_new' ho0 (Kd.R_lt (by (with_reducible repeat (first|apply Kd.R_alloc|apply Kd.R_drewN|apply Kd.R_drew));exact HO793.out))) (Kd.R_lt (by (with_reducible repeat (first|apply Kd.R_alloc|apply Kd.R_drewN|apply Kd.R_drew));exact HO796.out))) (below_size (by repeat (first|(with_reducible first|exact HB.out|apply below_alloc|apply pw_below_drewN|apply below_drew1|refine below_set ?_ GE788.out)|exact HB.out))))
        have n3_ := Aside0.mk (Kd.R_lower (Kd.R_new' (Kd.R_new' ho1 (Kd.R_lt (by (with_reducible repeat (first|apply Kd.R_alloc|apply Kd.R_drewN|apply Kd.R_drew));exact HO793.out))) (Kd.R_lt (by (with_reducible repeat (first|apply Kd.R_alloc|apply Kd.R_drewN|apply Kd.R_drew));exact HO796.out))) (below_size (by repeat (first|(with_reducible first|exact HB.out|apply below_alloc|apply pw_below_drewN|apply below_drew1|refine below_set ?_ GE788.out)|exact HB.out))))
        have n4_ := Aside0.mk (blk_below (g := gb788) (o := .cells #[.int .u64 a0_0,.int .i64 a0_1,.int .i64 a0_2,.slice A0_3 l0_3.length c0_3,.int .u64 a0_4,.int .u64 a0_5,.slice A0_6 l0_6.length c0_6] 28 (0,0)) (by (with_reducible repeat (first|refine blk_drewN ?_ _|refine blk_drew ?_|refine blk_alloc ?_ _));exact BK788.out) hb)
        have n5_ := Aside0.mk (below_step (by repeat (first|(with_reducible first|exact HB.out|apply below_alloc|apply pw_below_drewN|apply below_drew1|refine below_set ?_ GE788.out)|exact HB.out)) hb)
        clear HO793
        clear HO796
        clear BK788
        clear HB
        have HO793 := n0_
        have HO796 := n1_
        have HO799 := n2_
        have HO802 := n3_
        have BK788 := n4_
        have HB := n5_
        clear n0_ n1_ n2_ n3_ n4_ n5_
        (try clear hb)
        (try clear hb2)
        (try clear hk)
        (try clear hi)
        (try clear ho0)
        (try clear ho1)
        refine hK.out _ _ ⟨(blk_cell BK788.out 0).trans rfl,(blk_cell BK788.out 1).trans rfl,(blk_cell BK788.out 2).trans rfl,(blk_cell BK788.out 3).trans rfl,(blk_cell BK788.out 4).trans rfl,(blk_cell BK788.out 5).trans rfl,(blk_cell BK788.out 6).trans rfl⟩ (fun hHeld => ?_)
        clear hK K
        refine norm_ (a' := ?_) ?_ ?_
        rotate_left
        ·show Act.put _ (some 37) _ = _
         simp only [Act.put,List.setIfInBounds_toArray,List.set_cons_zero,List.set_cons_succ,i64_w,i32_w]
         rfl
        refine pure_ (i := 11) (N := some 26) (v := ?_) (a' := ?_) #[true,true,true,true,true,true,true,true,true,true,true,true,false,false,false,false] rfl rfl (any_of HT_.out (by kernel_rfl)) (fun _ _ _ h => h) (Or.inl ⟨by rfl,?_⟩) ?_ ?_
        rotate_left
        ·intro w'
         go_simp
         with_reducible rfl
        rotate_left
        ·simp only [Act.put,List.setIfInBounds_toArray,List.set_cons_zero,List.set_cons_succ,i64_w,i32_w]
         rfl
        refine pure_ (i := 12) (N := some 38) (v := ?_) (a' := ?_) #[true,true,true,true,true,true,true,true,true,true,true,true,true,false,false,false] rfl rfl (any_of HT_.out (by kernel_rfl)) (fun _ _ _ h => h) (Or.inl ⟨by rfl,?_⟩) ?_ ?_
        rotate_left
        ·intro w'
         go_simp
         with_reducible rfl
        rotate_left
        ·simp only [Act.put,List.setIfInBounds_toArray,List.set_cons_zero,List.set_cons_succ,i64_w,i32_w]
         rfl
        refine pure_ (i := 13) (N := some 39) (v := ?_) (a' := ?_) #[true,true,true,true,true,true,true,true,true,true,true,true,true,true,false,false] rfl rfl (any_of HT_.out (by kernel_rfl)) (fun _ _ _ h => h) (Or.inl ⟨by rfl,?_⟩) ?_ ?_
        rotate_left
        ·intro w'
         go_simp
         with_reducible rfl
        rotate_left
        ·simp only [Act.put,List.setIfInBounds_toArray,List.set_cons_zero,List.set_cons_succ,i64_w,i32_w]
         rfl
        refine pure_ (i := 14) (N := some 6) (v := ?_) (a' := ?_) #[true,true,true,true,true,true,true,true,true,true,true,true,true,true,true,false] rfl rfl (any_of HT_.out (by kernel_rfl)) (fun _ _ _ h => h) (Or.inl ⟨by rfl,?_⟩) ?_ ?_
        rotate_left
        ·intro w'
         go_simp
         with_reducible rfl
        rotate_left
        ·simp only [Act.put,List.setIfInBounds_toArray,List.set_cons_zero,List.set_cons_succ,i64_w,i32_w]
         rfl
        refine pure_ (i := 15) (N := some 7) (v := ?_) (a' := ?_) #[true,true,true,true,true,true,true,true,true,true,true,true,true,true,true,true] rfl rfl (any_of HT_.out (by kernel_rfl)) (fun _ _ _ h => h) (Or.inl ⟨by rfl,?_⟩) ?_ ?_
        rotate_left
        ·intro w'
         go_simp
         with_reducible rfl
        rotate_left
        ·simp only [Act.put,List.setIfInBounds_toArray,List.set_cons_zero,List.set_cons_succ,i64_w,i32_w]
         rfl
        refine done_ (done_of HT_.out (by kernel_rfl)) ?_
        have hcz115_0 : w114.cell? ⟨gb788,0,none⟩ = some (.int .u64 a0_0) := (blk_cell BK788.out 0).trans rfl
        have hcz115_1 : w114.cell? ⟨gb788,1,none⟩ = some (.int .i64 a0_1) := (blk_cell BK788.out 1).trans rfl
        have hcz115_2 : w114.cell? ⟨gb788,2,none⟩ = some (.int .i64 a0_2) := (blk_cell BK788.out 2).trans rfl
        have hcz115_3 : w114.cell? ⟨gb788,3,none⟩ = some (.slice A0_3 l0_3.length c0_3) := (blk_cell BK788.out 3).trans rfl
        have hcz115_4 : w114.cell? ⟨gb788,4,none⟩ = some (.int .u64 a0_4) := (blk_cell BK788.out 4).trans rfl
        have hcz115_5 : w114.cell? ⟨gb788,5,none⟩ = some (.int .u64 a0_5) := (blk_cell BK788.out 5).trans rfl
        have hcz115_6 : w114.cell? ⟨gb788,6,none⟩ = some (.slice A0_6 l0_6.length c0_6) := (blk_cell BK788.out 6).trans rfl
        have hfz115_0 := blk_frozen BK788.out 0
        have hfz115_1 := blk_frozen BK788.out 1
        have hfz115_2 := blk_frozen BK788.out 2
        have hfz115_3 := blk_frozen BK788.out 3
        have hfz115_4 := blk_frozen BK788.out 4
        have hfz115_5 := blk_frozen BK788.out 5
        have hfz115_6 := blk_frozen BK788.out 6
        try go_wp2_with (first|((with_reducible refine gate_callee (f := 24) rfl ?_);refine goesL_ (some 42) rfl rfl Try.func24 (by kernel_rfl) rfl #[.agg #[.int .u64 a0_0,.int .i64 a0_1,.int .i64 a0_2,.slice A0_3 l0_3.length c0_3,.int .u64 a0_4,.int .u64 a0_5,.slice A0_6 l0_6.length c0_6]] rfl (by (try simp only [List.map_toArray,List.map_cons,List.map_nil]);first|done|rfl|(simp only [List.length_drop,List.length_take];rfl)) ?_;(with_reducible refine (privitylaw43_triple.calls k a0_0 a0_1 a0_2 _ _ l0_3 a0_4 a0_5 _ _ l0_6 t803 t806 _ ?side1 ?side2 ?side3 ?side4 A7.out).mono ?_);(case side1 => repeat (first|exact (Kd.C_below HR0_3.out HB.out)|(with_reducible refine Kd.C_alloc ?_ _)|(with_reducible refine Kd.C_drewN ?_ _)|(with_reducible refine Kd.C_drew ?_)));(case side2 => exact HC0_3.out);(case side3 => repeat (first|exact (Kd.C_below HR0_6.out HB.out)|(with_reducible refine Kd.C_alloc ?_ _)|(with_reducible refine Kd.C_drewN ?_ _)|(with_reducible refine Kd.C_drew ?_)));(case side4 => exact HC0_6.out);rintro e w116 ⟨v804,v807,rfl,ho0,ho1,hb⟩;refine ⟨_,rfl,?_⟩;have n0_ := Aside0.mk (Kd.R_mono (Kd.R_told (Kd.R_told (Kd.R_old (by (with_reducible repeat (first|apply Kd.R_alloc|apply Kd.R_drewN|apply Kd.R_drew));exact HO793.out) hb) (Kd.R_base ho0)) (Kd.R_base ho1)) (fun _ h_ => h_.1));have n1_ := Aside0.mk (Kd.R_mono (Kd.R_told (Kd.R_told (Kd.R_old (by (with_reducible repeat (first|apply Kd.R_alloc|apply Kd.R_drewN|apply Kd.R_drew));exact HO796.out) hb) (Kd.R_base ho0)) (Kd.R_base ho1)) (fun _ h_ => h_.1));have n2_ := Aside0.mk (Kd.R_mono (Kd.R_told (Kd.R_told (Kd.R_old (by (with_reducible repeat (first|apply Kd.R_alloc|apply Kd.R_drewN|apply Kd.R_drew));exact HO799.out) hb) (Kd.R_base ho0)) (Kd.R_base ho1)) (fun _ h_ => h_.1));have n3_ := Aside0.mk (Kd.R_mono (Kd.R_told (Kd.R_told (Kd.R_old (by (with_reducible repeat (first|apply Kd.R_alloc|apply Kd.R_drewN|apply Kd.R_drew));exact HO802.out) hb) (Kd.R_base ho0)) (Kd.R_base ho1)) (fun _ h_ => h_.1));have n4_ := Aside0.mk (Kd.R_lower (Kd.R_new' (Kd.R_new' (Kd.R_new' (Kd.R_new' ho0 (Kd.R_lt (by (with_reducible repeat (first|apply Kd.R_alloc|apply Kd.R_drewN|apply Kd.R_drew));exact HO793.out))) (Kd.R_lt (by (with_reducible repeat (first|apply Kd.R_alloc|apply Kd.R_drewN|apply Kd.R_drew));exact HO796.out))) (Kd.R_lt (by (with_reducible repeat (first|apply Kd.R_alloc|apply Kd.R_drewN|apply Kd.R_drew));exact HO799.out))) (Kd.R_lt (by (with_reducible repeat (first|apply Kd.R_alloc|apply Kd.R_drewN|apply Kd.R_drew));exact HO802.out))) (below_size (by repeat (first|(with_reducible first|exact HB.out|apply below_alloc|apply pw_below_drewN|apply below_drew1|refine below_set ?_ GE788.out)|exact HB.out))));have n5_ := Aside0.mk (Kd.R_lower (Kd.R_new' (Kd.R_new' (Kd.R_new' (Kd.R_new' ho1 (Kd.R_lt (by (with_reducible repeat (first|apply Kd.R_alloc|apply Kd.R_drewN|apply Kd.R_drew));exact HO793.out))) (Kd.R_lt (by (with_reducible repeat (first|apply Kd.R_alloc|apply Kd.R_drewN|apply Kd.R_drew));exact HO796.out))) (Kd.R_lt (by (with_reducible repeat (first|apply Kd.R_alloc|apply Kd.R_drewN|apply Kd.R_drew));exact HO799.out))) (Kd.R_lt (by (with_reducible repeat (first|apply Kd.R_alloc|apply Kd.R_drewN|apply Kd.R_drew));exact HO802.out))) (below_size (by repeat (first|(with_reducible first|exact HB.out|apply below_alloc|apply pw_below_drewN|apply below_drew1|refine below_set ?_ GE788.out)|exact HB.out))));have n6_ := Aside0.mk (blk_below (g := gb788) (o := .cells #[.int .u64 a0_0,.int .i64 a0_1,.int .i64 a0_2,.slice A0_3 l0_3.length c0_3,.int .u64 a0_4,.int .u64 a0_5,.slice A0_6 l0_6.length c0_6] 28 (0,0)) (by (with_reducible repeat (first|refine blk_drewN ?_ _|refine blk_drew ?_|refine blk_alloc ?_ _));exact BK788.out) hb);have n7_ := Aside0.mk (below_step (by repeat (first|(with_reducible first|exact HB.out|apply below_alloc|apply pw_below_drewN|apply below_drew1|refine below_set ?_ GE788.out)|exact HB.out)) hb);clear HO793;clear HO796;clear HO799;clear HO802;clear BK788;clear HB;have HO793 := n0_;have HO796 := n1_;have HO799 := n2_;have HO802 := n3_;have HO805 := n4_;have HO808 := n5_;have BK788 := n6_;have HB := n7_;clear n0_ n1_ n2_ n3_ n4_ n5_ n6_ n7_;(try clear hb);(try clear hb2);(try clear hk);(try clear hi);(try clear ho0);(try clear ho1)))
        have n0_ := Aside0.mk (Kd.R_drew HO793.out)
        have n1_ := Aside0.mk (Kd.R_drew HO796.out)
        have n2_ := Aside0.mk (Kd.R_drew HO799.out)
        have n3_ := Aside0.mk (Kd.R_drew HO802.out)
        have n4_ := Aside0.mk (Kd.R_drew HO805.out)
        have n5_ := Aside0.mk (Kd.R_drew HO808.out)
        have n6_ := Aside0.mk (blk_drew BK788.out)
        have n7_ := Aside0.mk (below_drew1 HB.out)
        clear HO793
        clear HO796
        clear HO799
        clear HO802
        clear HO805
        clear HO808
        clear BK788
        clear HB
        have HO793 := n0_
        have HO796 := n1_
        have HO799 := n2_
        have HO802 := n3_
        have HO805 := n4_
        have HO808 := n5_
        have BK788 := n6_
        have HB := n7_
        clear n0_ n1_ n2_ n3_ n4_ n5_ n6_ n7_
        obtain ⟨Ao118,co118,eo118⟩ := Kd.R_slice HO805.out
        (first|subst eo118|(injection eo118 with f1_ f2_ f3_;have f4_ := f1_.symm;have f5_ := f3_.symm;clear f1_ f2_ f3_;subst f4_;subst f5_))
        obtain ⟨Ao119,co119,eo119⟩ := Kd.R_slice HO808.out
        (first|subst eo119|(injection eo119 with f1_ f2_ f3_;have f4_ := f1_.symm;have f5_ := f3_.symm;clear f1_ f2_ f3_;subst f4_;subst f5_))
        refine start_ (n := 20) (S := fun w' => w'.cell? ⟨gb788,0,none⟩ = some (.int .u64 a0_0) ∧ w'.cell? ⟨gb788,1,none⟩ = some (.int .i64 a0_1) ∧ w'.cell? ⟨gb788,2,none⟩ = some (.int .i64 a0_2) ∧ w'.cell? ⟨gb788,3,none⟩ = some (.slice A0_3 l0_3.length c0_3) ∧ w'.cell? ⟨gb788,4,none⟩ = some (.int .u64 a0_4) ∧ w'.cell? ⟨gb788,5,none⟩ = some (.int .u64 a0_5) ∧ w'.cell? ⟨gb788,6,none⟩ = some (.slice A0_6 l0_6.length c0_6)) (ds := []) #[false,false,false,false,false,false,false,false,false,false,false,false,false,false,false,false,false,false,false,false] (by kernel_rfl) rfl rfl ⟨(blk_cell BK788.out 0).trans rfl,(blk_cell BK788.out 1).trans rfl,(blk_cell BK788.out 2).trans rfl,(blk_cell BK788.out 3).trans rfl,(blk_cell BK788.out 4).trans rfl,(blk_cell BK788.out 5).trans rfl,(blk_cell BK788.out 6).trans rfl⟩ (fun hHeld => ?_);refine with_tabW privitylaw43_TapeshiftIdentity.tab7 privitylaw43_TapeshiftIdentity.bits7 (fun HT_ HW_ => ?_)
        generalize w116.drew = w117 at HO793 HO796 HO799 HO802 HO805 HO808 BK788 HB hHeld ⊢
        refine pure_ (i := 0) (N := some 46) (v := ?_) (a' := ?_) #[true,false,false,false,false,false,false,false,false,false,false,false,false,false,false,false,false,false,false,false] rfl rfl (any_of HT_.out (by kernel_rfl)) (fun _ _ _ h => h) (Or.inl ⟨by rfl,?_⟩) ?_ ?_
        rotate_left
        ·intro w'
         go_simp
         with_reducible rfl
        rotate_left
        ·simp only [Act.put,List.setIfInBounds_toArray,List.set_cons_zero,List.set_cons_succ,i64_w,i32_w]
         rfl
        refine pure_ (i := 2) (N := some 48) (v := ?_) (a' := ?_) #[true,false,true,false,false,false,false,false,false,false,false,false,false,false,false,false,false,false,false,false] rfl rfl (any_of HT_.out (by kernel_rfl)) (fun _ _ _ h => h) (Or.inl ⟨by rfl,?_⟩) ?_ ?_
        rotate_left
        ·intro w'
         go_simp
         with_reducible rfl
        rotate_left
        ·simp only [Act.put,List.setIfInBounds_toArray,List.set_cons_zero,List.set_cons_succ,i64_w,i32_w]
         rfl
        refine pure_ (i := 4) (N := some 50) (v := ?_) (a' := ?_) #[true,false,true,false,true,false,false,false,false,false,false,false,false,false,false,false,false,false,false,false] rfl rfl (any_of HT_.out (by kernel_rfl)) (fun _ _ _ h => h) (Or.inl ⟨by rfl,?_⟩) ?_ ?_
        rotate_left
        ·intro w'
         go_simp
         with_reducible rfl
        rotate_left
        ·simp only [Act.put,List.setIfInBounds_toArray,List.set_cons_zero,List.set_cons_succ,i64_w,i32_w]
         rfl
        refine pure_ (i := 6) (N := some 52) (v := ?_) (a' := ?_) #[true,false,true,false,true,false,true,false,false,false,false,false,false,false,false,false,false,false,false,false] rfl rfl (any_of HT_.out (by kernel_rfl)) (fun _ _ _ h => h) (Or.inl ⟨by rfl,?_⟩) ?_ ?_
        rotate_left
        ·intro w'
         go_simp
         with_reducible rfl
        rotate_left
        ·simp only [Act.put,List.setIfInBounds_toArray,List.set_cons_zero,List.set_cons_succ,i64_w,i32_w]
         rfl
        refine pure_ (i := 8) (N := some 54) (v := ?_) (a' := ?_) #[true,false,true,false,true,false,true,false,true,false,false,false,false,false,false,false,false,false,false,false] rfl rfl (any_of HT_.out (by kernel_rfl)) (fun _ _ _ h => h) (Or.inl ⟨by rfl,?_⟩) ?_ ?_
        rotate_left
        ·intro w'
         go_simp
         with_reducible rfl
        rotate_left
        ·simp only [Act.put,List.setIfInBounds_toArray,List.set_cons_zero,List.set_cons_succ,i64_w,i32_w]
         rfl
        refine pure_ (i := 10) (N := some 56) (v := ?_) (a' := ?_) #[true,false,true,false,true,false,true,false,true,false,true,false,false,false,false,false,false,false,false,false] rfl rfl (any_of HT_.out (by kernel_rfl)) (fun _ _ _ h => h) (Or.inl ⟨by rfl,?_⟩) ?_ ?_
        rotate_left
        ·intro w'
         go_simp
         with_reducible rfl
        rotate_left
        ·simp only [Act.put,List.setIfInBounds_toArray,List.set_cons_zero,List.set_cons_succ,i64_w,i32_w]
         rfl
        refine pure_ (i := 12) (N := some 58) (v := ?_) (a' := ?_) #[true,false,true,false,true,false,true,false,true,false,true,false,true,false,false,false,false,false,false,false] rfl rfl (any_of HT_.out (by kernel_rfl)) (fun _ _ _ h => h) (Or.inl ⟨by rfl,?_⟩) ?_ ?_
        rotate_left
        ·intro w'
         go_simp
         with_reducible rfl
        rotate_left
        ·simp only [Act.put,List.setIfInBounds_toArray,List.set_cons_zero,List.set_cons_succ,i64_w,i32_w]
         rfl
        refine pure_ (i := 13) (N := some 59) (v := ?_) (a' := ?_) #[true,false,true,false,true,false,true,false,true,false,true,false,true,true,false,false,false,false,false,false] rfl rfl (any_of HT_.out (by kernel_rfl)) (fun _ _ _ h => h) (Or.inl ⟨by rfl,?_⟩) ?_ ?_
        rotate_left
        ·intro w'
         go_simp
         with_reducible rfl
        rotate_left
        ·simp only [Act.put,List.setIfInBounds_toArray,List.set_cons_zero,List.set_cons_succ,i64_w,i32_w]
         rfl
        refine take_ (i := 1) (N := some 47) (v := ?_) (a' := ?_) #[true,true,true,false,true,false,true,false,true,false,true,false,true,true,false,false,false,false,false,false] rfl rfl (take_ofW HT_.out HW_.out (by kernel_rfl)) (fun _ _ _ h => h) (Or.inl ⟨by rfl,?_⟩) hHeld ?_ ?_
        rotate_left
        ·rintro w' ⟨s0,s1,s2,s3,s4,s5,s6⟩
         go_simp
         with_reducible rfl
        rotate_left
        ·simp only [Act.put,List.setIfInBounds_toArray,List.set_cons_zero,List.set_cons_succ,i64_w,i32_w]
         rfl
        refine take_ (i := 3) (N := some 49) (v := ?_) (a' := ?_) #[true,true,true,true,true,false,true,false,true,false,true,false,true,true,false,false,false,false,false,false] rfl rfl (take_ofW HT_.out HW_.out (by kernel_rfl)) (fun _ _ _ h => h) (Or.inl ⟨by rfl,?_⟩) hHeld ?_ ?_
        rotate_left
        ·rintro w' ⟨s0,s1,s2,s3,s4,s5,s6⟩
         go_simp
         with_reducible rfl
        rotate_left
        ·simp only [Act.put,List.setIfInBounds_toArray,List.set_cons_zero,List.set_cons_succ,i64_w,i32_w]
         rfl
        refine take_ (i := 5) (N := some 51) (v := ?_) (a' := ?_) #[true,true,true,true,true,true,true,false,true,false,true,false,true,true,false,false,false,false,false,false] rfl rfl (take_ofW HT_.out HW_.out (by kernel_rfl)) (fun _ _ _ h => h) (Or.inl ⟨by rfl,?_⟩) hHeld ?_ ?_
        rotate_left
        ·rintro w' ⟨s0,s1,s2,s3,s4,s5,s6⟩
         go_simp
         with_reducible rfl
        rotate_left
        ·simp only [Act.put,List.setIfInBounds_toArray,List.set_cons_zero,List.set_cons_succ,i64_w,i32_w]
         rfl
        refine pure_ (i := 7) (N := some 53) (v := ?_) (a' := ?_) #[true,true,true,true,true,true,true,true,true,false,true,false,true,true,false,false,false,false,false,false] rfl rfl (any_of HT_.out (by kernel_rfl)) (fun _ _ _ h => h) (Or.inl ⟨by rfl,?_⟩) ?_ ?_
        rotate_left
        ·intro w'
         go_simp
         with_reducible rfl
        rotate_left
        ·simp only [Act.put,List.setIfInBounds_toArray,List.set_cons_zero,List.set_cons_succ,i64_w,i32_w]
         rfl
        refine take_ (i := 9) (N := some 55) (v := ?_) (a' := ?_) #[true,true,true,true,true,true,true,true,true,true,true,false,true,true,false,false,false,false,false,false] rfl rfl (take_ofW HT_.out HW_.out (by kernel_rfl)) (fun _ _ _ h => h) (Or.inl ⟨by rfl,?_⟩) hHeld ?_ ?_
        rotate_left
        ·rintro w' ⟨s0,s1,s2,s3,s4,s5,s6⟩
         go_simp
         with_reducible rfl
        rotate_left
        ·simp only [Act.put,List.setIfInBounds_toArray,List.set_cons_zero,List.set_cons_succ,i64_w,i32_w]
         rfl
        refine pure_ (i := 11) (N := some 57) (v := ?_) (a' := ?_) #[true,true,true,true,true,true,true,true,true,true,true,true,true,true,false,false,false,false,false,false] rfl rfl (any_of HT_.out (by kernel_rfl)) (fun _ _ _ h => h) (Or.inl ⟨by rfl,?_⟩) ?_ ?_
        rotate_left
        ·intro w'
         go_simp
         with_reducible rfl
        rotate_left
        ·simp only [Act.put,List.setIfInBounds_toArray,List.set_cons_zero,List.set_cons_succ,i64_w,i32_w]
         rfl
        refine one_ (i := 14) (N := some 60) #[true,true,true,true,true,true,true,true,true,true,true,true,true,true,true,false,false,false,false,false] rfl rfl (one_of HT_.out (by kernel_rfl)) (by decide) (fun K hK => ?_)
        refine goes_ Try.func25 (by kernel_rfl) rfl #[.agg #[.int .u64 a0_0,.int .i64 a0_1,.int .i64 a0_2],.slice A0_3 l0_3.length c0_3,.int .u64 (Int.tmod a0_4 a0_0),.int .u64 (Int.tmod a0_5 a0_0),.slice Ao118 t803.length co118,.slice Ao119 t806.length co119] (by rfl) rfl rfl (by (try simp only [List.map_toArray,List.map_cons,List.map_nil]);first|done|rfl|(simp only [List.length_drop,List.length_take];rfl)) ?_
        with_reducible refine (tapeshift_Triple.calls a0_0 a0_1 a0_2 _ _ l0_3 (Int.tmod a0_4 a0_0) (Int.tmod a0_5 a0_0) _ _ t803 _ _ t806 t809 t812 _ ?side1 ?side2 ?side3 ?side4 ?side5 ?side6 A8.out).mono ?_
        (case side1 => repeat (first|exact (Kd.C_below HR0_3.out HB.out)|(with_reducible refine Kd.C_alloc ?_ _)|(with_reducible refine Kd.C_drewN ?_ _)|(with_reducible refine Kd.C_drew ?_)))
        (case side2 => exact HC0_3.out)
        (case side3 => repeat (first|exact (Kd.R_reads' HO805.out).2.2|(with_reducible refine Kd.C_alloc ?_ _)|(with_reducible refine Kd.C_drewN ?_ _)|(with_reducible refine Kd.C_drew ?_)))
        (case side4 => exact (Kd.R_reads' HO805.out).2.1)
        (case side5 => repeat (first|exact (Kd.R_reads' HO808.out).2.2|(with_reducible refine Kd.C_alloc ?_ _)|(with_reducible refine Kd.C_drewN ?_ _)|(with_reducible refine Kd.C_drew ?_)))
        (case side6 => exact (Kd.R_reads' HO808.out).2.1)
        rintro e w120 ⟨v810,v813,rfl,ho0,ho1,hb⟩
        refine ⟨_,rfl,?_⟩
        have n0_ := Aside0.mk (Kd.R_mono (Kd.R_told (Kd.R_told (Kd.R_old (by (with_reducible repeat (first|apply Kd.R_alloc|apply Kd.R_drewN|apply Kd.R_drew));exact HO793.out) hb) (Kd.R_base ho0)) (Kd.R_base ho1)) (fun _ h_ => h_.1))
        have n1_ := Aside0.mk (Kd.R_mono (Kd.R_told (Kd.R_told (Kd.R_old (by (with_reducible repeat (first|apply Kd.R_alloc|apply Kd.R_drewN|apply Kd.R_drew));exact HO796.out) hb) (Kd.R_base ho0)) (Kd.R_base ho1)) (fun _ h_ => h_.1))
        have n2_ := Aside0.mk (Kd.R_mono (Kd.R_told (Kd.R_told (Kd.R_old (by (with_reducible repeat (first|apply Kd.R_alloc|apply Kd.R_drewN|apply Kd.R_drew));exact HO799.out) hb) (Kd.R_base ho0)) (Kd.R_base ho1)) (fun _ h_ => h_.1))
        have n3_ := Aside0.mk (Kd.R_mono (Kd.R_told (Kd.R_told (Kd.R_old (by (with_reducible repeat (first|apply Kd.R_alloc|apply Kd.R_drewN|apply Kd.R_drew));exact HO802.out) hb) (Kd.R_base ho0)) (Kd.R_base ho1)) (fun _ h_ => h_.1))
        have n4_ := Aside0.mk (Kd.R_mono (Kd.R_told (Kd.R_told (Kd.R_old (by (with_reducible repeat (first|apply Kd.R_alloc|apply Kd.R_drewN|apply Kd.R_drew));exact HO805.out) hb) (Kd.R_base ho0)) (Kd.R_base ho1)) (fun _ h_ => h_.1))
        have n5_ := Aside0.mk (Kd.R_mono (Kd.R_told (Kd.R_told (Kd.R_old (by (with_reducible repeat (first|apply Kd.R_alloc|apply Kd.R_drewN|apply Kd.R_drew));exact HO808.out) hb) (Kd.R_base ho0)) (Kd.R_base ho1)) (fun _ h_ => h_.1))
        have n6_ := Aside0.mk (Kd.R_lower (Kd.R_new' (Kd.R_new' (Kd.R_new' (Kd.R_new' (Kd.R_new' (Kd.R_new' ho0 (Kd.R_lt (by (with_reducible repeat (first|apply Kd.R_alloc|apply Kd.R_drewN|apply Kd.R_drew));exact HO793.out))) (Kd.R_lt (by (with_reducible repeat (first|apply Kd.R_alloc|apply Kd.R_drewN|apply Kd.R_drew));exact HO796.out))) (Kd.R_lt (by (with_reducible repeat (first|apply Kd.R_alloc|apply Kd.R_drewN|apply Kd.R_drew));exact HO799.out))) (Kd.R_lt (by (with_reducible repeat (first|apply Kd.R_alloc|apply Kd.R_drewN|apply Kd.R_drew));exact HO802.out))) (Kd.R_lt (by (with_reducible repeat (first|apply Kd.R_alloc|apply Kd.R_drewN|apply Kd.R_drew));exact HO805.out))) (Kd.R_lt (by (with_reducible repeat (first|apply Kd.R_alloc|apply Kd.R_drewN|apply Kd.R_drew));exact HO808.out))) (below_size (by repeat (first|(with_reducible first|exact HB.out|apply below_alloc|apply pw_below_drewN|apply below_drew1|refine below_set ?_ GE788.out)|exact HB.out))))
        have n7_ := Aside0.mk (Kd.R_lower (Kd.R_new' (Kd.R_new' (Kd.R_new' (Kd.R_new' (Kd.R_new' (Kd.R_new' ho1 (Kd.R_lt (by (with_reducible repeat (first|apply Kd.R_alloc|apply Kd.R_drewN|apply Kd.R_drew));exact HO793.out))) (Kd.R_lt (by (with_reducible repeat (first|apply Kd.R_alloc|apply Kd.R_drewN|apply Kd.R_drew));exact HO796.out))) (Kd.R_lt (by (with_reducible repeat (first|apply Kd.R_alloc|apply Kd.R_drewN|apply Kd.R_drew));exact HO799.out))) (Kd.R_lt (by (with_reducible repeat (first|apply Kd.R_alloc|apply Kd.R_drewN|apply Kd.R_drew));exact HO802.out))) (Kd.R_lt (by (with_reducible repeat (first|apply Kd.R_alloc|apply Kd.R_drewN|apply Kd.R_drew));exact HO805.out))) (Kd.R_lt (by (with_reducible repeat (first|apply Kd.R_alloc|apply Kd.R_drewN|apply Kd.R_drew));exact HO808.out))) (below_size (by repeat (first|(with_reducible first|exact HB.out|apply below_alloc|apply pw_below_drewN|apply below_drew1|refine below_set ?_ GE788.out)|exact HB.out))))
        have n8_ := Aside0.mk (blk_below (g := gb788) (o := .cells #[.int .u64 a0_0,.int .i64 a0_1,.int .i64 a0_2,.slice A0_3 l0_3.length c0_3,.int .u64 a0_4,.int .u64 a0_5,.slice A0_6 l0_6.length c0_6] 28 (0,0)) (by (with_reducible repeat (first|refine blk_drewN ?_ _|refine blk_drew ?_|refine blk_alloc ?_ _));exact BK788.out) hb)
        have n9_ := Aside0.mk (below_step (by repeat (first|(with_reducible first|exact HB.out|apply below_alloc|apply pw_below_drewN|apply below_drew1|refine below_set ?_ GE788.out)|exact HB.out)) hb)
        clear HO793
        clear HO796
        clear HO799
        clear HO802
        clear HO805
        clear HO808
        clear BK788
        clear HB
        have HO793 := n0_
        have HO796 := n1_
        have HO799 := n2_
        have HO802 := n3_
        have HO805 := n4_
        have HO808 := n5_
        have HO811 := n6_
        have HO814 := n7_
        have BK788 := n8_
        have HB := n9_
        clear n0_ n1_ n2_ n3_ n4_ n5_ n6_ n7_ n8_ n9_
        (try clear hb)
        (try clear hb2)
        (try clear hk)
        (try clear hi)
        (try clear ho0)
        (try clear ho1)
        refine hK.out _ _ ⟨(blk_cell BK788.out 0).trans rfl,(blk_cell BK788.out 1).trans rfl,(blk_cell BK788.out 2).trans rfl,(blk_cell BK788.out 3).trans rfl,(blk_cell BK788.out 4).trans rfl,(blk_cell BK788.out 5).trans rfl,(blk_cell BK788.out 6).trans rfl⟩ (fun hHeld => ?_)
        clear hK K
        refine norm_ (a' := ?_) ?_ ?_
        rotate_left
        ·show Act.put _ (some 60) _ = _
         simp only [Act.put,List.setIfInBounds_toArray,List.set_cons_zero,List.set_cons_succ,i64_w,i32_w]
         rfl
        refine pure_ (i := 15) (N := some 45) (v := ?_) (a' := ?_) #[true,true,true,true,true,true,true,true,true,true,true,true,true,true,true,true,false,false,false,false] rfl rfl (any_of HT_.out (by kernel_rfl)) (fun _ _ _ h => h) (Or.inl ⟨by rfl,?_⟩) ?_ ?_
        rotate_left
        ·intro w'
         go_simp
         with_reducible rfl
        rotate_left
        ·simp only [Act.put,List.setIfInBounds_toArray,List.set_cons_zero,List.set_cons_succ,i64_w,i32_w]
         rfl
        refine pure_ (i := 16) (N := some 61) (v := ?_) (a' := ?_) #[true,true,true,true,true,true,true,true,true,true,true,true,true,true,true,true,true,false,false,false] rfl rfl (any_of HT_.out (by kernel_rfl)) (fun _ _ _ h => h) (Or.inl ⟨by rfl,?_⟩) ?_ ?_
        rotate_left
        ·intro w'
         go_simp
         with_reducible rfl
        rotate_left
        ·simp only [Act.put,List.setIfInBounds_toArray,List.set_cons_zero,List.set_cons_succ,i64_w,i32_w]
         rfl
        refine pure_ (i := 17) (N := some 62) (v := ?_) (a' := ?_) #[true,true,true,true,true,true,true,true,true,true,true,true,true,true,true,true,true,true,false,false] rfl rfl (any_of HT_.out (by kernel_rfl)) (fun _ _ _ h => h) (Or.inl ⟨by rfl,?_⟩) ?_ ?_
        rotate_left
        ·intro w'
         go_simp
         with_reducible rfl
        rotate_left
        ·simp only [Act.put,List.setIfInBounds_toArray,List.set_cons_zero,List.set_cons_succ,i64_w,i32_w]
         rfl
        refine pure_ (i := 18) (N := some 10) (v := ?_) (a' := ?_) #[true,true,true,true,true,true,true,true,true,true,true,true,true,true,true,true,true,true,true,false] rfl rfl (any_of HT_.out (by kernel_rfl)) (fun _ _ _ h => h) (Or.inl ⟨by rfl,?_⟩) ?_ ?_
        rotate_left
        ·intro w'
         go_simp
         with_reducible rfl
        rotate_left
        ·simp only [Act.put,List.setIfInBounds_toArray,List.set_cons_zero,List.set_cons_succ,i64_w,i32_w]
         rfl
        refine pure_ (i := 19) (N := some 11) (v := ?_) (a' := ?_) #[true,true,true,true,true,true,true,true,true,true,true,true,true,true,true,true,true,true,true,true] rfl rfl (any_of HT_.out (by kernel_rfl)) (fun _ _ _ h => h) (Or.inl ⟨by rfl,?_⟩) ?_ ?_
        rotate_left
        ·intro w'
         go_simp
         with_reducible rfl
        rotate_left
        ·simp only [Act.put,List.setIfInBounds_toArray,List.set_cons_zero,List.set_cons_succ,i64_w,i32_w]
         rfl
        refine done_ (done_of HT_.out (by kernel_rfl)) ?_
        obtain ⟨Ao121,co121,eo121⟩ := Kd.R_slice HO799.out
        subst eo121
        try go_wp2_with (first|((with_reducible refine gate_callee (f := 18) rfl ?_);refine goesL_ (some 65) rfl rfl Try.func18 (by kernel_rfl) rfl #[.slice Ao121 t797.length co121,.slice Ao112 t791.length co112] rfl (by (try simp only [List.map_toArray,List.map_cons,List.map_nil]);first|done|rfl|(simp only [List.length_drop,List.length_take];rfl)) ?_;(with_reducible refine (privityref14_Words.calls k _ _ t797 _ _ t791 true _ ?side1 ?side2 ?side3 ?side4 A9.out).mono ?_);(case side1 => repeat (first|exact (Kd.R_reads' HO799.out).2.2|(with_reducible refine Kd.C_alloc ?_ _)|(with_reducible refine Kd.C_drewN ?_ _)|(with_reducible refine Kd.C_drew ?_)));(case side2 => exact (Kd.R_reads' HO799.out).2.1);(case side3 => repeat (first|exact (Kd.R_reads' HO793.out).2.2|(with_reducible refine Kd.C_alloc ?_ _)|(with_reducible refine Kd.C_drewN ?_ _)|(with_reducible refine Kd.C_drew ?_)));(case side4 => exact (Kd.R_reads' HO793.out).2.1);rintro e w' ⟨rfl,⟨nd,rfl⟩⟩;refine ⟨_,rfl,?_⟩;obtain ⟨Ao122,co122,eo122⟩ := Kd.R_slice HO802.out;subst eo122)|(go_at_call 18;(with_reducible refine (privityref14_Words.calls k _ _ t800 _ _ t794 t816 _ ?side1 ?side2 ?side3 ?side4 A11.out).mono ?_);(case side1 => repeat (first|exact (Kd.R_reads' HO802.out).2.2|(with_reducible refine Kd.C_alloc ?_ _)|(with_reducible refine Kd.C_drewN ?_ _)|(with_reducible refine Kd.C_drew ?_)));(case side2 => exact (Kd.R_reads' HO802.out).2.1);(case side3 => repeat (first|exact (Kd.R_reads' HO796.out).2.2|(with_reducible refine Kd.C_alloc ?_ _)|(with_reducible refine Kd.C_drewN ?_ _)|(with_reducible refine Kd.C_drew ?_)));(case side4 => exact (Kd.R_reads' HO796.out).2.1);rintro e w' ⟨rfl,⟨nd,rfl⟩⟩;obtain ⟨Ao123,co123,eo123⟩ := Kd.R_slice HO811.out;subst eo123)|((with_reducible refine gate_callee (f := 18) rfl ?_);refine goesL_ (some 73) rfl rfl Try.func18 (by kernel_rfl) rfl #[.slice Ao123 t809.length co123,.slice Ao118 t803.length co118] rfl (by (try simp only [List.map_toArray,List.map_cons,List.map_nil]);first|done|rfl|(simp only [List.length_drop,List.length_take];rfl)) ?_;(with_reducible refine (privityref14_Words.calls k _ _ t809 _ _ t803 false _ ?side1 ?side2 ?side3 ?side4 A12.out).mono ?_);(case side1 => repeat (first|exact (Kd.R_reads' HO811.out).2.2|(with_reducible refine Kd.C_alloc ?_ _)|(with_reducible refine Kd.C_drewN ?_ _)|(with_reducible refine Kd.C_drew ?_)));(case side2 => exact (Kd.R_reads' HO811.out).2.1);(case side3 => repeat (first|exact (Kd.R_reads' HO805.out).2.2|(with_reducible refine Kd.C_alloc ?_ _)|(with_reducible refine Kd.C_drewN ?_ _)|(with_reducible refine Kd.C_drew ?_)));(case side4 => exact (Kd.R_reads' HO805.out).2.1);rintro e w' ⟨rfl,⟨nd,rfl⟩⟩;refine ⟨_,rfl,?_⟩)|((with_reducible refine gate_callee (f := 13) rfl ?_);refine goesL_ (some 79) rfl rfl Try.func13 (by kernel_rfl) rfl #[] rfl (by (try simp only [List.map_toArray,List.map_cons,List.map_nil]);first|done|rfl|(simp only [List.length_drop,List.length_take];rfl)) ?_;(with_reducible refine (privitylaw43_awake.calls k  true _ A102.out).mono ?_);rintro e w124 ⟨rfl,hb⟩;refine ⟨_,rfl,?_⟩;have n0_ := Aside0.mk (Kd.R_below (by (with_reducible repeat (first|apply Kd.R_alloc|apply Kd.R_drewN|apply Kd.R_drew));exact HO793.out) hb);have n1_ := Aside0.mk (Kd.R_below (by (with_reducible repeat (first|apply Kd.R_alloc|apply Kd.R_drewN|apply Kd.R_drew));exact HO796.out) hb);have n2_ := Aside0.mk (Kd.R_below (by (with_reducible repeat (first|apply Kd.R_alloc|apply Kd.R_drewN|apply Kd.R_drew));exact HO799.out) hb);have n3_ := Aside0.mk (Kd.R_below (by (with_reducible repeat (first|apply Kd.R_alloc|apply Kd.R_drewN|apply Kd.R_drew));exact HO802.out) hb);have n4_ := Aside0.mk (Kd.R_below (by (with_reducible repeat (first|apply Kd.R_alloc|apply Kd.R_drewN|apply Kd.R_drew));exact HO805.out) hb);have n5_ := Aside0.mk (Kd.R_below (by (with_reducible repeat (first|apply Kd.R_alloc|apply Kd.R_drewN|apply Kd.R_drew));exact HO808.out) hb);have n6_ := Aside0.mk (Kd.R_below (by (with_reducible repeat (first|apply Kd.R_alloc|apply Kd.R_drewN|apply Kd.R_drew));exact HO811.out) hb);have n7_ := Aside0.mk (Kd.R_below (by (with_reducible repeat (first|apply Kd.R_alloc|apply Kd.R_drewN|apply Kd.R_drew));exact HO814.out) hb);have n8_ := Aside0.mk (blk_below (g := gb788) (o := .cells #[.int .u64 a0_0,.int .i64 a0_1,.int .i64 a0_2,.slice A0_3 l0_3.length c0_3,.int .u64 a0_4,.int .u64 a0_5,.slice A0_6 l0_6.length c0_6] 28 (0,0)) (by (with_reducible repeat (first|refine blk_drewN ?_ _|refine blk_drew ?_|refine blk_alloc ?_ _));exact BK788.out) hb);have n9_ := Aside0.mk (below_step (by repeat (first|(with_reducible first|exact HB.out|apply below_alloc|apply pw_below_drewN|apply below_drew1|refine below_set ?_ GE788.out)|exact HB.out)) hb);clear HO793;clear HO796;clear HO799;clear HO802;clear HO805;clear HO808;clear HO811;clear HO814;clear BK788;clear HB;have HO793 := n0_;have HO796 := n1_;have HO799 := n2_;have HO802 := n3_;have HO805 := n4_;have HO808 := n5_;have HO811 := n6_;have HO814 := n7_;have BK788 := n8_;have HB := n9_;clear n0_ n1_ n2_ n3_ n4_ n5_ n6_ n7_ n8_ n9_;(try clear hb);(try clear hb2);(try clear hk);(try clear hi);have hcz125_0 : w124.cell? ⟨gb788,0,none⟩ = some (.int .u64 a0_0) := (blk_cell BK788.out 0).trans rfl;have hcz125_1 : w124.cell? ⟨gb788,1,none⟩ = some (.int .i64 a0_1) := (blk_cell BK788.out 1).trans rfl;have hcz125_2 : w124.cell? ⟨gb788,2,none⟩ = some (.int .i64 a0_2) := (blk_cell BK788.out 2).trans rfl;have hcz125_3 : w124.cell? ⟨gb788,3,none⟩ = some (.slice A0_3 l0_3.length c0_3) := (blk_cell BK788.out 3).trans rfl;have hcz125_4 : w124.cell? ⟨gb788,4,none⟩ = some (.int .u64 a0_4) := (blk_cell BK788.out 4).trans rfl;have hcz125_5 : w124.cell? ⟨gb788,5,none⟩ = some (.int .u64 a0_5) := (blk_cell BK788.out 5).trans rfl;have hcz125_6 : w124.cell? ⟨gb788,6,none⟩ = some (.slice A0_6 l0_6.length c0_6) := (blk_cell BK788.out 6).trans rfl;have hfz125_0 := blk_frozen BK788.out 0;have hfz125_1 := blk_frozen BK788.out 1;have hfz125_2 := blk_frozen BK788.out 2;have hfz125_3 := blk_frozen BK788.out 3;have hfz125_4 := blk_frozen BK788.out 4;have hfz125_5 := blk_frozen BK788.out 5;have hfz125_6 := blk_frozen BK788.out 6))
        go_ret
        exact ⟨by first|rfl|(cases t818 <;> rfl)|(cases t818 <;> simp [errW_none,errW_some])|(cases t822 <;> rfl)|(cases t822 <;> simp [errW_none,errW_some])|(simp [errW_none,errW_some] <;> rfl)|(simp [*,errW_none,errW_some] <;> rfl),by repeat (first|(with_reducible first|exact HB.out|apply below_alloc|apply pw_below_drewN|apply below_drew1|refine below_set ?_ GE788.out)|exact HB.out)⟩
       ·rw [if_neg c105] at H
        have c105b0 : ((Int.tmod a0_4 a0_0) == 0) = false := beq_eq_false_iff_ne.mpr c105
        have c105b1 : ((Int.tmod a0_4 a0_0) != 0) = true := bne_iff_ne.mpr c105
        (try (have hb3_ : t816 = false := (by have h_ := c104b0; rw [c105b0] at h_; revert h_; cases t816 <;> simp)))
        exact absurd (HP_.out _ _ _ _ A2.out A4.out A6.out A9.out) c105
      ·rw [if_neg c104] at H
       have c104b0 : (t816 == ((Int.tmod a0_4 a0_0) == 0)) = false := by simpa using c104
       (try (have c104b1 : decide (t816 = ((Int.tmod a0_4 a0_0) == 0)) = false := by simpa using c104))
       (try (have c104b2 : (t816 == ((Int.tmod a0_4 a0_0) == 0)) = false := by simpa using c104))
       (try (have c104b3 : ¬ (t816 = ((Int.tmod a0_4 a0_0) == 0)) := by simpa using c104))
       clear c104
       exact absurd (Option.some.inj H) (by rw [HRT_.out]; simp)
     ·replace c103 := Bool.eq_false_iff.mpr c103
      subst c103
      have H1 : (some false) = some r := by rw [if_neg (show ¬ (false = true) by decide)] at H;exact H
      clear H
      have H := H1
      clear H1
      exact absurd (Option.some.inj H) (by rw [HRT_.out]; simp)
   ·replace c10 := Bool.eq_false_iff.mpr c10
    subst c10
    have H1 : ((privityref14_Words.f k t809 t803).bind fun t821 => (if t821 = true then ((privityref14_Words.f k t812 t806).bind fun t822 => ((privitylaw43_awake.f k).bind fun t823 => (if t823 = true then (if (false == ((Int.tmod a0_4 a0_0) == 0)) = true then (if (Int.tmod a0_4 a0_0) = 0 then (some (t822 == ((Int.tmod a0_5 a0_0) == 0))) else (some (t822 == false))) else (some false)) else (some false)))) else ((privitylaw43_awake.f k).bind fun t824 => (if t824 = true then (if (false == ((Int.tmod a0_4 a0_0) == 0)) = true then (if (Int.tmod a0_4 a0_0) = 0 then (some (false == ((Int.tmod a0_5 a0_0) == 0))) else (some (false == false))) else (some false)) else (some false))))) = some r := by rw [if_neg (show ¬ (false = true) by decide)] at H;exact H
    clear H
    have H := H1
    clear H1
    replace H := Option.bind_eq_some_iff.mp H
    obtain ⟨t821,A1850,H⟩ := H
    replace H : (if t821 = true then ((privityref14_Words.f k t812 t806).bind fun t822 => ((privitylaw43_awake.f k).bind fun t823 => (if t823 = true then (if (false == ((Int.tmod a0_4 a0_0) == 0)) = true then (if (Int.tmod a0_4 a0_0) = 0 then (some (t822 == ((Int.tmod a0_5 a0_0) == 0))) else (some (t822 == false))) else (some false)) else (some false)))) else ((privitylaw43_awake.f k).bind fun t824 => (if t824 = true then (if (false == ((Int.tmod a0_4 a0_0) == 0)) = true then (if (Int.tmod a0_4 a0_0) = 0 then (some (false == ((Int.tmod a0_5 a0_0) == 0))) else (some (false == false))) else (some false)) else (some false)))) = some r := H
    have A185 := Aside0.mk A1850
    clear A1850
    by_cases c186 : t821 = true
    ·subst c186
     have H1 : ((privityref14_Words.f k t812 t806).bind fun t822 => ((privitylaw43_awake.f k).bind fun t823 => (if t823 = true then (if (false == ((Int.tmod a0_4 a0_0) == 0)) = true then (if (Int.tmod a0_4 a0_0) = 0 then (some (t822 == ((Int.tmod a0_5 a0_0) == 0))) else (some (t822 == false))) else (some false)) else (some false)))) = some r := by rw [if_pos rfl] at H;exact H
     clear H
     have H := H1
     clear H1
     replace H := Option.bind_eq_some_iff.mp H
     obtain ⟨t822,A1870,H⟩ := H
     replace H : ((privitylaw43_awake.f k).bind fun t823 => (if t823 = true then (if (false == ((Int.tmod a0_4 a0_0) == 0)) = true then (if (Int.tmod a0_4 a0_0) = 0 then (some (t822 == ((Int.tmod a0_5 a0_0) == 0))) else (some (t822 == false))) else (some false)) else (some false))) = some r := H
     have A187 := Aside0.mk A1870
     clear A1870
     replace H := Option.bind_eq_some_iff.mp H
     obtain ⟨t823,A1880,H⟩ := H
     replace H : (if t823 = true then (if (false == ((Int.tmod a0_4 a0_0) == 0)) = true then (if (Int.tmod a0_4 a0_0) = 0 then (some (t822 == ((Int.tmod a0_5 a0_0) == 0))) else (some (t822 == false))) else (some false)) else (some false)) = some r := H
     have A188 := Aside0.mk A1880
     clear A1880
     by_cases c189 : t823 = true
     ·subst c189
      have H1 : (if (false == ((Int.tmod a0_4 a0_0) == 0)) = true then (if (Int.tmod a0_4 a0_0) = 0 then (some (t822 == ((Int.tmod a0_5 a0_0) == 0))) else (some (t822 == false))) else (some false)) = some r := by rw [if_pos rfl] at H;exact H
      clear H
      have H := H1
      clear H1
      by_cases c190 : (false == ((Int.tmod a0_4 a0_0) == 0)) = true
      ·rw [if_pos c190] at H
       have c190b0 : (false == ((Int.tmod a0_4 a0_0) == 0)) = true := c190
       (try (have c190b1 : decide (false = ((Int.tmod a0_4 a0_0) == 0)) = true := by simpa using c190))
       (try (have c190b2 : (false == ((Int.tmod a0_4 a0_0) == 0)) = true := by simpa using c190))
       clear c190
       by_cases c191 : (Int.tmod a0_4 a0_0) = 0
       ·rw [if_pos c191] at H
        have c191b0 : ((Int.tmod a0_4 a0_0) == 0) = true := beq_iff_eq.mpr c191
        have c191b1 : ((Int.tmod a0_4 a0_0) != 0) = false := bne_eq_false_iff_eq.mpr c191
        clear c191
        exact absurd c190b0 (by rw [c191b0]; decide)
       ·rw [if_neg c191] at H
        have c191b0 : ((Int.tmod a0_4 a0_0) == 0) = false := beq_eq_false_iff_ne.mpr c191
        have c191b1 : ((Int.tmod a0_4 a0_0) != 0) = true := bne_iff_ne.mpr c191
        exact absurd (HQ_.out _ _ _ _ A2.out A7.out A8.out A185.out) c191
      ·rw [if_neg c190] at H
       have c190b0 : (false == ((Int.tmod a0_4 a0_0) == 0)) = false := by simpa using c190
       (try (have c190b1 : decide (false = ((Int.tmod a0_4 a0_0) == 0)) = false := by simpa using c190))
       (try (have c190b2 : (false == ((Int.tmod a0_4 a0_0) == 0)) = false := by simpa using c190))
       (try (have c190b3 : ¬ (false = ((Int.tmod a0_4 a0_0) == 0)) := by simpa using c190))
       clear c190
       exact absurd (Option.some.inj H) (by rw [HRT_.out]; simp)
     ·replace c189 := Bool.eq_false_iff.mpr c189
      subst c189
      have H1 : (some false) = some r := by rw [if_neg (show ¬ (false = true) by decide)] at H;exact H
      clear H
      have H := H1
      clear H1
      exact absurd (Option.some.inj H) (by rw [HRT_.out]; simp)
    ·replace c186 := Bool.eq_false_iff.mpr c186
     subst c186
     have H1 : ((privitylaw43_awake.f k).bind fun t824 => (if t824 = true then (if (false == ((Int.tmod a0_4 a0_0) == 0)) = true then (if (Int.tmod a0_4 a0_0) = 0 then (some (false == ((Int.tmod a0_5 a0_0) == 0))) else (some (false == false))) else (some false)) else (some false))) = some r := by rw [if_neg (show ¬ (false = true) by decide)] at H;exact H
     clear H
     have H := H1
     clear H1
     replace H := Option.bind_eq_some_iff.mp H
     obtain ⟨t824,A2710,H⟩ := H
     replace H : (if t824 = true then (if (false == ((Int.tmod a0_4 a0_0) == 0)) = true then (if (Int.tmod a0_4 a0_0) = 0 then (some (false == ((Int.tmod a0_5 a0_0) == 0))) else (some (false == false))) else (some false)) else (some false)) = some r := H
     have A271 := Aside0.mk A2710
     clear A2710
     by_cases c272 : t824 = true
     ·subst c272
      have H1 : (if (false == ((Int.tmod a0_4 a0_0) == 0)) = true then (if (Int.tmod a0_4 a0_0) = 0 then (some (false == ((Int.tmod a0_5 a0_0) == 0))) else (some (false == false))) else (some false)) = some r := by rw [if_pos rfl] at H;exact H
      clear H
      have H := H1
      clear H1
      by_cases c273 : (false == ((Int.tmod a0_4 a0_0) == 0)) = true
      ·rw [if_pos c273] at H
       have c273b0 : (false == ((Int.tmod a0_4 a0_0) == 0)) = true := c273
       (try (have c273b1 : decide (false = ((Int.tmod a0_4 a0_0) == 0)) = true := by simpa using c273))
       (try (have c273b2 : (false == ((Int.tmod a0_4 a0_0) == 0)) = true := by simpa using c273))
       clear c273
       by_cases c274 : (Int.tmod a0_4 a0_0) = 0
       ·rw [if_pos c274] at H
        have c274b0 : ((Int.tmod a0_4 a0_0) == 0) = true := beq_iff_eq.mpr c274
        have c274b1 : ((Int.tmod a0_4 a0_0) != 0) = false := bne_eq_false_iff_eq.mpr c274
        clear c274
        exact absurd c273b0 (by rw [c274b0]; decide)
       ·rw [if_neg c274] at H
        have c274b0 : ((Int.tmod a0_4 a0_0) == 0) = false := beq_eq_false_iff_ne.mpr c274
        have c274b1 : ((Int.tmod a0_4 a0_0) != 0) = true := bne_iff_ne.mpr c274
        obtain rfl := Option.some.inj H
        go_enter Try.func9,Try.ntmps9
        try go_wp2_with (first|((with_reducible refine gate_dst (N := 1) rfl ?_);refine box_event ?hg (N := 1) ?hd (cs := #[.int .u64 a0_0,.int .i64 a0_1,.int .i64 a0_2,.slice A0_3 l0_3.length c0_3,.int .u64 a0_4,.int .u64 a0_5,.slice A0_6 l0_6.length c0_6]) (t := 28) ?hr ?_;(case hd => rfl);(case hg => rfl);(case hr => first|(go_simp;done)|(go_simp;rfl));intro gb788 hg w294 hbox hb;have n0_ := Aside0.mk (below_step (by repeat (first|(with_reducible first|exact HB.out|apply below_alloc|apply pw_below_drewN|apply below_drew1)|exact HB.out)) hb);have n1_ := Aside0.mk (hbox);have n2_ := Aside0.mk ((by rw [hg];exact (below_size (by repeat (first|(with_reducible first|exact HB.out|apply below_alloc|apply pw_below_drewN|apply below_drew1)|exact HB.out))) : w.heap.size ≤ gb788));have n3_ := Aside0.mk ((by rw [hg];exact (below_size (by repeat (first|(with_reducible first|exact HB.out|apply below_alloc|apply pw_below_drewN|apply below_drew1)|exact HB.out))) : w.heap.size ≤ gb788));clear HB;have HB := n0_;have BK788 := n1_;have GW788 := n2_;have GE788 := n3_;clear n0_ n1_ n2_ n3_;clear hb hbox hg;have hcz295_0 : w294.cell? ⟨gb788,0,none⟩ = some (.int .u64 a0_0) := (blk_cell BK788.out 0).trans rfl;have hcz295_1 : w294.cell? ⟨gb788,1,none⟩ = some (.int .i64 a0_1) := (blk_cell BK788.out 1).trans rfl;have hcz295_2 : w294.cell? ⟨gb788,2,none⟩ = some (.int .i64 a0_2) := (blk_cell BK788.out 2).trans rfl;have hcz295_3 : w294.cell? ⟨gb788,3,none⟩ = some (.slice A0_3 l0_3.length c0_3) := (blk_cell BK788.out 3).trans rfl;have hcz295_4 : w294.cell? ⟨gb788,4,none⟩ = some (.int .u64 a0_4) := (blk_cell BK788.out 4).trans rfl;have hcz295_5 : w294.cell? ⟨gb788,5,none⟩ = some (.int .u64 a0_5) := (blk_cell BK788.out 5).trans rfl;have hcz295_6 : w294.cell? ⟨gb788,6,none⟩ = some (.slice A0_6 l0_6.length c0_6) := (blk_cell BK788.out 6).trans rfl;have hfz295_0 := blk_frozen BK788.out 0;have hfz295_1 := blk_frozen BK788.out 1;have hfz295_2 := blk_frozen BK788.out 2;have hfz295_3 := blk_frozen BK788.out 3;have hfz295_4 := blk_frozen BK788.out 4;have hfz295_5 := blk_frozen BK788.out 5;have hfz295_6 := blk_frozen BK788.out 6)|((with_reducible refine gate_callee (f := 12) rfl ?_);refine goesL_ (some 15) rfl rfl Try.func12 (by kernel_rfl) rfl #[.agg #[.int .u64 a0_0,.int .i64 a0_1,.int .i64 a0_2,.slice A0_3 l0_3.length c0_3,.int .u64 a0_4,.int .u64 a0_5,.slice A0_6 l0_6.length c0_6]] rfl (by (try simp only [List.map_toArray,List.map_cons,List.map_nil]);first|done|rfl|(simp only [List.length_drop,List.length_take];rfl)) ?_;(with_reducible refine (privitylaw43_may.calls k a0_0 a0_1 a0_2 _ _ l0_3 a0_4 a0_5 _ _ l0_6 true _ ?side1 ?side2 ?side3 ?side4 A2.out).mono ?_);(case side1 => repeat (first|exact (Kd.C_below HR0_3.out HB.out)|(with_reducible refine Kd.C_alloc ?_ _)|(with_reducible refine Kd.C_drewN ?_ _)|(with_reducible refine Kd.C_drew ?_)));(case side2 => exact HC0_3.out);(case side3 => repeat (first|exact (Kd.C_below HR0_6.out HB.out)|(with_reducible refine Kd.C_alloc ?_ _)|(with_reducible refine Kd.C_drewN ?_ _)|(with_reducible refine Kd.C_drew ?_)));(case side4 => exact HC0_6.out);rintro e w296 ⟨rfl,hb⟩;refine ⟨_,rfl,?_⟩;have n0_ := Aside0.mk (blk_below (g := gb788) (o := .cells #[.int .u64 a0_0,.int .i64 a0_1,.int .i64 a0_2,.slice A0_3 l0_3.length c0_3,.int .u64 a0_4,.int .u64 a0_5,.slice A0_6 l0_6.length c0_6] 28 (0,0)) (by (with_reducible repeat (first|refine blk_drewN ?_ _|refine blk_drew ?_|refine blk_alloc ?_ _));exact BK788.out) hb);have n1_ := Aside0.mk (below_step (by repeat (first|(with_reducible first|exact HB.out|apply below_alloc|apply pw_below_drewN|apply below_drew1|refine below_set ?_ GE788.out)|exact HB.out)) hb);clear BK788;clear HB;have BK788 := n0_;have HB := n1_;clear n0_ n1_;(try clear hb);(try clear hb2);(try clear hk);(try clear hi);have hcz297_0 : w296.cell? ⟨gb788,0,none⟩ = some (.int .u64 a0_0) := (blk_cell BK788.out 0).trans rfl;have hcz297_1 : w296.cell? ⟨gb788,1,none⟩ = some (.int .i64 a0_1) := (blk_cell BK788.out 1).trans rfl;have hcz297_2 : w296.cell? ⟨gb788,2,none⟩ = some (.int .i64 a0_2) := (blk_cell BK788.out 2).trans rfl;have hcz297_3 : w296.cell? ⟨gb788,3,none⟩ = some (.slice A0_3 l0_3.length c0_3) := (blk_cell BK788.out 3).trans rfl;have hcz297_4 : w296.cell? ⟨gb788,4,none⟩ = some (.int .u64 a0_4) := (blk_cell BK788.out 4).trans rfl;have hcz297_5 : w296.cell? ⟨gb788,5,none⟩ = some (.int .u64 a0_5) := (blk_cell BK788.out 5).trans rfl;have hcz297_6 : w296.cell? ⟨gb788,6,none⟩ = some (.slice A0_6 l0_6.length c0_6) := (blk_cell BK788.out 6).trans rfl;have hfz297_0 := blk_frozen BK788.out 0;have hfz297_1 := blk_frozen BK788.out 1;have hfz297_2 := blk_frozen BK788.out 2;have hfz297_3 := blk_frozen BK788.out 3;have hfz297_4 := blk_frozen BK788.out 4;have hfz297_5 := blk_frozen BK788.out 5;have hfz297_6 := blk_frozen BK788.out 6)|((with_reducible refine gate_callee (f := 14) rfl ?_);refine goesL_ (some 23) rfl rfl Try.func14 (by kernel_rfl) rfl #[.agg #[.int .u64 a0_0,.int .i64 a0_1,.int .i64 a0_2,.slice A0_3 l0_3.length c0_3,.int .u64 a0_4,.int .u64 a0_5,.slice A0_6 l0_6.length c0_6]] rfl (by (try simp only [List.map_toArray,List.map_cons,List.map_nil]);first|done|rfl|(simp only [List.length_drop,List.length_take];rfl)) ?_;(with_reducible refine (privitylaw43_one.calls k a0_0 a0_1 a0_2 _ _ l0_3 a0_4 a0_5 _ _ l0_6 t791 t794 _ ?side1 ?side2 ?side3 ?side4 A4.out).mono ?_);(case side1 => repeat (first|exact (Kd.C_below HR0_3.out HB.out)|(with_reducible refine Kd.C_alloc ?_ _)|(with_reducible refine Kd.C_drewN ?_ _)|(with_reducible refine Kd.C_drew ?_)));(case side2 => exact HC0_3.out);(case side3 => repeat (first|exact (Kd.C_below HR0_6.out HB.out)|(with_reducible refine Kd.C_alloc ?_ _)|(with_reducible refine Kd.C_drewN ?_ _)|(with_reducible refine Kd.C_drew ?_)));(case side4 => exact HC0_6.out);rintro e w298 ⟨v792,v795,rfl,ho0,ho1,hb⟩;refine ⟨_,rfl,?_⟩;have n0_ := Aside0.mk (Kd.R_lower ho0 (below_size (by repeat (first|(with_reducible first|exact HB.out|apply below_alloc|apply pw_below_drewN|apply below_drew1|refine below_set ?_ GE788.out)|exact HB.out))));have n1_ := Aside0.mk (Kd.R_lower ho1 (below_size (by repeat (first|(with_reducible first|exact HB.out|apply below_alloc|apply pw_below_drewN|apply below_drew1|refine below_set ?_ GE788.out)|exact HB.out))));have n2_ := Aside0.mk (blk_below (g := gb788) (o := .cells #[.int .u64 a0_0,.int .i64 a0_1,.int .i64 a0_2,.slice A0_3 l0_3.length c0_3,.int .u64 a0_4,.int .u64 a0_5,.slice A0_6 l0_6.length c0_6] 28 (0,0)) (by (with_reducible repeat (first|refine blk_drewN ?_ _|refine blk_drew ?_|refine blk_alloc ?_ _));exact BK788.out) hb);have n3_ := Aside0.mk (below_step (by repeat (first|(with_reducible first|exact HB.out|apply below_alloc|apply pw_below_drewN|apply below_drew1|refine below_set ?_ GE788.out)|exact HB.out)) hb);clear BK788;clear HB;have HO793 := n0_;have HO796 := n1_;have BK788 := n2_;have HB := n3_;clear n0_ n1_ n2_ n3_;(try clear hb);(try clear hb2);(try clear hk);(try clear hi);(try clear ho0);(try clear ho1)))
        have n0_ := Aside0.mk (Kd.R_drew HO793.out)
        have n1_ := Aside0.mk (Kd.R_drew HO796.out)
        have n2_ := Aside0.mk (blk_drew BK788.out)
        have n3_ := Aside0.mk (below_drew1 HB.out)
        clear HO793
        clear HO796
        clear BK788
        clear HB
        have HO793 := n0_
        have HO796 := n1_
        have BK788 := n2_
        have HB := n3_
        clear n0_ n1_ n2_ n3_
        obtain ⟨Ao300,co300,eo300⟩ := Kd.R_slice HO793.out
        (first|subst eo300|(injection eo300 with f1_ f2_ f3_;have f4_ := f1_.symm;have f5_ := f3_.symm;clear f1_ f2_ f3_;subst f4_;subst f5_))
        obtain ⟨Ao301,co301,eo301⟩ := Kd.R_slice HO796.out
        (first|subst eo301|(injection eo301 with f1_ f2_ f3_;have f4_ := f1_.symm;have f5_ := f3_.symm;clear f1_ f2_ f3_;subst f4_;subst f5_))
        refine start_ (n := 16) (S := fun w' => w'.cell? ⟨gb788,0,none⟩ = some (.int .u64 a0_0) ∧ w'.cell? ⟨gb788,1,none⟩ = some (.int .i64 a0_1) ∧ w'.cell? ⟨gb788,2,none⟩ = some (.int .i64 a0_2) ∧ w'.cell? ⟨gb788,3,none⟩ = some (.slice A0_3 l0_3.length c0_3) ∧ w'.cell? ⟨gb788,4,none⟩ = some (.int .u64 a0_4) ∧ w'.cell? ⟨gb788,5,none⟩ = some (.int .u64 a0_5) ∧ w'.cell? ⟨gb788,6,none⟩ = some (.slice A0_6 l0_6.length c0_6)) (ds := []) #[false,false,false,false,false,false,false,false,false,false,false,false,false,false,false,false] (by kernel_rfl) rfl rfl ⟨(blk_cell BK788.out 0).trans rfl,(blk_cell BK788.out 1).trans rfl,(blk_cell BK788.out 2).trans rfl,(blk_cell BK788.out 3).trans rfl,(blk_cell BK788.out 4).trans rfl,(blk_cell BK788.out 5).trans rfl,(blk_cell BK788.out 6).trans rfl⟩ (fun hHeld => ?_);refine with_tabW privitylaw43_TapeshiftIdentity.tab5 privitylaw43_TapeshiftIdentity.bits5 (fun HT_ HW_ => ?_)
        generalize w298.drew = w299 at HO793 HO796 BK788 HB hHeld ⊢
        refine pure_ (i := 0) (N := some 27) (v := ?_) (a' := ?_) #[true,false,false,false,false,false,false,false,false,false,false,false,false,false,false,false] rfl rfl (any_of HT_.out (by kernel_rfl)) (fun _ _ _ h => h) (Or.inl ⟨by rfl,?_⟩) ?_ ?_
        rotate_left
        ·intro w'
         go_simp
         with_reducible rfl
        rotate_left
        ·simp only [Act.put,List.setIfInBounds_toArray,List.set_cons_zero,List.set_cons_succ,i64_w,i32_w]
         rfl
        refine pure_ (i := 2) (N := some 29) (v := ?_) (a' := ?_) #[true,false,true,false,false,false,false,false,false,false,false,false,false,false,false,false] rfl rfl (any_of HT_.out (by kernel_rfl)) (fun _ _ _ h => h) (Or.inl ⟨by rfl,?_⟩) ?_ ?_
        rotate_left
        ·intro w'
         go_simp
         with_reducible rfl
        rotate_left
        ·simp only [Act.put,List.setIfInBounds_toArray,List.set_cons_zero,List.set_cons_succ,i64_w,i32_w]
         rfl
        refine pure_ (i := 4) (N := some 31) (v := ?_) (a' := ?_) #[true,false,true,false,true,false,false,false,false,false,false,false,false,false,false,false] rfl rfl (any_of HT_.out (by kernel_rfl)) (fun _ _ _ h => h) (Or.inl ⟨by rfl,?_⟩) ?_ ?_
        rotate_left
        ·intro w'
         go_simp
         with_reducible rfl
        rotate_left
        ·simp only [Act.put,List.setIfInBounds_toArray,List.set_cons_zero,List.set_cons_succ,i64_w,i32_w]
         rfl
        refine pure_ (i := 6) (N := some 33) (v := ?_) (a' := ?_) #[true,false,true,false,true,false,true,false,false,false,false,false,false,false,false,false] rfl rfl (any_of HT_.out (by kernel_rfl)) (fun _ _ _ h => h) (Or.inl ⟨by rfl,?_⟩) ?_ ?_
        rotate_left
        ·intro w'
         go_simp
         with_reducible rfl
        rotate_left
        ·simp only [Act.put,List.setIfInBounds_toArray,List.set_cons_zero,List.set_cons_succ,i64_w,i32_w]
         rfl
        refine pure_ (i := 8) (N := some 35) (v := ?_) (a' := ?_) #[true,false,true,false,true,false,true,false,true,false,false,false,false,false,false,false] rfl rfl (any_of HT_.out (by kernel_rfl)) (fun _ _ _ h => h) (Or.inl ⟨by rfl,?_⟩) ?_ ?_
        rotate_left
        ·intro w'
         go_simp
         with_reducible rfl
        rotate_left
        ·simp only [Act.put,List.setIfInBounds_toArray,List.set_cons_zero,List.set_cons_succ,i64_w,i32_w]
         rfl
        refine pure_ (i := 9) (N := some 36) (v := ?_) (a' := ?_) #[true,false,true,false,true,false,true,false,true,true,false,false,false,false,false,false] rfl rfl (any_of HT_.out (by kernel_rfl)) (fun _ _ _ h => h) (Or.inl ⟨by rfl,?_⟩) ?_ ?_
        rotate_left
        ·intro w'
         go_simp
         with_reducible rfl
        rotate_left
        ·simp only [Act.put,List.setIfInBounds_toArray,List.set_cons_zero,List.set_cons_succ,i64_w,i32_w]
         rfl
        refine take_ (i := 1) (N := some 28) (v := ?_) (a' := ?_) #[true,true,true,false,true,false,true,false,true,true,false,false,false,false,false,false] rfl rfl (take_ofW HT_.out HW_.out (by kernel_rfl)) (fun _ _ _ h => h) (Or.inl ⟨by rfl,?_⟩) hHeld ?_ ?_
        rotate_left
        ·rintro w' ⟨s0,s1,s2,s3,s4,s5,s6⟩
         go_simp
         with_reducible rfl
        rotate_left
        ·simp only [Act.put,List.setIfInBounds_toArray,List.set_cons_zero,List.set_cons_succ,i64_w,i32_w]
         rfl
        refine take_ (i := 3) (N := some 30) (v := ?_) (a' := ?_) #[true,true,true,true,true,false,true,false,true,true,false,false,false,false,false,false] rfl rfl (take_ofW HT_.out HW_.out (by kernel_rfl)) (fun _ _ _ h => h) (Or.inl ⟨by rfl,?_⟩) hHeld ?_ ?_
        rotate_left
        ·rintro w' ⟨s0,s1,s2,s3,s4,s5,s6⟩
         go_simp
         with_reducible rfl
        rotate_left
        ·simp only [Act.put,List.setIfInBounds_toArray,List.set_cons_zero,List.set_cons_succ,i64_w,i32_w]
         rfl
        refine take_ (i := 5) (N := some 32) (v := ?_) (a' := ?_) #[true,true,true,true,true,true,true,false,true,true,false,false,false,false,false,false] rfl rfl (take_ofW HT_.out HW_.out (by kernel_rfl)) (fun _ _ _ h => h) (Or.inl ⟨by rfl,?_⟩) hHeld ?_ ?_
        rotate_left
        ·rintro w' ⟨s0,s1,s2,s3,s4,s5,s6⟩
         go_simp
         with_reducible rfl
        rotate_left
        ·simp only [Act.put,List.setIfInBounds_toArray,List.set_cons_zero,List.set_cons_succ,i64_w,i32_w]
         rfl
        refine pure_ (i := 7) (N := some 34) (v := ?_) (a' := ?_) #[true,true,true,true,true,true,true,true,true,true,false,false,false,false,false,false] rfl rfl (any_of HT_.out (by kernel_rfl)) (fun _ _ _ h => h) (Or.inl ⟨by rfl,?_⟩) ?_ ?_
        rotate_left
        ·intro w'
         go_simp
         with_reducible rfl
        rotate_left
        ·simp only [Act.put,List.setIfInBounds_toArray,List.set_cons_zero,List.set_cons_succ,i64_w,i32_w]
         rfl
        refine one_ (i := 10) (N := some 37) #[true,true,true,true,true,true,true,true,true,true,true,false,false,false,false,false] rfl rfl (one_of HT_.out (by kernel_rfl)) (by decide) (fun K hK => ?_)
        refine goes_ Try.func15 (by kernel_rfl) rfl #[.agg #[.int .u64 a0_0,.int .i64 a0_1,.int .i64 a0_2],.slice A0_3 l0_3.length c0_3,.int .u64 (Int.tmod a0_4 a0_0),.slice Ao300 t791.length co300,.slice Ao301 t794.length co301] (by rfl) rfl rfl (by (try simp only [List.map_toArray,List.map_cons,List.map_nil]);first|done|rfl|(simp only [List.length_drop,List.length_take];rfl)) ?_
        with_reducible refine (tapeshift_Sharing.calls k a0_0 a0_1 a0_2 _ _ l0_3 (Int.tmod a0_4 a0_0) _ _ t791 _ _ t794 t797 t800 _ ?side1 ?side2 ?side3 ?side4 ?side5 ?side6 A6.out).mono ?_
        (case side1 => repeat (first|exact (Kd.C_below HR0_3.out HB.out)|(with_reducible refine Kd.C_alloc ?_ _)|(with_reducible refine Kd.C_drewN ?_ _)|(with_reducible refine Kd.C_drew ?_)))
        (case side2 => exact HC0_3.out)
        (case side3 => repeat (first|exact (Kd.R_reads' HO793.out).2.2|(with_reducible refine Kd.C_alloc ?_ _)|(with_reducible refine Kd.C_drewN ?_ _)|(with_reducible refine Kd.C_drew ?_)))
        (case side4 => exact (Kd.R_reads' HO793.out).2.1)
        (case side5 => repeat (first|exact (Kd.R_reads' HO796.out).2.2|(with_reducible refine Kd.C_alloc ?_ _)|(with_reducible refine Kd.C_drewN ?_ _)|(with_reducible refine Kd.C_drew ?_)))
        (case side6 => exact (Kd.R_reads' HO796.out).2.1)
        rintro e w302 ⟨v798,v801,rfl,ho0,ho1,hb⟩
        refine ⟨_,rfl,?_⟩
        have n0_ := Aside0.mk (Kd.R_mono (Kd.R_told (Kd.R_told (Kd.R_old (by (with_reducible repeat (first|apply Kd.R_alloc|apply Kd.R_drewN|apply Kd.R_drew));exact HO793.out) hb) (Kd.R_base ho0)) (Kd.R_base ho1)) (fun _ h_ => h_.1))
        have n1_ := Aside0.mk (Kd.R_mono (Kd.R_told (Kd.R_told (Kd.R_old (by (with_reducible repeat (first|apply Kd.R_alloc|apply Kd.R_drewN|apply Kd.R_drew));exact HO796.out) hb) (Kd.R_base ho0)) (Kd.R_base ho1)) (fun _ h_ => h_.1))
        have n2_ := Aside0.mk (Kd.R_lower (Kd.R_new' (Kd.R_new' ho0 (Kd.R_lt (by (with_reducible repeat (first|apply Kd.R_alloc|apply Kd.R_drewN|apply Kd.R_drew));exact HO793.out))) (Kd.R_lt (by (with_reducible repeat (first|apply Kd.R_alloc|apply Kd.R_drewN|apply Kd.R_drew));exact HO796.out))) (below_size (by repeat (first|(with_reducible first|exact HB.out|apply below_alloc|apply pw_below_drewN|apply below_drew1|refine below_set ?_ GE788.out)|exact HB.out))))
        have n3_ := Aside0.mk (Kd.R_lower (Kd.R_new' (Kd.R_new' ho1 (Kd.R_lt (by (with_reducible repeat (first|apply Kd.R_alloc|apply Kd.R_drewN|apply Kd.R_drew));exact HO793.out))) (Kd.R_lt (by (with_reducible repeat (first|apply Kd.R_alloc|apply Kd.R_drewN|apply Kd.R_drew));exact HO796.out))) (below_size (by repeat (first|(with_reducible first|exact HB.out|apply below_alloc|apply pw_below_drewN|apply below_drew1|refine below_set ?_ GE788.out)|exact HB.out))))
        have n4_ := Aside0.mk (blk_below (g := gb788) (o := .cells #[.int .u64 a0_0,.int .i64 a0_1,.int .i64 a0_2,.slice A0_3 l0_3.length c0_3,.int .u64 a0_4,.int .u64 a0_5,.slice A0_6 l0_6.length c0_6] 28 (0,0)) (by (with_reducible repeat (first|refine blk_drewN ?_ _|refine blk_drew ?_|refine blk_alloc ?_ _));exact BK788.out) hb)
        have n5_ := Aside0.mk (below_step (by repeat (first|(with_reducible first|exact HB.out|apply below_alloc|apply pw_below_drewN|apply below_drew1|refine below_set ?_ GE788.out)|exact HB.out)) hb)
        clear HO793
        clear HO796
        clear BK788
        clear HB
        have HO793 := n0_
        have HO796 := n1_
        have HO799 := n2_
        have HO802 := n3_
        have BK788 := n4_
        have HB := n5_
        clear n0_ n1_ n2_ n3_ n4_ n5_
        (try clear hb)
        (try clear hb2)
        (try clear hk)
        (try clear hi)
        (try clear ho0)
        (try clear ho1)
        refine hK.out _ _ ⟨(blk_cell BK788.out 0).trans rfl,(blk_cell BK788.out 1).trans rfl,(blk_cell BK788.out 2).trans rfl,(blk_cell BK788.out 3).trans rfl,(blk_cell BK788.out 4).trans rfl,(blk_cell BK788.out 5).trans rfl,(blk_cell BK788.out 6).trans rfl⟩ (fun hHeld => ?_)
        clear hK K
        refine norm_ (a' := ?_) ?_ ?_
        rotate_left
        ·show Act.put _ (some 37) _ = _
         simp only [Act.put,List.setIfInBounds_toArray,List.set_cons_zero,List.set_cons_succ,i64_w,i32_w]
         rfl
        refine pure_ (i := 11) (N := some 26) (v := ?_) (a' := ?_) #[true,true,true,true,true,true,true,true,true,true,true,true,false,false,false,false] rfl rfl (any_of HT_.out (by kernel_rfl)) (fun _ _ _ h => h) (Or.inl ⟨by rfl,?_⟩) ?_ ?_
        rotate_left
        ·intro w'
         go_simp
         with_reducible rfl
        rotate_left
        ·simp only [Act.put,List.setIfInBounds_toArray,List.set_cons_zero,List.set_cons_succ,i64_w,i32_w]
         rfl
        refine pure_ (i := 12) (N := some 38) (v := ?_) (a' := ?_) #[true,true,true,true,true,true,true,true,true,true,true,true,true,false,false,false] rfl rfl (any_of HT_.out (by kernel_rfl)) (fun _ _ _ h => h) (Or.inl ⟨by rfl,?_⟩) ?_ ?_
        rotate_left
        ·intro w'
         go_simp
         with_reducible rfl
        rotate_left
        ·simp only [Act.put,List.setIfInBounds_toArray,List.set_cons_zero,List.set_cons_succ,i64_w,i32_w]
         rfl
        refine pure_ (i := 13) (N := some 39) (v := ?_) (a' := ?_) #[true,true,true,true,true,true,true,true,true,true,true,true,true,true,false,false] rfl rfl (any_of HT_.out (by kernel_rfl)) (fun _ _ _ h => h) (Or.inl ⟨by rfl,?_⟩) ?_ ?_
        rotate_left
        ·intro w'
         go_simp
         with_reducible rfl
        rotate_left
        ·simp only [Act.put,List.setIfInBounds_toArray,List.set_cons_zero,List.set_cons_succ,i64_w,i32_w]
         rfl
        refine pure_ (i := 14) (N := some 6) (v := ?_) (a' := ?_) #[true,true,true,true,true,true,true,true,true,true,true,true,true,true,true,false] rfl rfl (any_of HT_.out (by kernel_rfl)) (fun _ _ _ h => h) (Or.inl ⟨by rfl,?_⟩) ?_ ?_
        rotate_left
        ·intro w'
         go_simp
         with_reducible rfl
        rotate_left
        ·simp only [Act.put,List.setIfInBounds_toArray,List.set_cons_zero,List.set_cons_succ,i64_w,i32_w]
         rfl
        refine pure_ (i := 15) (N := some 7) (v := ?_) (a' := ?_) #[true,true,true,true,true,true,true,true,true,true,true,true,true,true,true,true] rfl rfl (any_of HT_.out (by kernel_rfl)) (fun _ _ _ h => h) (Or.inl ⟨by rfl,?_⟩) ?_ ?_
        rotate_left
        ·intro w'
         go_simp
         with_reducible rfl
        rotate_left
        ·simp only [Act.put,List.setIfInBounds_toArray,List.set_cons_zero,List.set_cons_succ,i64_w,i32_w]
         rfl
        refine done_ (done_of HT_.out (by kernel_rfl)) ?_
        have hcz303_0 : w302.cell? ⟨gb788,0,none⟩ = some (.int .u64 a0_0) := (blk_cell BK788.out 0).trans rfl
        have hcz303_1 : w302.cell? ⟨gb788,1,none⟩ = some (.int .i64 a0_1) := (blk_cell BK788.out 1).trans rfl
        have hcz303_2 : w302.cell? ⟨gb788,2,none⟩ = some (.int .i64 a0_2) := (blk_cell BK788.out 2).trans rfl
        have hcz303_3 : w302.cell? ⟨gb788,3,none⟩ = some (.slice A0_3 l0_3.length c0_3) := (blk_cell BK788.out 3).trans rfl
        have hcz303_4 : w302.cell? ⟨gb788,4,none⟩ = some (.int .u64 a0_4) := (blk_cell BK788.out 4).trans rfl
        have hcz303_5 : w302.cell? ⟨gb788,5,none⟩ = some (.int .u64 a0_5) := (blk_cell BK788.out 5).trans rfl
        have hcz303_6 : w302.cell? ⟨gb788,6,none⟩ = some (.slice A0_6 l0_6.length c0_6) := (blk_cell BK788.out 6).trans rfl
        have hfz303_0 := blk_frozen BK788.out 0
        have hfz303_1 := blk_frozen BK788.out 1
        have hfz303_2 := blk_frozen BK788.out 2
        have hfz303_3 := blk_frozen BK788.out 3
        have hfz303_4 := blk_frozen BK788.out 4
        have hfz303_5 := blk_frozen BK788.out 5
        have hfz303_6 := blk_frozen BK788.out 6
        try go_wp2_with (first|((with_reducible refine gate_callee (f := 24) rfl ?_);refine goesL_ (some 42) rfl rfl Try.func24 (by kernel_rfl) rfl #[.agg #[.int .u64 a0_0,.int .i64 a0_1,.int .i64 a0_2,.slice A0_3 l0_3.length c0_3,.int .u64 a0_4,.int .u64 a0_5,.slice A0_6 l0_6.length c0_6]] rfl (by (try simp only [List.map_toArray,List.map_cons,List.map_nil]);first|done|rfl|(simp only [List.length_drop,List.length_take];rfl)) ?_;(with_reducible refine (privitylaw43_triple.calls k a0_0 a0_1 a0_2 _ _ l0_3 a0_4 a0_5 _ _ l0_6 t803 t806 _ ?side1 ?side2 ?side3 ?side4 A7.out).mono ?_);(case side1 => repeat (first|exact (Kd.C_below HR0_3.out HB.out)|(with_reducible refine Kd.C_alloc ?_ _)|(with_reducible refine Kd.C_drewN ?_ _)|(with_reducible refine Kd.C_drew ?_)));(case side2 => exact HC0_3.out);(case side3 => repeat (first|exact (Kd.C_below HR0_6.out HB.out)|(with_reducible refine Kd.C_alloc ?_ _)|(with_reducible refine Kd.C_drewN ?_ _)|(with_reducible refine Kd.C_drew ?_)));(case side4 => exact HC0_6.out);rintro e w304 ⟨v804,v807,rfl,ho0,ho1,hb⟩;refine ⟨_,rfl,?_⟩;have n0_ := Aside0.mk (Kd.R_mono (Kd.R_told (Kd.R_told (Kd.R_old (by (with_reducible repeat (first|apply Kd.R_alloc|apply Kd.R_drewN|apply Kd.R_drew));exact HO793.out) hb) (Kd.R_base ho0)) (Kd.R_base ho1)) (fun _ h_ => h_.1));have n1_ := Aside0.mk (Kd.R_mono (Kd.R_told (Kd.R_told (Kd.R_old (by (with_reducible repeat (first|apply Kd.R_alloc|apply Kd.R_drewN|apply Kd.R_drew));exact HO796.out) hb) (Kd.R_base ho0)) (Kd.R_base ho1)) (fun _ h_ => h_.1));have n2_ := Aside0.mk (Kd.R_mono (Kd.R_told (Kd.R_told (Kd.R_old (by (with_reducible repeat (first|apply Kd.R_alloc|apply Kd.R_drewN|apply Kd.R_drew));exact HO799.out) hb) (Kd.R_base ho0)) (Kd.R_base ho1)) (fun _ h_ => h_.1));have n3_ := Aside0.mk (Kd.R_mono (Kd.R_told (Kd.R_told (Kd.R_old (by (with_reducible repeat (first|apply Kd.R_alloc|apply Kd.R_drewN|apply Kd.R_drew));exact HO802.out) hb) (Kd.R_base ho0)) (Kd.R_base ho1)) (fun _ h_ => h_.1));have n4_ := Aside0.mk (Kd.R_lower (Kd.R_new' (Kd.R_new' (Kd.R_new' (Kd.R_new' ho0 (Kd.R_lt (by (with_reducible repeat (first|apply Kd.R_alloc|apply Kd.R_drewN|apply Kd.R_drew));exact HO793.out))) (Kd.R_lt (by (with_reducible repeat (first|apply Kd.R_alloc|apply Kd.R_drewN|apply Kd.R_drew));exact HO796.out))) (Kd.R_lt (by (with_reducible repeat (first|apply Kd.R_alloc|apply Kd.R_drewN|apply Kd.R_drew));exact HO799.out))) (Kd.R_lt (by (with_reducible repeat (first|apply Kd.R_alloc|apply Kd.R_drewN|apply Kd.R_drew));exact HO802.out))) (below_size (by repeat (first|(with_reducible first|exact HB.out|apply below_alloc|apply pw_below_drewN|apply below_drew1|refine below_set ?_ GE788.out)|exact HB.out))));have n5_ := Aside0.mk (Kd.R_lower (Kd.R_new' (Kd.R_new' (Kd.R_new' (Kd.R_new' ho1 (Kd.R_lt (by (with_reducible repeat (first|apply Kd.R_alloc|apply Kd.R_drewN|apply Kd.R_drew));exact HO793.out))) (Kd.R_lt (by (with_reducible repeat (first|apply Kd.R_alloc|apply Kd.R_drewN|apply Kd.R_drew));exact HO796.out))) (Kd.R_lt (by (with_reducible repeat (first|apply Kd.R_alloc|apply Kd.R_drewN|apply Kd.R_drew));exact HO799.out))) (Kd.R_lt (by (with_reducible repeat (first|apply Kd.R_alloc|apply Kd.R_drewN|apply Kd.R_drew));exact HO802.out))) (below_size (by repeat (first|(with_reducible first|exact HB.out|apply below_alloc|apply pw_below_drewN|apply below_drew1|refine below_set ?_ GE788.out)|exact HB.out))));have n6_ := Aside0.mk (blk_below (g := gb788) (o := .cells #[.int .u64 a0_0,.int .i64 a0_1,.int .i64 a0_2,.slice A0_3 l0_3.length c0_3,.int .u64 a0_4,.int .u64 a0_5,.slice A0_6 l0_6.length c0_6] 28 (0,0)) (by (with_reducible repeat (first|refine blk_drewN ?_ _|refine blk_drew ?_|refine blk_alloc ?_ _));exact BK788.out) hb);have n7_ := Aside0.mk (below_step (by repeat (first|(with_reducible first|exact HB.out|apply below_alloc|apply pw_below_drewN|apply below_drew1|refine below_set ?_ GE788.out)|exact HB.out)) hb);clear HO793;clear HO796;clear HO799;clear HO802;clear BK788;clear HB;have HO793 := n0_;have HO796 := n1_;have HO799 := n2_;have HO802 := n3_;have HO805 := n4_;have HO808 := n5_;have BK788 := n6_;have HB := n7_;clear n0_ n1_ n2_ n3_ n4_ n5_ n6_ n7_;(try clear hb);(try clear hb2);(try clear hk);(try clear hi);(try clear ho0);(try clear ho1)))
        have n0_ := Aside0.mk (Kd.R_drew HO793.out)
        have n1_ := Aside0.mk (Kd.R_drew HO796.out)
        have n2_ := Aside0.mk (Kd.R_drew HO799.out)
        have n3_ := Aside0.mk (Kd.R_drew HO802.out)
        have n4_ := Aside0.mk (Kd.R_drew HO805.out)
        have n5_ := Aside0.mk (Kd.R_drew HO808.out)
        have n6_ := Aside0.mk (blk_drew BK788.out)
        have n7_ := Aside0.mk (below_drew1 HB.out)
        clear HO793
        clear HO796
        clear HO799
        clear HO802
        clear HO805
        clear HO808
        clear BK788
        clear HB
        have HO793 := n0_
        have HO796 := n1_
        have HO799 := n2_
        have HO802 := n3_
        have HO805 := n4_
        have HO808 := n5_
        have BK788 := n6_
        have HB := n7_
        clear n0_ n1_ n2_ n3_ n4_ n5_ n6_ n7_
        obtain ⟨Ao306,co306,eo306⟩ := Kd.R_slice HO805.out
        (first|subst eo306|(injection eo306 with f1_ f2_ f3_;have f4_ := f1_.symm;have f5_ := f3_.symm;clear f1_ f2_ f3_;subst f4_;subst f5_))
        obtain ⟨Ao307,co307,eo307⟩ := Kd.R_slice HO808.out
        (first|subst eo307|(injection eo307 with f1_ f2_ f3_;have f4_ := f1_.symm;have f5_ := f3_.symm;clear f1_ f2_ f3_;subst f4_;subst f5_))
        refine start_ (n := 20) (S := fun w' => w'.cell? ⟨gb788,0,none⟩ = some (.int .u64 a0_0) ∧ w'.cell? ⟨gb788,1,none⟩ = some (.int .i64 a0_1) ∧ w'.cell? ⟨gb788,2,none⟩ = some (.int .i64 a0_2) ∧ w'.cell? ⟨gb788,3,none⟩ = some (.slice A0_3 l0_3.length c0_3) ∧ w'.cell? ⟨gb788,4,none⟩ = some (.int .u64 a0_4) ∧ w'.cell? ⟨gb788,5,none⟩ = some (.int .u64 a0_5) ∧ w'.cell? ⟨gb788,6,none⟩ = some (.slice A0_6 l0_6.length c0_6)) (ds := []) #[false,false,false,false,false,false,false,false,false,false,false,false,false,false,false,false,false,false,false,false] (by kernel_rfl) rfl rfl ⟨(blk_cell BK788.out 0).trans rfl,(blk_cell BK788.out 1).trans rfl,(blk_cell BK788.out 2).trans rfl,(blk_cell BK788.out 3).trans rfl,(blk_cell BK788.out 4).trans rfl,(blk_cell BK788.out 5).trans rfl,(blk_cell BK788.out 6).trans rfl⟩ (fun hHeld => ?_);refine with_tabW privitylaw43_TapeshiftIdentity.tab7 privitylaw43_TapeshiftIdentity.bits7 (fun HT_ HW_ => ?_)
        generalize w304.drew = w305 at HO793 HO796 HO799 HO802 HO805 HO808 BK788 HB hHeld ⊢
        refine pure_ (i := 0) (N := some 46) (v := ?_) (a' := ?_) #[true,false,false,false,false,false,false,false,false,false,false,false,false,false,false,false,false,false,false,false] rfl rfl (any_of HT_.out (by kernel_rfl)) (fun _ _ _ h => h) (Or.inl ⟨by rfl,?_⟩) ?_ ?_
        rotate_left
        ·intro w'
         go_simp
         with_reducible rfl
        rotate_left
        ·simp only [Act.put,List.setIfInBounds_toArray,List.set_cons_zero,List.set_cons_succ,i64_w,i32_w]
         rfl
        refine pure_ (i := 2) (N := some 48) (v := ?_) (a' := ?_) #[true,false,true,false,false,false,false,false,false,false,false,false,false,false,false,false,false,false,false,false] rfl rfl (any_of HT_.out (by kernel_rfl)) (fun _ _ _ h => h) (Or.inl ⟨by rfl,?_⟩) ?_ ?_
        rotate_left
        ·intro w'
         go_simp
         with_reducible rfl
        rotate_left
        ·simp only [Act.put,List.setIfInBounds_toArray,List.set_cons_zero,List.set_cons_succ,i64_w,i32_w]
         rfl
        refine pure_ (i := 4) (N := some 50) (v := ?_) (a' := ?_) #[true,false,true,false,true,false,false,false,false,false,false,false,false,false,false,false,false,false,false,false] rfl rfl (any_of HT_.out (by kernel_rfl)) (fun _ _ _ h => h) (Or.inl ⟨by rfl,?_⟩) ?_ ?_
        rotate_left
        ·intro w'
         go_simp
         with_reducible rfl
        rotate_left
        ·simp only [Act.put,List.setIfInBounds_toArray,List.set_cons_zero,List.set_cons_succ,i64_w,i32_w]
         rfl
        refine pure_ (i := 6) (N := some 52) (v := ?_) (a' := ?_) #[true,false,true,false,true,false,true,false,false,false,false,false,false,false,false,false,false,false,false,false] rfl rfl (any_of HT_.out (by kernel_rfl)) (fun _ _ _ h => h) (Or.inl ⟨by rfl,?_⟩) ?_ ?_
        rotate_left
        ·intro w'
         go_simp
         with_reducible rfl
        rotate_left
        ·simp only [Act.put,List.setIfInBounds_toArray,List.set_cons_zero,List.set_cons_succ,i64_w,i32_w]
         rfl
        refine pure_ (i := 8) (N := some 54) (v := ?_) (a' := ?_) #[true,false,true,false,true,false,true,false,true,false,false,false,false,false,false,false,false,false,false,false] rfl rfl (any_of HT_.out (by kernel_rfl)) (fun _ _ _ h => h) (Or.inl ⟨by rfl,?_⟩) ?_ ?_
        rotate_left
        ·intro w'
         go_simp
         with_reducible rfl
        rotate_left
        ·simp only [Act.put,List.setIfInBounds_toArray,List.set_cons_zero,List.set_cons_succ,i64_w,i32_w]
         rfl
        refine pure_ (i := 10) (N := some 56) (v := ?_) (a' := ?_) #[true,false,true,false,true,false,true,false,true,false,true,false,false,false,false,false,false,false,false,false] rfl rfl (any_of HT_.out (by kernel_rfl)) (fun _ _ _ h => h) (Or.inl ⟨by rfl,?_⟩) ?_ ?_
        rotate_left
        ·intro w'
         go_simp
         with_reducible rfl
        rotate_left
        ·simp only [Act.put,List.setIfInBounds_toArray,List.set_cons_zero,List.set_cons_succ,i64_w,i32_w]
         rfl
        refine pure_ (i := 12) (N := some 58) (v := ?_) (a' := ?_) #[true,false,true,false,true,false,true,false,true,false,true,false,true,false,false,false,false,false,false,false] rfl rfl (any_of HT_.out (by kernel_rfl)) (fun _ _ _ h => h) (Or.inl ⟨by rfl,?_⟩) ?_ ?_
        rotate_left
        ·intro w'
         go_simp
         with_reducible rfl
        rotate_left
        ·simp only [Act.put,List.setIfInBounds_toArray,List.set_cons_zero,List.set_cons_succ,i64_w,i32_w]
         rfl
        refine pure_ (i := 13) (N := some 59) (v := ?_) (a' := ?_) #[true,false,true,false,true,false,true,false,true,false,true,false,true,true,false,false,false,false,false,false] rfl rfl (any_of HT_.out (by kernel_rfl)) (fun _ _ _ h => h) (Or.inl ⟨by rfl,?_⟩) ?_ ?_
        rotate_left
        ·intro w'
         go_simp
         with_reducible rfl
        rotate_left
        ·simp only [Act.put,List.setIfInBounds_toArray,List.set_cons_zero,List.set_cons_succ,i64_w,i32_w]
         rfl
        refine take_ (i := 1) (N := some 47) (v := ?_) (a' := ?_) #[true,true,true,false,true,false,true,false,true,false,true,false,true,true,false,false,false,false,false,false] rfl rfl (take_ofW HT_.out HW_.out (by kernel_rfl)) (fun _ _ _ h => h) (Or.inl ⟨by rfl,?_⟩) hHeld ?_ ?_
        rotate_left
        ·rintro w' ⟨s0,s1,s2,s3,s4,s5,s6⟩
         go_simp
         with_reducible rfl
        rotate_left
        ·simp only [Act.put,List.setIfInBounds_toArray,List.set_cons_zero,List.set_cons_succ,i64_w,i32_w]
         rfl
        refine take_ (i := 3) (N := some 49) (v := ?_) (a' := ?_) #[true,true,true,true,true,false,true,false,true,false,true,false,true,true,false,false,false,false,false,false] rfl rfl (take_ofW HT_.out HW_.out (by kernel_rfl)) (fun _ _ _ h => h) (Or.inl ⟨by rfl,?_⟩) hHeld ?_ ?_
        rotate_left
        ·rintro w' ⟨s0,s1,s2,s3,s4,s5,s6⟩
         go_simp
         with_reducible rfl
        rotate_left
        ·simp only [Act.put,List.setIfInBounds_toArray,List.set_cons_zero,List.set_cons_succ,i64_w,i32_w]
         rfl
        refine take_ (i := 5) (N := some 51) (v := ?_) (a' := ?_) #[true,true,true,true,true,true,true,false,true,false,true,false,true,true,false,false,false,false,false,false] rfl rfl (take_ofW HT_.out HW_.out (by kernel_rfl)) (fun _ _ _ h => h) (Or.inl ⟨by rfl,?_⟩) hHeld ?_ ?_
        rotate_left
        ·rintro w' ⟨s0,s1,s2,s3,s4,s5,s6⟩
         go_simp
         with_reducible rfl
        rotate_left
        ·simp only [Act.put,List.setIfInBounds_toArray,List.set_cons_zero,List.set_cons_succ,i64_w,i32_w]
         rfl
        refine pure_ (i := 7) (N := some 53) (v := ?_) (a' := ?_) #[true,true,true,true,true,true,true,true,true,false,true,false,true,true,false,false,false,false,false,false] rfl rfl (any_of HT_.out (by kernel_rfl)) (fun _ _ _ h => h) (Or.inl ⟨by rfl,?_⟩) ?_ ?_
        rotate_left
        ·intro w'
         go_simp
         with_reducible rfl
        rotate_left
        ·simp only [Act.put,List.setIfInBounds_toArray,List.set_cons_zero,List.set_cons_succ,i64_w,i32_w]
         rfl
        refine take_ (i := 9) (N := some 55) (v := ?_) (a' := ?_) #[true,true,true,true,true,true,true,true,true,true,true,false,true,true,false,false,false,false,false,false] rfl rfl (take_ofW HT_.out HW_.out (by kernel_rfl)) (fun _ _ _ h => h) (Or.inl ⟨by rfl,?_⟩) hHeld ?_ ?_
        rotate_left
        ·rintro w' ⟨s0,s1,s2,s3,s4,s5,s6⟩
         go_simp
         with_reducible rfl
        rotate_left
        ·simp only [Act.put,List.setIfInBounds_toArray,List.set_cons_zero,List.set_cons_succ,i64_w,i32_w]
         rfl
        refine pure_ (i := 11) (N := some 57) (v := ?_) (a' := ?_) #[true,true,true,true,true,true,true,true,true,true,true,true,true,true,false,false,false,false,false,false] rfl rfl (any_of HT_.out (by kernel_rfl)) (fun _ _ _ h => h) (Or.inl ⟨by rfl,?_⟩) ?_ ?_
        rotate_left
        ·intro w'
         go_simp
         with_reducible rfl
        rotate_left
        ·simp only [Act.put,List.setIfInBounds_toArray,List.set_cons_zero,List.set_cons_succ,i64_w,i32_w]
         rfl
        refine one_ (i := 14) (N := some 60) #[true,true,true,true,true,true,true,true,true,true,true,true,true,true,true,false,false,false,false,false] rfl rfl (one_of HT_.out (by kernel_rfl)) (by decide) (fun K hK => ?_)
        refine goes_ Try.func25 (by kernel_rfl) rfl #[.agg #[.int .u64 a0_0,.int .i64 a0_1,.int .i64 a0_2],.slice A0_3 l0_3.length c0_3,.int .u64 (Int.tmod a0_4 a0_0),.int .u64 (Int.tmod a0_5 a0_0),.slice Ao306 t803.length co306,.slice Ao307 t806.length co307] (by rfl) rfl rfl (by (try simp only [List.map_toArray,List.map_cons,List.map_nil]);first|done|rfl|(simp only [List.length_drop,List.length_take];rfl)) ?_
        with_reducible refine (tapeshift_Triple.calls a0_0 a0_1 a0_2 _ _ l0_3 (Int.tmod a0_4 a0_0) (Int.tmod a0_5 a0_0) _ _ t803 _ _ t806 t809 t812 _ ?side1 ?side2 ?side3 ?side4 ?side5 ?side6 A8.out).mono ?_
        (case side1 => repeat (first|exact (Kd.C_below HR0_3.out HB.out)|(with_reducible refine Kd.C_alloc ?_ _)|(with_reducible refine Kd.C_drewN ?_ _)|(with_reducible refine Kd.C_drew ?_)))
        (case side2 => exact HC0_3.out)
        (case side3 => repeat (first|exact (Kd.R_reads' HO805.out).2.2|(with_reducible refine Kd.C_alloc ?_ _)|(with_reducible refine Kd.C_drewN ?_ _)|(with_reducible refine Kd.C_drew ?_)))
        (case side4 => exact (Kd.R_reads' HO805.out).2.1)
        (case side5 => repeat (first|exact (Kd.R_reads' HO808.out).2.2|(with_reducible refine Kd.C_alloc ?_ _)|(with_reducible refine Kd.C_drewN ?_ _)|(with_reducible refine Kd.C_drew ?_)))
        (case side6 => exact (Kd.R_reads' HO808.out).2.1)
        rintro e w308 ⟨v810,v813,rfl,ho0,ho1,hb⟩
        refine ⟨_,rfl,?_⟩
        have n0_ := Aside0.mk (Kd.R_mono (Kd.R_told (Kd.R_told (Kd.R_old (by (with_reducible repeat (first|apply Kd.R_alloc|apply Kd.R_drewN|apply Kd.R_drew));exact HO793.out) hb) (Kd.R_base ho0)) (Kd.R_base ho1)) (fun _ h_ => h_.1))
        have n1_ := Aside0.mk (Kd.R_mono (Kd.R_told (Kd.R_told (Kd.R_old (by (with_reducible repeat (first|apply Kd.R_alloc|apply Kd.R_drewN|apply Kd.R_drew));exact HO796.out) hb) (Kd.R_base ho0)) (Kd.R_base ho1)) (fun _ h_ => h_.1))
        have n2_ := Aside0.mk (Kd.R_mono (Kd.R_told (Kd.R_told (Kd.R_old (by (with_reducible repeat (first|apply Kd.R_alloc|apply Kd.R_drewN|apply Kd.R_drew));exact HO799.out) hb) (Kd.R_base ho0)) (Kd.R_base ho1)) (fun _ h_ => h_.1))
        have n3_ := Aside0.mk (Kd.R_mono (Kd.R_told (Kd.R_told (Kd.R_old (by (with_reducible repeat (first|apply Kd.R_alloc|apply Kd.R_drewN|apply Kd.R_drew));exact HO802.out) hb) (Kd.R_base ho0)) (Kd.R_base ho1)) (fun _ h_ => h_.1))
        have n4_ := Aside0.mk (Kd.R_mono (Kd.R_told (Kd.R_told (Kd.R_old (by (with_reducible repeat (first|apply Kd.R_alloc|apply Kd.R_drewN|apply Kd.R_drew));exact HO805.out) hb) (Kd.R_base ho0)) (Kd.R_base ho1)) (fun _ h_ => h_.1))
        have n5_ := Aside0.mk (Kd.R_mono (Kd.R_told (Kd.R_told (Kd.R_old (by (with_reducible repeat (first|apply Kd.R_alloc|apply Kd.R_drewN|apply Kd.R_drew));exact HO808.out) hb) (Kd.R_base ho0)) (Kd.R_base ho1)) (fun _ h_ => h_.1))
        have n6_ := Aside0.mk (Kd.R_lower (Kd.R_new' (Kd.R_new' (Kd.R_new' (Kd.R_new' (Kd.R_new' (Kd.R_new' ho0 (Kd.R_lt (by (with_reducible repeat (first|apply Kd.R_alloc|apply Kd.R_drewN|apply Kd.R_drew));exact HO793.out))) (Kd.R_lt (by (with_reducible repeat (first|apply Kd.R_alloc|apply Kd.R_drewN|apply Kd.R_drew));exact HO796.out))) (Kd.R_lt (by (with_reducible repeat (first|apply Kd.R_alloc|apply Kd.R_drewN|apply Kd.R_drew));exact HO799.out))) (Kd.R_lt (by (with_reducible repeat (first|apply Kd.R_alloc|apply Kd.R_drewN|apply Kd.R_drew));exact HO802.out))) (Kd.R_lt (by (with_reducible repeat (first|apply Kd.R_alloc|apply Kd.R_drewN|apply Kd.R_drew));exact HO805.out))) (Kd.R_lt (by (with_reducible repeat (first|apply Kd.R_alloc|apply Kd.R_drewN|apply Kd.R_drew));exact HO808.out))) (below_size (by repeat (first|(with_reducible first|exact HB.out|apply below_alloc|apply pw_below_drewN|apply below_drew1|refine below_set ?_ GE788.out)|exact HB.out))))
        have n7_ := Aside0.mk (Kd.R_lower (Kd.R_new' (Kd.R_new' (Kd.R_new' (Kd.R_new' (Kd.R_new' (Kd.R_new' ho1 (Kd.R_lt (by (with_reducible repeat (first|apply Kd.R_alloc|apply Kd.R_drewN|apply Kd.R_drew));exact HO793.out))) (Kd.R_lt (by (with_reducible repeat (first|apply Kd.R_alloc|apply Kd.R_drewN|apply Kd.R_drew));exact HO796.out))) (Kd.R_lt (by (with_reducible repeat (first|apply Kd.R_alloc|apply Kd.R_drewN|apply Kd.R_drew));exact HO799.out))) (Kd.R_lt (by (with_reducible repeat (first|apply Kd.R_alloc|apply Kd.R_drewN|apply Kd.R_drew));exact HO802.out))) (Kd.R_lt (by (with_reducible repeat (first|apply Kd.R_alloc|apply Kd.R_drewN|apply Kd.R_drew));exact HO805.out))) (Kd.R_lt (by (with_reducible repeat (first|apply Kd.R_alloc|apply Kd.R_drewN|apply Kd.R_drew));exact HO808.out))) (below_size (by repeat (first|(with_reducible first|exact HB.out|apply below_alloc|apply pw_below_drewN|apply below_drew1|refine below_set ?_ GE788.out)|exact HB.out))))
        have n8_ := Aside0.mk (blk_below (g := gb788) (o := .cells #[.int .u64 a0_0,.int .i64 a0_1,.int .i64 a0_2,.slice A0_3 l0_3.length c0_3,.int .u64 a0_4,.int .u64 a0_5,.slice A0_6 l0_6.length c0_6] 28 (0,0)) (by (with_reducible repeat (first|refine blk_drewN ?_ _|refine blk_drew ?_|refine blk_alloc ?_ _));exact BK788.out) hb)
        have n9_ := Aside0.mk (below_step (by repeat (first|(with_reducible first|exact HB.out|apply below_alloc|apply pw_below_drewN|apply below_drew1|refine below_set ?_ GE788.out)|exact HB.out)) hb)
        clear HO793
        clear HO796
        clear HO799
        clear HO802
        clear HO805
        clear HO808
        clear BK788
        clear HB
        have HO793 := n0_
        have HO796 := n1_
        have HO799 := n2_
        have HO802 := n3_
        have HO805 := n4_
        have HO808 := n5_
        have HO811 := n6_
        have HO814 := n7_
        have BK788 := n8_
        have HB := n9_
        clear n0_ n1_ n2_ n3_ n4_ n5_ n6_ n7_ n8_ n9_
        (try clear hb)
        (try clear hb2)
        (try clear hk)
        (try clear hi)
        (try clear ho0)
        (try clear ho1)
        refine hK.out _ _ ⟨(blk_cell BK788.out 0).trans rfl,(blk_cell BK788.out 1).trans rfl,(blk_cell BK788.out 2).trans rfl,(blk_cell BK788.out 3).trans rfl,(blk_cell BK788.out 4).trans rfl,(blk_cell BK788.out 5).trans rfl,(blk_cell BK788.out 6).trans rfl⟩ (fun hHeld => ?_)
        clear hK K
        refine norm_ (a' := ?_) ?_ ?_
        rotate_left
        ·show Act.put _ (some 60) _ = _
         simp only [Act.put,List.setIfInBounds_toArray,List.set_cons_zero,List.set_cons_succ,i64_w,i32_w]
         rfl
        refine pure_ (i := 15) (N := some 45) (v := ?_) (a' := ?_) #[true,true,true,true,true,true,true,true,true,true,true,true,true,true,true,true,false,false,false,false] rfl rfl (any_of HT_.out (by kernel_rfl)) (fun _ _ _ h => h) (Or.inl ⟨by rfl,?_⟩) ?_ ?_
        rotate_left
        ·intro w'
         go_simp
         with_reducible rfl
        rotate_left
        ·simp only [Act.put,List.setIfInBounds_toArray,List.set_cons_zero,List.set_cons_succ,i64_w,i32_w]
         rfl
        refine pure_ (i := 16) (N := some 61) (v := ?_) (a' := ?_) #[true,true,true,true,true,true,true,true,true,true,true,true,true,true,true,true,true,false,false,false] rfl rfl (any_of HT_.out (by kernel_rfl)) (fun _ _ _ h => h) (Or.inl ⟨by rfl,?_⟩) ?_ ?_
        rotate_left
        ·intro w'
         go_simp
         with_reducible rfl
        rotate_left
        ·simp only [Act.put,List.setIfInBounds_toArray,List.set_cons_zero,List.set_cons_succ,i64_w,i32_w]
         rfl
        refine pure_ (i := 17) (N := some 62) (v := ?_) (a' := ?_) #[true,true,true,true,true,true,true,true,true,true,true,true,true,true,true,true,true,true,false,false] rfl rfl (any_of HT_.out (by kernel_rfl)) (fun _ _ _ h => h) (Or.inl ⟨by rfl,?_⟩) ?_ ?_
        rotate_left
        ·intro w'
         go_simp
         with_reducible rfl
        rotate_left
        ·simp only [Act.put,List.setIfInBounds_toArray,List.set_cons_zero,List.set_cons_succ,i64_w,i32_w]
         rfl
        refine pure_ (i := 18) (N := some 10) (v := ?_) (a' := ?_) #[true,true,true,true,true,true,true,true,true,true,true,true,true,true,true,true,true,true,true,false] rfl rfl (any_of HT_.out (by kernel_rfl)) (fun _ _ _ h => h) (Or.inl ⟨by rfl,?_⟩) ?_ ?_
        rotate_left
        ·intro w'
         go_simp
         with_reducible rfl
        rotate_left
        ·simp only [Act.put,List.setIfInBounds_toArray,List.set_cons_zero,List.set_cons_succ,i64_w,i32_w]
         rfl
        refine pure_ (i := 19) (N := some 11) (v := ?_) (a' := ?_) #[true,true,true,true,true,true,true,true,true,true,true,true,true,true,true,true,true,true,true,true] rfl rfl (any_of HT_.out (by kernel_rfl)) (fun _ _ _ h => h) (Or.inl ⟨by rfl,?_⟩) ?_ ?_
        rotate_left
        ·intro w'
         go_simp
         with_reducible rfl
        rotate_left
        ·simp only [Act.put,List.setIfInBounds_toArray,List.set_cons_zero,List.set_cons_succ,i64_w,i32_w]
         rfl
        refine done_ (done_of HT_.out (by kernel_rfl)) ?_
        obtain ⟨Ao309,co309,eo309⟩ := Kd.R_slice HO799.out
        subst eo309
        try go_wp2_with (first|((with_reducible refine gate_callee (f := 18) rfl ?_);refine goesL_ (some 65) rfl rfl Try.func18 (by kernel_rfl) rfl #[.slice Ao309 t797.length co309,.slice Ao300 t791.length co300] rfl (by (try simp only [List.map_toArray,List.map_cons,List.map_nil]);first|done|rfl|(simp only [List.length_drop,List.length_take];rfl)) ?_;(with_reducible refine (privityref14_Words.calls k _ _ t797 _ _ t791 false _ ?side1 ?side2 ?side3 ?side4 A9.out).mono ?_);(case side1 => repeat (first|exact (Kd.R_reads' HO799.out).2.2|(with_reducible refine Kd.C_alloc ?_ _)|(with_reducible refine Kd.C_drewN ?_ _)|(with_reducible refine Kd.C_drew ?_)));(case side2 => exact (Kd.R_reads' HO799.out).2.1);(case side3 => repeat (first|exact (Kd.R_reads' HO793.out).2.2|(with_reducible refine Kd.C_alloc ?_ _)|(with_reducible refine Kd.C_drewN ?_ _)|(with_reducible refine Kd.C_drew ?_)));(case side4 => exact (Kd.R_reads' HO793.out).2.1);rintro e w' ⟨rfl,⟨nd,rfl⟩⟩;refine ⟨_,rfl,?_⟩;obtain ⟨Ao310,co310,eo310⟩ := Kd.R_slice HO811.out;subst eo310)|((with_reducible refine gate_callee (f := 18) rfl ?_);refine goesL_ (some 73) rfl rfl Try.func18 (by kernel_rfl) rfl #[.slice Ao310 t809.length co310,.slice Ao306 t803.length co306] rfl (by (try simp only [List.map_toArray,List.map_cons,List.map_nil]);first|done|rfl|(simp only [List.length_drop,List.length_take];rfl)) ?_;(with_reducible refine (privityref14_Words.calls k _ _ t809 _ _ t803 false _ ?side1 ?side2 ?side3 ?side4 A185.out).mono ?_);(case side1 => repeat (first|exact (Kd.R_reads' HO811.out).2.2|(with_reducible refine Kd.C_alloc ?_ _)|(with_reducible refine Kd.C_drewN ?_ _)|(with_reducible refine Kd.C_drew ?_)));(case side2 => exact (Kd.R_reads' HO811.out).2.1);(case side3 => repeat (first|exact (Kd.R_reads' HO805.out).2.2|(with_reducible refine Kd.C_alloc ?_ _)|(with_reducible refine Kd.C_drewN ?_ _)|(with_reducible refine Kd.C_drew ?_)));(case side4 => exact (Kd.R_reads' HO805.out).2.1);rintro e w' ⟨rfl,⟨nd,rfl⟩⟩;refine ⟨_,rfl,?_⟩)|((with_reducible refine gate_callee (f := 13) rfl ?_);refine goesL_ (some 79) rfl rfl Try.func13 (by kernel_rfl) rfl #[] rfl (by (try simp only [List.map_toArray,List.map_cons,List.map_nil]);first|done|rfl|(simp only [List.length_drop,List.length_take];rfl)) ?_;(with_reducible refine (privitylaw43_awake.calls k  true _ A271.out).mono ?_);rintro e w311 ⟨rfl,hb⟩;refine ⟨_,rfl,?_⟩;have n0_ := Aside0.mk (Kd.R_below (by (with_reducible repeat (first|apply Kd.R_alloc|apply Kd.R_drewN|apply Kd.R_drew));exact HO793.out) hb);have n1_ := Aside0.mk (Kd.R_below (by (with_reducible repeat (first|apply Kd.R_alloc|apply Kd.R_drewN|apply Kd.R_drew));exact HO796.out) hb);have n2_ := Aside0.mk (Kd.R_below (by (with_reducible repeat (first|apply Kd.R_alloc|apply Kd.R_drewN|apply Kd.R_drew));exact HO799.out) hb);have n3_ := Aside0.mk (Kd.R_below (by (with_reducible repeat (first|apply Kd.R_alloc|apply Kd.R_drewN|apply Kd.R_drew));exact HO802.out) hb);have n4_ := Aside0.mk (Kd.R_below (by (with_reducible repeat (first|apply Kd.R_alloc|apply Kd.R_drewN|apply Kd.R_drew));exact HO805.out) hb);have n5_ := Aside0.mk (Kd.R_below (by (with_reducible repeat (first|apply Kd.R_alloc|apply Kd.R_drewN|apply Kd.R_drew));exact HO808.out) hb);have n6_ := Aside0.mk (Kd.R_below (by (with_reducible repeat (first|apply Kd.R_alloc|apply Kd.R_drewN|apply Kd.R_drew));exact HO811.out) hb);have n7_ := Aside0.mk (Kd.R_below (by (with_reducible repeat (first|apply Kd.R_alloc|apply Kd.R_drewN|apply Kd.R_drew));exact HO814.out) hb);have n8_ := Aside0.mk (blk_below (g := gb788) (o := .cells #[.int .u64 a0_0,.int .i64 a0_1,.int .i64 a0_2,.slice A0_3 l0_3.length c0_3,.int .u64 a0_4,.int .u64 a0_5,.slice A0_6 l0_6.length c0_6] 28 (0,0)) (by (with_reducible repeat (first|refine blk_drewN ?_ _|refine blk_drew ?_|refine blk_alloc ?_ _));exact BK788.out) hb);have n9_ := Aside0.mk (below_step (by repeat (first|(with_reducible first|exact HB.out|apply below_alloc|apply pw_below_drewN|apply below_drew1|refine below_set ?_ GE788.out)|exact HB.out)) hb);clear HO793;clear HO796;clear HO799;clear HO802;clear HO805;clear HO808;clear HO811;clear HO814;clear BK788;clear HB;have HO793 := n0_;have HO796 := n1_;have HO799 := n2_;have HO802 := n3_;have HO805 := n4_;have HO808 := n5_;have HO811 := n6_;have HO814 := n7_;have BK788 := n8_;have HB := n9_;clear n0_ n1_ n2_ n3_ n4_ n5_ n6_ n7_ n8_ n9_;(try clear hb);(try clear hb2);(try clear hk);(try clear hi);have hcz312_0 : w311.cell? ⟨gb788,0,none⟩ = some (.int .u64 a0_0) := (blk_cell BK788.out 0).trans rfl;have hcz312_1 : w311.cell? ⟨gb788,1,none⟩ = some (.int .i64 a0_1) := (blk_cell BK788.out 1).trans rfl;have hcz312_2 : w311.cell? ⟨gb788,2,none⟩ = some (.int .i64 a0_2) := (blk_cell BK788.out 2).trans rfl;have hcz312_3 : w311.cell? ⟨gb788,3,none⟩ = some (.slice A0_3 l0_3.length c0_3) := (blk_cell BK788.out 3).trans rfl;have hcz312_4 : w311.cell? ⟨gb788,4,none⟩ = some (.int .u64 a0_4) := (blk_cell BK788.out 4).trans rfl;have hcz312_5 : w311.cell? ⟨gb788,5,none⟩ = some (.int .u64 a0_5) := (blk_cell BK788.out 5).trans rfl;have hcz312_6 : w311.cell? ⟨gb788,6,none⟩ = some (.slice A0_6 l0_6.length c0_6) := (blk_cell BK788.out 6).trans rfl;have hfz312_0 := blk_frozen BK788.out 0;have hfz312_1 := blk_frozen BK788.out 1;have hfz312_2 := blk_frozen BK788.out 2;have hfz312_3 := blk_frozen BK788.out 3;have hfz312_4 := blk_frozen BK788.out 4;have hfz312_5 := blk_frozen BK788.out 5;have hfz312_6 := blk_frozen BK788.out 6))
        go_ret
        exact ⟨by first|rfl|(cases t818 <;> rfl)|(cases t818 <;> simp [errW_none,errW_some])|(cases t822 <;> rfl)|(cases t822 <;> simp [errW_none,errW_some])|(simp [errW_none,errW_some] <;> rfl)|(simp [*,errW_none,errW_some] <;> rfl),by repeat (first|(with_reducible first|exact HB.out|apply below_alloc|apply pw_below_drewN|apply below_drew1|refine below_set ?_ GE788.out)|exact HB.out)⟩
      ·rw [if_neg c273] at H
       have c273b0 : (false == ((Int.tmod a0_4 a0_0) == 0)) = false := by simpa using c273
       (try (have c273b1 : decide (false = ((Int.tmod a0_4 a0_0) == 0)) = false := by simpa using c273))
       (try (have c273b2 : (false == ((Int.tmod a0_4 a0_0) == 0)) = false := by simpa using c273))
       (try (have c273b3 : ¬ (false = ((Int.tmod a0_4 a0_0) == 0)) := by simpa using c273))
       clear c273
       exact absurd (Option.some.inj H) (by rw [HRT_.out]; simp)
     ·replace c272 := Bool.eq_false_iff.mpr c272
      subst c272
      have H1 : (some false) = some r := by rw [if_neg (show ¬ (false = true) by decide)] at H;exact H
      clear H
      have H := H1
      clear H1
      exact absurd (Option.some.inj H) (by rw [HRT_.out]; simp)
 ·replace c3 := Bool.eq_false_iff.mpr c3
  subst c3
  have H1 : ((privitylaw43_awake.f k).bind fun t790 => (some t790)) = some r := by rw [if_neg (show ¬ (false = true) by decide)] at H;exact H
  clear H
  have H := H1
  clear H1
  replace H := Option.bind_eq_some_iff.mp H
  obtain ⟨t790,A3500,H⟩ := H
  replace H : (some t790) = some r := H
  have A350 := Aside0.mk A3500
  clear A3500
  obtain rfl := Option.some.inj H
  go_enter Try.func9,Try.ntmps9
  go_wp2_with (first|((with_reducible refine gate_dst (N := 1) rfl ?_);refine box_event ?hg (N := 1) ?hd (cs := #[.int .u64 a0_0,.int .i64 a0_1,.int .i64 a0_2,.slice A0_3 l0_3.length c0_3,.int .u64 a0_4,.int .u64 a0_5,.slice A0_6 l0_6.length c0_6]) (t := 28) ?hr ?_;(case hd => rfl);(case hg => rfl);(case hr => first|(go_simp;done)|(go_simp;rfl));intro gb788 hg w351 hbox hb;have n0_ := Aside0.mk (below_step (by repeat (first|(with_reducible first|exact HB.out|apply below_alloc|apply pw_below_drewN|apply below_drew1)|exact HB.out)) hb);have n1_ := Aside0.mk (hbox);have n2_ := Aside0.mk ((by rw [hg];exact (below_size (by repeat (first|(with_reducible first|exact HB.out|apply below_alloc|apply pw_below_drewN|apply below_drew1)|exact HB.out))) : w.heap.size ≤ gb788));have n3_ := Aside0.mk ((by rw [hg];exact (below_size (by repeat (first|(with_reducible first|exact HB.out|apply below_alloc|apply pw_below_drewN|apply below_drew1)|exact HB.out))) : w.heap.size ≤ gb788));clear HB;have HB := n0_;have BK788 := n1_;have GW788 := n2_;have GE788 := n3_;clear n0_ n1_ n2_ n3_;clear hb hbox hg;have hcz352_0 : w351.cell? ⟨gb788,0,none⟩ = some (.int .u64 a0_0) := (blk_cell BK788.out 0).trans rfl;have hcz352_1 : w351.cell? ⟨gb788,1,none⟩ = some (.int .i64 a0_1) := (blk_cell BK788.out 1).trans rfl;have hcz352_2 : w351.cell? ⟨gb788,2,none⟩ = some (.int .i64 a0_2) := (blk_cell BK788.out 2).trans rfl;have hcz352_3 : w351.cell? ⟨gb788,3,none⟩ = some (.slice A0_3 l0_3.length c0_3) := (blk_cell BK788.out 3).trans rfl;have hcz352_4 : w351.cell? ⟨gb788,4,none⟩ = some (.int .u64 a0_4) := (blk_cell BK788.out 4).trans rfl;have hcz352_5 : w351.cell? ⟨gb788,5,none⟩ = some (.int .u64 a0_5) := (blk_cell BK788.out 5).trans rfl;have hcz352_6 : w351.cell? ⟨gb788,6,none⟩ = some (.slice A0_6 l0_6.length c0_6) := (blk_cell BK788.out 6).trans rfl;have hfz352_0 := blk_frozen BK788.out 0;have hfz352_1 := blk_frozen BK788.out 1;have hfz352_2 := blk_frozen BK788.out 2;have hfz352_3 := blk_frozen BK788.out 3;have hfz352_4 := blk_frozen BK788.out 4;have hfz352_5 := blk_frozen BK788.out 5;have hfz352_6 := blk_frozen BK788.out 6)|((with_reducible refine gate_callee (f := 12) rfl ?_);refine goesL_ (some 15) rfl rfl Try.func12 (by kernel_rfl) rfl #[.agg #[.int .u64 a0_0,.int .i64 a0_1,.int .i64 a0_2,.slice A0_3 l0_3.length c0_3,.int .u64 a0_4,.int .u64 a0_5,.slice A0_6 l0_6.length c0_6]] rfl (by (try simp only [List.map_toArray,List.map_cons,List.map_nil]);first|done|rfl|(simp only [List.length_drop,List.length_take];rfl)) ?_;(with_reducible refine (privitylaw43_may.calls k a0_0 a0_1 a0_2 _ _ l0_3 a0_4 a0_5 _ _ l0_6 false _ ?side1 ?side2 ?side3 ?side4 A2.out).mono ?_);(case side1 => repeat (first|exact (Kd.C_below HR0_3.out HB.out)|(with_reducible refine Kd.C_alloc ?_ _)|(with_reducible refine Kd.C_drewN ?_ _)|(with_reducible refine Kd.C_drew ?_)));(case side2 => exact HC0_3.out);(case side3 => repeat (first|exact (Kd.C_below HR0_6.out HB.out)|(with_reducible refine Kd.C_alloc ?_ _)|(with_reducible refine Kd.C_drewN ?_ _)|(with_reducible refine Kd.C_drew ?_)));(case side4 => exact HC0_6.out);rintro e w353 ⟨rfl,hb⟩;refine ⟨_,rfl,?_⟩;have n0_ := Aside0.mk (blk_below (g := gb788) (o := .cells #[.int .u64 a0_0,.int .i64 a0_1,.int .i64 a0_2,.slice A0_3 l0_3.length c0_3,.int .u64 a0_4,.int .u64 a0_5,.slice A0_6 l0_6.length c0_6] 28 (0,0)) (by (with_reducible repeat (first|refine blk_drewN ?_ _|refine blk_drew ?_|refine blk_alloc ?_ _));exact BK788.out) hb);have n1_ := Aside0.mk (below_step (by repeat (first|(with_reducible first|exact HB.out|apply below_alloc|apply pw_below_drewN|apply below_drew1|refine below_set ?_ GE788.out)|exact HB.out)) hb);clear BK788;clear HB;have BK788 := n0_;have HB := n1_;clear n0_ n1_;(try clear hb);(try clear hb2);(try clear hk);(try clear hi))|((with_reducible refine gate_callee (f := 13) rfl ?_);refine goesL_ (some 17) rfl rfl Try.func13 (by kernel_rfl) rfl #[] rfl (by (try simp only [List.map_toArray,List.map_cons,List.map_nil]);first|done|rfl|(simp only [List.length_drop,List.length_take];rfl)) ?_;(with_reducible refine (privitylaw43_awake.calls k  t790 _ A350.out).mono ?_);rintro e w354 ⟨rfl,hb⟩;refine ⟨_,rfl,?_⟩;have n0_ := Aside0.mk (blk_below (g := gb788) (o := .cells #[.int .u64 a0_0,.int .i64 a0_1,.int .i64 a0_2,.slice A0_3 l0_3.length c0_3,.int .u64 a0_4,.int .u64 a0_5,.slice A0_6 l0_6.length c0_6] 28 (0,0)) (by (with_reducible repeat (first|refine blk_drewN ?_ _|refine blk_drew ?_|refine blk_alloc ?_ _));exact BK788.out) hb);have n1_ := Aside0.mk (below_step (by repeat (first|(with_reducible first|exact HB.out|apply below_alloc|apply pw_below_drewN|apply below_drew1|refine below_set ?_ GE788.out)|exact HB.out)) hb);clear BK788;clear HB;have BK788 := n0_;have HB := n1_;clear n0_ n1_;(try clear hb);(try clear hb2);(try clear hk);(try clear hi)))
  go_ret
  exact ⟨by first|rfl|(cases t818 <;> rfl)|(cases t818 <;> simp [errW_none,errW_some])|(cases t822 <;> rfl)|(cases t822 <;> simp [errW_none,errW_some])|(simp [errW_none,errW_some] <;> rfl)|(simp [*,errW_none,errW_some] <;> rfl),by repeat (first|(with_reducible first|exact HB.out|apply below_alloc|apply pw_below_drewN|apply below_drew1|refine below_set ?_ GE788.out)|exact HB.out)⟩
end Go.Proofs.Ytejeelpnmdfibaa.Pr
end
