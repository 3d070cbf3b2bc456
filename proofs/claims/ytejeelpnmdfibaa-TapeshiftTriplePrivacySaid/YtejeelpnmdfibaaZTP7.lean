/- Part 7 of the proof's texts, joined in build order. -/
import Derived.Test.YtejeelpnmdfibaaZTP2
import Derived.Test.YtejeelpnmdfibaaZTP4
import Derived.Test.YtejeelpnmdfibaaZTP3
import Derived.Test.YtejeelpnmdfibaaZTP5
import Derived.Test.YtejeelpnmdfibaaZTP6
set_option linter.unusedVariables false
set_option linter.unusedSimpArgs false
section
namespace Go.Proofs.Ytejeelpnmdfibaa.Pr
open Go.RowKit Go.Proofs.YtejeelpnmdfibaaW.PrintWords Go.Proofs.YtejeelpnmdfibaaW.PrintLast Go.Proofs.YtejeelpnmdfibaaW.PrintMore
attribute [local go_sem] max2_int min2_int max_two min_two max_three min_three max_four min_four
open Go.Proofs.Ytejeelpnmdfibaa.Hw
mutual
def privitylaw43_TapeshiftTriplePrivacy.j0 : Nat → Int → List Int → List Int → List Int → List Int → Bool → Int → Int → Int → List Int → Int → Int → List Int → Option (Bool)
 | 0,_,_,_,_,_,_,_,_,_,_,_,_,_ => none
 | k + 1,x3,x4,x5,x6,x7,x67,x433000,x433001,x433002,x433003,x433004,x433005,x433006 => if x67 = true then (some false) else ((privityref43_Polys.f k x433000 x433001 x433002 x4 x5).bind fun t451 => ((privityref43_Polys.f k x433000 x433001 x433002 x6 x7).bind fun t454 => (privitylaw43_TapeshiftTriplePrivacy.l0 k x3 t451 t454 0 x433000 x433001 x433002 x433003 x433004 x433005 x433006)))
def privitylaw43_TapeshiftTriplePrivacy.l0 : Nat → Int → List (List (List Int)) → List (List (List Int)) → Int → Int → Int → Int → List Int → Int → Int → List Int → Option (Bool)
 | 0,_,_,_,_,_,_,_,_,_,_,_ => none
 | k + 1,x3,x8,x9,x10,x433000,x433001,x433002,x433003,x433004,x433005,x433006 => if x10 < (x8.length : Int) then (privitylaw43_TapeshiftTriplePrivacy.l1 k x3 x8 x9 x10 0 x433000 x433001 x433002 x433003 x433004 x433005 x433006) else (privitylaw43_TapeshiftTriplePrivacy.l2 k x3 x8 x9 (wrap64 ((x9.length : Int) - 1)) 1 x433000 x433001 x433002 x433003 x433004 x433005 x433006)
def privitylaw43_TapeshiftTriplePrivacy.l1 : Nat → Int → List (List (List Int)) → List (List (List Int)) → Int → Int → Int → Int → Int → List Int → Int → Int → List Int → Option (Bool)
 | 0,_,_,_,_,_,_,_,_,_,_,_,_ => none
 | k + 1,x3,x8,x9,x10,x11,x433000,x433001,x433002,x433003,x433004,x433005,x433006 => if x11 < (x433003.length : Int) then (if 0 ≤ x10 then (if x10 < (x8.length : Int) then (if 0 ≤ x11 then ((privityref10_Row.f k x3 (rd_L7 x8 x10) (IntKind.u64.wrap (rd x433003 x11))).bind fun t459 => (if x10 < (x9.length : Int) then ((privityref10_Row.f k x3 (rd_L7 x9 x10) (IntKind.u64.wrap (rd x433003 x11))).bind fun t464 => ((privityref14_Words.f k t459 t464).bind fun t467 => (if t467 = true then (privitylaw43_TapeshiftTriplePrivacy.l1 k x3 x8 x9 x10 (wrap64 (x11 + 1)) x433000 x433001 x433002 x433003 x433004 x433005 x433006) else (some false)))) else (none))) else (none)) else (none)) else (none)) else (privitylaw43_TapeshiftTriplePrivacy.l0 k x3 x8 x9 (wrap64 (x10 + 1)) x433000 x433001 x433002 x433003 x433004 x433005 x433006)
def privitylaw43_TapeshiftTriplePrivacy.l2 : Nat → Int → List (List (List Int)) → List (List (List Int)) → Int → Int → Int → Int → Int → List Int → Int → Int → List Int → Option (Bool)
 | 0,_,_,_,_,_,_,_,_,_,_,_,_ => none
 | k + 1,x3,x8,x9,x12,x13,x433000,x433001,x433002,x433003,x433004,x433005,x433006 => if x13 ≤ x433001 then (privitylaw43_TapeshiftTriplePrivacy.l3 k x3 x8 x9 x12 x13 ([] : List Int) 2 x433000 x433001 x433002 x433003 x433004 x433005 x433006) else (if 0 < (x8.length : Int) then (if 0 < ((rd_L7 x8 0).length : Int) then (if 0 < ((rd_L4 (rd_L7 x8 0) 0).length : Int) then (if x3 = 0 then (none) else ((privityref01_Add.f x3 (rd (rd_L4 (rd_L7 x8 0) 0) 0) (Int.tmod x433004 x3)).bind fun t483 => (if 1 < (x8.length : Int) then (if 0 < ((rd_L7 x8 1).length : Int) then (if 0 < ((rd_L4 (rd_L7 x8 1) 0).length : Int) then ((privityref01_Add.f x3 (rd (rd_L4 (rd_L7 x8 1) 0) 0) (Int.tmod x433005 x3)).bind fun t487 => ((privitylaw43_awake.f k).bind fun t488 => (if t488 = true then (if 0 < (x9.length : Int) then (if 0 < ((rd_L7 x9 0).length : Int) then (if 0 < ((rd_L4 (rd_L7 x9 0) 0).length : Int) then (if (rd (rd_L4 (rd_L7 x9 0) 0) 0) = t483 then (if 1 < (x9.length : Int) then (if 0 < ((rd_L7 x9 1).length : Int) then (if 0 < ((rd_L4 (rd_L7 x9 1) 0).length : Int) then (if (rd (rd_L4 (rd_L7 x9 1) 0) 0) = t487 then (if 0 ≤ x12 then (if x12 < (x9.length : Int) then (if 0 < ((rd_L7 x9 x12).length : Int) then (if 0 < ((rd_L4 (rd_L7 x9 x12) 0).length : Int) then ((privityref01_Mul.f k x3 t483 t487).bind fun t498 => (some ((rd (rd_L4 (rd_L7 x9 x12) 0) 0) == t498))) else (none)) else (none)) else (none)) else (none)) else (some false)) else (none)) else (none)) else (none)) else (some false)) else (none)) else (none)) else (none)) else (some false)))) else (none)) else (none)) else (none)))) else (none)) else (none)) else (none))
def privitylaw43_TapeshiftTriplePrivacy.l3 : Nat → Int → List (List (List Int)) → List (List (List Int)) → Int → Int → List Int → Int → Int → Int → Int → List Int → Int → Int → List Int → Option (Bool)
 | 0,_,_,_,_,_,_,_,_,_,_,_,_,_,_ => none
 | k + 1,x3,x8,x9,x12,x13,x14,x15,x433000,x433001,x433002,x433003,x433004,x433005,x433006 => if x15 < x12 then (if 0 ≤ x15 then (if x15 < (x9.length : Int) then ((privityref10_Eval.f k x3 (rd_L7 x9 x15) (IntKind.u64.wrap (x13)) 0).bind fun t469 => (if x14.length < 17592186044416 then (privitylaw43_TapeshiftTriplePrivacy.l3 k x3 x8 x9 x12 x13 (x14 ++ [t469]) (wrap64 (x15 + 1)) x433000 x433001 x433002 x433003 x433004 x433005 x433006) else (none))) else (none)) else (none)) else (if 0 < (x9.length : Int) then ((privityref10_Eval.f k x3 (rd_L7 x9 0) (IntKind.u64.wrap (x13)) 0).bind fun t474 => (if 1 < (x9.length : Int) then ((privityref10_Eval.f k x3 (rd_L7 x9 1) (IntKind.u64.wrap (x13)) 0).bind fun t476 => (if 0 ≤ x12 then (if x12 < (x9.length : Int) then ((privityref10_Eval.f k x3 (rd_L7 x9 x12) (IntKind.u64.wrap (x13)) 0).bind fun t478 => ((privityref21_Verify.f k x3 (IntKind.u64.wrap (x13)) t474 t476 x14 t478).bind fun t479 => (if t479 = true then (privitylaw43_TapeshiftTriplePrivacy.l2 k x3 x8 x9 x12 (wrap64 (x13 + 1)) x433000 x433001 x433002 x433003 x433004 x433005 x433006) else (some false)))) else (none)) else (none))) else (none))) else (none))
end
def privitylaw43_TapeshiftTriplePrivacy.f (k : Nat) (a0_0 : Int) (a0_1 : Int) (a0_2 : Int) (l0_3 : List Int) (a0_4 : Int) (a0_5 : Int) (l0_6 : List Int) : Option (Bool) := (privitylaw43_may.f k a0_0 a0_1 a0_2 l0_3 a0_4 a0_5 l0_6).bind fun t433 => (if t433 = true then ((privitylaw43_triple.f k a0_0 a0_1 a0_2 l0_3 a0_4 a0_5 l0_6).bind fun bt435 => (if a0_0 = 0 then (none) else ((tapeshift_Triple.f a0_0 a0_1 a0_2 l0_3 (Int.tmod a0_4 a0_0) (Int.tmod a0_5 a0_0) bt435.1 bt435.2).bind fun bt441 => (if (bt441.1.length : Int) = (bt435.1.length : Int) then (if (bt441.2.length : Int) = (bt435.2.length : Int) then ((privityref14_Below.f k a0_0 (([bt441.1,bt441.2] : List (List Int))) 100).bind fun t450 => (privitylaw43_TapeshiftTriplePrivacy.j0 k a0_0 bt435.1 bt435.2 bt441.1 bt441.2 (!t450) a0_0 a0_1 a0_2 l0_3 a0_4 a0_5 l0_6)) else (privitylaw43_TapeshiftTriplePrivacy.j0 k a0_0 bt435.1 bt435.2 bt441.1 bt441.2 true a0_0 a0_1 a0_2 l0_3 a0_4 a0_5 l0_6)) else (privitylaw43_TapeshiftTriplePrivacy.j0 k a0_0 bt435.1 bt435.2 bt441.1 bt441.2 true a0_0 a0_1 a0_2 l0_3 a0_4 a0_5 l0_6))))) else ((privitylaw43_awake.f k).bind fun t434 => (some t434)))
def privitylaw43_TapeshiftTriplePrivacy.T5 : Bool × List (List Nat × List Nat) := (true,[([],[]),([0],[0]),([],[]),([2],[2]),([],[]),([4],[4]),([],[]),([5,6],[5,6]),([],[]),([8],[8]),([],[]),([9,10],[9,10]),([],[]),([],[]),([1,3,7,11,12,13],[1,3,7,11,12,13]),([14],[14]),([15],[15]),([15],[15]),([16,14,0,1,2,3,4,5,6,7,8,9,10,11,12,13,14,15,16],[16]),([17,18,0,1,2,3,4,5,6,7,8,9,10,11,12,13,14,15,16,17,18],[17])])
def privitylaw43_TapeshiftTriplePrivacy.B5 : List Nat := [0,1,0,4,0,16,0,112,0,256,0,1792,0,0,16383,32767,65535,65535,131071,524287]
theorem privitylaw43_TapeshiftTriplePrivacy.tab5 : rtab .any (opsOf Try.f8 5) = privitylaw43_TapeshiftTriplePrivacy.T5 := by kernel_rfl
theorem privitylaw43_TapeshiftTriplePrivacy.bits5 : waitsOk privitylaw43_TapeshiftTriplePrivacy.T5.2 privitylaw43_TapeshiftTriplePrivacy.B5 = true := by kernel_rfl
def privitylaw43_TapeshiftTriplePrivacy.T8 : Bool × List (List Nat × List Nat) := (true,[([],[]),([0],[0]),([],[]),([],[]),([1,2,3],[1,2,3]),([],[]),([5],[5]),([],[]),([],[]),([6,7,8,4],[6,7,8]),([4,9,0,1,2,3,4],[4]),([9,10,0,1,2,3,4,5,6,7,8,9,10],[9])])
def privitylaw43_TapeshiftTriplePrivacy.B8 : List Nat := [0,1,0,0,15,0,32,0,0,511,1023,2047]
theorem privitylaw43_TapeshiftTriplePrivacy.tab8 : rtab .any (opsOf Try.f8 8) = privitylaw43_TapeshiftTriplePrivacy.T8 := by kernel_rfl
theorem privitylaw43_TapeshiftTriplePrivacy.bits8 : waitsOk privitylaw43_TapeshiftTriplePrivacy.T8.2 privitylaw43_TapeshiftTriplePrivacy.B8 = true := by kernel_rfl
def privitylaw43_TapeshiftTriplePrivacy.T15 : Bool × List (List Nat × List Nat) := (true,[([],[]),([],[]),([],[]),([1,2],[1,2]),([3],[3]),([],[]),([5],[5]),([],[]),([6,7],[6,7]),([8],[8]),([9],[9]),([0,4,10],[0,4,10]),([],[]),([],[]),([],[]),([13,14],[13,14]),([15],[15]),([],[]),([17],[17]),([],[]),([18,19],[18,19]),([20],[20]),([21],[21]),([12,16,22,11],[12,16,22]),([11,23,23],[11,23]),([24],[24])])
def privitylaw43_TapeshiftTriplePrivacy.B15 : List Nat := [0,0,0,6,14,0,32,0,224,480,992,2047,0,0,0,24576,57344,0,131072,0,917504,1966080,4063232,8388607,16777215,33554431]
theorem privitylaw43_TapeshiftTriplePrivacy.tab15 : rtab .any (opsOf Try.f8 15) = privitylaw43_TapeshiftTriplePrivacy.T15 := by kernel_rfl
theorem privitylaw43_TapeshiftTriplePrivacy.bits15 : waitsOk privitylaw43_TapeshiftTriplePrivacy.T15.2 privitylaw43_TapeshiftTriplePrivacy.B15 = true := by kernel_rfl
def privitylaw43_TapeshiftTriplePrivacy.T26 : Bool × List (List Nat × List Nat) := (true,[([],[]),([],[]),([1],[1]),([],[]),([],[]),([4],[4]),([5],[5]),([],[]),([7],[7]),([3,6,8],[3,6,8]),([],[]),([],[]),([11],[11]),([12],[12]),([],[]),([14],[14]),([10,13,15,9],[10,13,15]),([],[]),([],[]),([],[]),([],[]),([19,20],[19,20]),([21],[21]),([],[]),([23],[23]),([18,22,24,16],[18,22,24]),([0,2,9,16,17,25,25],[0,2,9,16,17,25]),([26],[26])])
def privitylaw43_TapeshiftTriplePrivacy.B26 : List Nat := [0,0,2,0,0,16,48,0,128,504,0,0,2048,6144,0,16384,65528,0,0,0,0,1572864,3670016,0,8388608,33423352,67108863,134217727]
theorem privitylaw43_TapeshiftTriplePrivacy.tab26 : rtab .any (opsOf Try.f8 26) = privitylaw43_TapeshiftTriplePrivacy.T26 := by kernel_rfl
theorem privitylaw43_TapeshiftTriplePrivacy.bits26 : waitsOk privitylaw43_TapeshiftTriplePrivacy.T26.2 privitylaw43_TapeshiftTriplePrivacy.B26 = true := by kernel_rfl
def privitylaw43_TapeshiftTriplePrivacy.T28 : Bool × List (List Nat × List Nat) := (true,[([],[]),([],[]),([1],[1]),([2],[2]),([3],[3]),([4],[4]),([5],[5]),([6],[6]),([],[]),([8],[8]),([],[]),([9,10],[9,10]),([0,7,11],[0,7,11]),([],[]),([],[]),([14],[14]),([15],[15]),([16],[16]),([17],[17]),([18],[18]),([19],[19]),([],[]),([21],[21]),([],[]),([22,23],[22,23]),([13,20,24,12],[13,20,24]),([12,25,0,1,2,3,4,5,6,7,8,9,10,11,12],[12]),([25,26,0,1,2,3,4,5,6,7,8,9,10,11,12,13,14,15,16,17,18,19,20,21,22,23,24,25,26],[25])])
def privitylaw43_TapeshiftTriplePrivacy.B28 : List Nat := [0,0,2,6,14,30,62,126,0,256,0,1792,4095,0,0,16384,49152,114688,245760,507904,1032192,0,2097152,0,14680064,33554431,67108863,134217727]
theorem privitylaw43_TapeshiftTriplePrivacy.tab28 : rtab .any (opsOf Try.f8 28) = privitylaw43_TapeshiftTriplePrivacy.T28 := by kernel_rfl
theorem privitylaw43_TapeshiftTriplePrivacy.bits28 : waitsOk privitylaw43_TapeshiftTriplePrivacy.T28.2 privitylaw43_TapeshiftTriplePrivacy.B28 = true := by kernel_rfl
def privitylaw43_TapeshiftTriplePrivacy.T29 : Bool × List (List Nat × List Nat) := (true,[([],[]),([0,0],[0]),([1],[1]),([2,1],[1,2]),([3,1],[1,3]),([4,1],[1,4]),([5,1],[1,5]),([6,1],[1,6]),([7,1],[1,7]),([1],[1]),([8,9,1],[1,8,9]),([1,10],[1,10]),([11,1],[11]),([12],[12]),([13,12],[12,13]),([14,12],[12,14]),([15,12],[12,15]),([16,12],[12,16]),([17,12],[12,17]),([18,12],[12,18]),([12],[12]),([19,20,12],[12,19,20]),([12,21],[12,21]),([22,12],[22]),([23],[23]),([23],[23]),([24,25,23],[23,24,25]),([26,23],[23,26]),([27,23],[23,27]),([28,23],[23,28]),([29,23],[23,29]),([30,23],[23,30]),([23],[23]),([23],[23]),([23],[23]),([32,33,34,23,23],[23,32,33,34]),([31,35,23],[23,31,35]),([23,36],[23,36]),([37,35,0,1,2,3,4,5,6,7,8,9,10,11,12,13,14,15,16,17,18,19,20,21,22,23,24,25,26,27,28,29,30,31,32,33,34,35,36,37],[37])])
def privitylaw43_TapeshiftTriplePrivacy.B29 : List Nat := [0,1,3,7,15,31,63,127,255,3,1023,2047,4095,8191,16383,32767,65535,131071,262143,524287,8191,2097151,4194303,8388607,16777215,16777215,67108863,134217727,268435455,536870911,1073741823,2147483647,16777215,16777215,16777215,30081548287,68719476735,137438953471,274877906943]
theorem privitylaw43_TapeshiftTriplePrivacy.tab29 : rtab .any (opsOf Try.f8 29) = privitylaw43_TapeshiftTriplePrivacy.T29 := by kernel_rfl
theorem privitylaw43_TapeshiftTriplePrivacy.bits29 : waitsOk privitylaw43_TapeshiftTriplePrivacy.T29.2 privitylaw43_TapeshiftTriplePrivacy.B29 = true := by kernel_rfl
set_option maxHeartbeats 8000000 in
set_option maxRecDepth 100000 in
theorem privitylaw43_TapeshiftTriplePrivacy.calls (k : Nat) (a0_0 : Int) (a0_1 : Int) (a0_2 : Int) (A0_3 : Option Addr) (c0_3 : Nat) (l0_3 : List Int) (a0_4 : Int) (a0_5 : Int) (A0_6 : Option Addr) (c0_6 : Nat) (l0_6 : List Int) (r : Bool) (w : World) (hr0_3 : Kd.C (Kd.int .i64) w A0_3 l0_3.length l0_3) (hc0_3 : l0_3.length ≤ c0_3) (hr0_6 : Kd.C (Kd.int .u64) w A0_6 l0_6.length l0_6) (hc0_6 : l0_6.length ≤ c0_6) (hr1_ : r = true) (h : privitylaw43_TapeshiftTriplePrivacy.f k a0_0 a0_1 a0_2 l0_3 a0_4 a0_5 l0_6 = some r) :
  Calls Try.prog 8 #[.agg #[.int .u64 a0_0,.int .i64 a0_1,.int .i64 a0_2,.slice A0_3 l0_3.length c0_3,.int .u64 a0_4,.int .u64 a0_5,.slice A0_6 l0_6.length c0_6]] w fun e w' => e = .returned (.bool r) ∧ Below w.heap.size w w' := by
 have HRT_ := am hr1_
 clear hr1_
 have hu28 := Try.underlying28
 have hu24 := Try.underlying24
 have HR0_3 := am hr0_3
 have HC0_3 := am hc0_3
 clear hr0_3 hc0_3
 have HR0_6 := am hr0_6
 have HC0_6 := am hc0_6
 clear hr0_6 hc0_6
 have HB := am (Below.refl w.heap.size w)
 have H : ((privitylaw43_may.f k a0_0 a0_1 a0_2 l0_3 a0_4 a0_5 l0_6).bind fun t433 => (if t433 = true then ((privitylaw43_triple.f k a0_0 a0_1 a0_2 l0_3 a0_4 a0_5 l0_6).bind fun bt435 => (if a0_0 = 0 then (none) else ((tapeshift_Triple.f a0_0 a0_1 a0_2 l0_3 (Int.tmod a0_4 a0_0) (Int.tmod a0_5 a0_0) bt435.1 bt435.2).bind fun bt441 => (if (bt441.1.length : Int) = (bt435.1.length : Int) then (if (bt441.2.length : Int) = (bt435.2.length : Int) then ((privityref14_Below.f k a0_0 (([bt441.1,bt441.2] : List (List Int))) 100).bind fun t450 => (privitylaw43_TapeshiftTriplePrivacy.j0 k a0_0 bt435.1 bt435.2 bt441.1 bt441.2 (!t450) a0_0 a0_1 a0_2 l0_3 a0_4 a0_5 l0_6)) else (privitylaw43_TapeshiftTriplePrivacy.j0 k a0_0 bt435.1 bt435.2 bt441.1 bt441.2 true a0_0 a0_1 a0_2 l0_3 a0_4 a0_5 l0_6)) else (privitylaw43_TapeshiftTriplePrivacy.j0 k a0_0 bt435.1 bt435.2 bt441.1 bt441.2 true a0_0 a0_1 a0_2 l0_3 a0_4 a0_5 l0_6))))) else ((privitylaw43_awake.f k).bind fun t434 => (some t434)))) = some r := h
 clear h
 replace H := Option.bind_eq_some_iff.mp H
 obtain ⟨t433,A20,H⟩ := H
 try dsimp only at H
 have A2 := am A20
 clear A20
 by_cases c3 : t433 = true
 ·subst c3
  rw [if_pos rfl] at H
  replace H := Option.bind_eq_some_iff.mp H
  obtain ⟨⟨t435,t438⟩,A40,H⟩ := H
  try dsimp only at H
  have A4 := am A40
  clear A40
  by_cases c5 : a0_0 = 0
  ·rw [if_pos c5] at H
   exact absurd H (by simp)
  ·rw [if_neg c5] at H
   have c5b0 : (a0_0 == 0) = false := beq_eq_false_iff_ne.mpr c5
   have c5b1 : (a0_0 != 0) = true := bne_iff_ne.mpr c5
   replace H := Option.bind_eq_some_iff.mp H
   obtain ⟨⟨t441,t444⟩,A60,H⟩ := H
   try dsimp only at H
   have A6 := am A60
   clear A60
   have HC7 := am H
   clear H
   go_enter Try.func8,Try.ntmps8
   try go_wp2_with (first|((with_reducible refine gate_dst (N := 1) rfl ?_);(try (refine gate_guard (by rfl) ?_;dsimp only));refine box_event ?hg (N := 1) ?hd (cs := #[.int .u64 a0_0,.int .i64 a0_1,.int .i64 a0_2,.slice A0_3 l0_3.length c0_3,.int .u64 a0_4,.int .u64 a0_5,.slice A0_6 l0_6.length c0_6]) (t := 28) ?hr ?_;(case hd => rfl);(case hg => rfl);(case hr => first|(go_simp;done)|(go_simp;rfl));intro gb432 hg w8 hbox hb;have n0_ := am (below_step (bb HB) hb);have n1_ := am (hbox);have n2_ := am ((by rw [hg];exact (below_size (bb HB)) : w.heap.size ≤ gb432));have n3_ := am ((by rw [hg];exact (below_size (bb HB)) : w.heap.size ≤ gb432));clear HB;have HB := n0_;have BK432 := n1_;have GW432 := n2_;have GE432 := n3_;clear n0_ n1_ n2_ n3_;clear hb hbox hg;have hcz9_0 := bc BK432 0;have hcz9_1 := bc BK432 1;have hcz9_2 := bc BK432 2;have hcz9_3 := bc BK432 3;have hcz9_4 := bc BK432 4;have hcz9_5 := bc BK432 5;have hcz9_6 := bc BK432 6;have hfz9_0 := bf BK432 0;have hfz9_1 := bf BK432 1;have hfz9_2 := bf BK432 2;have hfz9_3 := bf BK432 3;have hfz9_4 := bf BK432 4;have hfz9_5 := bf BK432 5;have hfz9_6 := bf BK432 6)|((with_reducible refine gate_callee (f := 12) rfl ?_);refine goesL_ (some 19) rfl rfl Try.func12 (by kernel_rfl) rfl #[.agg #[.int .u64 a0_0,.int .i64 a0_1,.int .i64 a0_2,.slice A0_3 l0_3.length c0_3,.int .u64 a0_4,.int .u64 a0_5,.slice A0_6 l0_6.length c0_6]] rfl (by (try simp only [List.map_toArray,List.map_cons,List.map_nil]);first|done|rfl|(simp only [List.length_drop,List.length_take];rfl)) ?_;(with_reducible refine (privitylaw43_may.calls k a0_0 a0_1 a0_2 _ _ l0_3 a0_4 a0_5 _ _ l0_6 true _ ?side1 ?side2 ?side3 ?side4 A2.out).mono ?_);(case side1 => exact cb HR0_3 HB);(case side2 => exact HC0_3.out);(case side3 => exact cb HR0_6 HB);(case side4 => exact HC0_6.out);rintro e w10 ⟨rfl,hb⟩;refine ⟨_,rfl,?_⟩;have n0_ := am (kb BK432 hb);have n1_ := am (below_step (bg HB GE432) hb);clear BK432 HB;have BK432 := n0_;have HB := n1_;clear n0_ n1_;(try clear hb);(try clear hb2);(try clear hk);(try clear hi);have hcz11_0 := bc BK432 0;have hcz11_1 := bc BK432 1;have hcz11_2 := bc BK432 2;have hcz11_3 := bc BK432 3;have hcz11_4 := bc BK432 4;have hcz11_5 := bc BK432 5;have hcz11_6 := bc BK432 6;have hfz11_0 := bf BK432 0;have hfz11_1 := bf BK432 1;have hfz11_2 := bf BK432 2;have hfz11_3 := bf BK432 3;have hfz11_4 := bf BK432 4;have hfz11_5 := bf BK432 5;have hfz11_6 := bf BK432 6)|((with_reducible refine gate_callee (f := 24) rfl ?_);refine goesL_ (some 27) rfl rfl Try.func24 (by kernel_rfl) rfl #[.agg #[.int .u64 a0_0,.int .i64 a0_1,.int .i64 a0_2,.slice A0_3 l0_3.length c0_3,.int .u64 a0_4,.int .u64 a0_5,.slice A0_6 l0_6.length c0_6]] rfl (by (try simp only [List.map_toArray,List.map_cons,List.map_nil]);first|done|rfl|(simp only [List.length_drop,List.length_take];rfl)) ?_;(with_reducible refine (privitylaw43_triple.calls k a0_0 a0_1 a0_2 _ _ l0_3 a0_4 a0_5 _ _ l0_6 t435 t438 _ ?side1 ?side2 ?side3 ?side4 A4.out).mono ?_);(case side1 => exact cb HR0_3 HB);(case side2 => exact HC0_3.out);(case side3 => exact cb HR0_6 HB);(case side4 => exact HC0_6.out);rintro e w12 ⟨v436,v439,rfl,ho0,ho1,hb⟩;refine ⟨_,rfl,?_⟩;have n0_ := am (Kd.R_lower ho0 (below_size (bg HB GE432)));have n1_ := am (Kd.R_lower ho1 (below_size (bg HB GE432)));have n2_ := am (kb BK432 hb);have n3_ := am (below_step (bg HB GE432) hb);clear BK432 HB;have HO437 := n0_;have HO440 := n1_;have BK432 := n2_;have HB := n3_;clear n0_ n1_ n2_ n3_;(try clear hb);(try clear hb2);(try clear hk);(try clear hi);(try clear ho0);(try clear ho1)))
   have n0_ := am (Kd.R_drew HO437.out)
   have n1_ := am (Kd.R_drew HO440.out)
   have n2_ := am (blk_drew BK432.out)
   have n3_ := am (below_drew1 HB.out)
   clear HO437
   clear HO440
   clear BK432
   clear HB
   have HO437 := n0_
   have HO440 := n1_
   have BK432 := n2_
   have HB := n3_
   clear n0_ n1_ n2_ n3_
   obtain ⟨Ao14,co14,eo14⟩ := Kd.R_slice HO437.out
   (first|subst eo14|(injection eo14 with f1_ f2_ f3_;have f4_ := f1_.symm;have f5_ := f3_.symm;clear f1_ f2_ f3_;subst f4_;subst f5_))
   obtain ⟨Ao15,co15,eo15⟩ := Kd.R_slice HO440.out
   (first|subst eo15|(injection eo15 with f1_ f2_ f3_;have f4_ := f1_.symm;have f5_ := f3_.symm;clear f1_ f2_ f3_;subst f4_;subst f5_))
   refine start_ (n := 20) (S := fun w' => w'.cell? ⟨gb432,0,none⟩ = some (.int .u64 a0_0) ∧ w'.cell? ⟨gb432,1,none⟩ = some (.int .i64 a0_1) ∧ w'.cell? ⟨gb432,2,none⟩ = some (.int .i64 a0_2) ∧ w'.cell? ⟨gb432,3,none⟩ = some (.slice A0_3 l0_3.length c0_3) ∧ w'.cell? ⟨gb432,4,none⟩ = some (.int .u64 a0_4) ∧ w'.cell? ⟨gb432,5,none⟩ = some (.int .u64 a0_5) ∧ w'.cell? ⟨gb432,6,none⟩ = some (.slice A0_6 l0_6.length c0_6)) (ds := []) (bz 20 0) (by kernel_rfl) rfl rfl ⟨(blk_cell BK432.out 0).trans rfl,(blk_cell BK432.out 1).trans rfl,(blk_cell BK432.out 2).trans rfl,(blk_cell BK432.out 3).trans rfl,(blk_cell BK432.out 4).trans rfl,(blk_cell BK432.out 5).trans rfl,(blk_cell BK432.out 6).trans rfl⟩ (fun hHeld => ?_);refine with_tabW privitylaw43_TapeshiftTriplePrivacy.tab5 privitylaw43_TapeshiftTriplePrivacy.bits5 (fun HT_ HW_ => ?_)
   generalize w12.drew = w13 at HO437 HO440 BK432 HB hHeld ⊢
   refine pk 0 31 (bz 20 1) HT_ ?_
   refine pk 2 33 (bz 20 5) HT_ ?_
   refine pk 4 35 (bz 20 21) HT_ ?_
   refine pk 6 37 (bz 20 85) HT_ ?_
   refine pk 8 39 (bz 20 341) HT_ ?_
   refine pk 10 41 (bz 20 1365) HT_ ?_
   refine pk 12 43 (bz 20 5461) HT_ ?_
   refine pk 13 44 (bz 20 13653) HT_ ?_
   refine tk 1 32 (bz 20 13655) HT_ HW_ hHeld ?_
   refine tk 3 34 (bz 20 13663) HT_ HW_ hHeld ?_
   refine tk 5 36 (bz 20 13695) HT_ HW_ hHeld ?_
   refine pk 7 38 (bz 20 13823) HT_ ?_
   refine tk 9 40 (bz 20 14335) HT_ HW_ hHeld ?_
   refine pk 11 42 (bz 20 16383) HT_ ?_
   refine on 14 45 (bz 20 32767) HT_ (fun K hK => ?_)
   refine goes_ Try.func25 (by kernel_rfl) rfl #[.agg #[.int .u64 a0_0,.int .i64 a0_1,.int .i64 a0_2],.slice A0_3 l0_3.length c0_3,.int .u64 (Int.tmod a0_4 a0_0),.int .u64 (Int.tmod a0_5 a0_0),.slice Ao14 t435.length co14,.slice Ao15 t438.length co15] (by rfl) rfl rfl (by (try simp only [List.map_toArray,List.map_cons,List.map_nil]);first|done|rfl|(simp only [List.length_drop,List.length_take];rfl)) ?_
   with_reducible refine (tapeshift_Triple.calls a0_0 a0_1 a0_2 _ _ l0_3 (Int.tmod a0_4 a0_0) (Int.tmod a0_5 a0_0) _ _ t435 _ _ t438 t441 t444 _ ?side1 ?side2 ?side3 ?side4 ?side5 ?side6 A6.out).mono ?_
   (case side1 => exact cb HR0_3 HB)
   (case side2 => exact HC0_3.out)
   (case side3 => exact cr HO437)
   (case side4 => exact (Kd.R_reads' HO437.out).2.1)
   (case side5 => exact cr HO440)
   (case side6 => exact (Kd.R_reads' HO440.out).2.1)
   rintro e w16 ⟨v442,v445,rfl,ho0,ho1,hb⟩
   refine ⟨_,rfl,?_⟩
   have n0_ := am (Kd.R_mono (Kd.R_told (Kd.R_told (Kd.R_old (rr HO437) hb) (Kd.R_base ho0)) (Kd.R_base ho1)) (fun _ h_ => h_.1))
   have n1_ := am (Kd.R_mono (Kd.R_told (Kd.R_told (Kd.R_old (rr HO440) hb) (Kd.R_base ho0)) (Kd.R_base ho1)) (fun _ h_ => h_.1))
   have n2_ := am (Kd.R_lower (Kd.R_new' (Kd.R_new' ho0 (Kd.R_lt (rr HO437))) (Kd.R_lt (rr HO440))) (below_size (bg HB GE432)))
   have n3_ := am (Kd.R_lower (Kd.R_new' (Kd.R_new' ho1 (Kd.R_lt (rr HO437))) (Kd.R_lt (rr HO440))) (below_size (bg HB GE432)))
   have n4_ := am (kb BK432 hb)
   have n5_ := am (below_step (bg HB GE432) hb)
   clear HO437
   clear HO440
   clear BK432
   clear HB
   have HO437 := n0_
   have HO440 := n1_
   have HO443 := n2_
   have HO446 := n3_
   have BK432 := n4_
   have HB := n5_
   clear n0_ n1_ n2_ n3_ n4_ n5_
   (try clear hb)
   (try clear hb2)
   (try clear hk)
   (try clear hi)
   (try clear ho0)
   (try clear ho1)
   refine hK.out _ _ ⟨(blk_cell BK432.out 0).trans rfl,(blk_cell BK432.out 1).trans rfl,(blk_cell BK432.out 2).trans rfl,(blk_cell BK432.out 3).trans rfl,(blk_cell BK432.out 4).trans rfl,(blk_cell BK432.out 5).trans rfl,(blk_cell BK432.out 6).trans rfl⟩ (fun hHeld => ?_)
   clear hK K
   refine nm 45 ?_
   refine pk 15 30 (bz 20 65535) HT_ ?_
   refine pk 16 46 (bz 20 131071) HT_ ?_
   refine pk 17 47 (bz 20 262143) HT_ ?_
   refine pk 18 6 (bz 20 524287) HT_ ?_
   refine pk 19 7 (bz 20 1048575) HT_ ?_
   refine done_ (done_of HT_.out (by kernel_rfl)) ?_
   go_upto_region 6 with (fail)
   go_cut [67] (fun v67 wc => ∃ (kq : Nat) (x67_6 : Bool),v67 = .bool x67_6 ∧ Aside0 (privitylaw43_TapeshiftTriplePrivacy.j0 kq a0_0 t435 t438 t441 t444 x67_6 a0_0 a0_1 a0_2 l0_3 a0_4 a0_5 l0_6 = some r) ∧ Aside0 (kq ≤ k) ∧ Aside0 (Kd.R (Kd.int .u64) 22 wc w.heap.size (fun k_ => some k_ ≠ ((.slice Ao15 t438.length co15) : Value).ownBlock ∧ some k_ ≠ (v442 : Value).ownBlock ∧ some k_ ≠ (v445 : Value).ownBlock) (.slice Ao14 t435.length co14) t435) ∧ Aside0 (Kd.R (Kd.int .u64) 22 wc w.heap.size (fun k_ => some k_ ≠ ((.slice Ao14 t435.length co14) : Value).ownBlock ∧ some k_ ≠ (v442 : Value).ownBlock ∧ some k_ ≠ (v445 : Value).ownBlock) (.slice Ao15 t438.length co15) t438) ∧ Aside0 (Kd.R (Kd.int .u64) 22 wc w.heap.size (fun k_ => some k_ ≠ ((.slice Ao14 t435.length co14) : Value).ownBlock ∧ some k_ ≠ ((.slice Ao15 t438.length co15) : Value).ownBlock ∧ some k_ ≠ (v445 : Value).ownBlock) v442 t441) ∧ Aside0 (Kd.R (Kd.int .u64) 22 wc w.heap.size (fun k_ => some k_ ≠ ((.slice Ao14 t435.length co14) : Value).ownBlock ∧ some k_ ≠ ((.slice Ao15 t438.length co15) : Value).ownBlock ∧ some k_ ≠ (v442 : Value).ownBlock) v445 t444) ∧ Aside0 (wc.heap[gb432]? = some (.cells #[.int .u64 a0_0,.int .i64 a0_1,.int .i64 a0_2,(.slice A0_3 l0_3.length c0_3),.int .u64 a0_4,.int .u64 a0_5,(.slice A0_6 l0_6.length c0_6)] 28 (0,0))) ∧ Aside0 (Below w.heap.size w wc))
   case first =>
    have H := HC7.out
    clear HC7
    by_cases c17 : (t441.length : Int) = (t435.length : Int)
    ·rw [if_pos c17] at H
     have c17b0 : ((t441.length : Int) == (t435.length : Int)) = true := beq_iff_eq.mpr c17
     have c17b1 : ((t441.length : Int) != (t435.length : Int)) = false := bne_eq_false_iff_eq.mpr c17
     have c17b2 : (t441.length == t435.length) = true := by first|simpa using c17|(simp at c17 ⊢;omega)
     clear c17
     (first|rw [c17b0]|(simp only [i64_w,i32_w];rw [c17b0])|skip)
     by_cases c18 : (t444.length : Int) = (t438.length : Int)
     ·rw [if_pos c18] at H
      have c18b0 : ((t444.length : Int) == (t438.length : Int)) = true := beq_iff_eq.mpr c18
      have c18b1 : ((t444.length : Int) != (t438.length : Int)) = false := bne_eq_false_iff_eq.mpr c18
      have c18b2 : (t444.length == t438.length) = true := by first|simpa using c18|(simp at c18 ⊢;omega)
      clear c18
      obtain ⟨y447,hy447⟩ : ∃ y_ : List (List Int),y_ = (([t441,t444] : List (List Int))) := ⟨_,rfl⟩
      replace H : ((privityref14_Below.f k a0_0 y447 100).bind fun t450 => (privitylaw43_TapeshiftTriplePrivacy.j0 k a0_0 t435 t438 t441 t444 (!t450) a0_0 a0_1 a0_2 l0_3 a0_4 a0_5 l0_6)) = some r := by first|(rw [hy447];with_reducible exact H)|(have H2_ := (Option.bind_some _ _).symm.trans H;rw [hy447];with_reducible exact H2_)|(have H2_ := (Option.bind_some _ _).symm.trans H;with_reducible exact H2_)|with_reducible exact H|(rw [hy447];exact H)|exact H
      have Ny447 := am hy447
      clear hy447
      replace H := Option.bind_eq_some_iff.mp H
      obtain ⟨t450,A190,H⟩ := H
      try dsimp only at H
      have A19 := am A190
      clear A190
      have H' := am H
      clear H
      obtain ⟨Ao20,co20,eo20⟩ := Kd.R_slice HO443.out
      subst eo20
      obtain ⟨Ao21,co21,eo21⟩ := Kd.R_slice HO446.out
      subst eo21
      go_wp2_with (first|((with_reducible refine gate_dst (N := 64) rfl ?_);(try (refine gate_guard (by rfl) ?_;dsimp only));refine R_litx (Kd.slice 22 (Kd.int .u64)) w.heap.size 26 ?hg (N := 64) ?hd (xs := ([t441,t444] : List (List Int))) (inner := [?i0,?i1]) ?hr ?hp (bg HB GE432) (below_size (bg HB GE432)) (by simp) ?_;(case hd => rfl);(case hg => rfl);(case hr => first|(go_simp;done)|(go_simp;rfl));(case hp => exact (Reps.one (show Kd.M (Kd.slice 22 (Kd.int .u64)) _ _ _ t441 _ from ⟨_,rfl,Kd.R_mono (rr HO443) (fun _ _ => trivial)⟩) (Reps.one (show Kd.M (Kd.slice 22 (Kd.int .u64)) _ _ _ t444 _ from ⟨_,rfl,Kd.R_mono (rr HO446) (fun _ _ => trivial)⟩) (Reps.none _ _))));intro v448 w22 ho23 hb;(first|rw [← Ny447.out] at ho23|(simp only [Int.reduceToNat] at ho23;rw [← Ny447.out] at ho23));have n0_ := am (Kd.R_below (rr HO437) hb);have n1_ := am (Kd.R_below (rr HO440) hb);have n2_ := am (Kd.R_below (rr HO443) hb);have n3_ := am (Kd.R_below (rr HO446) hb);have n4_ := am ho23;have n5_ := am (kb BK432 hb);have n6_ := am (below_step (bg HB GE432) hb);clear HO437 HO440 HO443 HO446 BK432 HB;have HO437 := n0_;have HO440 := n1_;have HO443 := n2_;have HO446 := n3_;have HO449 := n4_;have BK432 := n5_;have HB := n6_;clear n0_ n1_ n2_ n3_ n4_ n5_ n6_;clear hb ho23;obtain ⟨Ao24,co24,eo24⟩ := Kd.R_slice HO449.out;subst eo24)|(go_at_call 27;(with_reducible refine (privityref14_Below.calls k a0_0 _ _ y447 100 t450 _ ?side1 ?side2 A19.out).mono ?_);(case side1 => exact cr HO449);(case side2 => exact (Kd.R_reads' HO449.out).2.1);rintro e w' ⟨rfl,⟨nd,rfl⟩⟩))
      go_meet
      case rel => exact ⟨_,(!t450),(by first|rfl|(simp;done)|(simp [*];done)),H',⟨by first|omega|exact Nat.le_refl _⟩,⟨by (with_reducible repeat (first|apply Kd.R_alloc|apply Kd.R_drewN|apply Kd.R_drew));exact Kd.R_mono HO437.out (fun _ hk => ⟨hk.1.1,⟨hk.1.2,hk.2⟩⟩)⟩,⟨by (with_reducible repeat (first|apply Kd.R_alloc|apply Kd.R_drewN|apply Kd.R_drew));exact Kd.R_mono HO440.out (fun _ hk => ⟨hk.1.1,⟨hk.1.2,hk.2⟩⟩)⟩,⟨by (with_reducible repeat (first|apply Kd.R_alloc|apply Kd.R_drewN|apply Kd.R_drew));exact Kd.R_mono HO443.out (fun _ hk => ⟨hk.1.2,⟨hk.2,hk.1.1⟩⟩)⟩,⟨by (with_reducible repeat (first|apply Kd.R_alloc|apply Kd.R_drewN|apply Kd.R_drew));exact Kd.R_mono HO446.out (fun _ hk => ⟨hk.1.2,⟨hk.2,hk.1.1⟩⟩)⟩,⟨kx BK432⟩,⟨bg HB GE432⟩⟩
     ·rw [if_neg c18] at H
      have c18b0 : ((t444.length : Int) == (t438.length : Int)) = false := beq_eq_false_iff_ne.mpr c18
      have c18b1 : ((t444.length : Int) != (t438.length : Int)) = true := bne_iff_ne.mpr c18
      have c18b2 : (t444.length == t438.length) = false := by first|simpa using c18|(simp at c18 ⊢;omega)
      have H' := am H
      clear H
      obtain ⟨Ao25,co25,eo25⟩ := Kd.R_slice HO443.out
      subst eo25
      obtain ⟨Ao26,co26,eo26⟩ := Kd.R_slice HO446.out
      subst eo26
      go_wp2
      go_meet
      case rel => exact ⟨_,(true),(by first|rfl|(simp;done)|(simp [*];done)),H',⟨by first|omega|exact Nat.le_refl _⟩,⟨by (with_reducible repeat (first|apply Kd.R_alloc|apply Kd.R_drewN|apply Kd.R_drew));exact Kd.R_mono HO437.out (fun _ hk => ⟨hk.1.1,⟨hk.1.2,hk.2⟩⟩)⟩,⟨by (with_reducible repeat (first|apply Kd.R_alloc|apply Kd.R_drewN|apply Kd.R_drew));exact Kd.R_mono HO440.out (fun _ hk => ⟨hk.1.1,⟨hk.1.2,hk.2⟩⟩)⟩,⟨by (with_reducible repeat (first|apply Kd.R_alloc|apply Kd.R_drewN|apply Kd.R_drew));exact Kd.R_mono HO443.out (fun _ hk => ⟨hk.1.2,⟨hk.2,hk.1.1⟩⟩)⟩,⟨by (with_reducible repeat (first|apply Kd.R_alloc|apply Kd.R_drewN|apply Kd.R_drew));exact Kd.R_mono HO446.out (fun _ hk => ⟨hk.1.2,⟨hk.2,hk.1.1⟩⟩)⟩,⟨kx BK432⟩,⟨bg HB GE432⟩⟩
    ·rw [if_neg c17] at H
     have c17b0 : ((t441.length : Int) == (t435.length : Int)) = false := beq_eq_false_iff_ne.mpr c17
     have c17b1 : ((t441.length : Int) != (t435.length : Int)) = true := bne_iff_ne.mpr c17
     have c17b2 : (t441.length == t435.length) = false := by first|simpa using c17|(simp at c17 ⊢;omega)
     (first|rw [c17b0]|(simp only [i64_w,i32_w];rw [c17b0])|skip)
     have H' := am H
     clear H
     obtain ⟨Ao27,co27,eo27⟩ := Kd.R_slice HO443.out
     subst eo27
     go_wp2
     go_meet
     case rel => exact ⟨_,(true),(by first|rfl|(simp;done)|(simp [*];done)),H',⟨by first|omega|exact Nat.le_refl _⟩,⟨by (with_reducible repeat (first|apply Kd.R_alloc|apply Kd.R_drewN|apply Kd.R_drew));exact Kd.R_mono HO437.out (fun _ hk => ⟨hk.1.1,⟨hk.1.2,hk.2⟩⟩)⟩,⟨by (with_reducible repeat (first|apply Kd.R_alloc|apply Kd.R_drewN|apply Kd.R_drew));exact Kd.R_mono HO440.out (fun _ hk => ⟨hk.1.1,⟨hk.1.2,hk.2⟩⟩)⟩,⟨by (with_reducible repeat (first|apply Kd.R_alloc|apply Kd.R_drewN|apply Kd.R_drew));exact Kd.R_mono HO443.out (fun _ hk => ⟨hk.1.2,⟨hk.2,hk.1.1⟩⟩)⟩,⟨by (with_reducible repeat (first|apply Kd.R_alloc|apply Kd.R_drewN|apply Kd.R_drew));exact Kd.R_mono HO446.out (fun _ hk => ⟨hk.1.2,⟨hk.2,hk.1.1⟩⟩)⟩,⟨kx BK432⟩,⟨bg HB GE432⟩⟩
   case rest =>
    clear HC7
    try clear c1
    try clear c2
    try clear p2
    try clear c3
    try clear c5
    try clear c5b0
    try clear c5b1
    try clear c8
    try clear c12
    try clear c17
    try clear c17b0
    try clear c17b1
    try clear c17b2
    try clear c18
    try clear c18b0
    try clear c18b1
    try clear c18b2
    try clear c24
    try clear c25
    try clear hcz11_0
    try clear hcz11_1
    try clear hcz11_2
    try clear hcz11_3
    try clear hcz11_4
    try clear hcz11_5
    try clear hcz11_6
    try clear hcz9_0
    try clear hcz9_1
    try clear hcz9_2
    try clear hcz9_3
    try clear hcz9_4
    try clear hcz9_5
    try clear hcz9_6
    try clear hfz11_0
    try clear hfz11_1
    try clear hfz11_2
    try clear hfz11_3
    try clear hfz11_4
    try clear hfz11_5
    try clear hfz11_6
    try clear hfz9_0
    try clear hfz9_1
    try clear hfz9_2
    try clear hfz9_3
    try clear hfz9_4
    try clear hfz9_5
    try clear hfz9_6
    obtain ⟨kq,x67_6,rfl,HA,HJ6,HO_4,HO_5,HO_6,HO_7,BK432,HB⟩ := hcut
    cases kq with
    | zero => exact absurd HA.out (by simp [privitylaw43_TapeshiftTriplePrivacy.j0])
    | succ kj6 =>
     have H := HA.out
     clear HA
     simp only [privitylaw43_TapeshiftTriplePrivacy.j0] at H
     by_cases c28 : x67_6 = true
     ·subst c28
      rw [if_pos rfl] at H
      exact absurd (Option.some.inj H) (by rw [HRT_.out];simp)
     ·replace c28 := Bool.eq_false_iff.mpr c28
      subst c28
      rw [if_neg (show ¬ (false = true) by decide)] at H
      replace H := Option.bind_eq_some_iff.mp H
      obtain ⟨t451,A290,H⟩ := H
      try dsimp only at H
      have A29 := am A290
      clear A290
      replace H := Option.bind_eq_some_iff.mp H
      obtain ⟨t454,A300,H⟩ := H
      try dsimp only at H
      have A30 := am A300
      clear A300
      have H' := am H
      clear H
      try go_wp2
      have n0_ := am (Kd.R_drew HO_4.out)
      have n1_ := am (Kd.R_drew HO_5.out)
      have n2_ := am (Kd.R_drew HO_6.out)
      have n3_ := am (Kd.R_drew HO_7.out)
      have n4_ := am (blk_drew BK432.out)
      have n5_ := am (below_drew1 HB.out)
      clear HO_4
      clear HO_5
      clear HO_6
      clear HO_7
      clear BK432
      clear HB
      have HO_4 := n0_
      have HO_5 := n1_
      have HO_6 := n2_
      have HO_7 := n3_
      have BK432 := n4_
      have HB := n5_
      clear n0_ n1_ n2_ n3_ n4_ n5_
      refine start_ (n := 12) (S := fun w' => w'.cell? ⟨gb432,0,none⟩ = some (.int .u64 a0_0) ∧ w'.cell? ⟨gb432,1,none⟩ = some (.int .i64 a0_1) ∧ w'.cell? ⟨gb432,2,none⟩ = some (.int .i64 a0_2) ∧ w'.cell? ⟨gb432,3,none⟩ = some (.slice A0_3 l0_3.length c0_3) ∧ w'.cell? ⟨gb432,4,none⟩ = some (.int .u64 a0_4) ∧ w'.cell? ⟨gb432,5,none⟩ = some (.int .u64 a0_5) ∧ w'.cell? ⟨gb432,6,none⟩ = some (.slice A0_6 l0_6.length c0_6)) (ds := []) (bz 12 0) (by kernel_rfl) rfl rfl ⟨(blk_cell BK432.out 0).trans rfl,(blk_cell BK432.out 1).trans rfl,(blk_cell BK432.out 2).trans rfl,(blk_cell BK432.out 3).trans rfl,(blk_cell BK432.out 4).trans rfl,(blk_cell BK432.out 5).trans rfl,(blk_cell BK432.out 6).trans rfl⟩ (fun hHeld => ?_);refine with_tabW privitylaw43_TapeshiftTriplePrivacy.tab8 privitylaw43_TapeshiftTriplePrivacy.bits8 (fun HT_ HW_ => ?_)
      generalize wc.drew = w31 at HO_4 HO_5 HO_6 HO_7 BK432 HB hHeld ⊢
      refine pk 0 68 (bz 12 1) HT_ ?_
      refine pk 2 70 (bz 12 5) HT_ ?_
      refine pk 3 71 (bz 12 13) HT_ ?_
      refine pk 5 73 (bz 12 45) HT_ ?_
      refine pk 7 75 (bz 12 173) HT_ ?_
      refine pk 8 76 (bz 12 429) HT_ ?_
      refine tk 1 69 (bz 12 431) HT_ HW_ hHeld ?_
      refine tk 6 74 (bz 12 495) HT_ HW_ hHeld ?_
      refine on 4 72 (bz 12 511) HT_ (fun K hK => ?_)
      refine goes_ Try.func28 (by kernel_rfl) rfl #[.agg #[.int .u64 a0_0,.int .i64 a0_1,.int .i64 a0_2],.slice Ao14 t435.length co14,.slice Ao15 t438.length co15] (by rfl) rfl rfl (by (try simp only [List.map_toArray,List.map_cons,List.map_nil]);first|done|rfl|(simp only [List.length_drop,List.length_take];rfl)) ?_
      with_reducible refine (privityref43_Polys.calls kj6 a0_0 a0_1 a0_2 (fun k_ => some k_ = (.slice Ao14 t435.length co14 : Value).ownBlock) _ _ t435 _ _ t438 t451 _ ?side1 ?side2 ?side3 A29.out).mono ?_
      (case side1 => exact Kd.R_V (Kd.R_tight rfl (Kd.R_types (HO_4.out) BK432.out (by decide))))
      (case side2 => exact cr HO_5)
      (case side3 => exact (Kd.R_reads' HO_5.out).2.1)
      rintro e w32 ⟨v452,rfl,ho0,hb⟩
      refine ⟨_,rfl,?_⟩
      have n0_ := am (Kd.R_below (rr HO_4) hb)
      have n1_ := am (Kd.R_below (rr HO_5) hb)
      have n2_ := am (Kd.R_below (rr HO_6) hb)
      have n3_ := am (Kd.R_below (rr HO_7) hb)
      have n4_ := am (Kd.N_lower (Kd.N_mono (ok' := fun k_ => some k_ ≠ (.slice Ao15 t438.length co15 : Value).ownBlock ∧ some k_ ≠ (v442 : Value).ownBlock ∧ some k_ ≠ (v445 : Value).ownBlock ∧ k_ ≠ gb432) ho0 (fun k_ hk_ => ⟨Or.elim hk_ (fun hs_ => ((Kd.R_types (HO_4.out) BK432.out (by decide)).1 k_ hs_.symm).1.1) (fun hn_ => (Kd.fresh' (Kd.R_lt (rr HO_5)) k_ hn_)),Or.elim hk_ (fun hs_ => ((Kd.R_types (HO_4.out) BK432.out (by decide)).1 k_ hs_.symm).1.2.1) (fun hn_ => (Kd.fresh' (Kd.R_lt (rr HO_6)) k_ hn_)),Or.elim hk_ (fun hs_ => ((Kd.R_types (HO_4.out) BK432.out (by decide)).1 k_ hs_.symm).1.2.2) (fun hn_ => (Kd.fresh' (Kd.R_lt (rr HO_7)) k_ hn_)),Or.elim hk_ (fun hs_ => ((Kd.R_types (HO_4.out) BK432.out (by decide)).1 k_ hs_.symm).2) (fun hn_ => (Kd.freshB (g := gb432) (o := .cells #[.int .u64 a0_0,.int .i64 a0_1,.int .i64 a0_2,.slice A0_3 l0_3.length c0_3,.int .u64 a0_4,.int .u64 a0_5,.slice A0_6 l0_6.length c0_6] 28 (0,0)) (by (with_reducible repeat (first|refine blk_drewN ?_ _|refine blk_drew ?_|refine blk_alloc ?_ _));exact BK432.out) k_ hn_))⟩)) (below_size (bg HB GE432)))
      have n5_ := am (kb BK432 hb)
      have n6_ := am (below_step (bg HB GE432) hb)
      clear HO_4
      clear HO_5
      clear HO_6
      clear HO_7
      clear BK432
      clear HB
      have HO_4 := n0_
      have HO_5 := n1_
      have HO_6 := n2_
      have HO_7 := n3_
      have HO453 := n4_
      have BK432 := n5_
      have HB := n6_
      clear n0_ n1_ n2_ n3_ n4_ n5_ n6_
      (try clear hb)
      (try clear hb2)
      (try clear hk)
      (try clear hi)
      (try clear ho0)
      obtain ⟨Ao33,co33,eo33⟩ := Kd.R_slice HO_6.out
      (first|subst eo33|(injection eo33 with f1_ f2_ f3_;have f4_ := f1_.symm;have f5_ := f3_.symm;clear f1_ f2_ f3_;subst f4_;subst f5_))
      obtain ⟨Ao34,co34,eo34⟩ := Kd.R_slice HO_7.out
      (first|subst eo34|(injection eo34 with f1_ f2_ f3_;have f4_ := f1_.symm;have f5_ := f3_.symm;clear f1_ f2_ f3_;subst f4_;subst f5_))
      refine hK.out _ _ ⟨(blk_cell BK432.out 0).trans rfl,(blk_cell BK432.out 1).trans rfl,(blk_cell BK432.out 2).trans rfl,(blk_cell BK432.out 3).trans rfl,(blk_cell BK432.out 4).trans rfl,(blk_cell BK432.out 5).trans rfl,(blk_cell BK432.out 6).trans rfl⟩ (fun hHeld => ?_)
      clear hK K
      refine nm 72 ?_
      refine on 9 77 (bz 12 1023) HT_ (fun K hK => ?_)
      refine goes_ Try.func28 (by kernel_rfl) rfl #[.agg #[.int .u64 a0_0,.int .i64 a0_1,.int .i64 a0_2],.slice Ao33 t441.length co33,.slice Ao34 t444.length co34] (by rfl) rfl rfl (by (try simp only [List.map_toArray,List.map_cons,List.map_nil]);first|done|rfl|(simp only [List.length_drop,List.length_take];rfl)) ?_
      with_reducible refine (privityref43_Polys.calls kj6 a0_0 a0_1 a0_2 (fun k_ => some k_ = (.slice Ao33 t441.length co33 : Value).ownBlock) _ _ t441 _ _ t444 t454 _ ?side1 ?side2 ?side3 A30.out).mono ?_
      (case side1 => exact Kd.R_V (Kd.R_tight rfl (Kd.R_types (Kd.R_apart' (HO_6.out) (Kd.N_typed HO453.out) (by decide)) BK432.out (by decide))))
      (case side2 => exact cr HO_7)
      (case side3 => exact (Kd.R_reads' HO_7.out).2.1)
      rintro e w35 ⟨v455,rfl,ho0,hb⟩
      refine ⟨_,rfl,?_⟩
      have n0_ := am (Kd.R_below (rr HO_4) hb)
      have n1_ := am (Kd.R_below (rr HO_5) hb)
      have n2_ := am (Kd.R_below (rr HO_6) hb)
      have n3_ := am (Kd.R_below (rr HO_7) hb)
      have n4_ := am (Kd.N_elder' (rn HO453) (by first|exact Kd.N_base ho0|exact Kd.S_base ho0) hb)
      have n5_ := am (Kd.N_lower (Kd.N_mono (ok' := fun k_ => some k_ ≠ (.slice Ao14 t435.length co14 : Value).ownBlock ∧ some k_ ≠ (.slice Ao15 t438.length co15 : Value).ownBlock ∧ some k_ ≠ (.slice Ao34 t444.length co34 : Value).ownBlock ∧ some k_ ≠ (v452 : Value).ownBlock ∧ k_ ≠ gb432) ho0 (fun k_ hk_ => ⟨Or.elim hk_ (fun hs_ => ((Kd.R_types (Kd.R_apart' (HO_6.out) (Kd.N_typed HO453.out) (by decide)) BK432.out (by decide)).1 k_ hs_.symm).1.1.1) (fun hn_ => (Kd.fresh' (Kd.R_lt (rr HO_4)) k_ hn_)),Or.elim hk_ (fun hs_ => ((Kd.R_types (Kd.R_apart' (HO_6.out) (Kd.N_typed HO453.out) (by decide)) BK432.out (by decide)).1 k_ hs_.symm).1.1.2.1) (fun hn_ => (Kd.fresh' (Kd.R_lt (rr HO_5)) k_ hn_)),Or.elim hk_ (fun hs_ => ((Kd.R_types (Kd.R_apart' (HO_6.out) (Kd.N_typed HO453.out) (by decide)) BK432.out (by decide)).1 k_ hs_.symm).1.1.2.2) (fun hn_ => (Kd.fresh' (Kd.R_lt (rr HO_7)) k_ hn_)),Or.elim hk_ (fun hs_ => ((Kd.R_types (Kd.R_apart' (HO_6.out) (Kd.N_typed HO453.out) (by decide)) BK432.out (by decide)).1 k_ hs_.symm).1.2) (fun hn_ => (Kd.fresh' (Kd.N_lt (rn HO453)) k_ hn_)),Or.elim hk_ (fun hs_ => ((Kd.R_types (Kd.R_apart' (HO_6.out) (Kd.N_typed HO453.out) (by decide)) BK432.out (by decide)).1 k_ hs_.symm).2) (fun hn_ => (Kd.freshB (g := gb432) (o := .cells #[.int .u64 a0_0,.int .i64 a0_1,.int .i64 a0_2,.slice A0_3 l0_3.length c0_3,.int .u64 a0_4,.int .u64 a0_5,.slice A0_6 l0_6.length c0_6] 28 (0,0)) (by (with_reducible repeat (first|refine blk_drewN ?_ _|refine blk_drew ?_|refine blk_alloc ?_ _));exact BK432.out) k_ hn_))⟩)) (below_size (bg HB GE432)))
      have n6_ := am (kb BK432 hb)
      have n7_ := am (below_step (bg HB GE432) hb)
      clear HO_4
      clear HO_5
      clear HO_6
      clear HO_7
      clear HO453
      clear BK432
      clear HB
      have HO_4 := n0_
      have HO_5 := n1_
      have HO_6 := n2_
      have HO_7 := n3_
      have HO453 := n4_
      have HO456 := n5_
      have BK432 := n6_
      have HB := n7_
      clear n0_ n1_ n2_ n3_ n4_ n5_ n6_ n7_
      (try clear hb)
      (try clear hb2)
      (try clear hk)
      (try clear hi)
      (try clear ho0)
      refine hK.out _ _ ⟨(blk_cell BK432.out 0).trans rfl,(blk_cell BK432.out 1).trans rfl,(blk_cell BK432.out 2).trans rfl,(blk_cell BK432.out 3).trans rfl,(blk_cell BK432.out 4).trans rfl,(blk_cell BK432.out 5).trans rfl,(blk_cell BK432.out 6).trans rfl⟩ (fun hHeld => ?_)
      clear hK K
      refine nm 77 ?_
      refine pk 10 8 (bz 12 2047) HT_ ?_
      refine pk 11 9 (bz 12 4095) HT_ ?_
      refine done_ (done_of HT_.out (by kernel_rfl)) ?_
      try go_wp2
      go_loopg [10] kj6 (fun kq v10 w' => ∃ (x10_2 : Int),v10 = .int .i64 x10_2 ∧ Aside0 (privitylaw43_TapeshiftTriplePrivacy.l0 kq a0_0 t451 t454 x10_2 a0_0 a0_1 a0_2 l0_3 a0_4 a0_5 l0_6 = some r) ∧ Aside0 (kq ≤ kj6) ∧ Aside0 (Kd.N (Kd.slice 26 (Kd.slice 22 (Kd.int .u64))) 34 w' w.heap.size (fun k_ => some k_ ≠ (v455 : Value).ownBlock ∧ k_ ≠ gb432) v452 t451) ∧ Aside0 (Kd.N (Kd.slice 26 (Kd.slice 22 (Kd.int .u64))) 34 w' w.heap.size (fun k_ => some k_ ≠ (v452 : Value).ownBlock ∧ k_ ≠ gb432) v455 t454) ∧ Aside0 (w'.heap[gb432]? = some (.cells #[.int .u64 a0_0,.int .i64 a0_1,.int .i64 a0_2,(.slice A0_3 l0_3.length c0_3),.int .u64 a0_4,.int .u64 a0_5,(.slice A0_6 l0_6.length c0_6)] 28 (0,0))) ∧ Aside0 (Below w.heap.size w w'))
      case atStart => exact ⟨(0),(by first|rfl|(simp;done)|(simp [*];done)),H',⟨Nat.le_refl _⟩,⟨by (with_reducible repeat (first|apply Kd.N_alloc|apply Kd.N_drewN|apply Kd.N_drew));exact Kd.N_mono HO453.out (fun _ hk => ⟨hk.2,hk.1.2.2.2⟩)⟩,⟨by (with_reducible repeat (first|apply Kd.N_alloc|apply Kd.N_drewN|apply Kd.N_drew));exact Kd.N_mono HO456.out (fun _ hk => ⟨hk.2.2.2.1,hk.2.2.2.2⟩)⟩,⟨kx BK432⟩,⟨bg HB GE432⟩⟩
      case round =>
       as_aux_lemma =>
        clear H'
        try clear c1
        try clear c2
        try clear p2
        try clear c3
        try clear c5
        try clear c5b0
        try clear c5b1
        try clear c8
        try clear c12
        try clear c17
        try clear c17b0
        try clear c17b1
        try clear c17b2
        try clear c18
        try clear c18b0
        try clear c18b1
        try clear c18b2
        try clear c24
        try clear c25
        try clear c28
        try clear hcz11_0
        try clear hcz11_1
        try clear hcz11_2
        try clear hcz11_3
        try clear hcz11_4
        try clear hcz11_5
        try clear hcz11_6
        try clear hcz9_0
        try clear hcz9_1
        try clear hcz9_2
        try clear hcz9_3
        try clear hcz9_4
        try clear hcz9_5
        try clear hcz9_6
        try clear hfz11_0
        try clear hfz11_1
        try clear hfz11_2
        try clear hfz11_3
        try clear hfz11_4
        try clear hfz11_5
        try clear hfz11_6
        try clear hfz9_0
        try clear hfz9_1
        try clear hfz9_2
        try clear hfz9_3
        try clear hfz9_4
        try clear hfz9_5
        try clear hfz9_6
        try clear p2
        obtain ⟨x10_2,rfl,HA,HK2,HO_8,HO_9,BK432,HB⟩ := hrel
        cases gk with
        | zero => exact absurd HA.out (by simp [privitylaw43_TapeshiftTriplePrivacy.l0])
        | succ k2 =>
         have H := HA.out
         clear HA
         simp only [privitylaw43_TapeshiftTriplePrivacy.l0] at H
         by_cases c36 : x10_2 < (t451.length : Int)
         ·rw [if_pos c36] at H
          have c36b0 : decide (x10_2 < (t451.length : Int)) = true := decide_eq_true c36
          clear c36
          have H' := am H
          clear H
          obtain ⟨Ao37,co37,eo37⟩ := Kd.N_slice HO_8.out
          subst eo37
          go_wp2
          go_loopg [11] k2 (fun kq v11 w' => ∃ (x11_3 : Int),v11 = .int .i64 x11_3 ∧ Aside0 (privitylaw43_TapeshiftTriplePrivacy.l1 kq a0_0 t451 t454 x10_2 x11_3 a0_0 a0_1 a0_2 l0_3 a0_4 a0_5 l0_6 = some r) ∧ Aside0 (kq ≤ k2) ∧ Aside0 (Kd.N (Kd.slice 26 (Kd.slice 22 (Kd.int .u64))) 34 w' w.heap.size (fun k_ => some k_ ≠ (v455 : Value).ownBlock ∧ k_ ≠ gb432) (.slice Ao37 t451.length co37) t451) ∧ Aside0 (Kd.N (Kd.slice 26 (Kd.slice 22 (Kd.int .u64))) 34 w' w.heap.size (fun k_ => some k_ ≠ ((.slice Ao37 t451.length co37) : Value).ownBlock ∧ k_ ≠ gb432) v455 t454) ∧ Aside0 (w'.heap[gb432]? = some (.cells #[.int .u64 a0_0,.int .i64 a0_1,.int .i64 a0_2,(.slice A0_3 l0_3.length c0_3),.int .u64 a0_4,.int .u64 a0_5,(.slice A0_6 l0_6.length c0_6)] 28 (0,0))) ∧ Aside0 (Below w.heap.size w w'))
          case atStart => exact ⟨(0),(by first|rfl|(simp;done)|(simp [*];done)),H',⟨Nat.le_refl _⟩,⟨by (with_reducible repeat (first|apply Kd.N_alloc|apply Kd.N_drewN|apply Kd.N_drew));exact HO_8.out⟩,⟨by (with_reducible repeat (first|apply Kd.N_alloc|apply Kd.N_drewN|apply Kd.N_drew));exact HO_9.out⟩,⟨kx BK432⟩,⟨bg HB GE432⟩⟩
          case round =>
           as_aux_lemma =>
            clear H'
            try clear c1
            try clear c2
            try clear p2
            try clear c3
            try clear c5
            try clear c5b0
            try clear c5b1
            try clear c8
            try clear c12
            try clear c17
            try clear c17b0
            try clear c17b1
            try clear c17b2
            try clear c18
            try clear c18b0
            try clear c18b1
            try clear c18b2
            try clear c24
            try clear c25
            try clear c28
            try clear c36
            try clear c36b0
            try clear hcz11_0
            try clear hcz11_1
            try clear hcz11_2
            try clear hcz11_3
            try clear hcz11_4
            try clear hcz11_5
            try clear hcz11_6
            try clear hcz9_0
            try clear hcz9_1
            try clear hcz9_2
            try clear hcz9_3
            try clear hcz9_4
            try clear hcz9_5
            try clear hcz9_6
            try clear hfz11_0
            try clear hfz11_1
            try clear hfz11_2
            try clear hfz11_3
            try clear hfz11_4
            try clear hfz11_5
            try clear hfz11_6
            try clear hfz9_0
            try clear hfz9_1
            try clear hfz9_2
            try clear hfz9_3
            try clear hfz9_4
            try clear hfz9_5
            try clear hfz9_6
            try clear p2
            obtain ⟨x11_3,rfl,HA,HK3,HO_8,HO_9,BK432,HB⟩ := hrel
            cases gk with
            | zero => exact absurd HA.out (by simp [privitylaw43_TapeshiftTriplePrivacy.l1])
            | succ k3 =>
             have H := HA.out
             clear HA
             simp only [privitylaw43_TapeshiftTriplePrivacy.l1] at H
             by_cases c38 : x11_3 < (l0_3.length : Int)
             ·rw [if_pos c38] at H
              have c38b0 : decide (x11_3 < (l0_3.length : Int)) = true := decide_eq_true c38
              clear c38
              by_cases c39 : 0 ≤ x10_2
              ·rw [if_pos c39] at H
               have c39b0 : decide (0 ≤ x10_2) = true := decide_eq_true c39
               clear c39
               by_cases c40 : x10_2 < (t451.length : Int)
               ·rw [if_pos c40] at H
                have c40b0 : decide (x10_2 < (t451.length : Int)) = true := decide_eq_true c40
                clear c40
                by_cases c41 : 0 ≤ x11_3
                ·rw [if_pos c41] at H
                 have c41b0 : decide (0 ≤ x11_3) = true := decide_eq_true c41
                 clear c41
                 replace H := Option.bind_eq_some_iff.mp H
                 obtain ⟨t459,A420,H⟩ := H
                 try dsimp only at H
                 have A42 := am A420
                 clear A420
                 by_cases c43 : x10_2 < (t454.length : Int)
                 ·rw [if_pos c43] at H
                  have c43b0 : decide (x10_2 < (t454.length : Int)) = true := decide_eq_true c43
                  clear c43
                  replace H := Option.bind_eq_some_iff.mp H
                  obtain ⟨t464,A440,H⟩ := H
                  try dsimp only at H
                  have A44 := am A440
                  clear A440
                  replace H := Option.bind_eq_some_iff.mp H
                  obtain ⟨t467,A450,H⟩ := H
                  try dsimp only at H
                  have A45 := am A450
                  clear A450
                  by_cases c46 : t467 = true
                  ·subst c46
                   rw [if_pos rfl] at H
                   have H' := am H
                   clear H
                   have hcz47_0 := bc BK432 0
                   have hcz47_1 := bc BK432 1
                   have hcz47_2 := bc BK432 2
                   have hcz47_3 := bc BK432 3
                   have hcz47_4 := bc BK432 4
                   have hcz47_5 := bc BK432 5
                   have hcz47_6 := bc BK432 6
                   have hfz47_0 := bf BK432 0
                   have hfz47_1 := bf BK432 1
                   have hfz47_2 := bf BK432 2
                   have hfz47_3 := bf BK432 3
                   have hfz47_4 := bf BK432 4
                   have hfz47_5 := bf BK432 5
                   have hfz47_6 := bf BK432 6
                   try go_wp2
                   have n0_ := am (Kd.N_drew HO_8.out)
                   have n1_ := am (Kd.N_drew HO_9.out)
                   have n2_ := am (blk_drew BK432.out)
                   have n3_ := am (below_drew1 HB.out)
                   clear HO_8
                   clear HO_9
                   clear BK432
                   clear HB
                   have HO_8 := n0_
                   have HO_9 := n1_
                   have BK432 := n2_
                   have HB := n3_
                   clear n0_ n1_ n2_ n3_
                   have p457 : 0 ≤ (x10_2 : Int) := od
                   have q457 : x10_2 < (t451.length : Int) := od
                   obtain ⟨ad457,A457_0,c457_0,e457,hx457_0,hl457_0,hi457_0⟩ := at_L7 (Kd.N_reads' HO_8.out).2.2 x10_2 p457 q457
                   cases e457
                   obtain ⟨ce457,hce457,hMe457,hcc457⟩ := Kd.N_get HO_8.out [] x10_2 p457 (by first|exact q457|exact od|(have e_ := (Kd.N_reads' HO_8.out).1;omega))
                   obtain ⟨ua457_0,uc457_0,rfl,ul457_0,ge457_0⟩ := Kd.FK_slice_open hMe457
                   have hv457_0 := hcc457 0 _ rfl
                   rw [Nat.add_zero,show ((Kd.slice 26 (Kd.slice 22 (Kd.int .u64)))).sz = 1 from rfl,Nat.mul_one] at hv457_0
                   replace hv457_0 := Option.some.inj (hv457_0.symm.trans hx457_0)
                   injection hv457_0 with hva_ hvn_ hvc_
                   rw [hva_] at ge457_0
                   rw [hvc_] at ul457_0
                   have HL457_0 := am (show Kd.V (Kd.slice 22 (Kd.int .u64)) 26 _ w.heap.size _ _ (rd_L7 t451 x10_2) from Kd.V_mk ul457_0 ge457_0)
                   clear hva_ hvn_ hvc_ ge457_0 ul457_0
                   clear hcc457 hce457
                   have HR457_0 := am hi457_0
                   have HC457_0 := am hl457_0
                   clear hi457_0 hl457_0
                   replace p457 := eq_true p457
                   replace q457 := eq_true q457
                   have p458 : 0 ≤ (x11_3 : Int) := od
                   have q458 : x11_3 < (l0_3.length : Int) := od
                   obtain ⟨ad458,e458,hx458_0⟩ := Kd.at_int HR0_3.out x11_3 p458 q458
                   have hw458_0 := hx458_0
                   cases e458
                   replace hx458_0 := (HB.out.cell (World.block_lt_of_cell? w _ hx458_0)).trans hx458_0
                   replace p458 := eq_true p458
                   replace q458 := eq_true q458
                   obtain ⟨Ao49,co49,eo49⟩ := Kd.N_slice HO_9.out
                   (first|subst eo49|(injection eo49 with f1_ f2_ f3_;have f4_ := f1_.symm;have f5_ := f3_.symm;clear f1_ f2_ f3_;subst f4_;subst f5_))
                   have p462 : 0 ≤ (x10_2 : Int) := od
                   have q462 : x10_2 < (t454.length : Int) := od
                   obtain ⟨ad462,A462_0,c462_0,e462,hx462_0,hl462_0,hi462_0⟩ := at_L7 (Kd.N_reads' HO_9.out).2.2 x10_2 p462 q462
                   cases e462
                   obtain ⟨ce462,hce462,hMe462,hcc462⟩ := Kd.N_get HO_9.out [] x10_2 p462 (by first|exact q462|exact od|(have e_ := (Kd.N_reads' HO_9.out).1;omega))
                   obtain ⟨ua462_0,uc462_0,rfl,ul462_0,ge462_0⟩ := Kd.FK_slice_open hMe462
                   have hv462_0 := hcc462 0 _ rfl
                   rw [Nat.add_zero,show ((Kd.slice 26 (Kd.slice 22 (Kd.int .u64)))).sz = 1 from rfl,Nat.mul_one] at hv462_0
                   replace hv462_0 := Option.some.inj (hv462_0.symm.trans hx462_0)
                   injection hv462_0 with hva_ hvn_ hvc_
                   rw [hva_] at ge462_0
                   rw [hvc_] at ul462_0
                   have HL462_0 := am (show Kd.V (Kd.slice 22 (Kd.int .u64)) 26 _ w.heap.size _ _ (rd_L7 t454 x10_2) from Kd.V_mk ul462_0 ge462_0)
                   clear hva_ hvn_ hvc_ ge462_0 ul462_0
                   clear hcc462 hce462
                   have HR462_0 := am hi462_0
                   have HC462_0 := am hl462_0
                   clear hi462_0 hl462_0
                   replace p462 := eq_true p462
                   replace q462 := eq_true q462
                   have p463 : 0 ≤ (x11_3 : Int) := od
                   have q463 : x11_3 < (l0_3.length : Int) := od
                   obtain ⟨ad463,e463,hx463_0⟩ := Kd.at_int HR0_3.out x11_3 p463 q463
                   have hw463_0 := hx463_0
                   obtain rfl : ad458 = ad463 := (by injection e463)
                   replace hx463_0 := (HB.out.cell (World.block_lt_of_cell? w _ hx463_0)).trans hx463_0
                   replace p463 := eq_true p463
                   replace q463 := eq_true q463
                   refine start_ (n := 26) (S := fun w' => w'.cell? ⟨gb432,0,none⟩ = some (.int .u64 a0_0) ∧ w'.cell? ⟨gb432,1,none⟩ = some (.int .i64 a0_1) ∧ w'.cell? ⟨gb432,2,none⟩ = some (.int .i64 a0_2) ∧ w'.cell? ⟨gb432,3,none⟩ = some (.slice (some ad458) l0_3.length c0_3) ∧ w'.cell? ⟨gb432,4,none⟩ = some (.int .u64 a0_4) ∧ w'.cell? ⟨gb432,5,none⟩ = some (.int .u64 a0_5) ∧ w'.cell? ⟨gb432,6,none⟩ = some (.slice A0_6 l0_6.length c0_6) ∧ w'.cell? (ad457.add (x10_2).toNat) = some (.slice A457_0 (rd_L7 t451 x10_2).length c457_0) ∧ w'.cell? (ad458.add (x11_3).toNat) = some (.int .i64 (rd l0_3 x11_3)) ∧ w'.cell? (ad462.add (x10_2).toNat) = some (.slice A462_0 (rd_L7 t454 x10_2).length c462_0) ∧ w'.cell? (ad458.add (x11_3).toNat) = some (.int .i64 (rd l0_3 x11_3))) (ds := []) (bz 26 0) (by kernel_rfl) rfl rfl ⟨(blk_cell BK432.out 0).trans rfl,(blk_cell BK432.out 1).trans rfl,(blk_cell BK432.out 2).trans rfl,(blk_cell BK432.out 3).trans rfl,(blk_cell BK432.out 4).trans rfl,(blk_cell BK432.out 5).trans rfl,(blk_cell BK432.out 6).trans rfl,hx457_0,((HB.out.cell (World.block_lt_of_cell? w _ hw458_0)).trans hw458_0),hx462_0,((HB.out.cell (World.block_lt_of_cell? w _ hw463_0)).trans hw463_0)⟩ (fun hHeld => ?_);refine with_tabW privitylaw43_TapeshiftTriplePrivacy.tab15 privitylaw43_TapeshiftTriplePrivacy.bits15 (fun HT_ HW_ => ?_)
                   generalize wr.drew = w48 at HO_8 HO_9 BK432 HB HL457_0 HL462_0 HR457_0 HR462_0 hx457_0 hx458_0 hx462_0 hx463_0 hHeld ⊢
                   refine pk 0 91 (bz 26 1) HT_ ?_
                   refine pk 1 92 (bz 26 3) HT_ ?_
                   refine pk 2 93 (bz 26 7) HT_ ?_
                   refine pk 3 94 (bz 26 15) HT_ ?_
                   refine pk 5 96 (bz 26 47) HT_ ?_
                   refine pk 7 98 (bz 26 175) HT_ ?_
                   refine pk 12 103 (bz 26 4271) HT_ ?_
                   refine pk 13 104 (bz 26 12463) HT_ ?_
                   refine pk 14 105 (bz 26 28847) HT_ ?_
                   refine pk 15 106 (bz 26 61615) HT_ ?_
                   refine pk 17 108 (bz 26 192687) HT_ ?_
                   refine pk 19 110 (bz 26 716975) HT_ ?_
                   refine tk 4 95 (bz 26 716991) HT_ HW_ hHeld ?_
                   refine tk 6 97 (bz 26 717055) HT_ HW_ hHeld ?_
                   refine pk 8 99 (bz 26 717311) HT_ ?_
                   refine tk 9 100 (bz 26 717823) HT_ HW_ hHeld ?_
                   refine pk 10 101 (bz 26 718847) HT_ ?_
                   refine tk 16 107 (bz 26 784383) HT_ HW_ hHeld ?_
                   refine tk 18 109 (bz 26 1046527) HT_ HW_ hHeld ?_
                   refine pk 20 111 (bz 26 2095103) HT_ ?_
                   refine tk 21 112 (bz 26 4192255) HT_ HW_ hHeld ?_
                   refine pk 22 113 (bz 26 8386559) HT_ ?_
                   refine on 11 102 (bz 26 8388607) HT_ (fun K hK => ?_)
                   refine goes_ Try.func19 (by kernel_rfl) rfl #[.int .u64 a0_0,.slice A457_0 (rd_L7 t451 x10_2).length c457_0,.int .u64 (IntKind.u64.wrap (rd l0_3 x11_3))] (by rfl) rfl rfl (by (try simp only [List.map_toArray,List.map_cons,List.map_nil]);first|done|rfl|(simp only [List.length_drop,List.length_take];rfl)) ?_
                   with_reducible refine (privityref10_Row.calls k3 a0_0 _ _ (rd_L7 t451 x10_2) (IntKind.u64.wrap (rd l0_3 x11_3)) t459 _ ?side1 ?side2 A42.out).mono ?_
                   (case side1 => repeat (first|exact (cx HR457_0)|(with_reducible refine Kd.C_alloc ?_ _)|(with_reducible refine Kd.C_drewN ?_ _)|(with_reducible refine Kd.C_drew ?_)))
                   (case side2 => exact HC457_0.out)
                   rintro e w50 ⟨v460,rfl,ho0,hb⟩
                   have HS7_ := (hb.cell (World.block_lt_of_cell? _ _ (hHeld.2.2.2.2.2.2.2.1))).trans (hHeld.2.2.2.2.2.2.2.1)
                   have HS9_ := (hb.cell (World.block_lt_of_cell? _ _ (hHeld.2.2.2.2.2.2.2.2.2.1))).trans (hHeld.2.2.2.2.2.2.2.2.2.1)
                   refine ⟨_,rfl,?_⟩
                   have n0_ := am (Kd.N_elder' (rn HO_8) (Kd.R_base ho0) hb)
                   have n1_ := am (Kd.N_elder' (rn HO_9) (Kd.R_base ho0) hb)
                   have n2_ := am (Kd.V_elder' (rv HL457_0) (Kd.R_base ho0) hb)
                   have n3_ := am (Kd.V_elder' (rv HL462_0) (Kd.R_base ho0) hb)
                   have n4_ := am (Kd.R_lower ho0 (below_size (bg HB GE432)))
                   have n5_ := am (kb BK432 hb)
                   have n6_ := am (Kd.C_below (cx HR457_0) hb)
                   have n7_ := am (Kd.C_below (cx HR462_0) hb)
                   have n8_ := am (below_step (bg HB GE432) hb)
                   clear HO_8
                   clear HO_9
                   clear HL457_0
                   clear HL462_0
                   clear BK432
                   clear HR457_0
                   clear HR462_0
                   clear HB
                   have HO_8 := n0_
                   have HO_9 := n1_
                   have HL457_0 := n2_
                   have HL462_0 := n3_
                   have HO461 := n4_
                   have BK432 := n5_
                   have HR457_0 := n6_
                   have HR462_0 := n7_
                   have HB := n8_
                   clear n0_ n1_ n2_ n3_ n4_ n5_ n6_ n7_ n8_
                   (try clear hb)
                   (try clear hb2)
                   (try clear hk)
                   (try clear hi)
                   (try clear ho0)
                   refine hK.out _ _ ⟨(blk_cell BK432.out 0).trans rfl,(blk_cell BK432.out 1).trans rfl,(blk_cell BK432.out 2).trans rfl,(blk_cell BK432.out 3).trans rfl,(blk_cell BK432.out 4).trans rfl,(blk_cell BK432.out 5).trans rfl,(blk_cell BK432.out 6).trans rfl,HS7_,((HB.out.cell (World.block_lt_of_cell? w _ hw458_0)).trans hw458_0),HS9_,((HB.out.cell (World.block_lt_of_cell? w _ hw463_0)).trans hw463_0)⟩ (fun hHeld => ?_)
                   clear hK K
                   refine nm 102 ?_
                   refine on 23 114 (bz 26 16777215) HT_ (fun K hK => ?_)
                   refine goes_ Try.func19 (by kernel_rfl) rfl #[.int .u64 a0_0,.slice A462_0 (rd_L7 t454 x10_2).length c462_0,.int .u64 (IntKind.u64.wrap (rd l0_3 x11_3))] (by rfl) rfl rfl (by (try simp only [List.map_toArray,List.map_cons,List.map_nil]);first|done|rfl|(simp only [List.length_drop,List.length_take];rfl)) ?_
                   with_reducible refine (privityref10_Row.calls k3 a0_0 _ _ (rd_L7 t454 x10_2) (IntKind.u64.wrap (rd l0_3 x11_3)) t464 _ ?side1 ?side2 A44.out).mono ?_
                   (case side1 => repeat (first|exact (cx HR462_0)|(with_reducible refine Kd.C_alloc ?_ _)|(with_reducible refine Kd.C_drewN ?_ _)|(with_reducible refine Kd.C_drew ?_)))
                   (case side2 => exact HC462_0.out)
                   rintro e w51 ⟨v465,rfl,ho0,hb⟩
                   have HS7_ := (hb.cell (World.block_lt_of_cell? _ _ (hHeld.2.2.2.2.2.2.2.1))).trans (hHeld.2.2.2.2.2.2.2.1)
                   have HS9_ := (hb.cell (World.block_lt_of_cell? _ _ (hHeld.2.2.2.2.2.2.2.2.2.1))).trans (hHeld.2.2.2.2.2.2.2.2.2.1)
                   refine ⟨_,rfl,?_⟩
                   have n0_ := am (Kd.N_elder' (rn HO_8) (Kd.R_base ho0) hb)
                   have n1_ := am (Kd.N_elder' (rn HO_9) (Kd.R_base ho0) hb)
                   have n2_ := am (Kd.V_elder' (rv HL457_0) (Kd.R_base ho0) hb)
                   have n3_ := am (Kd.V_elder' (rv HL462_0) (Kd.R_base ho0) hb)
                   have n4_ := am (Kd.R_elder' (rr HO461) (Kd.R_base ho0) hb)
                   have n5_ := am (Kd.R_lower (Kd.R_new' ho0 (Kd.R_lt (rr HO461))) (below_size (bg HB GE432)))
                   have n6_ := am (kb BK432 hb)
                   have n7_ := am (Kd.C_below (cx HR457_0) hb)
                   have n8_ := am (Kd.C_below (cx HR462_0) hb)
                   have n9_ := am (below_step (bg HB GE432) hb)
                   clear HO_8
                   clear HO_9
                   clear HL457_0
                   clear HL462_0
                   clear HO461
                   clear BK432
                   clear HR457_0
                   clear HR462_0
                   clear HB
                   have HO_8 := n0_
                   have HO_9 := n1_
                   have HL457_0 := n2_
                   have HL462_0 := n3_
                   have HO461 := n4_
                   have HO466 := n5_
                   have BK432 := n6_
                   have HR457_0 := n7_
                   have HR462_0 := n8_
                   have HB := n9_
                   clear n0_ n1_ n2_ n3_ n4_ n5_ n6_ n7_ n8_ n9_
                   (try clear hb)
                   (try clear hb2)
                   (try clear hk)
                   (try clear hi)
                   (try clear ho0)
                   obtain ⟨Ao52,co52,eo52⟩ := Kd.R_slice HO461.out
                   (first|subst eo52|(injection eo52 with f1_ f2_ f3_;have f4_ := f1_.symm;have f5_ := f3_.symm;clear f1_ f2_ f3_;subst f4_;subst f5_))
                   obtain ⟨Ao53,co53,eo53⟩ := Kd.R_slice HO466.out
                   (first|subst eo53|(injection eo53 with f1_ f2_ f3_;have f4_ := f1_.symm;have f5_ := f3_.symm;clear f1_ f2_ f3_;subst f4_;subst f5_))
                   refine hK.out _ _ ⟨(blk_cell BK432.out 0).trans rfl,(blk_cell BK432.out 1).trans rfl,(blk_cell BK432.out 2).trans rfl,(blk_cell BK432.out 3).trans rfl,(blk_cell BK432.out 4).trans rfl,(blk_cell BK432.out 5).trans rfl,(blk_cell BK432.out 6).trans rfl,HS7_,((HB.out.cell (World.block_lt_of_cell? w _ hw458_0)).trans hw458_0),HS9_,((HB.out.cell (World.block_lt_of_cell? w _ hw463_0)).trans hw463_0)⟩ (fun hHeld => ?_)
                   clear hK K
                   refine nm 114 ?_
                   refine on 24 115 (bz 26 33554431) HT_ (fun K hK => ?_)
                   refine goes_ Try.func18 (by kernel_rfl) rfl #[.slice Ao52 t459.length co52,.slice Ao53 t464.length co53] (by rfl) rfl rfl (by (try simp only [List.map_toArray,List.map_cons,List.map_nil]);first|done|rfl|(simp only [List.length_drop,List.length_take];rfl)) ?_
                   with_reducible refine (privityref14_Words.calls k3 _ _ t459 _ _ t464 true _ ?side1 ?side2 ?side3 ?side4 A45.out).mono ?_
                   (case side1 => exact cr HO461)
                   (case side2 => exact (Kd.R_reads' HO461.out).2.1)
                   (case side3 => exact cr HO466)
                   (case side4 => exact (Kd.R_reads' HO466.out).2.1)
                   rintro e w' ⟨rfl,⟨nd,rfl⟩⟩
                   refine ⟨_,rfl,?_⟩
                   refine hK.out _ _ ⟨(blk_cell BK432.out 0).trans rfl,(blk_cell BK432.out 1).trans rfl,(blk_cell BK432.out 2).trans rfl,(blk_cell BK432.out 3).trans rfl,(blk_cell BK432.out 4).trans rfl,(blk_cell BK432.out 5).trans rfl,(blk_cell BK432.out 6).trans rfl,hHeld.2.2.2.2.2.2.2.1,((HB.out.cell (World.block_lt_of_cell? w _ hw458_0)).trans hw458_0),hHeld.2.2.2.2.2.2.2.2.2.1,((HB.out.cell (World.block_lt_of_cell? w _ hw463_0)).trans hw463_0)⟩ (fun hHeld => ?_)
                   clear hK K
                   refine nm 115 ?_
                   refine pk 25 116 (bz 26 67108863) HT_ ?_
                   refine done_ (done_of HT_.out (by kernel_rfl)) ?_
                   try go_wp2
                   go_roundg k3
                   case measure => have := HJ6.out;have := HK2.out;have := HK3.out;omega
                   case rel => exact ⟨(wrap64 (x11_3 + 1)),(by first|rfl|(simp;done)|(simp [*];done)),H',⟨by have := HJ6.out;have := HK2.out;have := HK3.out;omega⟩,⟨by (with_reducible repeat (first|apply Kd.N_alloc|apply Kd.N_drewN|apply Kd.N_drew));exact Kd.N_mono HO_8.out (fun _ hk => ⟨hk.1.1.1,hk.1.1.2⟩)⟩,⟨by (with_reducible repeat (first|apply Kd.N_alloc|apply Kd.N_drewN|apply Kd.N_drew));exact Kd.N_mono HO_9.out (fun _ hk => ⟨hk.1.1.1,hk.1.1.2⟩)⟩,⟨kx BK432⟩,⟨bg HB GE432⟩⟩
                  ·replace c46 := Bool.eq_false_iff.mpr c46
                   subst c46
                   rw [if_neg (show ¬ (false = true) by decide)] at H
                   exact absurd (Option.some.inj H) (by rw [HRT_.out];simp)
                 ·rw [if_neg c43] at H
                  exact absurd H (by simp)
                ·rw [if_neg c41] at H
                 exact absurd H (by simp)
               ·rw [if_neg c40] at H
                exact absurd H (by simp)
              ·rw [if_neg c39] at H
               exact absurd H (by simp)
             ·rw [if_neg c38] at H
              have c38b0 : decide (x11_3 < (l0_3.length : Int)) = false := decide_eq_false c38
              clear c38
              have H' := am H
              clear H
              have hcz61_0 := bc BK432 0
              have hcz61_1 := bc BK432 1
              have hcz61_2 := bc BK432 2
              have hcz61_3 := bc BK432 3
              have hcz61_4 := bc BK432 4
              have hcz61_5 := bc BK432 5
              have hcz61_6 := bc BK432 6
              have hfz61_0 := bf BK432 0
              have hfz61_1 := bf BK432 1
              have hfz61_2 := bf BK432 2
              have hfz61_3 := bf BK432 3
              have hfz61_4 := bf BK432 4
              have hfz61_5 := bf BK432 5
              have hfz61_6 := bf BK432 6
              go_wp2
              go_roundg k3
              case measure => have := HJ6.out;have := HK2.out;have := HK3.out;omega
              case rel => exact ⟨(wrap64 (x10_2 + 1)),(by first|rfl|(simp;done)|(simp [*];done)),H',⟨by have := HJ6.out;have := HK2.out;have := HK3.out;omega⟩,⟨by (with_reducible repeat (first|apply Kd.N_alloc|apply Kd.N_drewN|apply Kd.N_drew));exact HO_8.out⟩,⟨by (with_reducible repeat (first|apply Kd.N_alloc|apply Kd.N_drewN|apply Kd.N_drew));exact HO_9.out⟩,⟨kx BK432⟩,⟨bg HB GE432⟩⟩
         ·rw [if_neg c36] at H
          have c36b0 : decide (x10_2 < (t451.length : Int)) = false := decide_eq_false c36
          clear c36
          have H' := am H
          clear H
          obtain ⟨Ao62,co62,eo62⟩ := Kd.N_slice HO_8.out
          subst eo62
          obtain ⟨Ao63,co63,eo63⟩ := Kd.N_slice HO_9.out
          subst eo63
          go_wp2
          go_loopg [13] k2 (fun kq v13 w' => ∃ (x13_3 : Int),v13 = .int .i64 x13_3 ∧ Aside0 (privitylaw43_TapeshiftTriplePrivacy.l2 kq a0_0 t451 t454 (wrap64 ((t454.length : Int) - 1)) x13_3 a0_0 a0_1 a0_2 l0_3 a0_4 a0_5 l0_6 = some r) ∧ Aside0 (kq ≤ k2) ∧ Aside0 (Kd.N (Kd.slice 26 (Kd.slice 22 (Kd.int .u64))) 34 w' w.heap.size (fun k_ => some k_ ≠ ((.slice Ao63 t454.length co63) : Value).ownBlock ∧ k_ ≠ gb432) (.slice Ao62 t451.length co62) t451) ∧ Aside0 (Kd.N (Kd.slice 26 (Kd.slice 22 (Kd.int .u64))) 34 w' w.heap.size (fun k_ => some k_ ≠ ((.slice Ao62 t451.length co62) : Value).ownBlock ∧ k_ ≠ gb432) (.slice Ao63 t454.length co63) t454) ∧ Aside0 (w'.heap[gb432]? = some (.cells #[.int .u64 a0_0,.int .i64 a0_1,.int .i64 a0_2,(.slice A0_3 l0_3.length c0_3),.int .u64 a0_4,.int .u64 a0_5,(.slice A0_6 l0_6.length c0_6)] 28 (0,0))) ∧ Aside0 (Below w.heap.size w w'))
          case atStart => exact ⟨(1),(by first|rfl|(simp;done)|(simp [*];done)),H',⟨Nat.le_refl _⟩,⟨by (with_reducible repeat (first|apply Kd.N_alloc|apply Kd.N_drewN|apply Kd.N_drew));exact HO_8.out⟩,⟨by (with_reducible repeat (first|apply Kd.N_alloc|apply Kd.N_drewN|apply Kd.N_drew));exact HO_9.out⟩,⟨kx BK432⟩,⟨bg HB GE432⟩⟩
          case round =>
           as_aux_lemma =>
            clear H'
            try clear c1
            try clear p2
            try clear c3
            try clear c4
            try clear p4
            try clear q4
            try clear hx4
            try clear p6
            try clear c18
            try clear c19
            try clear c36
            try clear c36b0
            try clear c38
            try clear c38b0
            try clear c39
            try clear c40
            try clear c41
            try clear c43
            try clear c45
            try clear p45
            try clear q45
            try clear hx45
            try clear c46
            try clear p46
            try clear q46
            try clear hx46
            try clear hcz54_0
            try clear hcz54_1
            try clear hcz54_2
            try clear hcz54_3
            try clear hcz54_4
            try clear hcz54_5
            try clear hcz54_6
            try clear hcz61_0
            try clear hcz61_1
            try clear hcz61_2
            try clear hcz61_3
            try clear hcz61_4
            try clear hcz61_5
            try clear hcz61_6
            try clear hfz54_0
            try clear hfz54_1
            try clear hfz54_2
            try clear hfz54_3
            try clear hfz54_4
            try clear hfz54_5
            try clear hfz54_6
            try clear hfz61_0
            try clear hfz61_1
            try clear hfz61_2
            try clear hfz61_3
            try clear hfz61_4
            try clear hfz61_5
            try clear hfz61_6
            try clear hx457_0
            try clear hx458_0
            try clear hx462_0
            try clear hx463_0
            try clear p457
            try clear p458
            try clear p462
            try clear p463
            try clear q457
            try clear q458
            try clear q462
            try clear q463
            obtain ⟨x13_3,rfl,HA,HK3,HO_8,HO_9,BK432,HB⟩ := hrel
            cases gk with
            | zero => exact absurd HA.out (by simp [privitylaw43_TapeshiftTriplePrivacy.l2])
            | succ k3 =>
             have H := HA.out
             clear HA
             simp only [privitylaw43_TapeshiftTriplePrivacy.l2] at H
             by_cases c64 : x13_3 ≤ a0_1
             ·rw [if_pos c64] at H
              have c64b0 : decide (x13_3 ≤ a0_1) = true := decide_eq_true c64
              clear c64
              have H' := am H
              clear H
              have hcz65_0 := bc BK432 0
              have hcz65_1 := bc BK432 1
              have hcz65_2 := bc BK432 2
              have hcz65_3 := bc BK432 3
              have hcz65_4 := bc BK432 4
              have hcz65_5 := bc BK432 5
              have hcz65_6 := bc BK432 6
              have hfz65_0 := bf BK432 0
              have hfz65_1 := bf BK432 1
              have hfz65_2 := bf BK432 2
              have hfz65_3 := bf BK432 3
              have hfz65_4 := bf BK432 4
              have hfz65_5 := bf BK432 5
              have hfz65_6 := bf BK432 6
              go_wp2
              go_loopg [14,15] k3 (fun kq v14 v15 w' => ∃ (x14_4 : List Int) (x15_4 : Int),v15 = .int .i64 x15_4 ∧ Aside0 (privitylaw43_TapeshiftTriplePrivacy.l3 kq a0_0 t451 t454 (wrap64 ((t454.length : Int) - 1)) x13_3 x14_4 x15_4 a0_0 a0_1 a0_2 l0_3 a0_4 a0_5 l0_6 = some r) ∧ Aside0 (kq ≤ k3) ∧ Aside0 (Kd.N (Kd.slice 26 (Kd.slice 22 (Kd.int .u64))) 34 w' w.heap.size (fun k_ => some k_ ≠ ((.slice Ao63 t454.length co63) : Value).ownBlock ∧ some k_ ≠ (v14 : Value).ownBlock ∧ k_ ≠ gb432) (.slice Ao62 t451.length co62) t451) ∧ Aside0 (Kd.N (Kd.slice 26 (Kd.slice 22 (Kd.int .u64))) 34 w' w.heap.size (fun k_ => some k_ ≠ ((.slice Ao62 t451.length co62) : Value).ownBlock ∧ some k_ ≠ (v14 : Value).ownBlock ∧ k_ ≠ gb432) (.slice Ao63 t454.length co63) t454) ∧ Aside0 (Kd.R (Kd.int .u64) 22 w' w.heap.size (fun _ => True) v14 x14_4) ∧ Aside0 (w'.heap[gb432]? = some (.cells #[.int .u64 a0_0,.int .i64 a0_1,.int .i64 a0_2,(.slice A0_3 l0_3.length c0_3),.int .u64 a0_4,.int .u64 a0_5,(.slice A0_6 l0_6.length c0_6)] 28 (0,0))) ∧ Aside0 (Below w.heap.size w w'))
              case atStart => exact ⟨(([] : List Int)),(2),(by first|rfl|(simp;done)|(simp [*];done)),H',⟨Nat.le_refl _⟩,⟨by (with_reducible repeat (first|apply Kd.N_alloc|apply Kd.N_drewN|apply Kd.N_drew));exact Kd.N_mono HO_8.out (fun _ hk => ⟨hk.1,⟨(by simp [Value.ownBlock]),hk.2⟩⟩)⟩,⟨by (with_reducible repeat (first|apply Kd.N_alloc|apply Kd.N_drewN|apply Kd.N_drew));exact Kd.N_mono HO_9.out (fun _ hk => ⟨hk.1,⟨(by simp [Value.ownBlock]),hk.2⟩⟩)⟩,⟨by first|exact Kd.R_nil _ _ _ _ _|exact Kd.N_nil _ _ _ _ _|exact Kd.V_nil _ _ _ _ _|exact Kd.Q_nil _ _ _ _ _|exact Kd.S_nil _ _ _ _ _⟩,⟨kx BK432⟩,⟨bg HB GE432⟩⟩
              case round =>
               as_aux_lemma =>
                clear H'
                try clear c1
                try clear p2
                try clear c3
                try clear c4
                try clear p4
                try clear q4
                try clear hx4
                try clear c6
                try clear p6
                try clear c18
                try clear c19
                try clear c36
                try clear c36b0
                try clear c38
                try clear c38b0
                try clear c39
                try clear c40
                try clear c41
                try clear c43
                try clear c45
                try clear p45
                try clear q45
                try clear hx45
                try clear c46
                try clear p46
                try clear q46
                try clear hx46
                try clear c64
                try clear c64b0
                try clear p64
                try clear hcz54_0
                try clear hcz54_1
                try clear hcz54_2
                try clear hcz54_3
                try clear hcz54_4
                try clear hcz54_5
                try clear hcz54_6
                try clear hcz61_0
                try clear hcz61_1
                try clear hcz61_2
                try clear hcz61_3
                try clear hcz61_4
                try clear hcz61_5
                try clear hcz61_6
                try clear hcz65_0
                try clear hcz65_1
                try clear hcz65_2
                try clear hcz65_3
                try clear hcz65_4
                try clear hcz65_5
                try clear hcz65_6
                try clear hfz54_0
                try clear hfz54_1
                try clear hfz54_2
                try clear hfz54_3
                try clear hfz54_4
                try clear hfz54_5
                try clear hfz54_6
                try clear hfz61_0
                try clear hfz61_1
                try clear hfz61_2
                try clear hfz61_3
                try clear hfz61_4
                try clear hfz61_5
                try clear hfz61_6
                try clear hfz65_0
                try clear hfz65_1
                try clear hfz65_2
                try clear hfz65_3
                try clear hfz65_4
                try clear hfz65_5
                try clear hfz65_6
                try clear hx457_0
                try clear hx458_0
                try clear hx462_0
                try clear hx463_0
                try clear p2
                try clear p4
                try clear p45
                try clear p457
                try clear p458
                try clear p46
                try clear p462
                try clear p463
                try clear p6
                try clear q4
                try clear q45
                try clear q457
                try clear q458
                try clear q46
                try clear q462
                try clear q463
                obtain ⟨x14_4,x15_4,rfl,HA,HK4,HO_8,HO_9,HO_14,BK432,HB⟩ := hrel
                cases gk with
                | zero => exact absurd HA.out (by simp [privitylaw43_TapeshiftTriplePrivacy.l3])
                | succ k4 =>
                 have H := HA.out
                 clear HA
                 simp only [privitylaw43_TapeshiftTriplePrivacy.l3] at H
                 by_cases c66 : x15_4 < (wrap64 ((t454.length : Int) - 1))
                 ·rw [if_pos c66] at H
                  have c66b0 : decide (x15_4 < (wrap64 ((t454.length : Int) - 1))) = true := decide_eq_true c66
                  clear c66
                  by_cases c67 : 0 ≤ x15_4
                  ·rw [if_pos c67] at H
                   have c67b0 : decide (0 ≤ x15_4) = true := decide_eq_true c67
                   clear c67
                   by_cases c68 : x15_4 < (t454.length : Int)
                   ·rw [if_pos c68] at H
                    have c68b0 : decide (x15_4 < (t454.length : Int)) = true := decide_eq_true c68
                    clear c68
                    replace H := Option.bind_eq_some_iff.mp H
                    obtain ⟨t469,A690,H⟩ := H
                    try dsimp only at H
                    have A69 := am A690
                    clear A690
                    by_cases c70 : x14_4.length < 17592186044416
                    ·rw [if_pos c70] at H
                     have LMc70 := am c70
                     clear c70
                     obtain ⟨y470,hy470⟩ : ∃ y_ : List Int,y_ = (x14_4 ++ [t469]) := ⟨_,rfl⟩
                     replace H : (privitylaw43_TapeshiftTriplePrivacy.l3 k4 a0_0 t451 t454 (wrap64 ((t454.length : Int) - 1)) x13_3 y470 (wrap64 (x15_4 + 1)) a0_0 a0_1 a0_2 l0_3 a0_4 a0_5 l0_6) = some r := by first|(rw [hy470];with_reducible exact H)|(have H2_ := (Option.bind_some _ _).symm.trans H;rw [hy470];with_reducible exact H2_)|(have H2_ := (Option.bind_some _ _).symm.trans H;with_reducible exact H2_)|with_reducible exact H|(rw [hy470];exact H)|exact H
                     have Ny470 := am hy470
                     clear hy470
                     have H' := am H
                     clear H
                     have p468 : 0 ≤ (x15_4 : Int) := od
                     have q468 : x15_4 < (t454.length : Int) := od
                     obtain ⟨ad468,A468_0,c468_0,e468,hx468_0,hl468_0,hi468_0⟩ := at_L7 (Kd.N_reads' HO_9.out).2.2 x15_4 p468 q468
                     cases e468
                     obtain ⟨ce468,hce468,hMe468,hcc468⟩ := Kd.N_get HO_9.out [] x15_4 p468 (by first|exact q468|exact od|(have e_ := (Kd.N_reads' HO_9.out).1;omega))
                     obtain ⟨ua468_0,uc468_0,rfl,ul468_0,ge468_0⟩ := Kd.FK_slice_open hMe468
                     have hv468_0 := hcc468 0 _ rfl
                     rw [Nat.add_zero,show ((Kd.slice 26 (Kd.slice 22 (Kd.int .u64)))).sz = 1 from rfl,Nat.mul_one] at hv468_0
                     replace hv468_0 := Option.some.inj (hv468_0.symm.trans hx468_0)
                     injection hv468_0 with hva_ hvn_ hvc_
                     rw [hva_] at ge468_0
                     rw [hvc_] at ul468_0
                     have HL468_0 := am (show Kd.V (Kd.slice 22 (Kd.int .u64)) 26 _ w.heap.size _ _ (rd_L7 t454 x15_4) from Kd.V_mk ul468_0 ge468_0)
                     clear hva_ hvn_ hvc_ ge468_0 ul468_0
                     clear hcc468 hce468
                     have HR468_0 := am hi468_0
                     have HC468_0 := am hl468_0
                     clear hi468_0 hl468_0
                     replace p468 := eq_true p468
                     replace q468 := eq_true q468
                     go_wp2_with (first|((with_reducible refine gate_callee (f := 29) rfl ?_);refine goesL_ (some 140) rfl rfl Try.func29 (by kernel_rfl) rfl #[.int .u64 a0_0,.slice A468_0 (rd_L7 t454 x15_4).length c468_0,.int .u64 (IntKind.u64.wrap (x13_3)),.int .u64 0] rfl (by (try simp only [List.map_toArray,List.map_cons,List.map_nil]);first|done|rfl|(simp only [List.length_drop,List.length_take];rfl)) ?_;(with_reducible refine (privityref10_Eval.calls k4 a0_0 _ _ (rd_L7 t454 x15_4) (IntKind.u64.wrap (x13_3)) 0 t469 _ ?side1 ?side2 A69.out).mono ?_);(case side1 => repeat (first|exact (cx HR468_0)|(with_reducible refine Kd.C_alloc ?_ _)|(with_reducible refine Kd.C_drewN ?_ _)|(with_reducible refine Kd.C_drew ?_)));(case side2 => exact HC468_0.out);rintro e w71 ⟨rfl,hb⟩;refine ⟨_,rfl,?_⟩;have n0_ := am (Kd.N_below (rn HO_8) hb);have n1_ := am (Kd.N_below (rn HO_9) hb);have n2_ := am (Kd.R_below (rr HO_14) hb);have n3_ := am (Kd.V_below (rv HL468_0) hb);have n4_ := am (kb BK432 hb);have n5_ := am (Kd.C_below (cx HR468_0) hb);have n6_ := am (below_step (bg HB GE432) hb);clear HO_8 HO_9 HO_14 HL468_0 BK432 HR468_0 HB;have HO_8 := n0_;have HO_9 := n1_;have HO_14 := n2_;have HL468_0 := n3_;have BK432 := n4_;have HR468_0 := n5_;have HB := n6_;clear n0_ n1_ n2_ n3_ n4_ n5_ n6_;(try clear hb);(try clear hb2);(try clear hk);(try clear hi))|((with_reducible refine gate_builtin (b := .append) (xs := #[.tmp 132,.tmp 141]) rfl ?_);(try (refine gate_guard (by rfl) ?_;dsimp only));at_builtin;refine Kd.R_append (Kd.int .u64) (w0 := w) w.heap.size rfl (.tmp 132) (.tmp 141) 26 22 (.int .u64 0) 8 rfl Try.underlying26 info22 rfl (by decide) (by omega) u14 x14_4 t469 [.int .u64 t469] (fun _ => True) (fun _ => False) rfl rfl ?aP (fun _ hk => hk.elim) ?aF ?aO ?aB ?aS ?aL ?_;(case aP => exact rfl);(case aB => exact (bg HB GE432));(case aF => exact (fun _ _ => trivial));(case aO => exact (rr HO_14));(case aS => exact (below_size (bg HB GE432)));(case aL => have := LMc70.out;omega);intro v471 w72 ho hb hg hat;rw [← Ny470.out] at ho;have n0_ := am (Kd.N_afterv (ok := (fun k_ => some k_ ≠ (.slice (some ad468) t454.length co63 : Value).ownBlock ∧ k_ ≠ gb432)) (by (with_reducible repeat (first|apply Kd.N_alloc|apply Kd.N_drewN|apply Kd.N_drew));exact Kd.N_mono HO_8.out (fun _ hk => ⟨⟨hk.1,hk.2.2⟩,hk.2.1⟩)) hg hat);have n1_ := am (Kd.N_afterv (ok := (fun k_ => some k_ ≠ (.slice Ao62 t451.length co62 : Value).ownBlock ∧ k_ ≠ gb432)) (by (with_reducible repeat (first|apply Kd.N_alloc|apply Kd.N_drewN|apply Kd.N_drew));exact Kd.N_mono HO_9.out (fun _ hk => ⟨⟨hk.1,hk.2.2⟩,hk.2.1⟩)) hg hat);have n2_ := am (blk_grown (g := gb432) (o := .cells #[.int .u64 a0_0,.int .i64 a0_1,.int .i64 a0_2,.slice A0_3 l0_3.length c0_3,.int .u64 a0_4,.int .u64 a0_5,.slice A0_6 l0_6.length c0_6] 28 (0,0)) (by (with_reducible repeat (first|refine blk_drewN ?_ _|refine blk_drew ?_|refine blk_alloc ?_ _));exact BK432.out) hg (Kd.R_ne HO_14.out BK432.out (by decide)));have n3_ := am (Kd.V_afterv (ok := (fun k_ => some k_ ≠ (.slice Ao62 t451.length co62 : Value).ownBlock ∧ some k_ ≠ (.slice (some ad468) t454.length co63 : Value).ownBlock ∧ k_ ≠ gb432)) (by (with_reducible repeat (first|apply Kd.V_alloc|apply Kd.V_drewN|apply Kd.V_drew));exact Kd.V_mono HL468_0.out (fun _ hk => ⟨⟨hk.1.1,⟨hk.2,hk.1.2.2⟩⟩,hk.1.2.1⟩)) hg hat);have n4_ := am (hb);have n5_ := am (ho);clear HO_8 HO_9 BK432 HL468_0 HB HO_14;have HO_8 := n0_;have HO_9 := n1_;have BK432 := n2_;have HL468_0 := n3_;have HB := n4_;have HO472 := n5_;clear n0_ n1_ n2_ n3_ n4_ n5_;clear ho hb hg hat))
                     go_roundg k4
                     case measure => have := HJ6.out;have := HK2.out;have := HK3.out;have := HK4.out;omega
                     case rel => exact ⟨(y470),(wrap64 (x15_4 + 1)),(by first|rfl|(simp;done)|(simp [*];done)),H',⟨by have := HJ6.out;have := HK2.out;have := HK3.out;have := HK4.out;omega⟩,⟨by (with_reducible repeat (first|apply Kd.N_alloc|apply Kd.N_drewN|apply Kd.N_drew));exact Kd.N_mono HO_8.out (fun _ hk => ⟨hk.1.1,⟨hk.2,hk.1.2⟩⟩)⟩,⟨by (with_reducible repeat (first|apply Kd.N_alloc|apply Kd.N_drewN|apply Kd.N_drew));exact Kd.N_mono HO_9.out (fun _ hk => ⟨hk.1.1,⟨hk.2,hk.1.2⟩⟩)⟩,⟨by (with_reducible repeat (first|apply Kd.R_alloc|apply Kd.R_drewN|apply Kd.R_drew));exact HO472.out⟩,⟨kx BK432⟩,⟨bg HB GE432⟩⟩
                    ·rw [if_neg c70] at H
                     exact absurd H (by simp)
                   ·rw [if_neg c68] at H
                    exact absurd H (by simp)
                  ·rw [if_neg c67] at H
                   exact absurd H (by simp)
                 ·rw [if_neg c66] at H
                  have c66b0 : decide (x15_4 < (wrap64 ((t454.length : Int) - 1))) = false := decide_eq_false c66
                  clear c66
                  by_cases c73 : 0 < (t454.length : Int)
                  ·rw [if_pos c73] at H
                   have c73b0 : decide (0 < (t454.length : Int)) = true := decide_eq_true c73
                   have c73b1 : decide (0 < t454.length) = true := decide_eq_true (by omega)
                   clear c73
                   replace H := Option.bind_eq_some_iff.mp H
                   obtain ⟨t474,A740,H⟩ := H
                   try dsimp only at H
                   have A74 := am A740
                   clear A740
                   by_cases c75 : 1 < (t454.length : Int)
                   ·rw [if_pos c75] at H
                    have c75b0 : decide (1 < (t454.length : Int)) = true := decide_eq_true c75
                    have c75b1 : decide (1 < t454.length) = true := decide_eq_true (by omega)
                    clear c75
                    replace H := Option.bind_eq_some_iff.mp H
                    obtain ⟨t476,A760,H⟩ := H
                    try dsimp only at H
                    have A76 := am A760
                    clear A760
                    obtain ⟨ji77,hji77⟩ : ∃ j_ : Int,(wrap64 ((t454.length : Int) - 1)) = j_ := ⟨_,rfl⟩
                    replace H : (if 0 ≤ (ji77) then (if (ji77) < (t454.length : Int) then ((privityref10_Eval.f k4 a0_0 (rd_L7 t454 (ji77)) (IntKind.u64.wrap (x13_3)) 0).bind fun t478 => ((privityref21_Verify.f k4 a0_0 (IntKind.u64.wrap (x13_3)) t474 t476 x14_4 t478).bind fun t479 => (if t479 = true then (privitylaw43_TapeshiftTriplePrivacy.l2 k4 a0_0 t451 t454 (ji77) (wrap64 (x13_3 + 1)) a0_0 a0_1 a0_2 l0_3 a0_4 a0_5 l0_6) else (some false)))) else (none)) else (none)) = some r := by first|(rw [hji77] at H;exact H)|(simp only [hji77] at H ⊢;exact H)
                    (try rw [hji77] at c66b0)
                    (try rw [hji77] at A74)
                    (try rw [hji77] at A76)
                    have hji77w : (IntKind.i64.wrap ((t454.length : Int) - 1)) = ji77 := (i64_w _).trans hji77
                    by_cases c78 : 0 ≤ (ji77)
                    ·rw [if_pos c78] at H
                     have c78b0 : decide (0 ≤ (ji77)) = true := decide_eq_true c78
                     clear c78
                     by_cases c79 : (ji77) < (t454.length : Int)
                     ·rw [if_pos c79] at H
                      have c79b0 : decide ((ji77) < (t454.length : Int)) = true := decide_eq_true c79
                      clear c79
                      replace H := Option.bind_eq_some_iff.mp H
                      obtain ⟨t478,A800,H⟩ := H
                      try dsimp only at H
                      have A80 := am A800
                      clear A800
                      replace H := Option.bind_eq_some_iff.mp H
                      obtain ⟨t479,A810,H⟩ := H
                      try dsimp only at H
                      have A81 := am A810
                      clear A810
                      by_cases c82 : t479 = true
                      ·subst c82
                       rw [if_pos rfl] at H
                       have H' := am H
                       clear H
                       try go_wp2
                       have n0_ := am (Kd.N_drew HO_8.out)
                       have n1_ := am (Kd.N_drew HO_9.out)
                       have n2_ := am (Kd.R_drew HO_14.out)
                       have n3_ := am (blk_drew BK432.out)
                       have n4_ := am (below_drew1 HB.out)
                       clear HO_8
                       clear HO_9
                       clear HO_14
                       clear BK432
                       clear HB
                       have HO_8 := n0_
                       have HO_9 := n1_
                       have HO_14 := n2_
                       have BK432 := n3_
                       have HB := n4_
                       clear n0_ n1_ n2_ n3_ n4_
                       have p473 : 0 ≤ (0 : Int) := (by omega)
                       have q473 : 0 < (t454.length : Int) := od
                       obtain ⟨ad473,A473_0,c473_0,e473,hx473_0,hl473_0,hi473_0⟩ := at_L7 (Kd.N_reads' HO_9.out).2.2 0 p473 q473
                       cases e473
                       obtain ⟨ce473,hce473,hMe473,hcc473⟩ := Kd.N_get HO_9.out [] 0 p473 (by first|exact q473|exact od|(have e_ := (Kd.N_reads' HO_9.out).1;omega))
                       obtain ⟨ua473_0,uc473_0,rfl,ul473_0,ge473_0⟩ := Kd.FK_slice_open hMe473
                       have hv473_0 := hcc473 0 _ rfl
                       rw [Nat.add_zero,show ((Kd.slice 26 (Kd.slice 22 (Kd.int .u64)))).sz = 1 from rfl,Nat.mul_one] at hv473_0
                       replace hv473_0 := Option.some.inj (hv473_0.symm.trans hx473_0)
                       injection hv473_0 with hva_ hvn_ hvc_
                       rw [hva_] at ge473_0
                       rw [hvc_] at ul473_0
                       have HL473_0 := am (show Kd.V (Kd.slice 22 (Kd.int .u64)) 26 _ w.heap.size _ _ (rd_L7 t454 0) from Kd.V_mk ul473_0 ge473_0)
                       clear hva_ hvn_ hvc_ ge473_0 ul473_0
                       clear hcc473 hce473
                       have qi473 : (0 < t454.length) = True := eq_true (by omega)
                       (try rw [show ((0 : Int)).toNat = 0 from rfl] at hx473_0)
                       (try rw [Addr.add_zero'] at hx473_0)
                       have HR473_0 := am hi473_0
                       have HC473_0 := am hl473_0
                       clear hi473_0 hl473_0
                       replace p473 := eq_true p473
                       replace q473 := eq_true q473
                       have p475 : 0 ≤ (1 : Int) := (by omega)
                       have q475 : 1 < (t454.length : Int) := od
                       obtain ⟨ad475,A475_0,c475_0,e475,hx475_0,hl475_0,hi475_0⟩ := at_L7 (Kd.N_reads' HO_9.out).2.2 1 p475 q475
                       obtain rfl : ad473 = ad475 := (by injection e475)
                       obtain ⟨ce475,hce475,hMe475,hcc475⟩ := Kd.N_get HO_9.out [] 1 p475 (by first|exact q475|exact od|(have e_ := (Kd.N_reads' HO_9.out).1;omega))
                       obtain ⟨ua475_0,uc475_0,rfl,ul475_0,ge475_0⟩ := Kd.FK_slice_open hMe475
                       have hv475_0 := hcc475 0 _ rfl
                       rw [Nat.add_zero,show ((Kd.slice 26 (Kd.slice 22 (Kd.int .u64)))).sz = 1 from rfl,Nat.mul_one] at hv475_0
                       replace hv475_0 := Option.some.inj (hv475_0.symm.trans hx475_0)
                       injection hv475_0 with hva_ hvn_ hvc_
                       rw [hva_] at ge475_0
                       rw [hvc_] at ul475_0
                       have HL475_0 := am (show Kd.V (Kd.slice 22 (Kd.int .u64)) 26 _ w.heap.size _ _ (rd_L7 t454 1) from Kd.V_mk ul475_0 ge475_0)
                       clear hva_ hvn_ hvc_ ge475_0 ul475_0
                       clear hcc475 hce475
                       (try simp only [show (1 : Int).toNat = 1 from rfl,Nat.reduceMul,Nat.reduceEqDiff,Go.Addr.add,↓reduceIte] at hx475_0)
                       have qi475 : (1 < t454.length) = True := eq_true (by omega)
                       (try rw [show ((1 : Int)).toNat = 1 from rfl] at hx475_0)
                       have HR475_0 := am hi475_0
                       have HC475_0 := am hl475_0
                       clear hi475_0 hl475_0
                       replace p475 := eq_true p475
                       replace q475 := eq_true q475
                       have p477 : 0 ≤ ((ji77) : Int) := od
                       have q477 : (ji77) < (t454.length : Int) := od
                       obtain ⟨ad477,A477_0,c477_0,e477,hx477_0,hl477_0,hi477_0⟩ := at_L7 (Kd.N_reads' HO_9.out).2.2 (ji77) p477 q477
                       obtain rfl : ad473 = ad477 := (by injection e477)
                       obtain ⟨ce477,hce477,hMe477,hcc477⟩ := Kd.N_get HO_9.out [] (ji77) p477 (by first|exact q477|exact od|(have e_ := (Kd.N_reads' HO_9.out).1;omega))
                       obtain ⟨ua477_0,uc477_0,rfl,ul477_0,ge477_0⟩ := Kd.FK_slice_open hMe477
                       have hv477_0 := hcc477 0 _ rfl
                       rw [Nat.add_zero,show ((Kd.slice 26 (Kd.slice 22 (Kd.int .u64)))).sz = 1 from rfl,Nat.mul_one] at hv477_0
                       replace hv477_0 := Option.some.inj (hv477_0.symm.trans hx477_0)
                       injection hv477_0 with hva_ hvn_ hvc_
                       rw [hva_] at ge477_0
                       rw [hvc_] at ul477_0
                       have HL477_0 := am (show Kd.V (Kd.slice 22 (Kd.int .u64)) 26 _ w.heap.size _ _ (rd_L7 t454 (ji77)) from Kd.V_mk ul477_0 ge477_0)
                       clear hva_ hvn_ hvc_ ge477_0 ul477_0
                       clear hcc477 hce477
                       have HR477_0 := am hi477_0
                       have HC477_0 := am hl477_0
                       clear hi477_0 hl477_0
                       replace p477 := eq_true p477
                       replace q477 := eq_true q477
                       refine start_ (n := 28) (S := fun w' => w'.cell? ad473 = some (.slice A473_0 (rd_L7 t454 0).length c473_0) ∧ w'.cell? ⟨ad473.block,ad473.off + 1,none⟩ = some (.slice A475_0 (rd_L7 t454 1).length c475_0) ∧ w'.cell? (ad473.add ((ji77)).toNat) = some (.slice A477_0 (rd_L7 t454 (ji77)).length c477_0)) (ds := []) (bz 28 0) (by kernel_rfl) rfl rfl ⟨hx473_0,hx475_0,hx477_0⟩ (fun hHeld => ?_);refine with_tabW privitylaw43_TapeshiftTriplePrivacy.tab26 privitylaw43_TapeshiftTriplePrivacy.bits26 (fun HT_ HW_ => ?_)
                       generalize wr.drew = w83 at HO_8 HO_9 HO_14 BK432 HB HL473_0 HL475_0 HL477_0 HR473_0 HR475_0 HR477_0 hx473_0 hx475_0 hx477_0 hHeld ⊢
                       refine pk 0 143 (bz 28 1) HT_ ?_
                       refine pk 1 144 (bz 28 3) HT_ ?_
                       refine pk 2 145 (bz 28 7) HT_ ?_
                       refine pk 3 146 (bz 28 15) HT_ ?_
                       refine pk 4 147 (bz 28 31) HT_ ?_
                       refine pk 5 148 (bz 28 63) HT_ ?_
                       refine pk 7 150 (bz 28 191) HT_ ?_
                       refine pk 8 151 (bz 28 447) HT_ ?_
                       refine pk 10 153 (bz 28 1471) HT_ ?_
                       refine pk 11 154 (bz 28 3519) HT_ ?_
                       refine pk 12 155 (bz 28 7615) HT_ ?_
                       refine pk 14 157 (bz 28 23999) HT_ ?_
                       refine pk 15 158 (bz 28 56767) HT_ ?_
                       refine pk 17 160 (bz 28 187839) HT_ ?_
                       refine pk 18 161 (bz 28 449983) HT_ ?_
                       refine pk 19 162 (bz 28 974271) HT_ ?_
                       refine pk 20 163 (bz 28 2022847) HT_ ?_
                       refine pk 21 164 (bz 28 4119999) HT_ ?_
                       refine pk 23 166 (bz 28 12508607) HT_ ?_
                       refine pk 24 167 (bz 28 29285823) HT_ ?_
                       refine tk 6 149 (bz 28 29285887) HT_ HW_ hHeld ?_
                       refine tk 13 156 (bz 28 29294079) HT_ HW_ hHeld ?_
                       refine tk 22 165 (bz 28 33488383) HT_ HW_ hHeld ?_
                       refine on 9 152 (bz 28 33488895) HT_ (fun K hK => ?_)
                       refine goes_ Try.func29 (by kernel_rfl) rfl #[.int .u64 a0_0,.slice A473_0 (rd_L7 t454 0).length c473_0,.int .u64 (IntKind.u64.wrap (x13_3)),.int .u64 0] (by rfl) rfl rfl (by (try simp only [List.map_toArray,List.map_cons,List.map_nil]);first|done|rfl|(simp only [List.length_drop,List.length_take];rfl)) ?_
                       with_reducible refine (privityref10_Eval.calls k4 a0_0 _ _ (rd_L7 t454 0) (IntKind.u64.wrap (x13_3)) 0 t474 _ ?side1 ?side2 A74.out).mono ?_
                       (case side1 => repeat (first|exact (cx HR473_0)|(with_reducible refine Kd.C_alloc ?_ _)|(with_reducible refine Kd.C_drewN ?_ _)|(with_reducible refine Kd.C_drew ?_)))
                       (case side2 => exact HC473_0.out)
                       rintro e w84 ⟨rfl,hb⟩
                       have HS0_ := (hb.cell (World.block_lt_of_cell? _ _ (hHeld.1))).trans (hHeld.1)
                       have HS1_ := (hb.cell (World.block_lt_of_cell? _ _ (hHeld.2.1))).trans (hHeld.2.1)
                       have HS2_ := (hb.cell (World.block_lt_of_cell? _ _ (hHeld.2.2))).trans (hHeld.2.2)
                       refine ⟨_,rfl,?_⟩
                       have n0_ := am (Kd.N_below (rn HO_8) hb)
                       have n1_ := am (Kd.N_below (rn HO_9) hb)
                       have n2_ := am (Kd.R_below (rr HO_14) hb)
                       have n3_ := am (Kd.V_below (rv HL473_0) hb)
                       have n4_ := am (Kd.V_below (rv HL475_0) hb)
                       have n5_ := am (Kd.V_below (rv HL477_0) hb)
                       have n6_ := am (kb BK432 hb)
                       have n7_ := am (Kd.C_below (cx HR473_0) hb)
                       have n8_ := am (Kd.C_below (cx HR475_0) hb)
                       have n9_ := am (Kd.C_below (cx HR477_0) hb)
                       have n10_ := am (below_step (bg HB GE432) hb)
                       clear HO_8
                       clear HO_9
                       clear HO_14
                       clear HL473_0
                       clear HL475_0
                       clear HL477_0
                       clear BK432
                       clear HR473_0
                       clear HR475_0
                       clear HR477_0
                       clear HB
                       have HO_8 := n0_
                       have HO_9 := n1_
                       have HO_14 := n2_
                       have HL473_0 := n3_
                       have HL475_0 := n4_
                       have HL477_0 := n5_
                       have BK432 := n6_
                       have HR473_0 := n7_
                       have HR475_0 := n8_
                       have HR477_0 := n9_
                       have HB := n10_
                       clear n0_ n1_ n2_ n3_ n4_ n5_ n6_ n7_ n8_ n9_ n10_
                       (try clear hb)
                       (try clear hb2)
                       (try clear hk)
                       (try clear hi)
                       refine hK.out _ _ ⟨HS0_,HS1_,HS2_⟩ (fun hHeld => ?_)
                       clear hK K
                       refine nm 152 ?_
                       refine on 16 159 (bz 28 33554431) HT_ (fun K hK => ?_)
                       refine goes_ Try.func29 (by kernel_rfl) rfl #[.int .u64 a0_0,.slice A475_0 (rd_L7 t454 1).length c475_0,.int .u64 (IntKind.u64.wrap (x13_3)),.int .u64 0] (by rfl) rfl rfl (by (try simp only [List.map_toArray,List.map_cons,List.map_nil]);first|done|rfl|(simp only [List.length_drop,List.length_take];rfl)) ?_
                       with_reducible refine (privityref10_Eval.calls k4 a0_0 _ _ (rd_L7 t454 1) (IntKind.u64.wrap (x13_3)) 0 t476 _ ?side1 ?side2 A76.out).mono ?_
                       (case side1 => repeat (first|exact (cx HR475_0)|(with_reducible refine Kd.C_alloc ?_ _)|(with_reducible refine Kd.C_drewN ?_ _)|(with_reducible refine Kd.C_drew ?_)))
                       (case side2 => exact HC475_0.out)
                       rintro e w85 ⟨rfl,hb⟩
                       have HS0_ := (hb.cell (World.block_lt_of_cell? _ _ (hHeld.1))).trans (hHeld.1)
                       have HS1_ := (hb.cell (World.block_lt_of_cell? _ _ (hHeld.2.1))).trans (hHeld.2.1)
                       have HS2_ := (hb.cell (World.block_lt_of_cell? _ _ (hHeld.2.2))).trans (hHeld.2.2)
                       refine ⟨_,rfl,?_⟩
                       have n0_ := am (Kd.N_below (rn HO_8) hb)
                       have n1_ := am (Kd.N_below (rn HO_9) hb)
                       have n2_ := am (Kd.R_below (rr HO_14) hb)
                       have n3_ := am (Kd.V_below (rv HL473_0) hb)
                       have n4_ := am (Kd.V_below (rv HL475_0) hb)
                       have n5_ := am (Kd.V_below (rv HL477_0) hb)
                       have n6_ := am (kb BK432 hb)
                       have n7_ := am (Kd.C_below (cx HR473_0) hb)
                       have n8_ := am (Kd.C_below (cx HR475_0) hb)
                       have n9_ := am (Kd.C_below (cx HR477_0) hb)
                       have n10_ := am (below_step (bg HB GE432) hb)
                       clear HO_8
                       clear HO_9
                       clear HO_14
                       clear HL473_0
                       clear HL475_0
                       clear HL477_0
                       clear BK432
                       clear HR473_0
                       clear HR475_0
                       clear HR477_0
                       clear HB
                       have HO_8 := n0_
                       have HO_9 := n1_
                       have HO_14 := n2_
                       have HL473_0 := n3_
                       have HL475_0 := n4_
                       have HL477_0 := n5_
                       have BK432 := n6_
                       have HR473_0 := n7_
                       have HR475_0 := n8_
                       have HR477_0 := n9_
                       have HB := n10_
                       clear n0_ n1_ n2_ n3_ n4_ n5_ n6_ n7_ n8_ n9_ n10_
                       (try clear hb)
                       (try clear hb2)
                       (try clear hk)
                       (try clear hi)
                       refine hK.out _ _ ⟨HS0_,HS1_,HS2_⟩ (fun hHeld => ?_)
                       clear hK K
                       refine nm 159 ?_
                       refine on 25 168 (bz 28 67108863) HT_ (fun K hK => ?_)
                       refine goes_ Try.func29 (by kernel_rfl) rfl #[.int .u64 a0_0,.slice A477_0 (rd_L7 t454 (ji77)).length c477_0,.int .u64 (IntKind.u64.wrap (x13_3)),.int .u64 0] (by rfl) rfl rfl (by (try simp only [List.map_toArray,List.map_cons,List.map_nil]);first|done|(simp only [hji77];rfl)|rfl|(simp only [List.length_drop,List.length_take];rfl)) ?_
                       with_reducible refine (privityref10_Eval.calls k4 a0_0 _ _ (rd_L7 t454 (ji77)) (IntKind.u64.wrap (x13_3)) 0 t478 _ ?side1 ?side2 A80.out).mono ?_
                       (case side1 => repeat (first|exact (cx HR477_0)|(with_reducible refine Kd.C_alloc ?_ _)|(with_reducible refine Kd.C_drewN ?_ _)|(with_reducible refine Kd.C_drew ?_)))
                       (case side2 => exact HC477_0.out)
                       rintro e w86 ⟨rfl,hb⟩
                       have HS0_ := (hb.cell (World.block_lt_of_cell? _ _ (hHeld.1))).trans (hHeld.1)
                       have HS1_ := (hb.cell (World.block_lt_of_cell? _ _ (hHeld.2.1))).trans (hHeld.2.1)
                       have HS2_ := (hb.cell (World.block_lt_of_cell? _ _ (hHeld.2.2))).trans (hHeld.2.2)
                       refine ⟨_,rfl,?_⟩
                       have n0_ := am (Kd.N_below (rn HO_8) hb)
                       have n1_ := am (Kd.N_below (rn HO_9) hb)
                       have n2_ := am (Kd.R_below (rr HO_14) hb)
                       have n3_ := am (Kd.V_below (rv HL473_0) hb)
                       have n4_ := am (Kd.V_below (rv HL475_0) hb)
                       have n5_ := am (Kd.V_below (rv HL477_0) hb)
                       have n6_ := am (kb BK432 hb)
                       have n7_ := am (Kd.C_below (cx HR473_0) hb)
                       have n8_ := am (Kd.C_below (cx HR475_0) hb)
                       have n9_ := am (Kd.C_below (cx HR477_0) hb)
                       have n10_ := am (below_step (bg HB GE432) hb)
                       clear HO_8
                       clear HO_9
                       clear HO_14
                       clear HL473_0
                       clear HL475_0
                       clear HL477_0
                       clear BK432
                       clear HR473_0
                       clear HR475_0
                       clear HR477_0
                       clear HB
                       have HO_8 := n0_
                       have HO_9 := n1_
                       have HO_14 := n2_
                       have HL473_0 := n3_
                       have HL475_0 := n4_
                       have HL477_0 := n5_
                       have BK432 := n6_
                       have HR473_0 := n7_
                       have HR475_0 := n8_
                       have HR477_0 := n9_
                       have HB := n10_
                       clear n0_ n1_ n2_ n3_ n4_ n5_ n6_ n7_ n8_ n9_ n10_
                       (try clear hb)
                       (try clear hb2)
                       (try clear hk)
                       (try clear hi)
                       obtain ⟨Ao87,co87,eo87⟩ := Kd.R_slice HO_14.out
                       (first|subst eo87|(injection eo87 with f1_ f2_ f3_;have f4_ := f1_.symm;have f5_ := f3_.symm;clear f1_ f2_ f3_;subst f4_;subst f5_))
                       refine hK.out _ _ ⟨HS0_,HS1_,HS2_⟩ (fun hHeld => ?_)
                       clear hK K
                       refine nm 168 ?_
                       refine on 26 169 (bz 28 134217727) HT_ (fun K hK => ?_)
                       refine goes_ Try.func30 (by kernel_rfl) rfl #[.int .u64 a0_0,.int .u64 (IntKind.u64.wrap (x13_3)),.int .u64 t474,.int .u64 t476,.slice Ao87 x14_4.length co87,.int .u64 t478] (by rfl) rfl rfl (by (try simp only [List.map_toArray,List.map_cons,List.map_nil]);first|done|rfl|(simp only [List.length_drop,List.length_take];rfl)) ?_
                       with_reducible refine (privityref21_Verify.calls k4 a0_0 (IntKind.u64.wrap (x13_3)) t474 t476 _ _ x14_4 t478 true _ ?side1 ?side2 A81.out).mono ?_
                       (case side1 => exact cr HO_14)
                       (case side2 => exact (Kd.R_reads' HO_14.out).2.1)
                       rintro e w' ⟨rfl,⟨nd,rfl⟩⟩
                       refine ⟨_,rfl,?_⟩
                       refine hK.out _ _ ⟨hHeld.1,hHeld.2.1,hHeld.2.2⟩ (fun hHeld => ?_)
                       clear hK K
                       refine nm 169 ?_
                       refine pk 27 170 (bz 28 268435455) HT_ ?_
                       refine done_ (done_of HT_.out (by kernel_rfl)) ?_
                       try go_wp2
                       (try simp only [← hji77])
                       go_roundg k4
                       case measure => have := HJ6.out;have := HK2.out;have := HK3.out;have := HK4.out;omega
                       case rel => exact ⟨(wrap64 (x13_3 + 1)),(by first|rfl|(simp;done)|(simp [*];done)),(by first|exact H'|(simp only [hji77];exact H')|(have h2_ := H';simp only [← hji77] at h2_;exact h2_)),⟨by have := HJ6.out;have := HK2.out;have := HK3.out;have := HK4.out;omega⟩,⟨by (with_reducible repeat (first|apply Kd.N_alloc|apply Kd.N_drewN|apply Kd.N_drew));exact Kd.N_mono HO_8.out (fun _ hk => ⟨hk.1,hk.2.2⟩)⟩,⟨by (with_reducible repeat (first|apply Kd.N_alloc|apply Kd.N_drewN|apply Kd.N_drew));exact Kd.N_mono HO_9.out (fun _ hk => ⟨hk.1,hk.2.2⟩)⟩,⟨kx BK432⟩,⟨bg HB GE432⟩⟩
                      ·replace c82 := Bool.eq_false_iff.mpr c82
                       subst c82
                       rw [if_neg (show ¬ (false = true) by decide)] at H
                       exact absurd (Option.some.inj H) (by rw [HRT_.out];simp)
                     ·rw [if_neg c79] at H
                      exact absurd H (by simp)
                    ·rw [if_neg c78] at H
                     exact absurd H (by simp)
                   ·rw [if_neg c75] at H
                    exact absurd H (by simp)
                  ·rw [if_neg c73] at H
                   exact absurd H (by simp)
             ·rw [if_neg c64] at H
              have c64b0 : decide (x13_3 ≤ a0_1) = false := decide_eq_false c64
              clear c64
              by_cases c93 : 0 < (t451.length : Int)
              ·rw [if_pos c93] at H
               have c93b0 : decide (0 < (t451.length : Int)) = true := decide_eq_true c93
               have c93b1 : decide (0 < t451.length) = true := decide_eq_true (by omega)
               clear c93
               by_cases c94 : 0 < ((rd_L7 t451 0).length : Int)
               ·rw [if_pos c94] at H
                have c94b0 : decide (0 < ((rd_L7 t451 0).length : Int)) = true := decide_eq_true c94
                have c94b1 : decide (0 < (rd_L7 t451 0).length) = true := decide_eq_true (by omega)
                clear c94
                by_cases c95 : 0 < ((rd_L4 (rd_L7 t451 0) 0).length : Int)
                ·rw [if_pos c95] at H
                 have c95b0 : decide (0 < ((rd_L4 (rd_L7 t451 0) 0).length : Int)) = true := decide_eq_true c95
                 have c95b1 : decide (0 < (rd_L4 (rd_L7 t451 0) 0).length) = true := decide_eq_true (by omega)
                 clear c95
                 by_cases c96 : a0_0 = 0
                 ·rw [if_pos c96] at H
                  exact absurd H (by simp)
                 ·rw [if_neg c96] at H
                  have c96b0 : (a0_0 == 0) = false := beq_eq_false_iff_ne.mpr c96
                  have c96b1 : (a0_0 != 0) = true := bne_iff_ne.mpr c96
                  replace H := Option.bind_eq_some_iff.mp H
                  obtain ⟨t483,A970,H⟩ := H
                  try dsimp only at H
                  have A97 := am A970
                  clear A970
                  by_cases c98 : 1 < (t451.length : Int)
                  ·rw [if_pos c98] at H
                   have c98b0 : decide (1 < (t451.length : Int)) = true := decide_eq_true c98
                   have c98b1 : decide (1 < t451.length) = true := decide_eq_true (by omega)
                   clear c98
                   by_cases c99 : 0 < ((rd_L7 t451 1).length : Int)
                   ·rw [if_pos c99] at H
                    have c99b0 : decide (0 < ((rd_L7 t451 1).length : Int)) = true := decide_eq_true c99
                    have c99b1 : decide (0 < (rd_L7 t451 1).length) = true := decide_eq_true (by omega)
                    clear c99
                    by_cases c100 : 0 < ((rd_L4 (rd_L7 t451 1) 0).length : Int)
                    ·rw [if_pos c100] at H
                     have c100b0 : decide (0 < ((rd_L4 (rd_L7 t451 1) 0).length : Int)) = true := decide_eq_true c100
                     have c100b1 : decide (0 < (rd_L4 (rd_L7 t451 1) 0).length) = true := decide_eq_true (by omega)
                     clear c100
                     replace H := Option.bind_eq_some_iff.mp H
                     obtain ⟨t487,A1010,H⟩ := H
                     try dsimp only at H
                     have A101 := am A1010
                     clear A1010
                     replace H := Option.bind_eq_some_iff.mp H
                     obtain ⟨t488,A1020,H⟩ := H
                     try dsimp only at H
                     have A102 := am A1020
                     clear A1020
                     by_cases c103 : t488 = true
                     ·subst c103
                      rw [if_pos rfl] at H
                      by_cases c104 : 0 < (t454.length : Int)
                      ·rw [if_pos c104] at H
                       have c104b0 : decide (0 < (t454.length : Int)) = true := decide_eq_true c104
                       have c104b1 : decide (0 < t454.length) = true := decide_eq_true (by omega)
                       clear c104
                       by_cases c105 : 0 < ((rd_L7 t454 0).length : Int)
                       ·rw [if_pos c105] at H
                        have c105b0 : decide (0 < ((rd_L7 t454 0).length : Int)) = true := decide_eq_true c105
                        have c105b1 : decide (0 < (rd_L7 t454 0).length) = true := decide_eq_true (by omega)
                        clear c105
                        by_cases c106 : 0 < ((rd_L4 (rd_L7 t454 0) 0).length : Int)
                        ·rw [if_pos c106] at H
                         have c106b0 : decide (0 < ((rd_L4 (rd_L7 t454 0) 0).length : Int)) = true := decide_eq_true c106
                         have c106b1 : decide (0 < (rd_L4 (rd_L7 t454 0) 0).length) = true := decide_eq_true (by omega)
                         clear c106
                         by_cases c107 : (rd (rd_L4 (rd_L7 t454 0) 0) 0) = t483
                         ·rw [if_pos c107] at H
                          have c107b0 : ((rd (rd_L4 (rd_L7 t454 0) 0) 0) == t483) = true := beq_iff_eq.mpr c107
                          have c107b1 : ((rd (rd_L4 (rd_L7 t454 0) 0) 0) != t483) = false := bne_eq_false_iff_eq.mpr c107
                          clear c107
                          by_cases c108 : 1 < (t454.length : Int)
                          ·rw [if_pos c108] at H
                           have c108b0 : decide (1 < (t454.length : Int)) = true := decide_eq_true c108
                           have c108b1 : decide (1 < t454.length) = true := decide_eq_true (by omega)
                           clear c108
                           by_cases c109 : 0 < ((rd_L7 t454 1).length : Int)
                           ·rw [if_pos c109] at H
                            have c109b0 : decide (0 < ((rd_L7 t454 1).length : Int)) = true := decide_eq_true c109
                            have c109b1 : decide (0 < (rd_L7 t454 1).length) = true := decide_eq_true (by omega)
                            clear c109
                            by_cases c110 : 0 < ((rd_L4 (rd_L7 t454 1) 0).length : Int)
                            ·rw [if_pos c110] at H
                             have c110b0 : decide (0 < ((rd_L4 (rd_L7 t454 1) 0).length : Int)) = true := decide_eq_true c110
                             have c110b1 : decide (0 < (rd_L4 (rd_L7 t454 1) 0).length) = true := decide_eq_true (by omega)
                             clear c110
                             by_cases c111 : (rd (rd_L4 (rd_L7 t454 1) 0) 0) = t487
                             ·rw [if_pos c111] at H
                              have c111b0 : ((rd (rd_L4 (rd_L7 t454 1) 0) 0) == t487) = true := beq_iff_eq.mpr c111
                              have c111b1 : ((rd (rd_L4 (rd_L7 t454 1) 0) 0) != t487) = false := bne_eq_false_iff_eq.mpr c111
                              clear c111
                              obtain ⟨ji112,hji112⟩ : ∃ j_ : Int,(wrap64 ((t454.length : Int) - 1)) = j_ := ⟨_,rfl⟩
                              replace H : (if 0 ≤ (ji112) then (if (ji112) < (t454.length : Int) then (if 0 < ((rd_L7 t454 (ji112)).length : Int) then (if 0 < ((rd_L4 (rd_L7 t454 (ji112)) 0).length : Int) then ((privityref01_Mul.f k3 a0_0 t483 t487).bind fun t498 => (some ((rd (rd_L4 (rd_L7 t454 (ji112)) 0) 0) == t498))) else (none)) else (none)) else (none)) else (none)) = some r := by first|(rw [hji112] at H;exact H)|(simp only [hji112] at H ⊢;exact H)
                              (try rw [hji112] at A97)
                              (try rw [hji112] at A101)
                              (try rw [hji112] at A102)
                              have hji112w : (IntKind.i64.wrap ((t454.length : Int) - 1)) = ji112 := (i64_w _).trans hji112
                              by_cases c113 : 0 ≤ (ji112)
                              ·rw [if_pos c113] at H
                               have c113b0 : decide (0 ≤ (ji112)) = true := decide_eq_true c113
                               clear c113
                               by_cases c114 : (ji112) < (t454.length : Int)
                               ·rw [if_pos c114] at H
                                have c114b0 : decide ((ji112) < (t454.length : Int)) = true := decide_eq_true c114
                                clear c114
                                by_cases c115 : 0 < ((rd_L7 t454 (ji112)).length : Int)
                                ·rw [if_pos c115] at H
                                 have c115b0 : decide (0 < ((rd_L7 t454 (ji112)).length : Int)) = true := decide_eq_true c115
                                 have c115b1 : decide (0 < (rd_L7 t454 (ji112)).length) = true := decide_eq_true (by omega)
                                 clear c115
                                 by_cases c116 : 0 < ((rd_L4 (rd_L7 t454 (ji112)) 0).length : Int)
                                 ·rw [if_pos c116] at H
                                  have c116b0 : decide (0 < ((rd_L4 (rd_L7 t454 (ji112)) 0).length : Int)) = true := decide_eq_true c116
                                  have c116b1 : decide (0 < (rd_L4 (rd_L7 t454 (ji112)) 0).length) = true := decide_eq_true (by omega)
                                  clear c116
                                  replace H := Option.bind_eq_some_iff.mp H
                                  obtain ⟨t498,A1170,H⟩ := H
                                  try dsimp only at H
                                  have A117 := am A1170
                                  clear A1170
                                  obtain rfl := Option.some.inj H
                                  have hcz118_0 := bc BK432 0
                                  have hcz118_1 := bc BK432 1
                                  have hcz118_2 := bc BK432 2
                                  have hcz118_3 := bc BK432 3
                                  have hcz118_4 := bc BK432 4
                                  have hcz118_5 := bc BK432 5
                                  have hcz118_6 := bc BK432 6
                                  have hfz118_0 := bf BK432 0
                                  have hfz118_1 := bf BK432 1
                                  have hfz118_2 := bf BK432 2
                                  have hfz118_3 := bf BK432 3
                                  have hfz118_4 := bf BK432 4
                                  have hfz118_5 := bf BK432 5
                                  have hfz118_6 := bf BK432 6
                                  try go_wp2
                                  have n0_ := am (Kd.N_drew HO_8.out)
                                  have n1_ := am (Kd.N_drew HO_9.out)
                                  have n2_ := am (blk_drew BK432.out)
                                  have n3_ := am (below_drew1 HB.out)
                                  clear HO_8
                                  clear HO_9
                                  clear BK432
                                  clear HB
                                  have HO_8 := n0_
                                  have HO_9 := n1_
                                  have BK432 := n2_
                                  have HB := n3_
                                  clear n0_ n1_ n2_ n3_
                                  have p480 : 0 ≤ (0 : Int) := (by omega)
                                  have q480 : 0 < (t451.length : Int) := od
                                  obtain ⟨ad480,A480_0,c480_0,e480,hx480_0,hl480_0,hi480_0⟩ := at_L7 (Kd.N_reads' HO_8.out).2.2 0 p480 q480
                                  cases e480
                                  obtain ⟨ce480,hce480,hMe480,hcc480⟩ := Kd.N_get HO_8.out [] 0 p480 (by first|exact q480|exact od|(have e_ := (Kd.N_reads' HO_8.out).1;omega))
                                  obtain ⟨ua480_0,uc480_0,rfl,ul480_0,ge480_0⟩ := Kd.FK_slice_open hMe480
                                  have hv480_0 := hcc480 0 _ rfl
                                  rw [Nat.add_zero,show ((Kd.slice 26 (Kd.slice 22 (Kd.int .u64)))).sz = 1 from rfl,Nat.mul_one] at hv480_0
                                  replace hv480_0 := Option.some.inj (hv480_0.symm.trans hx480_0)
                                  injection hv480_0 with hva_ hvn_ hvc_
                                  rw [hva_] at ge480_0
                                  rw [hvc_] at ul480_0
                                  have HL480_0 := am (show Kd.V (Kd.slice 22 (Kd.int .u64)) 26 _ w.heap.size _ _ (rd_L7 t451 0) from Kd.V_mk ul480_0 ge480_0)
                                  clear hva_ hvn_ hvc_ ge480_0 ul480_0
                                  clear hcc480 hce480
                                  have qi480 : (0 < t451.length) = True := eq_true (by omega)
                                  (try rw [show ((0 : Int)).toNat = 0 from rfl] at hx480_0)
                                  (try rw [Addr.add_zero'] at hx480_0)
                                  have HR480_0 := am hi480_0
                                  have HC480_0 := am hl480_0
                                  clear hi480_0 hl480_0
                                  replace p480 := eq_true p480
                                  replace q480 := eq_true q480
                                  have p481 : 0 ≤ (0 : Int) := (by omega)
                                  have q481 : 0 < ((rd_L7 t451 0).length : Int) := od
                                  obtain ⟨ad481,A481_0,c481_0,e481,hx481_0,hl481_0,hi481_0⟩ := at_L4 (cx HR480_0) 0 p481 q481
                                  cases e481
                                  obtain ⟨ce481,hce481,hMe481,hcc481⟩ := Kd.V_get HL480_0.out [] 0 p481 (by first|exact q481|exact od|(have e_ := (Kd.V_reads' HL480_0.out).1;omega))
                                  obtain ⟨ua481_0,uc481_0,rfl,ul481_0,ge481_0⟩ := Kd.FK_slice_open hMe481
                                  have hv481_0 := hcc481 0 _ rfl
                                  rw [Nat.add_zero,show ((Kd.slice 22 (Kd.int .u64))).sz = 1 from rfl,Nat.mul_one] at hv481_0
                                  replace hv481_0 := Option.some.inj (hv481_0.symm.trans hx481_0)
                                  injection hv481_0 with hva_ hvn_ hvc_
                                  rw [hva_] at ge481_0
                                  rw [hvc_] at ul481_0
                                  have HL481_0 := am (show Kd.V (Kd.int .u64) 22 _ w.heap.size _ _ (rd_L4 (rd_L7 t451 0) 0) from Kd.V_mk ul481_0 ge481_0)
                                  clear hva_ hvn_ hvc_ ge481_0 ul481_0
                                  clear hcc481 hce481
                                  have qi481 : (0 < (rd_L7 t451 0).length) = True := eq_true (by omega)
                                  (try rw [show ((0 : Int)).toNat = 0 from rfl] at hx481_0)
                                  (try rw [Addr.add_zero'] at hx481_0)
                                  have HR481_0 := am hi481_0
                                  have HC481_0 := am hl481_0
                                  clear hi481_0 hl481_0
                                  replace p481 := eq_true p481
                                  replace q481 := eq_true q481
                                  have p482 : 0 ≤ (0 : Int) := (by omega)
                                  have q482 : 0 < ((rd_L4 (rd_L7 t451 0) 0).length : Int) := od
                                  obtain ⟨ad482,e482,hx482_0⟩ := Kd.at_int (cx HR481_0) 0 p482 q482
                                  cases e482
                                  have qi482 : (0 < (rd_L4 (rd_L7 t451 0) 0).length) = True := eq_true (by omega)
                                  (try rw [show ((0 : Int)).toNat = 0 from rfl] at hx482_0)
                                  (try rw [Addr.add_zero'] at hx482_0)
                                  replace p482 := eq_true p482
                                  replace q482 := eq_true q482
                                  have p484 : 0 ≤ (1 : Int) := (by omega)
                                  have q484 : 1 < (t451.length : Int) := od
                                  obtain ⟨ad484,A484_0,c484_0,e484,hx484_0,hl484_0,hi484_0⟩ := at_L7 (Kd.N_reads' HO_8.out).2.2 1 p484 q484
                                  obtain rfl : ad480 = ad484 := (by injection e484)
                                  obtain ⟨ce484,hce484,hMe484,hcc484⟩ := Kd.N_get HO_8.out [] 1 p484 (by first|exact q484|exact od|(have e_ := (Kd.N_reads' HO_8.out).1;omega))
                                  obtain ⟨ua484_0,uc484_0,rfl,ul484_0,ge484_0⟩ := Kd.FK_slice_open hMe484
                                  have hv484_0 := hcc484 0 _ rfl
                                  rw [Nat.add_zero,show ((Kd.slice 26 (Kd.slice 22 (Kd.int .u64)))).sz = 1 from rfl,Nat.mul_one] at hv484_0
                                  replace hv484_0 := Option.some.inj (hv484_0.symm.trans hx484_0)
                                  injection hv484_0 with hva_ hvn_ hvc_
                                  rw [hva_] at ge484_0
                                  rw [hvc_] at ul484_0
                                  have HL484_0 := am (show Kd.V (Kd.slice 22 (Kd.int .u64)) 26 _ w.heap.size _ _ (rd_L7 t451 1) from Kd.V_mk ul484_0 ge484_0)
                                  clear hva_ hvn_ hvc_ ge484_0 ul484_0
                                  clear hcc484 hce484
                                  (try simp only [show (1 : Int).toNat = 1 from rfl,Nat.reduceMul,Nat.reduceEqDiff,Go.Addr.add,↓reduceIte] at hx484_0)
                                  have qi484 : (1 < t451.length) = True := eq_true (by omega)
                                  (try rw [show ((1 : Int)).toNat = 1 from rfl] at hx484_0)
                                  have HR484_0 := am hi484_0
                                  have HC484_0 := am hl484_0
                                  clear hi484_0 hl484_0
                                  replace p484 := eq_true p484
                                  replace q484 := eq_true q484
                                  have p485 : 0 ≤ (0 : Int) := (by omega)
                                  have q485 : 0 < ((rd_L7 t451 1).length : Int) := od
                                  obtain ⟨ad485,A485_0,c485_0,e485,hx485_0,hl485_0,hi485_0⟩ := at_L4 (cx HR484_0) 0 p485 q485
                                  cases e485
                                  obtain ⟨ce485,hce485,hMe485,hcc485⟩ := Kd.V_get HL484_0.out [] 0 p485 (by first|exact q485|exact od|(have e_ := (Kd.V_reads' HL484_0.out).1;omega))
                                  obtain ⟨ua485_0,uc485_0,rfl,ul485_0,ge485_0⟩ := Kd.FK_slice_open hMe485
                                  have hv485_0 := hcc485 0 _ rfl
                                  rw [Nat.add_zero,show ((Kd.slice 22 (Kd.int .u64))).sz = 1 from rfl,Nat.mul_one] at hv485_0
                                  replace hv485_0 := Option.some.inj (hv485_0.symm.trans hx485_0)
                                  injection hv485_0 with hva_ hvn_ hvc_
                                  rw [hva_] at ge485_0
                                  rw [hvc_] at ul485_0
                                  have HL485_0 := am (show Kd.V (Kd.int .u64) 22 _ w.heap.size _ _ (rd_L4 (rd_L7 t451 1) 0) from Kd.V_mk ul485_0 ge485_0)
                                  clear hva_ hvn_ hvc_ ge485_0 ul485_0
                                  clear hcc485 hce485
                                  have qi485 : (0 < (rd_L7 t451 1).length) = True := eq_true (by omega)
                                  (try rw [show ((0 : Int)).toNat = 0 from rfl] at hx485_0)
                                  (try rw [Addr.add_zero'] at hx485_0)
                                  have HR485_0 := am hi485_0
                                  have HC485_0 := am hl485_0
                                  clear hi485_0 hl485_0
                                  replace p485 := eq_true p485
                                  replace q485 := eq_true q485
                                  have p486 : 0 ≤ (0 : Int) := (by omega)
                                  have q486 : 0 < ((rd_L4 (rd_L7 t451 1) 0).length : Int) := od
                                  obtain ⟨ad486,e486,hx486_0⟩ := Kd.at_int (cx HR485_0) 0 p486 q486
                                  cases e486
                                  have qi486 : (0 < (rd_L4 (rd_L7 t451 1) 0).length) = True := eq_true (by omega)
                                  (try rw [show ((0 : Int)).toNat = 0 from rfl] at hx486_0)
                                  (try rw [Addr.add_zero'] at hx486_0)
                                  replace p486 := eq_true p486
                                  replace q486 := eq_true q486
                                  refine start_ (n := 28) (S := fun w' => w'.cell? ⟨gb432,0,none⟩ = some (.int .u64 a0_0) ∧ w'.cell? ⟨gb432,1,none⟩ = some (.int .i64 a0_1) ∧ w'.cell? ⟨gb432,2,none⟩ = some (.int .i64 a0_2) ∧ w'.cell? ⟨gb432,3,none⟩ = some (.slice A0_3 l0_3.length c0_3) ∧ w'.cell? ⟨gb432,4,none⟩ = some (.int .u64 a0_4) ∧ w'.cell? ⟨gb432,5,none⟩ = some (.int .u64 a0_5) ∧ w'.cell? ⟨gb432,6,none⟩ = some (.slice A0_6 l0_6.length c0_6) ∧ w'.cell? ad480 = some (.slice (some ad481) (rd_L7 t451 0).length c480_0) ∧ w'.cell? ad481 = some (.slice (some ad482) (rd_L4 (rd_L7 t451 0) 0).length c481_0) ∧ w'.cell? ad482 = some (.int .u64 (rd (rd_L4 (rd_L7 t451 0) 0) 0)) ∧ w'.cell? ⟨ad480.block,ad480.off + 1,none⟩ = some (.slice (some ad485) (rd_L7 t451 1).length c484_0) ∧ w'.cell? ad485 = some (.slice (some ad486) (rd_L4 (rd_L7 t451 1) 0).length c485_0) ∧ w'.cell? ad486 = some (.int .u64 (rd (rd_L4 (rd_L7 t451 1) 0) 0))) (ds := []) (bz 28 0) (by kernel_rfl) rfl rfl ⟨(blk_cell BK432.out 0).trans rfl,(blk_cell BK432.out 1).trans rfl,(blk_cell BK432.out 2).trans rfl,(blk_cell BK432.out 3).trans rfl,(blk_cell BK432.out 4).trans rfl,(blk_cell BK432.out 5).trans rfl,(blk_cell BK432.out 6).trans rfl,hx480_0,hx481_0,hx482_0,hx484_0,hx485_0,hx486_0⟩ (fun hHeld => ?_);refine with_tabW privitylaw43_TapeshiftTriplePrivacy.tab28 privitylaw43_TapeshiftTriplePrivacy.bits28 (fun HT_ HW_ => ?_)
                                  generalize wr.drew = w119 at HO_8 HO_9 BK432 HB HL480_0 HL481_0 HL484_0 HL485_0 HR480_0 HR481_0 HR484_0 HR485_0 hx480_0 hx481_0 hx482_0 hx484_0 hx485_0 hx486_0 hHeld ⊢
                                  refine pk 0 171 (bz 28 1) HT_ ?_
                                  refine pk 1 172 (bz 28 3) HT_ ?_
                                  refine pk 2 173 (bz 28 7) HT_ ?_
                                  refine pk 8 179 (bz 28 263) HT_ ?_
                                  refine pk 10 181 (bz 28 1287) HT_ ?_
                                  refine pk 13 184 (bz 28 9479) HT_ ?_
                                  refine pk 14 185 (bz 28 25863) HT_ ?_
                                  refine pk 15 186 (bz 28 58631) HT_ ?_
                                  refine pk 21 192 (bz 28 2155783) HT_ ?_
                                  refine pk 23 194 (bz 28 10544391) HT_ ?_
                                  refine tk 3 174 (bz 28 10544399) HT_ HW_ hHeld ?_
                                  refine pk 4 175 (bz 28 10544415) HT_ ?_
                                  refine tk 5 176 (bz 28 10544447) HT_ HW_ hHeld ?_
                                  refine pk 6 177 (bz 28 10544511) HT_ ?_
                                  refine tk 7 178 (bz 28 10544639) HT_ HW_ hHeld ?_
                                  refine tk 9 180 (bz 28 10545151) HT_ HW_ hHeld ?_
                                  refine pk 11 182 (bz 28 10547199) HT_ ?_
                                  refine tk 16 187 (bz 28 10612735) HT_ HW_ hHeld ?_
                                  refine pk 17 188 (bz 28 10743807) HT_ ?_
                                  refine tk 18 189 (bz 28 11005951) HT_ HW_ hHeld ?_
                                  refine pk 19 190 (bz 28 11530239) HT_ ?_
                                  refine tk 20 191 (bz 28 12578815) HT_ HW_ hHeld ?_
                                  refine tk 22 193 (bz 28 16773119) HT_ HW_ hHeld ?_
                                  refine pk 24 195 (bz 28 33550335) HT_ ?_
                                  refine on 12 183 (bz 28 33554431) HT_ (fun K hK => ?_)
                                  refine goes_ Try.func17 (by kernel_rfl) rfl #[.int .u64 a0_0,.int .u64 (rd (rd_L4 (rd_L7 t451 0) 0) 0),.int .u64 (Int.tmod a0_4 a0_0)] (by rfl) rfl rfl (by (try simp only [List.map_toArray,List.map_cons,List.map_nil]);first|done|rfl|(simp only [List.length_drop,List.length_take];rfl)) ?_
                                  with_reducible refine (privityref01_Add.calls a0_0 (rd (rd_L4 (rd_L7 t451 0) 0) 0) (Int.tmod a0_4 a0_0) t483 _ A97.out).mono ?_
                                  rintro e w' ⟨rfl,⟨nd,rfl⟩⟩
                                  refine ⟨_,rfl,?_⟩
                                  refine hK.out _ _ ⟨(blk_cell BK432.out 0).trans rfl,(blk_cell BK432.out 1).trans rfl,(blk_cell BK432.out 2).trans rfl,(blk_cell BK432.out 3).trans rfl,(blk_cell BK432.out 4).trans rfl,(blk_cell BK432.out 5).trans rfl,(blk_cell BK432.out 6).trans rfl,hHeld.2.2.2.2.2.2.2.1,hHeld.2.2.2.2.2.2.2.2.1,hHeld.2.2.2.2.2.2.2.2.2.1,hHeld.2.2.2.2.2.2.2.2.2.2.1,hHeld.2.2.2.2.2.2.2.2.2.2.2.1,hHeld.2.2.2.2.2.2.2.2.2.2.2.2⟩ (fun hHeld => ?_)
                                  clear hK K
                                  refine nm 183 ?_
                                  refine on 25 196 (bz 28 67108863) HT_ (fun K hK => ?_)
                                  refine goes_ Try.func17 (by kernel_rfl) rfl #[.int .u64 a0_0,.int .u64 (rd (rd_L4 (rd_L7 t451 1) 0) 0),.int .u64 (Int.tmod a0_5 a0_0)] (by rfl) rfl rfl (by (try simp only [List.map_toArray,List.map_cons,List.map_nil]);first|done|rfl|(simp only [List.length_drop,List.length_take];rfl)) ?_
                                  with_reducible refine (privityref01_Add.calls a0_0 (rd (rd_L4 (rd_L7 t451 1) 0) 0) (Int.tmod a0_5 a0_0) t487 _ A101.out).mono ?_
                                  rintro e w' ⟨rfl,⟨nd,rfl⟩⟩
                                  refine ⟨_,rfl,?_⟩
                                  refine hK.out _ _ ⟨(blk_cell BK432.out 0).trans rfl,(blk_cell BK432.out 1).trans rfl,(blk_cell BK432.out 2).trans rfl,(blk_cell BK432.out 3).trans rfl,(blk_cell BK432.out 4).trans rfl,(blk_cell BK432.out 5).trans rfl,(blk_cell BK432.out 6).trans rfl,hHeld.2.2.2.2.2.2.2.1,hHeld.2.2.2.2.2.2.2.2.1,hHeld.2.2.2.2.2.2.2.2.2.1,hHeld.2.2.2.2.2.2.2.2.2.2.1,hHeld.2.2.2.2.2.2.2.2.2.2.2.1,hHeld.2.2.2.2.2.2.2.2.2.2.2.2⟩ (fun hHeld => ?_)
                                  clear hK K
                                  refine nm 196 ?_
                                  refine pk 26 16 (bz 28 134217727) HT_ ?_
                                  refine pk 27 17 (bz 28 268435455) HT_ ?_
                                  refine done_ (done_of HT_.out (by kernel_rfl)) ?_
                                  try go_wp2
                                  (try (rw [drewN_self w119];generalize hq_ : World.drewN w119 _ = w119;have n0_ : Aside0 (Kd.V (Kd.slice 22 (Kd.int .u64)) 26 w119 w.heap.size (fun k_ => some k_ ≠ (.slice (some ad480) t451.length co62 : Value).ownBlock ∧ some k_ ≠ (.slice Ao63 t454.length co63 : Value).ownBlock ∧ k_ ≠ gb432) (.slice (some ad481) (rd_L7 t451 0).length c480_0) (rd_L7 t451 0)) := ⟨by rw [← hq_];exact (by (with_reducible repeat (first|apply Kd.V_alloc|apply Kd.V_drewN|apply Kd.V_drew));exact Kd.V_mono HL480_0.out (fun _ hk => ⟨hk.2,⟨hk.1.1,hk.1.2⟩⟩))⟩;have n1_ : Aside0 (Kd.V (Kd.int .u64) 22 w119 w.heap.size (fun k_ => some k_ ≠ (.slice (some ad480) t451.length co62 : Value).ownBlock ∧ some k_ ≠ (.slice Ao63 t454.length co63 : Value).ownBlock ∧ k_ ≠ gb432) (.slice (some ad482) (rd_L4 (rd_L7 t451 0) 0).length c481_0) (rd_L4 (rd_L7 t451 0) 0)) := ⟨by rw [← hq_];exact (by (with_reducible repeat (first|apply Kd.V_alloc|apply Kd.V_drewN|apply Kd.V_drew));exact Kd.V_mono HL481_0.out (fun _ hk => ⟨hk.2,⟨hk.1.1,hk.1.2⟩⟩))⟩;have n2_ : Aside0 (Kd.V (Kd.slice 22 (Kd.int .u64)) 26 w119 w.heap.size (fun k_ => some k_ ≠ (.slice (some ad480) t451.length co62 : Value).ownBlock ∧ some k_ ≠ (.slice Ao63 t454.length co63 : Value).ownBlock ∧ k_ ≠ gb432) (.slice (some ad485) (rd_L7 t451 1).length c484_0) (rd_L7 t451 1)) := ⟨by rw [← hq_];exact (by (with_reducible repeat (first|apply Kd.V_alloc|apply Kd.V_drewN|apply Kd.V_drew));exact Kd.V_mono HL484_0.out (fun _ hk => ⟨hk.2,⟨hk.1.1,hk.1.2⟩⟩))⟩;have n3_ : Aside0 (Kd.V (Kd.int .u64) 22 w119 w.heap.size (fun k_ => some k_ ≠ (.slice (some ad480) t451.length co62 : Value).ownBlock ∧ some k_ ≠ (.slice Ao63 t454.length co63 : Value).ownBlock ∧ k_ ≠ gb432) (.slice (some ad486) (rd_L4 (rd_L7 t451 1) 0).length c485_0) (rd_L4 (rd_L7 t451 1) 0)) := ⟨by rw [← hq_];exact (by (with_reducible repeat (first|apply Kd.V_alloc|apply Kd.V_drewN|apply Kd.V_drew));exact Kd.V_mono HL485_0.out (fun _ hk => ⟨hk.2,⟨hk.1.1,hk.1.2⟩⟩))⟩;have n4_ : Aside0 (Kd.N (Kd.slice 26 (Kd.slice 22 (Kd.int .u64))) 34 w119 w.heap.size (fun k_ => some k_ ≠ (.slice Ao63 t454.length co63 : Value).ownBlock ∧ k_ ≠ gb432) (.slice (some ad480) t451.length co62) t451) := ⟨by rw [← hq_];exact (rn HO_8)⟩;have n5_ : Aside0 (Kd.N (Kd.slice 26 (Kd.slice 22 (Kd.int .u64))) 34 w119 w.heap.size (fun k_ => some k_ ≠ (.slice (some ad480) t451.length co62 : Value).ownBlock ∧ k_ ≠ gb432) (.slice Ao63 t454.length co63) t454) := ⟨by rw [← hq_];exact (rn HO_9)⟩;have n6_ : Aside0 (w119.heap[gb432]? = some (.cells #[.int .u64 a0_0,.int .i64 a0_1,.int .i64 a0_2,.slice A0_3 l0_3.length c0_3,.int .u64 a0_4,.int .u64 a0_5,.slice A0_6 l0_6.length c0_6] 28 (0,0))) := ⟨by rw [← hq_];exact (by (with_reducible repeat (first|refine blk_drewN ?_ _|refine blk_drew ?_|refine blk_alloc ?_ _));exact BK432.out)⟩;have n7_ : Aside0 (Below w.heap.size w w119) := ⟨by rw [← hq_];exact (bg HB GE432)⟩;have n8_ : Aside0 (Kd.C (Kd.slice 22 (Kd.int .u64)) w119 (some ad481) (rd_L7 t451 0).length (rd_L7 t451 0)) := ⟨by rw [← hq_];exact (cx HR480_0)⟩;have n9_ : Aside0 (Kd.C (Kd.int .u64) w119 (some ad482) (rd_L4 (rd_L7 t451 0) 0).length (rd_L4 (rd_L7 t451 0) 0)) := ⟨by rw [← hq_];exact (cx HR481_0)⟩;have n10_ : Aside0 (Kd.C (Kd.slice 22 (Kd.int .u64)) w119 (some ad485) (rd_L7 t451 1).length (rd_L7 t451 1)) := ⟨by rw [← hq_];exact (cx HR484_0)⟩;have n11_ : Aside0 (Kd.C (Kd.int .u64) w119 (some ad486) (rd_L4 (rd_L7 t451 1) 0).length (rd_L4 (rd_L7 t451 1) 0)) := ⟨by rw [← hq_];exact (cx HR485_0)⟩;clear HL480_0 HL481_0 HL484_0 HL485_0 HO_8 HO_9 BK432 HB HR480_0 HR481_0 HR484_0 HR485_0 hq_;have HL480_0 := n0_;have HL481_0 := n1_;have HL484_0 := n2_;have HL485_0 := n3_;have HO_8 := n4_;have HO_9 := n5_;have BK432 := n6_;have HB := n7_;have HR480_0 := n8_;have HR481_0 := n9_;have HR484_0 := n10_;have HR485_0 := n11_;clear n0_ n1_ n2_ n3_ n4_ n5_ n6_ n7_ n8_ n9_ n10_ n11_))
                                  have n0_ := am (Kd.N_drew HO_8.out)
                                  have n1_ := am (Kd.N_drew HO_9.out)
                                  have n2_ := am (Kd.V_drew HL480_0.out)
                                  have n3_ := am (Kd.V_drew HL481_0.out)
                                  have n4_ := am (Kd.V_drew HL484_0.out)
                                  have n5_ := am (Kd.V_drew HL485_0.out)
                                  have n6_ := am (blk_drew BK432.out)
                                  have n7_ := am (Kd.C_drew HR480_0.out)
                                  have n8_ := am (Kd.C_drew HR481_0.out)
                                  have n9_ := am (Kd.C_drew HR484_0.out)
                                  have n10_ := am (Kd.C_drew HR485_0.out)
                                  have n11_ := am (below_drew1 HB.out)
                                  clear HO_8
                                  clear HO_9
                                  clear HL480_0
                                  clear HL481_0
                                  clear HL484_0
                                  clear HL485_0
                                  clear BK432
                                  clear HR480_0
                                  clear HR481_0
                                  clear HR484_0
                                  clear HR485_0
                                  clear HB
                                  have HO_8 := n0_
                                  have HO_9 := n1_
                                  have HL480_0 := n2_
                                  have HL481_0 := n3_
                                  have HL484_0 := n4_
                                  have HL485_0 := n5_
                                  have BK432 := n6_
                                  have HR480_0 := n7_
                                  have HR481_0 := n8_
                                  have HR484_0 := n9_
                                  have HR485_0 := n10_
                                  have HB := n11_
                                  clear n0_ n1_ n2_ n3_ n4_ n5_ n6_ n7_ n8_ n9_ n10_ n11_
                                  have p489 : 0 ≤ (0 : Int) := (by omega)
                                  have q489 : 0 < (t454.length : Int) := od
                                  obtain ⟨ad489,A489_0,c489_0,e489,hx489_0,hl489_0,hi489_0⟩ := at_L7 (Kd.N_reads' HO_9.out).2.2 0 p489 q489
                                  cases e489
                                  obtain ⟨ce489,hce489,hMe489,hcc489⟩ := Kd.N_get HO_9.out [] 0 p489 (by first|exact q489|exact od|(have e_ := (Kd.N_reads' HO_9.out).1;omega))
                                  obtain ⟨ua489_0,uc489_0,rfl,ul489_0,ge489_0⟩ := Kd.FK_slice_open hMe489
                                  have hv489_0 := hcc489 0 _ rfl
                                  rw [Nat.add_zero,show ((Kd.slice 26 (Kd.slice 22 (Kd.int .u64)))).sz = 1 from rfl,Nat.mul_one] at hv489_0
                                  replace hv489_0 := Option.some.inj (hv489_0.symm.trans hx489_0)
                                  injection hv489_0 with hva_ hvn_ hvc_
                                  rw [hva_] at ge489_0
                                  rw [hvc_] at ul489_0
                                  have HL489_0 := am (show Kd.V (Kd.slice 22 (Kd.int .u64)) 26 _ w.heap.size _ _ (rd_L7 t454 0) from Kd.V_mk ul489_0 ge489_0)
                                  clear hva_ hvn_ hvc_ ge489_0 ul489_0
                                  clear hcc489 hce489
                                  have qi489 : (0 < t454.length) = True := eq_true (by omega)
                                  (try rw [show ((0 : Int)).toNat = 0 from rfl] at hx489_0)
                                  (try rw [Addr.add_zero'] at hx489_0)
                                  have HR489_0 := am hi489_0
                                  have HC489_0 := am hl489_0
                                  clear hi489_0 hl489_0
                                  replace p489 := eq_true p489
                                  replace q489 := eq_true q489
                                  have p492 : 0 ≤ (1 : Int) := (by omega)
                                  have q492 : 1 < (t454.length : Int) := od
                                  obtain ⟨ad492,A492_0,c492_0,e492,hx492_0,hl492_0,hi492_0⟩ := at_L7 (Kd.N_reads' HO_9.out).2.2 1 p492 q492
                                  obtain rfl : ad489 = ad492 := (by injection e492)
                                  obtain ⟨ce492,hce492,hMe492,hcc492⟩ := Kd.N_get HO_9.out [] 1 p492 (by first|exact q492|exact od|(have e_ := (Kd.N_reads' HO_9.out).1;omega))
                                  obtain ⟨ua492_0,uc492_0,rfl,ul492_0,ge492_0⟩ := Kd.FK_slice_open hMe492
                                  have hv492_0 := hcc492 0 _ rfl
                                  rw [Nat.add_zero,show ((Kd.slice 26 (Kd.slice 22 (Kd.int .u64)))).sz = 1 from rfl,Nat.mul_one] at hv492_0
                                  replace hv492_0 := Option.some.inj (hv492_0.symm.trans hx492_0)
                                  injection hv492_0 with hva_ hvn_ hvc_
                                  rw [hva_] at ge492_0
                                  rw [hvc_] at ul492_0
                                  have HL492_0 := am (show Kd.V (Kd.slice 22 (Kd.int .u64)) 26 _ w.heap.size _ _ (rd_L7 t454 1) from Kd.V_mk ul492_0 ge492_0)
                                  clear hva_ hvn_ hvc_ ge492_0 ul492_0
                                  clear hcc492 hce492
                                  (try simp only [show (1 : Int).toNat = 1 from rfl,Nat.reduceMul,Nat.reduceEqDiff,Go.Addr.add,↓reduceIte] at hx492_0)
                                  have qi492 : (1 < t454.length) = True := eq_true (by omega)
                                  (try rw [show ((1 : Int)).toNat = 1 from rfl] at hx492_0)
                                  have HR492_0 := am hi492_0
                                  have HC492_0 := am hl492_0
                                  clear hi492_0 hl492_0
                                  replace p492 := eq_true p492
                                  replace q492 := eq_true q492
                                  have p495 : 0 ≤ ((ji112) : Int) := od
                                  have q495 : (ji112) < (t454.length : Int) := od
                                  obtain ⟨ad495,A495_0,c495_0,e495,hx495_0,hl495_0,hi495_0⟩ := at_L7 (Kd.N_reads' HO_9.out).2.2 (ji112) p495 q495
                                  obtain rfl : ad489 = ad495 := (by injection e495)
                                  obtain ⟨ce495,hce495,hMe495,hcc495⟩ := Kd.N_get HO_9.out [] (ji112) p495 (by first|exact q495|exact od|(have e_ := (Kd.N_reads' HO_9.out).1;omega))
                                  obtain ⟨ua495_0,uc495_0,rfl,ul495_0,ge495_0⟩ := Kd.FK_slice_open hMe495
                                  have hv495_0 := hcc495 0 _ rfl
                                  rw [Nat.add_zero,show ((Kd.slice 26 (Kd.slice 22 (Kd.int .u64)))).sz = 1 from rfl,Nat.mul_one] at hv495_0
                                  replace hv495_0 := Option.some.inj (hv495_0.symm.trans hx495_0)
                                  injection hv495_0 with hva_ hvn_ hvc_
                                  rw [hva_] at ge495_0
                                  rw [hvc_] at ul495_0
                                  have HL495_0 := am (show Kd.V (Kd.slice 22 (Kd.int .u64)) 26 _ w.heap.size _ _ (rd_L7 t454 (ji112)) from Kd.V_mk ul495_0 ge495_0)
                                  clear hva_ hvn_ hvc_ ge495_0 ul495_0
                                  clear hcc495 hce495
                                  have HR495_0 := am hi495_0
                                  have HC495_0 := am hl495_0
                                  clear hi495_0 hl495_0
                                  replace p495 := eq_true p495
                                  replace q495 := eq_true q495
                                  have p490 : 0 ≤ (0 : Int) := (by omega)
                                  have q490 : 0 < ((rd_L7 t454 0).length : Int) := od
                                  obtain ⟨ad490,A490_0,c490_0,e490,hx490_0,hl490_0,hi490_0⟩ := at_L4 (cx HR489_0) 0 p490 q490
                                  cases e490
                                  obtain ⟨ce490,hce490,hMe490,hcc490⟩ := Kd.V_get HL489_0.out [] 0 p490 (by first|exact q490|exact od|(have e_ := (Kd.V_reads' HL489_0.out).1;omega))
                                  obtain ⟨ua490_0,uc490_0,rfl,ul490_0,ge490_0⟩ := Kd.FK_slice_open hMe490
                                  have hv490_0 := hcc490 0 _ rfl
                                  rw [Nat.add_zero,show ((Kd.slice 22 (Kd.int .u64))).sz = 1 from rfl,Nat.mul_one] at hv490_0
                                  replace hv490_0 := Option.some.inj (hv490_0.symm.trans hx490_0)
                                  injection hv490_0 with hva_ hvn_ hvc_
                                  rw [hva_] at ge490_0
                                  rw [hvc_] at ul490_0
                                  have HL490_0 := am (show Kd.V (Kd.int .u64) 22 _ w.heap.size _ _ (rd_L4 (rd_L7 t454 0) 0) from Kd.V_mk ul490_0 ge490_0)
                                  clear hva_ hvn_ hvc_ ge490_0 ul490_0
                                  clear hcc490 hce490
                                  have qi490 : (0 < (rd_L7 t454 0).length) = True := eq_true (by omega)
                                  (try rw [show ((0 : Int)).toNat = 0 from rfl] at hx490_0)
                                  (try rw [Addr.add_zero'] at hx490_0)
                                  have HR490_0 := am hi490_0
                                  have HC490_0 := am hl490_0
                                  clear hi490_0 hl490_0
                                  replace p490 := eq_true p490
                                  replace q490 := eq_true q490
                                  have p491 : 0 ≤ (0 : Int) := (by omega)
                                  have q491 : 0 < ((rd_L4 (rd_L7 t454 0) 0).length : Int) := od
                                  obtain ⟨ad491,e491,hx491_0⟩ := Kd.at_int (cx HR490_0) 0 p491 q491
                                  cases e491
                                  have qi491 : (0 < (rd_L4 (rd_L7 t454 0) 0).length) = True := eq_true (by omega)
                                  (try rw [show ((0 : Int)).toNat = 0 from rfl] at hx491_0)
                                  (try rw [Addr.add_zero'] at hx491_0)
                                  replace p491 := eq_true p491
                                  replace q491 := eq_true q491
                                  have p493 : 0 ≤ (0 : Int) := (by omega)
                                  have q493 : 0 < ((rd_L7 t454 1).length : Int) := od
                                  obtain ⟨ad493,A493_0,c493_0,e493,hx493_0,hl493_0,hi493_0⟩ := at_L4 (cx HR492_0) 0 p493 q493
                                  cases e493
                                  obtain ⟨ce493,hce493,hMe493,hcc493⟩ := Kd.V_get HL492_0.out [] 0 p493 (by first|exact q493|exact od|(have e_ := (Kd.V_reads' HL492_0.out).1;omega))
                                  obtain ⟨ua493_0,uc493_0,rfl,ul493_0,ge493_0⟩ := Kd.FK_slice_open hMe493
                                  have hv493_0 := hcc493 0 _ rfl
                                  rw [Nat.add_zero,show ((Kd.slice 22 (Kd.int .u64))).sz = 1 from rfl,Nat.mul_one] at hv493_0
                                  replace hv493_0 := Option.some.inj (hv493_0.symm.trans hx493_0)
                                  injection hv493_0 with hva_ hvn_ hvc_
                                  rw [hva_] at ge493_0
                                  rw [hvc_] at ul493_0
                                  have HL493_0 := am (show Kd.V (Kd.int .u64) 22 _ w.heap.size _ _ (rd_L4 (rd_L7 t454 1) 0) from Kd.V_mk ul493_0 ge493_0)
                                  clear hva_ hvn_ hvc_ ge493_0 ul493_0
                                  clear hcc493 hce493
                                  have qi493 : (0 < (rd_L7 t454 1).length) = True := eq_true (by omega)
                                  (try rw [show ((0 : Int)).toNat = 0 from rfl] at hx493_0)
                                  (try rw [Addr.add_zero'] at hx493_0)
                                  have HR493_0 := am hi493_0
                                  have HC493_0 := am hl493_0
                                  clear hi493_0 hl493_0
                                  replace p493 := eq_true p493
                                  replace q493 := eq_true q493
                                  have p494 : 0 ≤ (0 : Int) := (by omega)
                                  have q494 : 0 < ((rd_L4 (rd_L7 t454 1) 0).length : Int) := od
                                  obtain ⟨ad494,e494,hx494_0⟩ := Kd.at_int (cx HR493_0) 0 p494 q494
                                  cases e494
                                  have qi494 : (0 < (rd_L4 (rd_L7 t454 1) 0).length) = True := eq_true (by omega)
                                  (try rw [show ((0 : Int)).toNat = 0 from rfl] at hx494_0)
                                  (try rw [Addr.add_zero'] at hx494_0)
                                  replace p494 := eq_true p494
                                  replace q494 := eq_true q494
                                  have p496 : 0 ≤ (0 : Int) := (by omega)
                                  have q496 : 0 < ((rd_L7 t454 (ji112)).length : Int) := od
                                  obtain ⟨ad496,A496_0,c496_0,e496,hx496_0,hl496_0,hi496_0⟩ := at_L4 (cx HR495_0) 0 p496 q496
                                  cases e496
                                  obtain ⟨ce496,hce496,hMe496,hcc496⟩ := Kd.V_get HL495_0.out [] 0 p496 (by first|exact q496|exact od|(have e_ := (Kd.V_reads' HL495_0.out).1;omega))
                                  obtain ⟨ua496_0,uc496_0,rfl,ul496_0,ge496_0⟩ := Kd.FK_slice_open hMe496
                                  have hv496_0 := hcc496 0 _ rfl
                                  rw [Nat.add_zero,show ((Kd.slice 22 (Kd.int .u64))).sz = 1 from rfl,Nat.mul_one] at hv496_0
                                  replace hv496_0 := Option.some.inj (hv496_0.symm.trans hx496_0)
                                  injection hv496_0 with hva_ hvn_ hvc_
                                  rw [hva_] at ge496_0
                                  rw [hvc_] at ul496_0
                                  have HL496_0 := am (show Kd.V (Kd.int .u64) 22 _ w.heap.size _ _ (rd_L4 (rd_L7 t454 (ji112)) 0) from Kd.V_mk ul496_0 ge496_0)
                                  clear hva_ hvn_ hvc_ ge496_0 ul496_0
                                  clear hcc496 hce496
                                  have qi496 : (0 < (rd_L7 t454 (ji112)).length) = True := eq_true (by omega)
                                  (try rw [show ((0 : Int)).toNat = 0 from rfl] at hx496_0)
                                  (try rw [Addr.add_zero'] at hx496_0)
                                  have HR496_0 := am hi496_0
                                  have HC496_0 := am hl496_0
                                  clear hi496_0 hl496_0
                                  replace p496 := eq_true p496
                                  replace q496 := eq_true q496
                                  have p497 : 0 ≤ (0 : Int) := (by omega)
                                  have q497 : 0 < ((rd_L4 (rd_L7 t454 (ji112)) 0).length : Int) := od
                                  obtain ⟨ad497,e497,hx497_0⟩ := Kd.at_int (cx HR496_0) 0 p497 q497
                                  cases e497
                                  have qi497 : (0 < (rd_L4 (rd_L7 t454 (ji112)) 0).length) = True := eq_true (by omega)
                                  (try rw [show ((0 : Int)).toNat = 0 from rfl] at hx497_0)
                                  (try rw [Addr.add_zero'] at hx497_0)
                                  replace p497 := eq_true p497
                                  replace q497 := eq_true q497
                                  as_aux_lemma =>
                                   refine start_ (n := 39) (S := fun w' => w'.cell? ad489 = some (.slice (some ad490) (rd_L7 t454 0).length c489_0) ∧ w'.cell? ad490 = some (.slice (some ad491) (rd_L4 (rd_L7 t454 0) 0).length c490_0) ∧ w'.cell? ad491 = some (.int .u64 (rd (rd_L4 (rd_L7 t454 0) 0) 0)) ∧ w'.cell? ⟨ad489.block,ad489.off + 1,none⟩ = some (.slice (some ad493) (rd_L7 t454 1).length c492_0) ∧ w'.cell? ad493 = some (.slice (some ad494) (rd_L4 (rd_L7 t454 1) 0).length c493_0) ∧ w'.cell? ad494 = some (.int .u64 (rd (rd_L4 (rd_L7 t454 1) 0) 0)) ∧ w'.cell? (ad489.add ((ji112)).toNat) = some (.slice (some ad496) (rd_L7 t454 (ji112)).length c495_0) ∧ w'.cell? ad496 = some (.slice (some ad497) (rd_L4 (rd_L7 t454 (ji112)) 0).length c496_0) ∧ w'.cell? ad497 = some (.int .u64 (rd (rd_L4 (rd_L7 t454 (ji112)) 0) 0))) (ds := []) (bz 39 0) (by kernel_rfl) rfl rfl ⟨hx489_0,hx490_0,hx491_0,hx492_0,hx493_0,hx494_0,hx495_0,hx496_0,hx497_0⟩ (fun hHeld => ?_);refine with_tabW privitylaw43_TapeshiftTriplePrivacy.tab29 privitylaw43_TapeshiftTriplePrivacy.bits29 (fun HT_ HW_ => ?_)
                                   generalize w119.drew = w120 at HO_8 HO_9 HL480_0 HL481_0 HL484_0 HL485_0 BK432 HR480_0 HR481_0 HR484_0 HR485_0 HB HL489_0 HL492_0 HL495_0 HR489_0 HR492_0 HR495_0 hx489_0 hx492_0 hx495_0 HL490_0 HR490_0 HL493_0 HR493_0 HL496_0 HR496_0 hx490_0 hx491_0 hx493_0 hx494_0 hx496_0 hx497_0 hHeld ⊢
                                   refine on 0 197 (bz 39 1) HT_ (fun K hK => ?_)
                                   refine goes_ Try.func13 (by kernel_rfl) rfl #[] (by rfl) rfl rfl (by (try simp only [List.map_toArray,List.map_cons,List.map_nil]);first|done|rfl|(simp only [List.length_drop,List.length_take];rfl)) ?_
                                   with_reducible refine (privitylaw43_awake.calls k3  true _ A102.out).mono ?_
                                   rintro e w121 ⟨rfl,hb⟩
                                   have HS0_ := (hb.cell (World.block_lt_of_cell? _ _ (hHeld.1))).trans (hHeld.1)
                                   have HS1_ := (hb.cell (World.block_lt_of_cell? _ _ (hHeld.2.1))).trans (hHeld.2.1)
                                   have HS2_ := (hb.cell (World.block_lt_of_cell? _ _ (hHeld.2.2.1))).trans (hHeld.2.2.1)
                                   have HS3_ := (hb.cell (World.block_lt_of_cell? _ _ (hHeld.2.2.2.1))).trans (hHeld.2.2.2.1)
                                   have HS4_ := (hb.cell (World.block_lt_of_cell? _ _ (hHeld.2.2.2.2.1))).trans (hHeld.2.2.2.2.1)
                                   have HS5_ := (hb.cell (World.block_lt_of_cell? _ _ (hHeld.2.2.2.2.2.1))).trans (hHeld.2.2.2.2.2.1)
                                   have HS6_ := (hb.cell (World.block_lt_of_cell? _ _ (hHeld.2.2.2.2.2.2.1))).trans (hHeld.2.2.2.2.2.2.1)
                                   have HS7_ := (hb.cell (World.block_lt_of_cell? _ _ (hHeld.2.2.2.2.2.2.2.1))).trans (hHeld.2.2.2.2.2.2.2.1)
                                   have HS8_ := (hb.cell (World.block_lt_of_cell? _ _ (hHeld.2.2.2.2.2.2.2.2))).trans (hHeld.2.2.2.2.2.2.2.2)
                                   refine ⟨_,rfl,?_⟩
                                   have n0_ := am (Kd.N_below (rn HO_8) hb)
                                   have n1_ := am (Kd.N_below (rn HO_9) hb)
                                   have n2_ := am (Kd.V_below (rv HL480_0) hb)
                                   have n3_ := am (Kd.V_below (rv HL481_0) hb)
                                   have n4_ := am (Kd.V_below (rv HL484_0) hb)
                                   have n5_ := am (Kd.V_below (rv HL485_0) hb)
                                   have n6_ := am (kb BK432 hb)
                                   have n7_ := am (Kd.C_below (cx HR480_0) hb)
                                   have n8_ := am (Kd.C_below (cx HR481_0) hb)
                                   have n9_ := am (Kd.C_below (cx HR484_0) hb)
                                   have n10_ := am (Kd.C_below (cx HR485_0) hb)
                                   have n11_ := am (below_step (bg HB GE432) hb)
                                   clear HO_8
                                   clear HO_9
                                   clear HL480_0
                                   clear HL481_0
                                   clear HL484_0
                                   clear HL485_0
                                   clear BK432
                                   clear HR480_0
                                   clear HR481_0
                                   clear HR484_0
                                   clear HR485_0
                                   clear HB
                                   have HO_8 := n0_
                                   have HO_9 := n1_
                                   have HL480_0 := n2_
                                   have HL481_0 := n3_
                                   have HL484_0 := n4_
                                   have HL485_0 := n5_
                                   have BK432 := n6_
                                   have HR480_0 := n7_
                                   have HR481_0 := n8_
                                   have HR484_0 := n9_
                                   have HR485_0 := n10_
                                   have HB := n11_
                                   clear n0_ n1_ n2_ n3_ n4_ n5_ n6_ n7_ n8_ n9_ n10_ n11_
                                   (try clear hb)
                                   (try clear hb2)
                                   (try clear hk)
                                   (try clear hi)
                                   refine hK.out _ _ ⟨HS0_,HS1_,HS2_,HS3_,HS4_,HS5_,HS6_,HS7_,HS8_⟩ (fun hHeld => ?_)
                                   clear hK K
                                   refine nm 197 ?_
                                   refine pk 1 198 (bz 39 3) HT_ ?_
                                   refine pk 2 199 (bz 39 7) HT_ ?_
                                   refine pk 3 200 (bz 39 15) HT_ ?_
                                   refine pk 9 206 (bz 39 527) HT_ ?_
                                   refine tk 4 201 (bz 39 543) HT_ HW_ hHeld ?_
                                   refine pk 5 202 (bz 39 575) HT_ ?_
                                   refine tk 6 203 (bz 39 639) HT_ HW_ hHeld ?_
                                   refine pk 7 204 (bz 39 767) HT_ ?_
                                   refine tk 8 205 (bz 39 1023) HT_ HW_ hHeld ?_
                                   refine pk 10 207 (bz 39 2047) HT_ ?_
                                   refine pk 11 208 (bz 39 4095) HT_ ?_
                                   refine pk 12 209 (bz 39 8191) HT_ ?_
                                   refine pk 13 210 (bz 39 16383) HT_ ?_
                                   refine pk 14 211 (bz 39 32767) HT_ ?_
                                   refine pk 20 217 (bz 39 1081343) HT_ ?_
                                   refine tk 15 212 (bz 39 1114111) HT_ HW_ hHeld ?_
                                   refine pk 16 213 (bz 39 1179647) HT_ ?_
                                   refine tk 17 214 (bz 39 1310719) HT_ HW_ hHeld ?_
                                   refine pk 18 215 (bz 39 1572863) HT_ ?_
                                   refine tk 19 216 (bz 39 2097151) HT_ HW_ hHeld ?_
                                   refine pk 21 218 (bz 39 4194303) HT_ ?_
                                   refine pk 22 219 (bz 39 8388607) HT_ ?_
                                   refine pk 23 220 (bz 39 16777215) HT_ ?_
                                   refine pk 24 221 (bz 39 33554431) HT_ ?_
                                   refine pk 25 222 (bz 39 67108863) HT_ ?_
                                   refine pk 26 223 (bz 39 134217727) HT_ ?_
                                   refine pk 32 229 (bz 39 4429185023) HT_ ?_
                                   refine pk 33 230 (bz 39 13019119615) HT_ ?_
                                   refine pk 34 231 (bz 39 30198988799) HT_ ?_
                                   refine tk 27 224 (bz 39 30333206527) HT_ HW_ hHeld ?_
                                   refine pk 28 225 (bz 39 30601641983) HT_ ?_
                                   refine tk 29 226 (bz 39 31138512895) HT_ HW_ hHeld ?_
                                   refine pk 30 227 (bz 39 32212254719) HT_ ?_
                                   refine tk 31 228 (bz 39 34359738367) HT_ HW_ hHeld ?_
                                   refine on 35 232 (bz 39 68719476735) HT_ (fun K hK => ?_)
                                   refine goes_ Try.func31 (by kernel_rfl) rfl #[.int .u64 a0_0,.int .u64 t483,.int .u64 t487] (by rfl) rfl rfl (by (try simp only [List.map_toArray,List.map_cons,List.map_nil]);first|done|rfl|(simp only [List.length_drop,List.length_take];rfl)) ?_
                                   with_reducible refine (privityref01_Mul.calls k3 a0_0 t483 t487 t498 _ A117.out).mono ?_
                                   rintro e w' ⟨rfl,⟨nd,rfl⟩⟩
                                   refine ⟨_,rfl,?_⟩
                                   refine hK.out _ _ ⟨hHeld.1,hHeld.2.1,hHeld.2.2.1,hHeld.2.2.2.1,hHeld.2.2.2.2.1,hHeld.2.2.2.2.2.1,hHeld.2.2.2.2.2.2.1,hHeld.2.2.2.2.2.2.2.1,hHeld.2.2.2.2.2.2.2.2⟩ (fun hHeld => ?_)
                                   clear hK K
                                   refine nm 232 ?_
                                   refine pk 36 233 (bz 39 137438953471) HT_ ?_
                                   refine pk 37 234 (bz 39 274877906943) HT_ ?_
                                   refine pk 38 2 (bz 39 549755813887) HT_ ?_
                                   refine done_ (done_of HT_.out (by kernel_rfl)) ?_
                                   try go_wp2
                                   go_ret
                                   exact ⟨by first|rfl|(simp [errW_none,errW_some] <;> rfl)|(simp only [← hji112];first|rfl|(simp [errW_none,errW_some] <;> rfl))|(simp [*,errW_none,errW_some] <;> rfl),bg HB GE432⟩
                                 ·rw [if_neg c116] at H
                                  exact absurd H (by simp)
                                ·rw [if_neg c115] at H
                                 exact absurd H (by simp)
                               ·rw [if_neg c114] at H
                                exact absurd H (by simp)
                              ·rw [if_neg c113] at H
                               exact absurd H (by simp)
                             ·rw [if_neg c111] at H
                              have c111b0 : ((rd (rd_L4 (rd_L7 t454 1) 0) 0) == t487) = false := beq_eq_false_iff_ne.mpr c111
                              have c111b1 : ((rd (rd_L4 (rd_L7 t454 1) 0) 0) != t487) = true := bne_iff_ne.mpr c111
                              obtain rfl := Option.some.inj H
                              have hcz122_0 := bc BK432 0
                              have hcz122_1 := bc BK432 1
                              have hcz122_2 := bc BK432 2
                              have hcz122_3 := bc BK432 3
                              have hcz122_4 := bc BK432 4
                              have hcz122_5 := bc BK432 5
                              have hcz122_6 := bc BK432 6
                              have hfz122_0 := bf BK432 0
                              have hfz122_1 := bf BK432 1
                              have hfz122_2 := bf BK432 2
                              have hfz122_3 := bf BK432 3
                              have hfz122_4 := bf BK432 4
                              have hfz122_5 := bf BK432 5
                              have hfz122_6 := bf BK432 6
                              try go_wp2
                              have n0_ := am (Kd.N_drew HO_8.out)
                              have n1_ := am (Kd.N_drew HO_9.out)
                              have n2_ := am (blk_drew BK432.out)
                              have n3_ := am (below_drew1 HB.out)
                              clear HO_8
                              clear HO_9
                              clear BK432
                              clear HB
                              have HO_8 := n0_
                              have HO_9 := n1_
                              have BK432 := n2_
                              have HB := n3_
                              clear n0_ n1_ n2_ n3_
                              have p480 : 0 ≤ (0 : Int) := (by omega)
                              have q480 : 0 < (t451.length : Int) := od
                              obtain ⟨ad480,A480_0,c480_0,e480,hx480_0,hl480_0,hi480_0⟩ := at_L7 (Kd.N_reads' HO_8.out).2.2 0 p480 q480
                              cases e480
                              obtain ⟨ce480,hce480,hMe480,hcc480⟩ := Kd.N_get HO_8.out [] 0 p480 (by first|exact q480|exact od|(have e_ := (Kd.N_reads' HO_8.out).1;omega))
                              obtain ⟨ua480_0,uc480_0,rfl,ul480_0,ge480_0⟩ := Kd.FK_slice_open hMe480
                              have hv480_0 := hcc480 0 _ rfl
                              rw [Nat.add_zero,show ((Kd.slice 26 (Kd.slice 22 (Kd.int .u64)))).sz = 1 from rfl,Nat.mul_one] at hv480_0
                              replace hv480_0 := Option.some.inj (hv480_0.symm.trans hx480_0)
                              injection hv480_0 with hva_ hvn_ hvc_
                              rw [hva_] at ge480_0
                              rw [hvc_] at ul480_0
                              have HL480_0 := am (show Kd.V (Kd.slice 22 (Kd.int .u64)) 26 _ w.heap.size _ _ (rd_L7 t451 0) from Kd.V_mk ul480_0 ge480_0)
                              clear hva_ hvn_ hvc_ ge480_0 ul480_0
                              clear hcc480 hce480
                              have qi480 : (0 < t451.length) = True := eq_true (by omega)
                              (try rw [show ((0 : Int)).toNat = 0 from rfl] at hx480_0)
                              (try rw [Addr.add_zero'] at hx480_0)
                              have HR480_0 := am hi480_0
                              have HC480_0 := am hl480_0
                              clear hi480_0 hl480_0
                              replace p480 := eq_true p480
                              replace q480 := eq_true q480
                              have p481 : 0 ≤ (0 : Int) := (by omega)
                              have q481 : 0 < ((rd_L7 t451 0).length : Int) := od
                              obtain ⟨ad481,A481_0,c481_0,e481,hx481_0,hl481_0,hi481_0⟩ := at_L4 (cx HR480_0) 0 p481 q481
                              cases e481
                              obtain ⟨ce481,hce481,hMe481,hcc481⟩ := Kd.V_get HL480_0.out [] 0 p481 (by first|exact q481|exact od|(have e_ := (Kd.V_reads' HL480_0.out).1;omega))
                              obtain ⟨ua481_0,uc481_0,rfl,ul481_0,ge481_0⟩ := Kd.FK_slice_open hMe481
                              have hv481_0 := hcc481 0 _ rfl
                              rw [Nat.add_zero,show ((Kd.slice 22 (Kd.int .u64))).sz = 1 from rfl,Nat.mul_one] at hv481_0
                              replace hv481_0 := Option.some.inj (hv481_0.symm.trans hx481_0)
                              injection hv481_0 with hva_ hvn_ hvc_
                              rw [hva_] at ge481_0
                              rw [hvc_] at ul481_0
                              have HL481_0 := am (show Kd.V (Kd.int .u64) 22 _ w.heap.size _ _ (rd_L4 (rd_L7 t451 0) 0) from Kd.V_mk ul481_0 ge481_0)
                              clear hva_ hvn_ hvc_ ge481_0 ul481_0
                              clear hcc481 hce481
                              have qi481 : (0 < (rd_L7 t451 0).length) = True := eq_true (by omega)
                              (try rw [show ((0 : Int)).toNat = 0 from rfl] at hx481_0)
                              (try rw [Addr.add_zero'] at hx481_0)
                              have HR481_0 := am hi481_0
                              have HC481_0 := am hl481_0
                              clear hi481_0 hl481_0
                              replace p481 := eq_true p481
                              replace q481 := eq_true q481
                              have p482 : 0 ≤ (0 : Int) := (by omega)
                              have q482 : 0 < ((rd_L4 (rd_L7 t451 0) 0).length : Int) := od
                              obtain ⟨ad482,e482,hx482_0⟩ := Kd.at_int (cx HR481_0) 0 p482 q482
                              cases e482
                              have qi482 : (0 < (rd_L4 (rd_L7 t451 0) 0).length) = True := eq_true (by omega)
                              (try rw [show ((0 : Int)).toNat = 0 from rfl] at hx482_0)
                              (try rw [Addr.add_zero'] at hx482_0)
                              replace p482 := eq_true p482
                              replace q482 := eq_true q482
                              have p484 : 0 ≤ (1 : Int) := (by omega)
                              have q484 : 1 < (t451.length : Int) := od
                              obtain ⟨ad484,A484_0,c484_0,e484,hx484_0,hl484_0,hi484_0⟩ := at_L7 (Kd.N_reads' HO_8.out).2.2 1 p484 q484
                              obtain rfl : ad480 = ad484 := (by injection e484)
                              obtain ⟨ce484,hce484,hMe484,hcc484⟩ := Kd.N_get HO_8.out [] 1 p484 (by first|exact q484|exact od|(have e_ := (Kd.N_reads' HO_8.out).1;omega))
                              obtain ⟨ua484_0,uc484_0,rfl,ul484_0,ge484_0⟩ := Kd.FK_slice_open hMe484
                              have hv484_0 := hcc484 0 _ rfl
                              rw [Nat.add_zero,show ((Kd.slice 26 (Kd.slice 22 (Kd.int .u64)))).sz = 1 from rfl,Nat.mul_one] at hv484_0
                              replace hv484_0 := Option.some.inj (hv484_0.symm.trans hx484_0)
                              injection hv484_0 with hva_ hvn_ hvc_
                              rw [hva_] at ge484_0
                              rw [hvc_] at ul484_0
                              have HL484_0 := am (show Kd.V (Kd.slice 22 (Kd.int .u64)) 26 _ w.heap.size _ _ (rd_L7 t451 1) from Kd.V_mk ul484_0 ge484_0)
                              clear hva_ hvn_ hvc_ ge484_0 ul484_0
                              clear hcc484 hce484
                              (try simp only [show (1 : Int).toNat = 1 from rfl,Nat.reduceMul,Nat.reduceEqDiff,Go.Addr.add,↓reduceIte] at hx484_0)
                              have qi484 : (1 < t451.length) = True := eq_true (by omega)
                              (try rw [show ((1 : Int)).toNat = 1 from rfl] at hx484_0)
                              have HR484_0 := am hi484_0
                              have HC484_0 := am hl484_0
                              clear hi484_0 hl484_0
                              replace p484 := eq_true p484
                              replace q484 := eq_true q484
                              have p485 : 0 ≤ (0 : Int) := (by omega)
                              have q485 : 0 < ((rd_L7 t451 1).length : Int) := od
                              obtain ⟨ad485,A485_0,c485_0,e485,hx485_0,hl485_0,hi485_0⟩ := at_L4 (cx HR484_0) 0 p485 q485
                              cases e485
                              obtain ⟨ce485,hce485,hMe485,hcc485⟩ := Kd.V_get HL484_0.out [] 0 p485 (by first|exact q485|exact od|(have e_ := (Kd.V_reads' HL484_0.out).1;omega))
                              obtain ⟨ua485_0,uc485_0,rfl,ul485_0,ge485_0⟩ := Kd.FK_slice_open hMe485
                              have hv485_0 := hcc485 0 _ rfl
                              rw [Nat.add_zero,show ((Kd.slice 22 (Kd.int .u64))).sz = 1 from rfl,Nat.mul_one] at hv485_0
                              replace hv485_0 := Option.some.inj (hv485_0.symm.trans hx485_0)
                              injection hv485_0 with hva_ hvn_ hvc_
                              rw [hva_] at ge485_0
                              rw [hvc_] at ul485_0
                              have HL485_0 := am (show Kd.V (Kd.int .u64) 22 _ w.heap.size _ _ (rd_L4 (rd_L7 t451 1) 0) from Kd.V_mk ul485_0 ge485_0)
                              clear hva_ hvn_ hvc_ ge485_0 ul485_0
                              clear hcc485 hce485
                              have qi485 : (0 < (rd_L7 t451 1).length) = True := eq_true (by omega)
                              (try rw [show ((0 : Int)).toNat = 0 from rfl] at hx485_0)
                              (try rw [Addr.add_zero'] at hx485_0)
                              have HR485_0 := am hi485_0
                              have HC485_0 := am hl485_0
                              clear hi485_0 hl485_0
                              replace p485 := eq_true p485
                              replace q485 := eq_true q485
                              have p486 : 0 ≤ (0 : Int) := (by omega)
                              have q486 : 0 < ((rd_L4 (rd_L7 t451 1) 0).length : Int) := od
                              obtain ⟨ad486,e486,hx486_0⟩ := Kd.at_int (cx HR485_0) 0 p486 q486
                              cases e486
                              have qi486 : (0 < (rd_L4 (rd_L7 t451 1) 0).length) = True := eq_true (by omega)
                              (try rw [show ((0 : Int)).toNat = 0 from rfl] at hx486_0)
                              (try rw [Addr.add_zero'] at hx486_0)
                              replace p486 := eq_true p486
                              replace q486 := eq_true q486
                              refine start_ (n := 28) (S := fun w' => w'.cell? ⟨gb432,0,none⟩ = some (.int .u64 a0_0) ∧ w'.cell? ⟨gb432,1,none⟩ = some (.int .i64 a0_1) ∧ w'.cell? ⟨gb432,2,none⟩ = some (.int .i64 a0_2) ∧ w'.cell? ⟨gb432,3,none⟩ = some (.slice A0_3 l0_3.length c0_3) ∧ w'.cell? ⟨gb432,4,none⟩ = some (.int .u64 a0_4) ∧ w'.cell? ⟨gb432,5,none⟩ = some (.int .u64 a0_5) ∧ w'.cell? ⟨gb432,6,none⟩ = some (.slice A0_6 l0_6.length c0_6) ∧ w'.cell? ad480 = some (.slice (some ad481) (rd_L7 t451 0).length c480_0) ∧ w'.cell? ad481 = some (.slice (some ad482) (rd_L4 (rd_L7 t451 0) 0).length c481_0) ∧ w'.cell? ad482 = some (.int .u64 (rd (rd_L4 (rd_L7 t451 0) 0) 0)) ∧ w'.cell? ⟨ad480.block,ad480.off + 1,none⟩ = some (.slice (some ad485) (rd_L7 t451 1).length c484_0) ∧ w'.cell? ad485 = some (.slice (some ad486) (rd_L4 (rd_L7 t451 1) 0).length c485_0) ∧ w'.cell? ad486 = some (.int .u64 (rd (rd_L4 (rd_L7 t451 1) 0) 0))) (ds := []) (bz 28 0) (by kernel_rfl) rfl rfl ⟨(blk_cell BK432.out 0).trans rfl,(blk_cell BK432.out 1).trans rfl,(blk_cell BK432.out 2).trans rfl,(blk_cell BK432.out 3).trans rfl,(blk_cell BK432.out 4).trans rfl,(blk_cell BK432.out 5).trans rfl,(blk_cell BK432.out 6).trans rfl,hx480_0,hx481_0,hx482_0,hx484_0,hx485_0,hx486_0⟩ (fun hHeld => ?_);refine with_tabW privitylaw43_TapeshiftTriplePrivacy.tab28 privitylaw43_TapeshiftTriplePrivacy.bits28 (fun HT_ HW_ => ?_)
                              generalize wr.drew = w123 at HO_8 HO_9 BK432 HB HL480_0 HL481_0 HL484_0 HL485_0 HR480_0 HR481_0 HR484_0 HR485_0 hx480_0 hx481_0 hx482_0 hx484_0 hx485_0 hx486_0 hHeld ⊢
                              refine pk 0 171 (bz 28 1) HT_ ?_
                              refine pk 1 172 (bz 28 3) HT_ ?_
                              refine pk 2 173 (bz 28 7) HT_ ?_
                              refine pk 8 179 (bz 28 263) HT_ ?_
                              refine pk 10 181 (bz 28 1287) HT_ ?_
                              refine pk 13 184 (bz 28 9479) HT_ ?_
                              refine pk 14 185 (bz 28 25863) HT_ ?_
                              refine pk 15 186 (bz 28 58631) HT_ ?_
                              refine pk 21 192 (bz 28 2155783) HT_ ?_
                              refine pk 23 194 (bz 28 10544391) HT_ ?_
                              refine tk 3 174 (bz 28 10544399) HT_ HW_ hHeld ?_
                              refine pk 4 175 (bz 28 10544415) HT_ ?_
                              refine tk 5 176 (bz 28 10544447) HT_ HW_ hHeld ?_
                              refine pk 6 177 (bz 28 10544511) HT_ ?_
                              refine tk 7 178 (bz 28 10544639) HT_ HW_ hHeld ?_
                              refine tk 9 180 (bz 28 10545151) HT_ HW_ hHeld ?_
                              refine pk 11 182 (bz 28 10547199) HT_ ?_
                              refine tk 16 187 (bz 28 10612735) HT_ HW_ hHeld ?_
                              refine pk 17 188 (bz 28 10743807) HT_ ?_
                              refine tk 18 189 (bz 28 11005951) HT_ HW_ hHeld ?_
                              refine pk 19 190 (bz 28 11530239) HT_ ?_
                              refine tk 20 191 (bz 28 12578815) HT_ HW_ hHeld ?_
                              refine tk 22 193 (bz 28 16773119) HT_ HW_ hHeld ?_
                              refine pk 24 195 (bz 28 33550335) HT_ ?_
                              refine on 12 183 (bz 28 33554431) HT_ (fun K hK => ?_)
                              refine goes_ Try.func17 (by kernel_rfl) rfl #[.int .u64 a0_0,.int .u64 (rd (rd_L4 (rd_L7 t451 0) 0) 0),.int .u64 (Int.tmod a0_4 a0_0)] (by rfl) rfl rfl (by (try simp only [List.map_toArray,List.map_cons,List.map_nil]);first|done|rfl|(simp only [List.length_drop,List.length_take];rfl)) ?_
                              with_reducible refine (privityref01_Add.calls a0_0 (rd (rd_L4 (rd_L7 t451 0) 0) 0) (Int.tmod a0_4 a0_0) t483 _ A97.out).mono ?_
                              rintro e w' ⟨rfl,⟨nd,rfl⟩⟩
                              refine ⟨_,rfl,?_⟩
                              refine hK.out _ _ ⟨(blk_cell BK432.out 0).trans rfl,(blk_cell BK432.out 1).trans rfl,(blk_cell BK432.out 2).trans rfl,(blk_cell BK432.out 3).trans rfl,(blk_cell BK432.out 4).trans rfl,(blk_cell BK432.out 5).trans rfl,(blk_cell BK432.out 6).trans rfl,hHeld.2.2.2.2.2.2.2.1,hHeld.2.2.2.2.2.2.2.2.1,hHeld.2.2.2.2.2.2.2.2.2.1,hHeld.2.2.2.2.2.2.2.2.2.2.1,hHeld.2.2.2.2.2.2.2.2.2.2.2.1,hHeld.2.2.2.2.2.2.2.2.2.2.2.2⟩ (fun hHeld => ?_)
                              clear hK K
                              refine nm 183 ?_
                              refine on 25 196 (bz 28 67108863) HT_ (fun K hK => ?_)
                              refine goes_ Try.func17 (by kernel_rfl) rfl #[.int .u64 a0_0,.int .u64 (rd (rd_L4 (rd_L7 t451 1) 0) 0),.int .u64 (Int.tmod a0_5 a0_0)] (by rfl) rfl rfl (by (try simp only [List.map_toArray,List.map_cons,List.map_nil]);first|done|rfl|(simp only [List.length_drop,List.length_take];rfl)) ?_
                              with_reducible refine (privityref01_Add.calls a0_0 (rd (rd_L4 (rd_L7 t451 1) 0) 0) (Int.tmod a0_5 a0_0) t487 _ A101.out).mono ?_
                              rintro e w' ⟨rfl,⟨nd,rfl⟩⟩
                              refine ⟨_,rfl,?_⟩
                              refine hK.out _ _ ⟨(blk_cell BK432.out 0).trans rfl,(blk_cell BK432.out 1).trans rfl,(blk_cell BK432.out 2).trans rfl,(blk_cell BK432.out 3).trans rfl,(blk_cell BK432.out 4).trans rfl,(blk_cell BK432.out 5).trans rfl,(blk_cell BK432.out 6).trans rfl,hHeld.2.2.2.2.2.2.2.1,hHeld.2.2.2.2.2.2.2.2.1,hHeld.2.2.2.2.2.2.2.2.2.1,hHeld.2.2.2.2.2.2.2.2.2.2.1,hHeld.2.2.2.2.2.2.2.2.2.2.2.1,hHeld.2.2.2.2.2.2.2.2.2.2.2.2⟩ (fun hHeld => ?_)
                              clear hK K
                              refine nm 196 ?_
                              refine pk 26 16 (bz 28 134217727) HT_ ?_
                              refine pk 27 17 (bz 28 268435455) HT_ ?_
                              refine done_ (done_of HT_.out (by kernel_rfl)) ?_
                              try go_wp2
                              (try (rw [drewN_self w123];generalize hq_ : World.drewN w123 _ = w123;have n0_ : Aside0 (Kd.V (Kd.slice 22 (Kd.int .u64)) 26 w123 w.heap.size (fun k_ => some k_ ≠ (.slice (some ad480) t451.length co62 : Value).ownBlock ∧ some k_ ≠ (.slice Ao63 t454.length co63 : Value).ownBlock ∧ k_ ≠ gb432) (.slice (some ad481) (rd_L7 t451 0).length c480_0) (rd_L7 t451 0)) := ⟨by rw [← hq_];exact (by (with_reducible repeat (first|apply Kd.V_alloc|apply Kd.V_drewN|apply Kd.V_drew));exact Kd.V_mono HL480_0.out (fun _ hk => ⟨hk.2,⟨hk.1.1,hk.1.2⟩⟩))⟩;have n1_ : Aside0 (Kd.V (Kd.int .u64) 22 w123 w.heap.size (fun k_ => some k_ ≠ (.slice (some ad480) t451.length co62 : Value).ownBlock ∧ some k_ ≠ (.slice Ao63 t454.length co63 : Value).ownBlock ∧ k_ ≠ gb432) (.slice (some ad482) (rd_L4 (rd_L7 t451 0) 0).length c481_0) (rd_L4 (rd_L7 t451 0) 0)) := ⟨by rw [← hq_];exact (by (with_reducible repeat (first|apply Kd.V_alloc|apply Kd.V_drewN|apply Kd.V_drew));exact Kd.V_mono HL481_0.out (fun _ hk => ⟨hk.2,⟨hk.1.1,hk.1.2⟩⟩))⟩;have n2_ : Aside0 (Kd.V (Kd.slice 22 (Kd.int .u64)) 26 w123 w.heap.size (fun k_ => some k_ ≠ (.slice (some ad480) t451.length co62 : Value).ownBlock ∧ some k_ ≠ (.slice Ao63 t454.length co63 : Value).ownBlock ∧ k_ ≠ gb432) (.slice (some ad485) (rd_L7 t451 1).length c484_0) (rd_L7 t451 1)) := ⟨by rw [← hq_];exact (by (with_reducible repeat (first|apply Kd.V_alloc|apply Kd.V_drewN|apply Kd.V_drew));exact Kd.V_mono HL484_0.out (fun _ hk => ⟨hk.2,⟨hk.1.1,hk.1.2⟩⟩))⟩;have n3_ : Aside0 (Kd.V (Kd.int .u64) 22 w123 w.heap.size (fun k_ => some k_ ≠ (.slice (some ad480) t451.length co62 : Value).ownBlock ∧ some k_ ≠ (.slice Ao63 t454.length co63 : Value).ownBlock ∧ k_ ≠ gb432) (.slice (some ad486) (rd_L4 (rd_L7 t451 1) 0).length c485_0) (rd_L4 (rd_L7 t451 1) 0)) := ⟨by rw [← hq_];exact (by (with_reducible repeat (first|apply Kd.V_alloc|apply Kd.V_drewN|apply Kd.V_drew));exact Kd.V_mono HL485_0.out (fun _ hk => ⟨hk.2,⟨hk.1.1,hk.1.2⟩⟩))⟩;have n4_ : Aside0 (Kd.N (Kd.slice 26 (Kd.slice 22 (Kd.int .u64))) 34 w123 w.heap.size (fun k_ => some k_ ≠ (.slice Ao63 t454.length co63 : Value).ownBlock ∧ k_ ≠ gb432) (.slice (some ad480) t451.length co62) t451) := ⟨by rw [← hq_];exact (rn HO_8)⟩;have n5_ : Aside0 (Kd.N (Kd.slice 26 (Kd.slice 22 (Kd.int .u64))) 34 w123 w.heap.size (fun k_ => some k_ ≠ (.slice (some ad480) t451.length co62 : Value).ownBlock ∧ k_ ≠ gb432) (.slice Ao63 t454.length co63) t454) := ⟨by rw [← hq_];exact (rn HO_9)⟩;have n6_ : Aside0 (w123.heap[gb432]? = some (.cells #[.int .u64 a0_0,.int .i64 a0_1,.int .i64 a0_2,.slice A0_3 l0_3.length c0_3,.int .u64 a0_4,.int .u64 a0_5,.slice A0_6 l0_6.length c0_6] 28 (0,0))) := ⟨by rw [← hq_];exact (by (with_reducible repeat (first|refine blk_drewN ?_ _|refine blk_drew ?_|refine blk_alloc ?_ _));exact BK432.out)⟩;have n7_ : Aside0 (Below w.heap.size w w123) := ⟨by rw [← hq_];exact (bg HB GE432)⟩;have n8_ : Aside0 (Kd.C (Kd.slice 22 (Kd.int .u64)) w123 (some ad481) (rd_L7 t451 0).length (rd_L7 t451 0)) := ⟨by rw [← hq_];exact (cx HR480_0)⟩;have n9_ : Aside0 (Kd.C (Kd.int .u64) w123 (some ad482) (rd_L4 (rd_L7 t451 0) 0).length (rd_L4 (rd_L7 t451 0) 0)) := ⟨by rw [← hq_];exact (cx HR481_0)⟩;have n10_ : Aside0 (Kd.C (Kd.slice 22 (Kd.int .u64)) w123 (some ad485) (rd_L7 t451 1).length (rd_L7 t451 1)) := ⟨by rw [← hq_];exact (cx HR484_0)⟩;have n11_ : Aside0 (Kd.C (Kd.int .u64) w123 (some ad486) (rd_L4 (rd_L7 t451 1) 0).length (rd_L4 (rd_L7 t451 1) 0)) := ⟨by rw [← hq_];exact (cx HR485_0)⟩;clear HL480_0 HL481_0 HL484_0 HL485_0 HO_8 HO_9 BK432 HB HR480_0 HR481_0 HR484_0 HR485_0 hq_;have HL480_0 := n0_;have HL481_0 := n1_;have HL484_0 := n2_;have HL485_0 := n3_;have HO_8 := n4_;have HO_9 := n5_;have BK432 := n6_;have HB := n7_;have HR480_0 := n8_;have HR481_0 := n9_;have HR484_0 := n10_;have HR485_0 := n11_;clear n0_ n1_ n2_ n3_ n4_ n5_ n6_ n7_ n8_ n9_ n10_ n11_))
                              have n0_ := am (Kd.N_drew HO_8.out)
                              have n1_ := am (Kd.N_drew HO_9.out)
                              have n2_ := am (Kd.V_drew HL480_0.out)
                              have n3_ := am (Kd.V_drew HL481_0.out)
                              have n4_ := am (Kd.V_drew HL484_0.out)
                              have n5_ := am (Kd.V_drew HL485_0.out)
                              have n6_ := am (blk_drew BK432.out)
                              have n7_ := am (Kd.C_drew HR480_0.out)
                              have n8_ := am (Kd.C_drew HR481_0.out)
                              have n9_ := am (Kd.C_drew HR484_0.out)
                              have n10_ := am (Kd.C_drew HR485_0.out)
                              have n11_ := am (below_drew1 HB.out)
                              clear HO_8
                              clear HO_9
                              clear HL480_0
                              clear HL481_0
                              clear HL484_0
                              clear HL485_0
                              clear BK432
                              clear HR480_0
                              clear HR481_0
                              clear HR484_0
                              clear HR485_0
                              clear HB
                              have HO_8 := n0_
                              have HO_9 := n1_
                              have HL480_0 := n2_
                              have HL481_0 := n3_
                              have HL484_0 := n4_
                              have HL485_0 := n5_
                              have BK432 := n6_
                              have HR480_0 := n7_
                              have HR481_0 := n8_
                              have HR484_0 := n9_
                              have HR485_0 := n10_
                              have HB := n11_
                              clear n0_ n1_ n2_ n3_ n4_ n5_ n6_ n7_ n8_ n9_ n10_ n11_
                              have p489 : 0 ≤ (0 : Int) := (by omega)
                              have q489 : 0 < (t454.length : Int) := od
                              obtain ⟨ad489,A489_0,c489_0,e489,hx489_0,hl489_0,hi489_0⟩ := at_L7 (Kd.N_reads' HO_9.out).2.2 0 p489 q489
                              cases e489
                              obtain ⟨ce489,hce489,hMe489,hcc489⟩ := Kd.N_get HO_9.out [] 0 p489 (by first|exact q489|exact od|(have e_ := (Kd.N_reads' HO_9.out).1;omega))
                              obtain ⟨ua489_0,uc489_0,rfl,ul489_0,ge489_0⟩ := Kd.FK_slice_open hMe489
                              have hv489_0 := hcc489 0 _ rfl
                              rw [Nat.add_zero,show ((Kd.slice 26 (Kd.slice 22 (Kd.int .u64)))).sz = 1 from rfl,Nat.mul_one] at hv489_0
                              replace hv489_0 := Option.some.inj (hv489_0.symm.trans hx489_0)
                              injection hv489_0 with hva_ hvn_ hvc_
                              rw [hva_] at ge489_0
                              rw [hvc_] at ul489_0
                              have HL489_0 := am (show Kd.V (Kd.slice 22 (Kd.int .u64)) 26 _ w.heap.size _ _ (rd_L7 t454 0) from Kd.V_mk ul489_0 ge489_0)
                              clear hva_ hvn_ hvc_ ge489_0 ul489_0
                              clear hcc489 hce489
                              have qi489 : (0 < t454.length) = True := eq_true (by omega)
                              (try rw [show ((0 : Int)).toNat = 0 from rfl] at hx489_0)
                              (try rw [Addr.add_zero'] at hx489_0)
                              have HR489_0 := am hi489_0
                              have HC489_0 := am hl489_0
                              clear hi489_0 hl489_0
                              replace p489 := eq_true p489
                              replace q489 := eq_true q489
                              have p492 : 0 ≤ (1 : Int) := (by omega)
                              have q492 : 1 < (t454.length : Int) := od
                              obtain ⟨ad492,A492_0,c492_0,e492,hx492_0,hl492_0,hi492_0⟩ := at_L7 (Kd.N_reads' HO_9.out).2.2 1 p492 q492
                              obtain rfl : ad489 = ad492 := (by injection e492)
                              obtain ⟨ce492,hce492,hMe492,hcc492⟩ := Kd.N_get HO_9.out [] 1 p492 (by first|exact q492|exact od|(have e_ := (Kd.N_reads' HO_9.out).1;omega))
                              obtain ⟨ua492_0,uc492_0,rfl,ul492_0,ge492_0⟩ := Kd.FK_slice_open hMe492
                              have hv492_0 := hcc492 0 _ rfl
                              rw [Nat.add_zero,show ((Kd.slice 26 (Kd.slice 22 (Kd.int .u64)))).sz = 1 from rfl,Nat.mul_one] at hv492_0
                              replace hv492_0 := Option.some.inj (hv492_0.symm.trans hx492_0)
                              injection hv492_0 with hva_ hvn_ hvc_
                              rw [hva_] at ge492_0
                              rw [hvc_] at ul492_0
                              have HL492_0 := am (show Kd.V (Kd.slice 22 (Kd.int .u64)) 26 _ w.heap.size _ _ (rd_L7 t454 1) from Kd.V_mk ul492_0 ge492_0)
                              clear hva_ hvn_ hvc_ ge492_0 ul492_0
                              clear hcc492 hce492
                              (try simp only [show (1 : Int).toNat = 1 from rfl,Nat.reduceMul,Nat.reduceEqDiff,Go.Addr.add,↓reduceIte] at hx492_0)
                              have qi492 : (1 < t454.length) = True := eq_true (by omega)
                              (try rw [show ((1 : Int)).toNat = 1 from rfl] at hx492_0)
                              have HR492_0 := am hi492_0
                              have HC492_0 := am hl492_0
                              clear hi492_0 hl492_0
                              replace p492 := eq_true p492
                              replace q492 := eq_true q492
                              have p490 : 0 ≤ (0 : Int) := (by omega)
                              have q490 : 0 < ((rd_L7 t454 0).length : Int) := od
                              obtain ⟨ad490,A490_0,c490_0,e490,hx490_0,hl490_0,hi490_0⟩ := at_L4 (cx HR489_0) 0 p490 q490
                              cases e490
                              obtain ⟨ce490,hce490,hMe490,hcc490⟩ := Kd.V_get HL489_0.out [] 0 p490 (by first|exact q490|exact od|(have e_ := (Kd.V_reads' HL489_0.out).1;omega))
                              obtain ⟨ua490_0,uc490_0,rfl,ul490_0,ge490_0⟩ := Kd.FK_slice_open hMe490
                              have hv490_0 := hcc490 0 _ rfl
                              rw [Nat.add_zero,show ((Kd.slice 22 (Kd.int .u64))).sz = 1 from rfl,Nat.mul_one] at hv490_0
                              replace hv490_0 := Option.some.inj (hv490_0.symm.trans hx490_0)
                              injection hv490_0 with hva_ hvn_ hvc_
                              rw [hva_] at ge490_0
                              rw [hvc_] at ul490_0
                              have HL490_0 := am (show Kd.V (Kd.int .u64) 22 _ w.heap.size _ _ (rd_L4 (rd_L7 t454 0) 0) from Kd.V_mk ul490_0 ge490_0)
                              clear hva_ hvn_ hvc_ ge490_0 ul490_0
                              clear hcc490 hce490
                              have qi490 : (0 < (rd_L7 t454 0).length) = True := eq_true (by omega)
                              (try rw [show ((0 : Int)).toNat = 0 from rfl] at hx490_0)
                              (try rw [Addr.add_zero'] at hx490_0)
                              have HR490_0 := am hi490_0
                              have HC490_0 := am hl490_0
                              clear hi490_0 hl490_0
                              replace p490 := eq_true p490
                              replace q490 := eq_true q490
                              have p491 : 0 ≤ (0 : Int) := (by omega)
                              have q491 : 0 < ((rd_L4 (rd_L7 t454 0) 0).length : Int) := od
                              obtain ⟨ad491,e491,hx491_0⟩ := Kd.at_int (cx HR490_0) 0 p491 q491
                              cases e491
                              have qi491 : (0 < (rd_L4 (rd_L7 t454 0) 0).length) = True := eq_true (by omega)
                              (try rw [show ((0 : Int)).toNat = 0 from rfl] at hx491_0)
                              (try rw [Addr.add_zero'] at hx491_0)
                              replace p491 := eq_true p491
                              replace q491 := eq_true q491
                              have p493 : 0 ≤ (0 : Int) := (by omega)
                              have q493 : 0 < ((rd_L7 t454 1).length : Int) := od
                              obtain ⟨ad493,A493_0,c493_0,e493,hx493_0,hl493_0,hi493_0⟩ := at_L4 (cx HR492_0) 0 p493 q493
                              cases e493
                              obtain ⟨ce493,hce493,hMe493,hcc493⟩ := Kd.V_get HL492_0.out [] 0 p493 (by first|exact q493|exact od|(have e_ := (Kd.V_reads' HL492_0.out).1;omega))
                              obtain ⟨ua493_0,uc493_0,rfl,ul493_0,ge493_0⟩ := Kd.FK_slice_open hMe493
                              have hv493_0 := hcc493 0 _ rfl
                              rw [Nat.add_zero,show ((Kd.slice 22 (Kd.int .u64))).sz = 1 from rfl,Nat.mul_one] at hv493_0
                              replace hv493_0 := Option.some.inj (hv493_0.symm.trans hx493_0)
                              injection hv493_0 with hva_ hvn_ hvc_
                              rw [hva_] at ge493_0
                              rw [hvc_] at ul493_0
                              have HL493_0 := am (show Kd.V (Kd.int .u64) 22 _ w.heap.size _ _ (rd_L4 (rd_L7 t454 1) 0) from Kd.V_mk ul493_0 ge493_0)
                              clear hva_ hvn_ hvc_ ge493_0 ul493_0
                              clear hcc493 hce493
                              have qi493 : (0 < (rd_L7 t454 1).length) = True := eq_true (by omega)
                              (try rw [show ((0 : Int)).toNat = 0 from rfl] at hx493_0)
                              (try rw [Addr.add_zero'] at hx493_0)
                              have HR493_0 := am hi493_0
                              have HC493_0 := am hl493_0
                              clear hi493_0 hl493_0
                              replace p493 := eq_true p493
                              replace q493 := eq_true q493
                              have p494 : 0 ≤ (0 : Int) := (by omega)
                              have q494 : 0 < ((rd_L4 (rd_L7 t454 1) 0).length : Int) := od
                              obtain ⟨ad494,e494,hx494_0⟩ := Kd.at_int (cx HR493_0) 0 p494 q494
                              cases e494
                              have qi494 : (0 < (rd_L4 (rd_L7 t454 1) 0).length) = True := eq_true (by omega)
                              (try rw [show ((0 : Int)).toNat = 0 from rfl] at hx494_0)
                              (try rw [Addr.add_zero'] at hx494_0)
                              replace p494 := eq_true p494
                              replace q494 := eq_true q494
                              as_aux_lemma =>
                               refine start_ (n := 39) (S := fun w' => w'.cell? ad489 = some (.slice (some ad490) (rd_L7 t454 0).length c489_0) ∧ w'.cell? ad490 = some (.slice (some ad491) (rd_L4 (rd_L7 t454 0) 0).length c490_0) ∧ w'.cell? ad491 = some (.int .u64 (rd (rd_L4 (rd_L7 t454 0) 0) 0)) ∧ w'.cell? ⟨ad489.block,ad489.off + 1,none⟩ = some (.slice (some ad493) (rd_L7 t454 1).length c492_0) ∧ w'.cell? ad493 = some (.slice (some ad494) (rd_L4 (rd_L7 t454 1) 0).length c493_0) ∧ w'.cell? ad494 = some (.int .u64 (rd (rd_L4 (rd_L7 t454 1) 0) 0))) (ds := []) (bz 39 0) (by kernel_rfl) rfl rfl ⟨hx489_0,hx490_0,hx491_0,hx492_0,hx493_0,hx494_0⟩ (fun hHeld => ?_);refine with_tabW privitylaw43_TapeshiftTriplePrivacy.tab29 privitylaw43_TapeshiftTriplePrivacy.bits29 (fun HT_ HW_ => ?_)
                               generalize w123.drew = w124 at HO_8 HO_9 HL480_0 HL481_0 HL484_0 HL485_0 BK432 HR480_0 HR481_0 HR484_0 HR485_0 HB HL489_0 HL492_0 HR489_0 HR492_0 hx489_0 hx492_0 HL490_0 HR490_0 HL493_0 HR493_0 hx490_0 hx491_0 hx493_0 hx494_0 hHeld ⊢
                               refine on 0 197 (bz 39 1) HT_ (fun K hK => ?_)
                               refine goes_ Try.func13 (by kernel_rfl) rfl #[] (by rfl) rfl rfl (by (try simp only [List.map_toArray,List.map_cons,List.map_nil]);first|done|rfl|(simp only [List.length_drop,List.length_take];rfl)) ?_
                               with_reducible refine (privitylaw43_awake.calls k3  true _ A102.out).mono ?_
                               rintro e w125 ⟨rfl,hb⟩
                               have HS0_ := (hb.cell (World.block_lt_of_cell? _ _ (hHeld.1))).trans (hHeld.1)
                               have HS1_ := (hb.cell (World.block_lt_of_cell? _ _ (hHeld.2.1))).trans (hHeld.2.1)
                               have HS2_ := (hb.cell (World.block_lt_of_cell? _ _ (hHeld.2.2.1))).trans (hHeld.2.2.1)
                               have HS3_ := (hb.cell (World.block_lt_of_cell? _ _ (hHeld.2.2.2.1))).trans (hHeld.2.2.2.1)
                               have HS4_ := (hb.cell (World.block_lt_of_cell? _ _ (hHeld.2.2.2.2.1))).trans (hHeld.2.2.2.2.1)
                               have HS5_ := (hb.cell (World.block_lt_of_cell? _ _ (hHeld.2.2.2.2.2))).trans (hHeld.2.2.2.2.2)
                               refine ⟨_,rfl,?_⟩
                               have n0_ := am (Kd.N_below (rn HO_8) hb)
                               have n1_ := am (Kd.N_below (rn HO_9) hb)
                               have n2_ := am (Kd.V_below (rv HL480_0) hb)
                               have n3_ := am (Kd.V_below (rv HL481_0) hb)
                               have n4_ := am (Kd.V_below (rv HL484_0) hb)
                               have n5_ := am (Kd.V_below (rv HL485_0) hb)
                               have n6_ := am (kb BK432 hb)
                               have n7_ := am (Kd.C_below (cx HR480_0) hb)
                               have n8_ := am (Kd.C_below (cx HR481_0) hb)
                               have n9_ := am (Kd.C_below (cx HR484_0) hb)
                               have n10_ := am (Kd.C_below (cx HR485_0) hb)
                               have n11_ := am (below_step (bg HB GE432) hb)
                               clear HO_8
                               clear HO_9
                               clear HL480_0
                               clear HL481_0
                               clear HL484_0
                               clear HL485_0
                               clear BK432
                               clear HR480_0
                               clear HR481_0
                               clear HR484_0
                               clear HR485_0
                               clear HB
                               have HO_8 := n0_
                               have HO_9 := n1_
                               have HL480_0 := n2_
                               have HL481_0 := n3_
                               have HL484_0 := n4_
                               have HL485_0 := n5_
                               have BK432 := n6_
                               have HR480_0 := n7_
                               have HR481_0 := n8_
                               have HR484_0 := n9_
                               have HR485_0 := n10_
                               have HB := n11_
                               clear n0_ n1_ n2_ n3_ n4_ n5_ n6_ n7_ n8_ n9_ n10_ n11_
                               (try clear hb)
                               (try clear hb2)
                               (try clear hk)
                               (try clear hi)
                               refine hK.out _ _ ⟨HS0_,HS1_,HS2_,HS3_,HS4_,HS5_⟩ (fun hHeld => ?_)
                               clear hK K
                               refine nm 197 ?_
                               refine pk 1 198 (bz 39 3) HT_ ?_
                               refine pk 2 199 (bz 39 7) HT_ ?_
                               refine pk 3 200 (bz 39 15) HT_ ?_
                               refine pk 9 206 (bz 39 527) HT_ ?_
                               refine tk 4 201 (bz 39 543) HT_ HW_ hHeld ?_
                               refine pk 5 202 (bz 39 575) HT_ ?_
                               refine tk 6 203 (bz 39 639) HT_ HW_ hHeld ?_
                               refine pk 7 204 (bz 39 767) HT_ ?_
                               refine tk 8 205 (bz 39 1023) HT_ HW_ hHeld ?_
                               refine pk 10 207 (bz 39 2047) HT_ ?_
                               refine pk 11 208 (bz 39 4095) HT_ ?_
                               refine pk 12 209 (bz 39 8191) HT_ ?_
                               refine pk 13 210 (bz 39 16383) HT_ ?_
                               refine pk 14 211 (bz 39 32767) HT_ ?_
                               refine pk 20 217 (bz 39 1081343) HT_ ?_
                               refine tk 15 212 (bz 39 1114111) HT_ HW_ hHeld ?_
                               refine pk 16 213 (bz 39 1179647) HT_ ?_
                               refine tk 17 214 (bz 39 1310719) HT_ HW_ hHeld ?_
                               refine pk 18 215 (bz 39 1572863) HT_ ?_
                               refine tk 19 216 (bz 39 2097151) HT_ HW_ hHeld ?_
                               refine pk 21 218 (bz 39 4194303) HT_ ?_
                               refine pk 22 219 (bz 39 8388607) HT_ ?_
                               refine pk 23 220 (bz 39 16777215) HT_ ?_
                               refine pz 24 221 (bz 39 33554431) HT_ ?_
                               refine pz 25 222 (bz 39 67108863) HT_ ?_
                               refine pz 26 223 (bz 39 134217727) HT_ ?_
                               refine pz 27 224 (bz 39 268435455) HT_ ?_
                               refine pz 28 225 (bz 39 536870911) HT_ ?_
                               refine pz 29 226 (bz 39 1073741823) HT_ ?_
                               refine pz 30 227 (bz 39 2147483647) HT_ ?_
                               refine pz 31 228 (bz 39 4294967295) HT_ ?_
                               refine pz 32 229 (bz 39 8589934591) HT_ ?_
                               refine pz 33 230 (bz 39 17179869183) HT_ ?_
                               refine pz 34 231 (bz 39 34359738367) HT_ ?_
                               refine pz 35 232 (bz 39 68719476735) HT_ ?_
                               refine pz 36 233 (bz 39 137438953471) HT_ ?_
                               refine pk 37 234 (bz 39 274877906943) HT_ ?_
                               refine pk 38 2 (bz 39 549755813887) HT_ ?_
                               refine done_ (done_of HT_.out (by kernel_rfl)) ?_
                               try go_wp2
                               go_ret
                               exact ⟨by first|rfl|(simp [errW_none,errW_some] <;> rfl)|(simp [*,errW_none,errW_some] <;> rfl),bg HB GE432⟩
                            ·rw [if_neg c110] at H
                             exact absurd H (by simp)
                           ·rw [if_neg c109] at H
                            exact absurd H (by simp)
                          ·rw [if_neg c108] at H
                           exact absurd H (by simp)
                         ·rw [if_neg c107] at H
                          have c107b0 : ((rd (rd_L4 (rd_L7 t454 0) 0) 0) == t483) = false := beq_eq_false_iff_ne.mpr c107
                          have c107b1 : ((rd (rd_L4 (rd_L7 t454 0) 0) 0) != t483) = true := bne_iff_ne.mpr c107
                          obtain rfl := Option.some.inj H
                          have hcz126_0 := bc BK432 0
                          have hcz126_1 := bc BK432 1
                          have hcz126_2 := bc BK432 2
                          have hcz126_3 := bc BK432 3
                          have hcz126_4 := bc BK432 4
                          have hcz126_5 := bc BK432 5
                          have hcz126_6 := bc BK432 6
                          have hfz126_0 := bf BK432 0
                          have hfz126_1 := bf BK432 1
                          have hfz126_2 := bf BK432 2
                          have hfz126_3 := bf BK432 3
                          have hfz126_4 := bf BK432 4
                          have hfz126_5 := bf BK432 5
                          have hfz126_6 := bf BK432 6
                          try go_wp2
                          have n0_ := am (Kd.N_drew HO_8.out)
                          have n1_ := am (Kd.N_drew HO_9.out)
                          have n2_ := am (blk_drew BK432.out)
                          have n3_ := am (below_drew1 HB.out)
                          clear HO_8
                          clear HO_9
                          clear BK432
                          clear HB
                          have HO_8 := n0_
                          have HO_9 := n1_
                          have BK432 := n2_
                          have HB := n3_
                          clear n0_ n1_ n2_ n3_
                          have p480 : 0 ≤ (0 : Int) := (by omega)
                          have q480 : 0 < (t451.length : Int) := od
                          obtain ⟨ad480,A480_0,c480_0,e480,hx480_0,hl480_0,hi480_0⟩ := at_L7 (Kd.N_reads' HO_8.out).2.2 0 p480 q480
                          cases e480
                          obtain ⟨ce480,hce480,hMe480,hcc480⟩ := Kd.N_get HO_8.out [] 0 p480 (by first|exact q480|exact od|(have e_ := (Kd.N_reads' HO_8.out).1;omega))
                          obtain ⟨ua480_0,uc480_0,rfl,ul480_0,ge480_0⟩ := Kd.FK_slice_open hMe480
                          have hv480_0 := hcc480 0 _ rfl
                          rw [Nat.add_zero,show ((Kd.slice 26 (Kd.slice 22 (Kd.int .u64)))).sz = 1 from rfl,Nat.mul_one] at hv480_0
                          replace hv480_0 := Option.some.inj (hv480_0.symm.trans hx480_0)
                          injection hv480_0 with hva_ hvn_ hvc_
                          rw [hva_] at ge480_0
                          rw [hvc_] at ul480_0
                          have HL480_0 := am (show Kd.V (Kd.slice 22 (Kd.int .u64)) 26 _ w.heap.size _ _ (rd_L7 t451 0) from Kd.V_mk ul480_0 ge480_0)
                          clear hva_ hvn_ hvc_ ge480_0 ul480_0
                          clear hcc480 hce480
                          have qi480 : (0 < t451.length) = True := eq_true (by omega)
                          (try rw [show ((0 : Int)).toNat = 0 from rfl] at hx480_0)
                          (try rw [Addr.add_zero'] at hx480_0)
                          have HR480_0 := am hi480_0
                          have HC480_0 := am hl480_0
                          clear hi480_0 hl480_0
                          replace p480 := eq_true p480
                          replace q480 := eq_true q480
                          have p481 : 0 ≤ (0 : Int) := (by omega)
                          have q481 : 0 < ((rd_L7 t451 0).length : Int) := od
                          obtain ⟨ad481,A481_0,c481_0,e481,hx481_0,hl481_0,hi481_0⟩ := at_L4 (cx HR480_0) 0 p481 q481
                          cases e481
                          obtain ⟨ce481,hce481,hMe481,hcc481⟩ := Kd.V_get HL480_0.out [] 0 p481 (by first|exact q481|exact od|(have e_ := (Kd.V_reads' HL480_0.out).1;omega))
                          obtain ⟨ua481_0,uc481_0,rfl,ul481_0,ge481_0⟩ := Kd.FK_slice_open hMe481
                          have hv481_0 := hcc481 0 _ rfl
                          rw [Nat.add_zero,show ((Kd.slice 22 (Kd.int .u64))).sz = 1 from rfl,Nat.mul_one] at hv481_0
                          replace hv481_0 := Option.some.inj (hv481_0.symm.trans hx481_0)
                          injection hv481_0 with hva_ hvn_ hvc_
                          rw [hva_] at ge481_0
                          rw [hvc_] at ul481_0
                          have HL481_0 := am (show Kd.V (Kd.int .u64) 22 _ w.heap.size _ _ (rd_L4 (rd_L7 t451 0) 0) from Kd.V_mk ul481_0 ge481_0)
                          clear hva_ hvn_ hvc_ ge481_0 ul481_0
                          clear hcc481 hce481
                          have qi481 : (0 < (rd_L7 t451 0).length) = True := eq_true (by omega)
                          (try rw [show ((0 : Int)).toNat = 0 from rfl] at hx481_0)
                          (try rw [Addr.add_zero'] at hx481_0)
                          have HR481_0 := am hi481_0
                          have HC481_0 := am hl481_0
                          clear hi481_0 hl481_0
                          replace p481 := eq_true p481
                          replace q481 := eq_true q481
                          have p482 : 0 ≤ (0 : Int) := (by omega)
                          have q482 : 0 < ((rd_L4 (rd_L7 t451 0) 0).length : Int) := od
                          obtain ⟨ad482,e482,hx482_0⟩ := Kd.at_int (cx HR481_0) 0 p482 q482
                          cases e482
                          have qi482 : (0 < (rd_L4 (rd_L7 t451 0) 0).length) = True := eq_true (by omega)
                          (try rw [show ((0 : Int)).toNat = 0 from rfl] at hx482_0)
                          (try rw [Addr.add_zero'] at hx482_0)
                          replace p482 := eq_true p482
                          replace q482 := eq_true q482
                          have p484 : 0 ≤ (1 : Int) := (by omega)
                          have q484 : 1 < (t451.length : Int) := od
                          obtain ⟨ad484,A484_0,c484_0,e484,hx484_0,hl484_0,hi484_0⟩ := at_L7 (Kd.N_reads' HO_8.out).2.2 1 p484 q484
                          obtain rfl : ad480 = ad484 := (by injection e484)
                          obtain ⟨ce484,hce484,hMe484,hcc484⟩ := Kd.N_get HO_8.out [] 1 p484 (by first|exact q484|exact od|(have e_ := (Kd.N_reads' HO_8.out).1;omega))
                          obtain ⟨ua484_0,uc484_0,rfl,ul484_0,ge484_0⟩ := Kd.FK_slice_open hMe484
                          have hv484_0 := hcc484 0 _ rfl
                          rw [Nat.add_zero,show ((Kd.slice 26 (Kd.slice 22 (Kd.int .u64)))).sz = 1 from rfl,Nat.mul_one] at hv484_0
                          replace hv484_0 := Option.some.inj (hv484_0.symm.trans hx484_0)
                          injection hv484_0 with hva_ hvn_ hvc_
                          rw [hva_] at ge484_0
                          rw [hvc_] at ul484_0
                          have HL484_0 := am (show Kd.V (Kd.slice 22 (Kd.int .u64)) 26 _ w.heap.size _ _ (rd_L7 t451 1) from Kd.V_mk ul484_0 ge484_0)
                          clear hva_ hvn_ hvc_ ge484_0 ul484_0
                          clear hcc484 hce484
                          (try simp only [show (1 : Int).toNat = 1 from rfl,Nat.reduceMul,Nat.reduceEqDiff,Go.Addr.add,↓reduceIte] at hx484_0)
                          have qi484 : (1 < t451.length) = True := eq_true (by omega)
                          (try rw [show ((1 : Int)).toNat = 1 from rfl] at hx484_0)
                          have HR484_0 := am hi484_0
                          have HC484_0 := am hl484_0
                          clear hi484_0 hl484_0
                          replace p484 := eq_true p484
                          replace q484 := eq_true q484
                          have p485 : 0 ≤ (0 : Int) := (by omega)
                          have q485 : 0 < ((rd_L7 t451 1).length : Int) := od
                          obtain ⟨ad485,A485_0,c485_0,e485,hx485_0,hl485_0,hi485_0⟩ := at_L4 (cx HR484_0) 0 p485 q485
                          cases e485
                          obtain ⟨ce485,hce485,hMe485,hcc485⟩ := Kd.V_get HL484_0.out [] 0 p485 (by first|exact q485|exact od|(have e_ := (Kd.V_reads' HL484_0.out).1;omega))
                          obtain ⟨ua485_0,uc485_0,rfl,ul485_0,ge485_0⟩ := Kd.FK_slice_open hMe485
                          have hv485_0 := hcc485 0 _ rfl
                          rw [Nat.add_zero,show ((Kd.slice 22 (Kd.int .u64))).sz = 1 from rfl,Nat.mul_one] at hv485_0
                          replace hv485_0 := Option.some.inj (hv485_0.symm.trans hx485_0)
                          injection hv485_0 with hva_ hvn_ hvc_
                          rw [hva_] at ge485_0
                          rw [hvc_] at ul485_0
                          have HL485_0 := am (show Kd.V (Kd.int .u64) 22 _ w.heap.size _ _ (rd_L4 (rd_L7 t451 1) 0) from Kd.V_mk ul485_0 ge485_0)
                          clear hva_ hvn_ hvc_ ge485_0 ul485_0
                          clear hcc485 hce485
                          have qi485 : (0 < (rd_L7 t451 1).length) = True := eq_true (by omega)
                          (try rw [show ((0 : Int)).toNat = 0 from rfl] at hx485_0)
                          (try rw [Addr.add_zero'] at hx485_0)
                          have HR485_0 := am hi485_0
                          have HC485_0 := am hl485_0
                          clear hi485_0 hl485_0
                          replace p485 := eq_true p485
                          replace q485 := eq_true q485
                          have p486 : 0 ≤ (0 : Int) := (by omega)
                          have q486 : 0 < ((rd_L4 (rd_L7 t451 1) 0).length : Int) := od
                          obtain ⟨ad486,e486,hx486_0⟩ := Kd.at_int (cx HR485_0) 0 p486 q486
                          cases e486
                          have qi486 : (0 < (rd_L4 (rd_L7 t451 1) 0).length) = True := eq_true (by omega)
                          (try rw [show ((0 : Int)).toNat = 0 from rfl] at hx486_0)
                          (try rw [Addr.add_zero'] at hx486_0)
                          replace p486 := eq_true p486
                          replace q486 := eq_true q486
                          refine start_ (n := 28) (S := fun w' => w'.cell? ⟨gb432,0,none⟩ = some (.int .u64 a0_0) ∧ w'.cell? ⟨gb432,1,none⟩ = some (.int .i64 a0_1) ∧ w'.cell? ⟨gb432,2,none⟩ = some (.int .i64 a0_2) ∧ w'.cell? ⟨gb432,3,none⟩ = some (.slice A0_3 l0_3.length c0_3) ∧ w'.cell? ⟨gb432,4,none⟩ = some (.int .u64 a0_4) ∧ w'.cell? ⟨gb432,5,none⟩ = some (.int .u64 a0_5) ∧ w'.cell? ⟨gb432,6,none⟩ = some (.slice A0_6 l0_6.length c0_6) ∧ w'.cell? ad480 = some (.slice (some ad481) (rd_L7 t451 0).length c480_0) ∧ w'.cell? ad481 = some (.slice (some ad482) (rd_L4 (rd_L7 t451 0) 0).length c481_0) ∧ w'.cell? ad482 = some (.int .u64 (rd (rd_L4 (rd_L7 t451 0) 0) 0)) ∧ w'.cell? ⟨ad480.block,ad480.off + 1,none⟩ = some (.slice (some ad485) (rd_L7 t451 1).length c484_0) ∧ w'.cell? ad485 = some (.slice (some ad486) (rd_L4 (rd_L7 t451 1) 0).length c485_0) ∧ w'.cell? ad486 = some (.int .u64 (rd (rd_L4 (rd_L7 t451 1) 0) 0))) (ds := []) (bz 28 0) (by kernel_rfl) rfl rfl ⟨(blk_cell BK432.out 0).trans rfl,(blk_cell BK432.out 1).trans rfl,(blk_cell BK432.out 2).trans rfl,(blk_cell BK432.out 3).trans rfl,(blk_cell BK432.out 4).trans rfl,(blk_cell BK432.out 5).trans rfl,(blk_cell BK432.out 6).trans rfl,hx480_0,hx481_0,hx482_0,hx484_0,hx485_0,hx486_0⟩ (fun hHeld => ?_);refine with_tabW privitylaw43_TapeshiftTriplePrivacy.tab28 privitylaw43_TapeshiftTriplePrivacy.bits28 (fun HT_ HW_ => ?_)
                          generalize wr.drew = w127 at HO_8 HO_9 BK432 HB HL480_0 HL481_0 HL484_0 HL485_0 HR480_0 HR481_0 HR484_0 HR485_0 hx480_0 hx481_0 hx482_0 hx484_0 hx485_0 hx486_0 hHeld ⊢
                          refine pk 0 171 (bz 28 1) HT_ ?_
                          refine pk 1 172 (bz 28 3) HT_ ?_
                          refine pk 2 173 (bz 28 7) HT_ ?_
                          refine pk 8 179 (bz 28 263) HT_ ?_
                          refine pk 10 181 (bz 28 1287) HT_ ?_
                          refine pk 13 184 (bz 28 9479) HT_ ?_
                          refine pk 14 185 (bz 28 25863) HT_ ?_
                          refine pk 15 186 (bz 28 58631) HT_ ?_
                          refine pk 21 192 (bz 28 2155783) HT_ ?_
                          refine pk 23 194 (bz 28 10544391) HT_ ?_
                          refine tk 3 174 (bz 28 10544399) HT_ HW_ hHeld ?_
                          refine pk 4 175 (bz 28 10544415) HT_ ?_
                          refine tk 5 176 (bz 28 10544447) HT_ HW_ hHeld ?_
                          refine pk 6 177 (bz 28 10544511) HT_ ?_
                          refine tk 7 178 (bz 28 10544639) HT_ HW_ hHeld ?_
                          refine tk 9 180 (bz 28 10545151) HT_ HW_ hHeld ?_
                          refine pk 11 182 (bz 28 10547199) HT_ ?_
                          refine tk 16 187 (bz 28 10612735) HT_ HW_ hHeld ?_
                          refine pk 17 188 (bz 28 10743807) HT_ ?_
                          refine tk 18 189 (bz 28 11005951) HT_ HW_ hHeld ?_
                          refine pk 19 190 (bz 28 11530239) HT_ ?_
                          refine tk 20 191 (bz 28 12578815) HT_ HW_ hHeld ?_
                          refine tk 22 193 (bz 28 16773119) HT_ HW_ hHeld ?_
                          refine pk 24 195 (bz 28 33550335) HT_ ?_
                          refine on 12 183 (bz 28 33554431) HT_ (fun K hK => ?_)
                          refine goes_ Try.func17 (by kernel_rfl) rfl #[.int .u64 a0_0,.int .u64 (rd (rd_L4 (rd_L7 t451 0) 0) 0),.int .u64 (Int.tmod a0_4 a0_0)] (by rfl) rfl rfl (by (try simp only [List.map_toArray,List.map_cons,List.map_nil]);first|done|rfl|(simp only [List.length_drop,List.length_take];rfl)) ?_
                          with_reducible refine (privityref01_Add.calls a0_0 (rd (rd_L4 (rd_L7 t451 0) 0) 0) (Int.tmod a0_4 a0_0) t483 _ A97.out).mono ?_
                          rintro e w' ⟨rfl,⟨nd,rfl⟩⟩
                          refine ⟨_,rfl,?_⟩
                          refine hK.out _ _ ⟨(blk_cell BK432.out 0).trans rfl,(blk_cell BK432.out 1).trans rfl,(blk_cell BK432.out 2).trans rfl,(blk_cell BK432.out 3).trans rfl,(blk_cell BK432.out 4).trans rfl,(blk_cell BK432.out 5).trans rfl,(blk_cell BK432.out 6).trans rfl,hHeld.2.2.2.2.2.2.2.1,hHeld.2.2.2.2.2.2.2.2.1,hHeld.2.2.2.2.2.2.2.2.2.1,hHeld.2.2.2.2.2.2.2.2.2.2.1,hHeld.2.2.2.2.2.2.2.2.2.2.2.1,hHeld.2.2.2.2.2.2.2.2.2.2.2.2⟩ (fun hHeld => ?_)
                          clear hK K
                          refine nm 183 ?_
                          refine on 25 196 (bz 28 67108863) HT_ (fun K hK => ?_)
                          refine goes_ Try.func17 (by kernel_rfl) rfl #[.int .u64 a0_0,.int .u64 (rd (rd_L4 (rd_L7 t451 1) 0) 0),.int .u64 (Int.tmod a0_5 a0_0)] (by rfl) rfl rfl (by (try simp only [List.map_toArray,List.map_cons,List.map_nil]);first|done|rfl|(simp only [List.length_drop,List.length_take];rfl)) ?_
                          with_reducible refine (privityref01_Add.calls a0_0 (rd (rd_L4 (rd_L7 t451 1) 0) 0) (Int.tmod a0_5 a0_0) t487 _ A101.out).mono ?_
                          rintro e w' ⟨rfl,⟨nd,rfl⟩⟩
                          refine ⟨_,rfl,?_⟩
                          refine hK.out _ _ ⟨(blk_cell BK432.out 0).trans rfl,(blk_cell BK432.out 1).trans rfl,(blk_cell BK432.out 2).trans rfl,(blk_cell BK432.out 3).trans rfl,(blk_cell BK432.out 4).trans rfl,(blk_cell BK432.out 5).trans rfl,(blk_cell BK432.out 6).trans rfl,hHeld.2.2.2.2.2.2.2.1,hHeld.2.2.2.2.2.2.2.2.1,hHeld.2.2.2.2.2.2.2.2.2.1,hHeld.2.2.2.2.2.2.2.2.2.2.1,hHeld.2.2.2.2.2.2.2.2.2.2.2.1,hHeld.2.2.2.2.2.2.2.2.2.2.2.2⟩ (fun hHeld => ?_)
                          clear hK K
                          refine nm 196 ?_
                          refine pk 26 16 (bz 28 134217727) HT_ ?_
                          refine pk 27 17 (bz 28 268435455) HT_ ?_
                          refine done_ (done_of HT_.out (by kernel_rfl)) ?_
                          try go_wp2
                          (try (rw [drewN_self w127];generalize hq_ : World.drewN w127 _ = w127;have n0_ : Aside0 (Kd.V (Kd.slice 22 (Kd.int .u64)) 26 w127 w.heap.size (fun k_ => some k_ ≠ (.slice (some ad480) t451.length co62 : Value).ownBlock ∧ some k_ ≠ (.slice Ao63 t454.length co63 : Value).ownBlock ∧ k_ ≠ gb432) (.slice (some ad481) (rd_L7 t451 0).length c480_0) (rd_L7 t451 0)) := ⟨by rw [← hq_];exact (by (with_reducible repeat (first|apply Kd.V_alloc|apply Kd.V_drewN|apply Kd.V_drew));exact Kd.V_mono HL480_0.out (fun _ hk => ⟨hk.2,⟨hk.1.1,hk.1.2⟩⟩))⟩;have n1_ : Aside0 (Kd.V (Kd.int .u64) 22 w127 w.heap.size (fun k_ => some k_ ≠ (.slice (some ad480) t451.length co62 : Value).ownBlock ∧ some k_ ≠ (.slice Ao63 t454.length co63 : Value).ownBlock ∧ k_ ≠ gb432) (.slice (some ad482) (rd_L4 (rd_L7 t451 0) 0).length c481_0) (rd_L4 (rd_L7 t451 0) 0)) := ⟨by rw [← hq_];exact (by (with_reducible repeat (first|apply Kd.V_alloc|apply Kd.V_drewN|apply Kd.V_drew));exact Kd.V_mono HL481_0.out (fun _ hk => ⟨hk.2,⟨hk.1.1,hk.1.2⟩⟩))⟩;have n2_ : Aside0 (Kd.V (Kd.slice 22 (Kd.int .u64)) 26 w127 w.heap.size (fun k_ => some k_ ≠ (.slice (some ad480) t451.length co62 : Value).ownBlock ∧ some k_ ≠ (.slice Ao63 t454.length co63 : Value).ownBlock ∧ k_ ≠ gb432) (.slice (some ad485) (rd_L7 t451 1).length c484_0) (rd_L7 t451 1)) := ⟨by rw [← hq_];exact (by (with_reducible repeat (first|apply Kd.V_alloc|apply Kd.V_drewN|apply Kd.V_drew));exact Kd.V_mono HL484_0.out (fun _ hk => ⟨hk.2,⟨hk.1.1,hk.1.2⟩⟩))⟩;have n3_ : Aside0 (Kd.V (Kd.int .u64) 22 w127 w.heap.size (fun k_ => some k_ ≠ (.slice (some ad480) t451.length co62 : Value).ownBlock ∧ some k_ ≠ (.slice Ao63 t454.length co63 : Value).ownBlock ∧ k_ ≠ gb432) (.slice (some ad486) (rd_L4 (rd_L7 t451 1) 0).length c485_0) (rd_L4 (rd_L7 t451 1) 0)) := ⟨by rw [← hq_];exact (by (with_reducible repeat (first|apply Kd.V_alloc|apply Kd.V_drewN|apply Kd.V_drew));exact Kd.V_mono HL485_0.out (fun _ hk => ⟨hk.2,⟨hk.1.1,hk.1.2⟩⟩))⟩;have n4_ : Aside0 (Kd.N (Kd.slice 26 (Kd.slice 22 (Kd.int .u64))) 34 w127 w.heap.size (fun k_ => some k_ ≠ (.slice Ao63 t454.length co63 : Value).ownBlock ∧ k_ ≠ gb432) (.slice (some ad480) t451.length co62) t451) := ⟨by rw [← hq_];exact (rn HO_8)⟩;have n5_ : Aside0 (Kd.N (Kd.slice 26 (Kd.slice 22 (Kd.int .u64))) 34 w127 w.heap.size (fun k_ => some k_ ≠ (.slice (some ad480) t451.length co62 : Value).ownBlock ∧ k_ ≠ gb432) (.slice Ao63 t454.length co63) t454) := ⟨by rw [← hq_];exact (rn HO_9)⟩;have n6_ : Aside0 (w127.heap[gb432]? = some (.cells #[.int .u64 a0_0,.int .i64 a0_1,.int .i64 a0_2,.slice A0_3 l0_3.length c0_3,.int .u64 a0_4,.int .u64 a0_5,.slice A0_6 l0_6.length c0_6] 28 (0,0))) := ⟨by rw [← hq_];exact (by (with_reducible repeat (first|refine blk_drewN ?_ _|refine blk_drew ?_|refine blk_alloc ?_ _));exact BK432.out)⟩;have n7_ : Aside0 (Below w.heap.size w w127) := ⟨by rw [← hq_];exact (bg HB GE432)⟩;have n8_ : Aside0 (Kd.C (Kd.slice 22 (Kd.int .u64)) w127 (some ad481) (rd_L7 t451 0).length (rd_L7 t451 0)) := ⟨by rw [← hq_];exact (cx HR480_0)⟩;have n9_ : Aside0 (Kd.C (Kd.int .u64) w127 (some ad482) (rd_L4 (rd_L7 t451 0) 0).length (rd_L4 (rd_L7 t451 0) 0)) := ⟨by rw [← hq_];exact (cx HR481_0)⟩;have n10_ : Aside0 (Kd.C (Kd.slice 22 (Kd.int .u64)) w127 (some ad485) (rd_L7 t451 1).length (rd_L7 t451 1)) := ⟨by rw [← hq_];exact (cx HR484_0)⟩;have n11_ : Aside0 (Kd.C (Kd.int .u64) w127 (some ad486) (rd_L4 (rd_L7 t451 1) 0).length (rd_L4 (rd_L7 t451 1) 0)) := ⟨by rw [← hq_];exact (cx HR485_0)⟩;clear HL480_0 HL481_0 HL484_0 HL485_0 HO_8 HO_9 BK432 HB HR480_0 HR481_0 HR484_0 HR485_0 hq_;have HL480_0 := n0_;have HL481_0 := n1_;have HL484_0 := n2_;have HL485_0 := n3_;have HO_8 := n4_;have HO_9 := n5_;have BK432 := n6_;have HB := n7_;have HR480_0 := n8_;have HR481_0 := n9_;have HR484_0 := n10_;have HR485_0 := n11_;clear n0_ n1_ n2_ n3_ n4_ n5_ n6_ n7_ n8_ n9_ n10_ n11_))
                          have n0_ := am (Kd.N_drew HO_8.out)
                          have n1_ := am (Kd.N_drew HO_9.out)
                          have n2_ := am (Kd.V_drew HL480_0.out)
                          have n3_ := am (Kd.V_drew HL481_0.out)
                          have n4_ := am (Kd.V_drew HL484_0.out)
                          have n5_ := am (Kd.V_drew HL485_0.out)
                          have n6_ := am (blk_drew BK432.out)
                          have n7_ := am (Kd.C_drew HR480_0.out)
                          have n8_ := am (Kd.C_drew HR481_0.out)
                          have n9_ := am (Kd.C_drew HR484_0.out)
                          have n10_ := am (Kd.C_drew HR485_0.out)
                          have n11_ := am (below_drew1 HB.out)
                          clear HO_8
                          clear HO_9
                          clear HL480_0
                          clear HL481_0
                          clear HL484_0
                          clear HL485_0
                          clear BK432
                          clear HR480_0
                          clear HR481_0
                          clear HR484_0
                          clear HR485_0
                          clear HB
                          have HO_8 := n0_
                          have HO_9 := n1_
                          have HL480_0 := n2_
                          have HL481_0 := n3_
                          have HL484_0 := n4_
                          have HL485_0 := n5_
                          have BK432 := n6_
                          have HR480_0 := n7_
                          have HR481_0 := n8_
                          have HR484_0 := n9_
                          have HR485_0 := n10_
                          have HB := n11_
                          clear n0_ n1_ n2_ n3_ n4_ n5_ n6_ n7_ n8_ n9_ n10_ n11_
                          have p489 : 0 ≤ (0 : Int) := (by omega)
                          have q489 : 0 < (t454.length : Int) := od
                          obtain ⟨ad489,A489_0,c489_0,e489,hx489_0,hl489_0,hi489_0⟩ := at_L7 (Kd.N_reads' HO_9.out).2.2 0 p489 q489
                          cases e489
                          obtain ⟨ce489,hce489,hMe489,hcc489⟩ := Kd.N_get HO_9.out [] 0 p489 (by first|exact q489|exact od|(have e_ := (Kd.N_reads' HO_9.out).1;omega))
                          obtain ⟨ua489_0,uc489_0,rfl,ul489_0,ge489_0⟩ := Kd.FK_slice_open hMe489
                          have hv489_0 := hcc489 0 _ rfl
                          rw [Nat.add_zero,show ((Kd.slice 26 (Kd.slice 22 (Kd.int .u64)))).sz = 1 from rfl,Nat.mul_one] at hv489_0
                          replace hv489_0 := Option.some.inj (hv489_0.symm.trans hx489_0)
                          injection hv489_0 with hva_ hvn_ hvc_
                          rw [hva_] at ge489_0
                          rw [hvc_] at ul489_0
                          have HL489_0 := am (show Kd.V (Kd.slice 22 (Kd.int .u64)) 26 _ w.heap.size _ _ (rd_L7 t454 0) from Kd.V_mk ul489_0 ge489_0)
                          clear hva_ hvn_ hvc_ ge489_0 ul489_0
                          clear hcc489 hce489
                          have qi489 : (0 < t454.length) = True := eq_true (by omega)
                          (try rw [show ((0 : Int)).toNat = 0 from rfl] at hx489_0)
                          (try rw [Addr.add_zero'] at hx489_0)
                          have HR489_0 := am hi489_0
                          have HC489_0 := am hl489_0
                          clear hi489_0 hl489_0
                          replace p489 := eq_true p489
                          replace q489 := eq_true q489
                          have p490 : 0 ≤ (0 : Int) := (by omega)
                          have q490 : 0 < ((rd_L7 t454 0).length : Int) := od
                          obtain ⟨ad490,A490_0,c490_0,e490,hx490_0,hl490_0,hi490_0⟩ := at_L4 (cx HR489_0) 0 p490 q490
                          cases e490
                          obtain ⟨ce490,hce490,hMe490,hcc490⟩ := Kd.V_get HL489_0.out [] 0 p490 (by first|exact q490|exact od|(have e_ := (Kd.V_reads' HL489_0.out).1;omega))
                          obtain ⟨ua490_0,uc490_0,rfl,ul490_0,ge490_0⟩ := Kd.FK_slice_open hMe490
                          have hv490_0 := hcc490 0 _ rfl
                          rw [Nat.add_zero,show ((Kd.slice 22 (Kd.int .u64))).sz = 1 from rfl,Nat.mul_one] at hv490_0
                          replace hv490_0 := Option.some.inj (hv490_0.symm.trans hx490_0)
                          injection hv490_0 with hva_ hvn_ hvc_
                          rw [hva_] at ge490_0
                          rw [hvc_] at ul490_0
                          have HL490_0 := am (show Kd.V (Kd.int .u64) 22 _ w.heap.size _ _ (rd_L4 (rd_L7 t454 0) 0) from Kd.V_mk ul490_0 ge490_0)
                          clear hva_ hvn_ hvc_ ge490_0 ul490_0
                          clear hcc490 hce490
                          have qi490 : (0 < (rd_L7 t454 0).length) = True := eq_true (by omega)
                          (try rw [show ((0 : Int)).toNat = 0 from rfl] at hx490_0)
                          (try rw [Addr.add_zero'] at hx490_0)
                          have HR490_0 := am hi490_0
                          have HC490_0 := am hl490_0
                          clear hi490_0 hl490_0
                          replace p490 := eq_true p490
                          replace q490 := eq_true q490
                          have p491 : 0 ≤ (0 : Int) := (by omega)
                          have q491 : 0 < ((rd_L4 (rd_L7 t454 0) 0).length : Int) := od
                          obtain ⟨ad491,e491,hx491_0⟩ := Kd.at_int (cx HR490_0) 0 p491 q491
                          cases e491
                          have qi491 : (0 < (rd_L4 (rd_L7 t454 0) 0).length) = True := eq_true (by omega)
                          (try rw [show ((0 : Int)).toNat = 0 from rfl] at hx491_0)
                          (try rw [Addr.add_zero'] at hx491_0)
                          replace p491 := eq_true p491
                          replace q491 := eq_true q491
                          as_aux_lemma =>
                           refine start_ (n := 39) (S := fun w' => w'.cell? ad489 = some (.slice (some ad490) (rd_L7 t454 0).length c489_0) ∧ w'.cell? ad490 = some (.slice (some ad491) (rd_L4 (rd_L7 t454 0) 0).length c490_0) ∧ w'.cell? ad491 = some (.int .u64 (rd (rd_L4 (rd_L7 t454 0) 0) 0))) (ds := []) (bz 39 0) (by kernel_rfl) rfl rfl ⟨hx489_0,hx490_0,hx491_0⟩ (fun hHeld => ?_);refine with_tabW privitylaw43_TapeshiftTriplePrivacy.tab29 privitylaw43_TapeshiftTriplePrivacy.bits29 (fun HT_ HW_ => ?_)
                           generalize w127.drew = w128 at HO_8 HO_9 HL480_0 HL481_0 HL484_0 HL485_0 BK432 HR480_0 HR481_0 HR484_0 HR485_0 HB HL489_0 HR489_0 hx489_0 HL490_0 HR490_0 hx490_0 hx491_0 hHeld ⊢
                           refine on 0 197 (bz 39 1) HT_ (fun K hK => ?_)
                           refine goes_ Try.func13 (by kernel_rfl) rfl #[] (by rfl) rfl rfl (by (try simp only [List.map_toArray,List.map_cons,List.map_nil]);first|done|rfl|(simp only [List.length_drop,List.length_take];rfl)) ?_
                           with_reducible refine (privitylaw43_awake.calls k3  true _ A102.out).mono ?_
                           rintro e w129 ⟨rfl,hb⟩
                           have HS0_ := (hb.cell (World.block_lt_of_cell? _ _ (hHeld.1))).trans (hHeld.1)
                           have HS1_ := (hb.cell (World.block_lt_of_cell? _ _ (hHeld.2.1))).trans (hHeld.2.1)
                           have HS2_ := (hb.cell (World.block_lt_of_cell? _ _ (hHeld.2.2))).trans (hHeld.2.2)
                           refine ⟨_,rfl,?_⟩
                           have n0_ := am (Kd.N_below (rn HO_8) hb)
                           have n1_ := am (Kd.N_below (rn HO_9) hb)
                           have n2_ := am (Kd.V_below (rv HL480_0) hb)
                           have n3_ := am (Kd.V_below (rv HL481_0) hb)
                           have n4_ := am (Kd.V_below (rv HL484_0) hb)
                           have n5_ := am (Kd.V_below (rv HL485_0) hb)
                           have n6_ := am (kb BK432 hb)
                           have n7_ := am (Kd.C_below (cx HR480_0) hb)
                           have n8_ := am (Kd.C_below (cx HR481_0) hb)
                           have n9_ := am (Kd.C_below (cx HR484_0) hb)
                           have n10_ := am (Kd.C_below (cx HR485_0) hb)
                           have n11_ := am (below_step (bg HB GE432) hb)
                           clear HO_8
                           clear HO_9
                           clear HL480_0
                           clear HL481_0
                           clear HL484_0
                           clear HL485_0
                           clear BK432
                           clear HR480_0
                           clear HR481_0
                           clear HR484_0
                           clear HR485_0
                           clear HB
                           have HO_8 := n0_
                           have HO_9 := n1_
                           have HL480_0 := n2_
                           have HL481_0 := n3_
                           have HL484_0 := n4_
                           have HL485_0 := n5_
                           have BK432 := n6_
                           have HR480_0 := n7_
                           have HR481_0 := n8_
                           have HR484_0 := n9_
                           have HR485_0 := n10_
                           have HB := n11_
                           clear n0_ n1_ n2_ n3_ n4_ n5_ n6_ n7_ n8_ n9_ n10_ n11_
                           (try clear hb)
                           (try clear hb2)
                           (try clear hk)
                           (try clear hi)
                           refine hK.out _ _ ⟨HS0_,HS1_,HS2_⟩ (fun hHeld => ?_)
                           clear hK K
                           refine nm 197 ?_
                           refine pk 1 198 (bz 39 3) HT_ ?_
                           refine pk 2 199 (bz 39 7) HT_ ?_
                           refine pk 3 200 (bz 39 15) HT_ ?_
                           refine pk 9 206 (bz 39 527) HT_ ?_
                           refine tk 4 201 (bz 39 543) HT_ HW_ hHeld ?_
                           refine pk 5 202 (bz 39 575) HT_ ?_
                           refine tk 6 203 (bz 39 639) HT_ HW_ hHeld ?_
                           refine pk 7 204 (bz 39 767) HT_ ?_
                           refine tk 8 205 (bz 39 1023) HT_ HW_ hHeld ?_
                           refine pk 10 207 (bz 39 2047) HT_ ?_
                           refine pk 11 208 (bz 39 4095) HT_ ?_
                           refine pk 12 209 (bz 39 8191) HT_ ?_
                           refine pz 13 210 (bz 39 16383) HT_ ?_
                           refine pz 14 211 (bz 39 32767) HT_ ?_
                           refine pz 15 212 (bz 39 65535) HT_ ?_
                           refine pz 16 213 (bz 39 131071) HT_ ?_
                           refine pz 17 214 (bz 39 262143) HT_ ?_
                           refine pz 18 215 (bz 39 524287) HT_ ?_
                           refine pz 19 216 (bz 39 1048575) HT_ ?_
                           refine pz 20 217 (bz 39 2097151) HT_ ?_
                           refine pz 21 218 (bz 39 4194303) HT_ ?_
                           refine pk 22 219 (bz 39 8388607) HT_ ?_
                           refine pk 23 220 (bz 39 16777215) HT_ ?_
                           refine pz 24 221 (bz 39 33554431) HT_ ?_
                           refine pz 25 222 (bz 39 67108863) HT_ ?_
                           refine pz 26 223 (bz 39 134217727) HT_ ?_
                           refine pz 27 224 (bz 39 268435455) HT_ ?_
                           refine pz 28 225 (bz 39 536870911) HT_ ?_
                           refine pz 29 226 (bz 39 1073741823) HT_ ?_
                           refine pz 30 227 (bz 39 2147483647) HT_ ?_
                           refine pz 31 228 (bz 39 4294967295) HT_ ?_
                           refine pz 32 229 (bz 39 8589934591) HT_ ?_
                           refine pz 33 230 (bz 39 17179869183) HT_ ?_
                           refine pz 34 231 (bz 39 34359738367) HT_ ?_
                           refine pz 35 232 (bz 39 68719476735) HT_ ?_
                           refine pz 36 233 (bz 39 137438953471) HT_ ?_
                           refine pk 37 234 (bz 39 274877906943) HT_ ?_
                           refine pk 38 2 (bz 39 549755813887) HT_ ?_
                           refine done_ (done_of HT_.out (by kernel_rfl)) ?_
                           try go_wp2
                           go_ret
                           exact ⟨by first|rfl|(simp [errW_none,errW_some] <;> rfl)|(simp [*,errW_none,errW_some] <;> rfl),bg HB GE432⟩
                        ·rw [if_neg c106] at H
                         exact absurd H (by simp)
                       ·rw [if_neg c105] at H
                        exact absurd H (by simp)
                      ·rw [if_neg c104] at H
                       exact absurd H (by simp)
                     ·replace c103 := Bool.eq_false_iff.mpr c103
                      subst c103
                      rw [if_neg (show ¬ (false = true) by decide)] at H
                      exact absurd (Option.some.inj H) (by rw [HRT_.out];simp)
                    ·rw [if_neg c100] at H
                     exact absurd H (by simp)
                   ·rw [if_neg c99] at H
                    exact absurd H (by simp)
                  ·rw [if_neg c98] at H
                   exact absurd H (by simp)
                ·rw [if_neg c95] at H
                 exact absurd H (by simp)
               ·rw [if_neg c94] at H
                exact absurd H (by simp)
              ·rw [if_neg c93] at H
               exact absurd H (by simp)
 ·replace c3 := Bool.eq_false_iff.mpr c3
  subst c3
  rw [if_neg (show ¬ (false = true) by decide)] at H
  replace H := Option.bind_eq_some_iff.mp H
  obtain ⟨t434,A1340,H⟩ := H
  try dsimp only at H
  have A134 := am A1340
  clear A1340
  obtain rfl := Option.some.inj H
  go_enter Try.func8,Try.ntmps8
  go_wp2_with (first|((with_reducible refine gate_dst (N := 1) rfl ?_);(try (refine gate_guard (by rfl) ?_;dsimp only));refine box_event ?hg (N := 1) ?hd (cs := #[.int .u64 a0_0,.int .i64 a0_1,.int .i64 a0_2,.slice A0_3 l0_3.length c0_3,.int .u64 a0_4,.int .u64 a0_5,.slice A0_6 l0_6.length c0_6]) (t := 28) ?hr ?_;(case hd => rfl);(case hg => rfl);(case hr => first|(go_simp;done)|(go_simp;rfl));intro gb432 hg w135 hbox hb;have n0_ := am (below_step (bb HB) hb);have n1_ := am (hbox);have n2_ := am ((by rw [hg];exact (below_size (bb HB)) : w.heap.size ≤ gb432));have n3_ := am ((by rw [hg];exact (below_size (bb HB)) : w.heap.size ≤ gb432));clear HB;have HB := n0_;have BK432 := n1_;have GW432 := n2_;have GE432 := n3_;clear n0_ n1_ n2_ n3_;clear hb hbox hg;have hcz136_0 := bc BK432 0;have hcz136_1 := bc BK432 1;have hcz136_2 := bc BK432 2;have hcz136_3 := bc BK432 3;have hcz136_4 := bc BK432 4;have hcz136_5 := bc BK432 5;have hcz136_6 := bc BK432 6;have hfz136_0 := bf BK432 0;have hfz136_1 := bf BK432 1;have hfz136_2 := bf BK432 2;have hfz136_3 := bf BK432 3;have hfz136_4 := bf BK432 4;have hfz136_5 := bf BK432 5;have hfz136_6 := bf BK432 6)|((with_reducible refine gate_callee (f := 12) rfl ?_);refine goesL_ (some 19) rfl rfl Try.func12 (by kernel_rfl) rfl #[.agg #[.int .u64 a0_0,.int .i64 a0_1,.int .i64 a0_2,.slice A0_3 l0_3.length c0_3,.int .u64 a0_4,.int .u64 a0_5,.slice A0_6 l0_6.length c0_6]] rfl (by (try simp only [List.map_toArray,List.map_cons,List.map_nil]);first|done|rfl|(simp only [List.length_drop,List.length_take];rfl)) ?_;(with_reducible refine (privitylaw43_may.calls k a0_0 a0_1 a0_2 _ _ l0_3 a0_4 a0_5 _ _ l0_6 false _ ?side1 ?side2 ?side3 ?side4 A2.out).mono ?_);(case side1 => exact cb HR0_3 HB);(case side2 => exact HC0_3.out);(case side3 => exact cb HR0_6 HB);(case side4 => exact HC0_6.out);rintro e w137 ⟨rfl,hb⟩;refine ⟨_,rfl,?_⟩;have n0_ := am (kb BK432 hb);have n1_ := am (below_step (bg HB GE432) hb);clear BK432 HB;have BK432 := n0_;have HB := n1_;clear n0_ n1_;(try clear hb);(try clear hb2);(try clear hk);(try clear hi))|((with_reducible refine gate_callee (f := 13) rfl ?_);refine goesL_ (some 21) rfl rfl Try.func13 (by kernel_rfl) rfl #[] rfl (by (try simp only [List.map_toArray,List.map_cons,List.map_nil]);first|done|rfl|(simp only [List.length_drop,List.length_take];rfl)) ?_;(with_reducible refine (privitylaw43_awake.calls k  t434 _ A134.out).mono ?_);rintro e w138 ⟨rfl,hb⟩;refine ⟨_,rfl,?_⟩;have n0_ := am (kb BK432 hb);have n1_ := am (below_step (bg HB GE432) hb);clear BK432 HB;have BK432 := n0_;have HB := n1_;clear n0_ n1_;(try clear hb);(try clear hb2);(try clear hk);(try clear hi)))
  go_ret
  exact ⟨by first|rfl|(simp [errW_none,errW_some] <;> rfl)|(simp [*,errW_none,errW_some] <;> rfl),bg HB GE432⟩
end Go.Proofs.Ytejeelpnmdfibaa.Pr
end
