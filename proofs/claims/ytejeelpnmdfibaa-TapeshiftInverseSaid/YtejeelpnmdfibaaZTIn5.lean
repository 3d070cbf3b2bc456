/- The row of the law TapeshiftInverse, out of its plain law and the walk. -/
import Derived.Test.YtejeelpnmdfibaaZTIn1
import Derived.Test.YtejeelpnmdfibaaZTIn3
import Derived.Test.YtejeelpnmdfibaaZTIn4
import Derived.Test.YtejeelpnmdfibaaProg
import Derived.ChangeArms
import Derived.DataReads
import Derived.DataElems
import Derived.ShutString
import Derived.ChangeSame
import Derived.OpenShut
import Derived.Test.YtejeelpnmdfibaaZTIn0
import Derived.Test.YtejeelpnmdfibaaRows
import Derived.WalkKit
import Derived.ProofKit
import Derived.ChangeOld
import Derived.Below
import Derived.SizedLaws
section
namespace Go.Proofs.Ytejeelpnmdfibaa.Pr
open Go.RowKit Go.Proofs.YtejeelpnmdfibaaW.PrintWords Go.Proofs.YtejeelpnmdfibaaW.PrintLast Go.Proofs.YtejeelpnmdfibaaW.PrintMore
attribute [local go_sem] max2_int min2_int max_two min_two max_three min_three max_four min_four
set_option linter.unusedVariables false
set_option linter.unusedSimpArgs false
open Go.Proofs.Ytejeelpnmdfibaa.Hw
def privitylaw43_TapeshiftInverse.j0 : Nat → Int → Int → Int → List Int → List Int → List Int → List Int → List Int → List Int → List Int → List Int → Bool → Int → Int → Int → List Int → Int → Int → List Int → Option (Bool)
 | 0,_,_,_,_,_,_,_,_,_,_,_,_,_,_,_,_,_,_,_ => none
 | k + 1,x3,x4,x5,x6,x7,x10,x11,x12,x13,x14,x15,x102,x341000,x341001,x341002,x341003,x341004,x341005,x341006 => if x102 = true then (some false) else (if x3 = 0 then (none) else ((tapeshift_Triple.f x341000 x341001 x341002 x341003 (Int.tmod (IntKind.u64.wrap (x3 - x4)) x3) (Int.tmod (IntKind.u64.wrap (x3 - x5)) x3) x14 x15).bind fun bt377 => ((privitylaw43_awake.f k).bind fun t383 => (if t383 = true then ((privityref14_Words.f k x6 x10).bind fun t384 => (if t384 = true then ((privityref14_Words.f k x7 x11).bind fun t385 => (if t385 = true then ((privityref14_Words.f k x12 bt377.1).bind fun t386 => (if t386 = true then ((privityref14_Words.f k x13 bt377.2).bind fun t387 => (some t387)) else (some false))) else (some false))) else (some false))) else (some false)))))
def privitylaw43_TapeshiftInverse.f (k : Nat) (a0_0 : Int) (a0_1 : Int) (a0_2 : Int) (l0_3 : List Int) (a0_4 : Int) (a0_5 : Int) (l0_6 : List Int) : Option (Bool) := (privitylaw43_may.f k a0_0 a0_1 a0_2 l0_3 a0_4 a0_5 l0_6).bind fun t341 => (if t341 = true then (if a0_0 = 0 then (none) else ((privitylaw43_one.f k a0_0 a0_1 a0_2 l0_3 a0_4 a0_5 l0_6).bind fun bt343 => ((tapeshift_Sharing.f k a0_0 a0_1 a0_2 l0_3 (Int.tmod a0_4 a0_0) bt343.1 bt343.2).bind fun bt349 => ((tapeshift_Sharing.f k a0_0 a0_1 a0_2 l0_3 (Int.tmod (IntKind.u64.wrap (a0_0 - (Int.tmod a0_4 a0_0))) a0_0) bt349.1 bt349.2).bind fun bt355 => ((privitylaw43_triple.f k a0_0 a0_1 a0_2 l0_3 a0_4 a0_5 l0_6).bind fun bt361 => ((tapeshift_Triple.f a0_0 a0_1 a0_2 l0_3 (Int.tmod a0_4 a0_0) (Int.tmod a0_5 a0_0) bt361.1 bt361.2).bind fun bt367 => (if (bt367.1.length : Int) = (bt361.1.length : Int) then (if (bt367.2.length : Int) = (bt361.2.length : Int) then ((privityref14_Below.f k a0_0 (([bt349.1,bt349.2,bt367.1,bt367.2] : List (List Int))) 100).bind fun t376 => (privitylaw43_TapeshiftInverse.j0 k a0_0 (Int.tmod a0_4 a0_0) (Int.tmod a0_5 a0_0) bt343.1 bt343.2 bt355.1 bt355.2 bt361.1 bt361.2 bt367.1 bt367.2 (!t376) a0_0 a0_1 a0_2 l0_3 a0_4 a0_5 l0_6)) else (privitylaw43_TapeshiftInverse.j0 k a0_0 (Int.tmod a0_4 a0_0) (Int.tmod a0_5 a0_0) bt343.1 bt343.2 bt355.1 bt355.2 bt361.1 bt361.2 bt367.1 bt367.2 true a0_0 a0_1 a0_2 l0_3 a0_4 a0_5 l0_6)) else (privitylaw43_TapeshiftInverse.j0 k a0_0 (Int.tmod a0_4 a0_0) (Int.tmod a0_5 a0_0) bt343.1 bt343.2 bt355.1 bt355.2 bt361.1 bt361.2 bt367.1 bt367.2 true a0_0 a0_1 a0_2 l0_3 a0_4 a0_5 l0_6)))))))) else ((privitylaw43_awake.f k).bind fun t342 => (some t342)))
def privitylaw43_TapeshiftInverse.T4 : Bool × List (List Nat × List Nat) := (true,[([],[]),([0],[0]),([],[]),([1,2],[1,2]),([],[]),([4],[4]),([],[]),([5,6],[5,6]),([3,0,1,2,3],[3]),([7,8,0,1,2,3,4,5,6,7,8],[7])])
def privitylaw43_TapeshiftInverse.B4 : List Nat := [0,1,0,7,0,16,0,112,15,511]
theorem privitylaw43_TapeshiftInverse.tab4 : rtab .any (opsOf Try.f7 4) = privitylaw43_TapeshiftInverse.T4 := by kernel_rfl
theorem privitylaw43_TapeshiftInverse.bits4 : waitsOk privitylaw43_TapeshiftInverse.T4.2 privitylaw43_TapeshiftInverse.B4 = true := by kernel_rfl
def privitylaw43_TapeshiftInverse.T7 : Bool × List (List Nat × List Nat) := (true,[([],[]),([0],[0]),([],[]),([2],[2]),([],[]),([],[]),([4,5],[4,5]),([],[]),([6,7],[6,7]),([],[]),([],[]),([1,3,8,9,10],[1,3,8,9,10]),([11],[11]),([12],[12]),([12],[12]),([13,11,0,1,2,3,4,5,6,7,8,9,10,11,12,13],[13]),([14,15,0,1,2,3,4,5,6,7,8,9,10,11,12,13,14,15],[14])])
def privitylaw43_TapeshiftInverse.B7 : List Nat := [0,1,0,4,0,0,48,0,240,0,0,2047,4095,8191,8191,16383,65535]
theorem privitylaw43_TapeshiftInverse.tab7 : rtab .any (opsOf Try.f7 7) = privitylaw43_TapeshiftInverse.T7 := by kernel_rfl
theorem privitylaw43_TapeshiftInverse.bits7 : waitsOk privitylaw43_TapeshiftInverse.T7.2 privitylaw43_TapeshiftInverse.B7 = true := by kernel_rfl
def privitylaw43_TapeshiftInverse.T12 : Bool × List (List Nat × List Nat) := (true,[([],[]),([0],[0]),([],[]),([2],[2]),([],[]),([],[]),([4,5],[4,5]),([],[]),([6,7],[6,7]),([],[]),([],[]),([9,10],[9,10]),([],[]),([11,12],[11,12]),([],[]),([],[]),([1,3,8,13,14,15],[1,3,8,13,14,15]),([16],[16]),([17],[17]),([17],[17]),([18,16,0,1,2,3,4,5,6,7,8,9,10,11,12,13,14,15,16,17,18],[18]),([19,20,0,1,2,3,4,5,6,7,8,9,10,11,12,13,14,15,16,17,18,19,20],[19])])
def privitylaw43_TapeshiftInverse.B12 : List Nat := [0,1,0,4,0,0,48,0,240,0,0,1536,0,7680,0,0,65535,131071,262143,262143,524287,2097151]
theorem privitylaw43_TapeshiftInverse.tab12 : rtab .any (opsOf Try.f7 12) = privitylaw43_TapeshiftInverse.T12 := by kernel_rfl
theorem privitylaw43_TapeshiftInverse.bits12 : waitsOk privitylaw43_TapeshiftInverse.T12.2 privitylaw43_TapeshiftInverse.B12 = true := by kernel_rfl
set_option maxHeartbeats 8000000 in
set_option maxRecDepth 100000 in
theorem privitylaw43_TapeshiftInverse.calls (k : Nat) (a0_0 : Int) (a0_1 : Int) (a0_2 : Int) (A0_3 : Option Addr) (c0_3 : Nat) (l0_3 : List Int) (a0_4 : Int) (a0_5 : Int) (A0_6 : Option Addr) (c0_6 : Nat) (l0_6 : List Int) (r : Bool) (w : World) (hr0_3 : Kd.C (Kd.int .i64) w A0_3 l0_3.length l0_3) (hc0_3 : l0_3.length ≤ c0_3) (hr0_6 : Kd.C (Kd.int .u64) w A0_6 l0_6.length l0_6) (hc0_6 : l0_6.length ≤ c0_6) (hr1_ : r = true) (h : privitylaw43_TapeshiftInverse.f k a0_0 a0_1 a0_2 l0_3 a0_4 a0_5 l0_6 = some r) :
  Calls Try.prog 7 #[.agg #[.int .u64 a0_0,.int .i64 a0_1,.int .i64 a0_2,.slice A0_3 l0_3.length c0_3,.int .u64 a0_4,.int .u64 a0_5,.slice A0_6 l0_6.length c0_6]] w fun e w' => e = .returned (.bool r) ∧ Below w.heap.size w w' := by
 have HRT_ := Aside0.mk hr1_
 clear hr1_
 have hu28 := Try.underlying28
 have hu24 := Try.underlying24
 have HR0_3 := Aside0.mk hr0_3
 have HC0_3 := Aside0.mk hc0_3
 clear hr0_3 hc0_3
 have HR0_6 := Aside0.mk hr0_6
 have HC0_6 := Aside0.mk hc0_6
 clear hr0_6 hc0_6
 have HB := Aside0.mk (Below.refl w.heap.size w)
 have H : ((privitylaw43_may.f k a0_0 a0_1 a0_2 l0_3 a0_4 a0_5 l0_6).bind fun t341 => (if t341 = true then (if a0_0 = 0 then (none) else ((privitylaw43_one.f k a0_0 a0_1 a0_2 l0_3 a0_4 a0_5 l0_6).bind fun bt343 => ((tapeshift_Sharing.f k a0_0 a0_1 a0_2 l0_3 (Int.tmod a0_4 a0_0) bt343.1 bt343.2).bind fun bt349 => ((tapeshift_Sharing.f k a0_0 a0_1 a0_2 l0_3 (Int.tmod (IntKind.u64.wrap (a0_0 - (Int.tmod a0_4 a0_0))) a0_0) bt349.1 bt349.2).bind fun bt355 => ((privitylaw43_triple.f k a0_0 a0_1 a0_2 l0_3 a0_4 a0_5 l0_6).bind fun bt361 => ((tapeshift_Triple.f a0_0 a0_1 a0_2 l0_3 (Int.tmod a0_4 a0_0) (Int.tmod a0_5 a0_0) bt361.1 bt361.2).bind fun bt367 => (if (bt367.1.length : Int) = (bt361.1.length : Int) then (if (bt367.2.length : Int) = (bt361.2.length : Int) then ((privityref14_Below.f k a0_0 (([bt349.1,bt349.2,bt367.1,bt367.2] : List (List Int))) 100).bind fun t376 => (privitylaw43_TapeshiftInverse.j0 k a0_0 (Int.tmod a0_4 a0_0) (Int.tmod a0_5 a0_0) bt343.1 bt343.2 bt355.1 bt355.2 bt361.1 bt361.2 bt367.1 bt367.2 (!t376) a0_0 a0_1 a0_2 l0_3 a0_4 a0_5 l0_6)) else (privitylaw43_TapeshiftInverse.j0 k a0_0 (Int.tmod a0_4 a0_0) (Int.tmod a0_5 a0_0) bt343.1 bt343.2 bt355.1 bt355.2 bt361.1 bt361.2 bt367.1 bt367.2 true a0_0 a0_1 a0_2 l0_3 a0_4 a0_5 l0_6)) else (privitylaw43_TapeshiftInverse.j0 k a0_0 (Int.tmod a0_4 a0_0) (Int.tmod a0_5 a0_0) bt343.1 bt343.2 bt355.1 bt355.2 bt361.1 bt361.2 bt367.1 bt367.2 true a0_0 a0_1 a0_2 l0_3 a0_4 a0_5 l0_6)))))))) else ((privitylaw43_awake.f k).bind fun t342 => (some t342)))) = some r := h
 clear h
 replace H := Option.bind_eq_some_iff.mp H
 obtain ⟨t341,A20,H⟩ := H
 try dsimp only at H
 have A2 := Aside0.mk A20
 clear A20
 by_cases c3 : t341 = true
 ·subst c3
  rw [if_pos rfl] at H
  by_cases c4 : a0_0 = 0
  ·rw [if_pos c4] at H
   exact absurd H (by simp)
  ·rw [if_neg c4] at H
   have c4b0 : (a0_0 == 0) = false := beq_eq_false_iff_ne.mpr c4
   have c4b1 : (a0_0 != 0) = true := bne_iff_ne.mpr c4
   replace H := Option.bind_eq_some_iff.mp H
   obtain ⟨⟨t343,t346⟩,A50,H⟩ := H
   try dsimp only at H
   have A5 := Aside0.mk A50
   clear A50
   replace H := Option.bind_eq_some_iff.mp H
   obtain ⟨⟨t349,t352⟩,A60,H⟩ := H
   try dsimp only at H
   have A6 := Aside0.mk A60
   clear A60
   replace H := Option.bind_eq_some_iff.mp H
   obtain ⟨⟨t355,t358⟩,A70,H⟩ := H
   try dsimp only at H
   have A7 := Aside0.mk A70
   clear A70
   replace H := Option.bind_eq_some_iff.mp H
   obtain ⟨⟨t361,t364⟩,A80,H⟩ := H
   try dsimp only at H
   have A8 := Aside0.mk A80
   clear A80
   replace H := Option.bind_eq_some_iff.mp H
   obtain ⟨⟨t367,t370⟩,A90,H⟩ := H
   try dsimp only at H
   have A9 := Aside0.mk A90
   clear A90
   have HC10 := Aside0.mk H
   clear H
   go_enter Try.func7,Try.ntmps7
   try go_wp2_with (first|((with_reducible refine gate_dst (N := 1) rfl ?_);(try (refine gate_guard (by rfl) ?_;dsimp only));refine box_event ?hg (N := 1) ?hd (cs := #[.int .u64 a0_0,.int .i64 a0_1,.int .i64 a0_2,.slice A0_3 l0_3.length c0_3,.int .u64 a0_4,.int .u64 a0_5,.slice A0_6 l0_6.length c0_6]) (t := 28) ?hr ?_;(case hd => rfl);(case hg => rfl);(case hr => first|(go_simp;done)|(go_simp;rfl));intro gb340 hg w11 hbox hb;have n0_ := Aside0.mk (below_step (bb HB) hb);have n1_ := Aside0.mk (hbox);have n2_ := Aside0.mk ((by rw [hg];exact (below_size (bb HB)) : w.heap.size ≤ gb340));have n3_ := Aside0.mk ((by rw [hg];exact (below_size (bb HB)) : w.heap.size ≤ gb340));clear HB;have HB := n0_;have BK340 := n1_;have GW340 := n2_;have GE340 := n3_;clear n0_ n1_ n2_ n3_;clear hb hbox hg;have hcz12_0 := bc BK340 0;have hcz12_1 := bc BK340 1;have hcz12_2 := bc BK340 2;have hcz12_3 := bc BK340 3;have hcz12_4 := bc BK340 4;have hcz12_5 := bc BK340 5;have hcz12_6 := bc BK340 6;have hfz12_0 := blk_frozen BK340.out 0;have hfz12_1 := blk_frozen BK340.out 1;have hfz12_2 := blk_frozen BK340.out 2;have hfz12_3 := blk_frozen BK340.out 3;have hfz12_4 := blk_frozen BK340.out 4;have hfz12_5 := blk_frozen BK340.out 5;have hfz12_6 := blk_frozen BK340.out 6)|((with_reducible refine gate_callee (f := 12) rfl ?_);refine goesL_ (some 19) rfl rfl Try.func12 (by kernel_rfl) rfl #[.agg #[.int .u64 a0_0,.int .i64 a0_1,.int .i64 a0_2,.slice A0_3 l0_3.length c0_3,.int .u64 a0_4,.int .u64 a0_5,.slice A0_6 l0_6.length c0_6]] rfl (by (try simp only [List.map_toArray,List.map_cons,List.map_nil]);first|done|rfl|(simp only [List.length_drop,List.length_take];rfl)) ?_;(with_reducible refine (privitylaw43_may.calls k a0_0 a0_1 a0_2 _ _ l0_3 a0_4 a0_5 _ _ l0_6 true _ ?side1 ?side2 ?side3 ?side4 A2.out).mono ?_);(case side1 => exact cb HR0_3 HB);(case side2 => exact HC0_3.out);(case side3 => exact cb HR0_6 HB);(case side4 => exact HC0_6.out);rintro e w13 ⟨rfl,hb⟩;refine ⟨_,rfl,?_⟩;have n0_ := Aside0.mk (kb BK340 hb);have n1_ := Aside0.mk (below_step (bg HB GE340) hb);clear BK340 HB;have BK340 := n0_;have HB := n1_;clear n0_ n1_;(try clear hb);(try clear hb2);(try clear hk);(try clear hi);have hcz14_0 := bc BK340 0;have hcz14_1 := bc BK340 1;have hcz14_2 := bc BK340 2;have hcz14_3 := bc BK340 3;have hcz14_4 := bc BK340 4;have hcz14_5 := bc BK340 5;have hcz14_6 := bc BK340 6;have hfz14_0 := blk_frozen BK340.out 0;have hfz14_1 := blk_frozen BK340.out 1;have hfz14_2 := blk_frozen BK340.out 2;have hfz14_3 := blk_frozen BK340.out 3;have hfz14_4 := blk_frozen BK340.out 4;have hfz14_5 := blk_frozen BK340.out 5;have hfz14_6 := blk_frozen BK340.out 6))
   have n0_ := Aside0.mk (blk_drew BK340.out)
   have n1_ := Aside0.mk (below_drew1 HB.out)
   clear BK340
   clear HB
   have BK340 := n0_
   have HB := n1_
   clear n0_ n1_
   refine start_ (n := 10) (S := fun w' => w'.cell? ⟨gb340,0,none⟩ = some (.int .u64 a0_0) ∧ w'.cell? ⟨gb340,1,none⟩ = some (.int .i64 a0_1) ∧ w'.cell? ⟨gb340,2,none⟩ = some (.int .i64 a0_2) ∧ w'.cell? ⟨gb340,3,none⟩ = some (.slice A0_3 l0_3.length c0_3) ∧ w'.cell? ⟨gb340,4,none⟩ = some (.int .u64 a0_4) ∧ w'.cell? ⟨gb340,5,none⟩ = some (.int .u64 a0_5) ∧ w'.cell? ⟨gb340,6,none⟩ = some (.slice A0_6 l0_6.length c0_6)) (ds := []) (bz 10 0) (by kernel_rfl) rfl rfl ⟨(blk_cell BK340.out 0).trans rfl,(blk_cell BK340.out 1).trans rfl,(blk_cell BK340.out 2).trans rfl,(blk_cell BK340.out 3).trans rfl,(blk_cell BK340.out 4).trans rfl,(blk_cell BK340.out 5).trans rfl,(blk_cell BK340.out 6).trans rfl⟩ (fun hHeld => ?_);refine with_tabW privitylaw43_TapeshiftInverse.tab4 privitylaw43_TapeshiftInverse.bits4 (fun HT_ HW_ => ?_)
   generalize w13.drew = w15 at BK340 HB hHeld ⊢
   refine pk 0 25 (bz 10 1) HT_ ?_
   refine pk 2 27 (bz 10 5) HT_ ?_
   refine pk 4 29 (bz 10 21) HT_ ?_
   refine pk 6 31 (bz 10 85) HT_ ?_
   refine tk 1 26 (bz 10 87) HT_ HW_ hHeld ?_
   refine pk 3 28 (bz 10 95) HT_ ?_
   refine pk 8 4 (bz 10 351) HT_ ?_
   refine tk 5 30 (bz 10 383) HT_ HW_ hHeld ?_
   refine pk 7 32 (bz 10 511) HT_ ?_
   refine pk 9 5 (bz 10 1023) HT_ ?_
   refine done_ (done_of HT_.out (by kernel_rfl)) ?_
   have hcz16_0 := bc BK340 0
   have hcz16_1 := bc BK340 1
   have hcz16_2 := bc BK340 2
   have hcz16_3 := bc BK340 3
   have hcz16_4 := bc BK340 4
   have hcz16_5 := bc BK340 5
   have hcz16_6 := bc BK340 6
   have hfz16_0 := blk_frozen BK340.out 0
   have hfz16_1 := blk_frozen BK340.out 1
   have hfz16_2 := blk_frozen BK340.out 2
   have hfz16_3 := blk_frozen BK340.out 3
   have hfz16_4 := blk_frozen BK340.out 4
   have hfz16_5 := blk_frozen BK340.out 5
   have hfz16_6 := blk_frozen BK340.out 6
   try go_wp2_with (first|((with_reducible refine gate_callee (f := 14) rfl ?_);refine goesL_ (some 35) rfl rfl Try.func14 (by kernel_rfl) rfl #[.agg #[.int .u64 a0_0,.int .i64 a0_1,.int .i64 a0_2,.slice A0_3 l0_3.length c0_3,.int .u64 a0_4,.int .u64 a0_5,.slice A0_6 l0_6.length c0_6]] rfl (by (try simp only [List.map_toArray,List.map_cons,List.map_nil]);first|done|rfl|(simp only [List.length_drop,List.length_take];rfl)) ?_;(with_reducible refine (privitylaw43_one.calls k a0_0 a0_1 a0_2 _ _ l0_3 a0_4 a0_5 _ _ l0_6 t343 t346 _ ?side1 ?side2 ?side3 ?side4 A5.out).mono ?_);(case side1 => exact cb HR0_3 HB);(case side2 => exact HC0_3.out);(case side3 => exact cb HR0_6 HB);(case side4 => exact HC0_6.out);rintro e w17 ⟨v344,v347,rfl,ho0,ho1,hb⟩;refine ⟨_,rfl,?_⟩;have n0_ := Aside0.mk (Kd.R_lower ho0 (below_size (bg HB GE340)));have n1_ := Aside0.mk (Kd.R_lower ho1 (below_size (bg HB GE340)));have n2_ := Aside0.mk (kb BK340 hb);have n3_ := Aside0.mk (below_step (bg HB GE340) hb);clear BK340 HB;have HO345 := n0_;have HO348 := n1_;have BK340 := n2_;have HB := n3_;clear n0_ n1_ n2_ n3_;(try clear hb);(try clear hb2);(try clear hk);(try clear hi);(try clear ho0);(try clear ho1);have hcz18_0 := bc BK340 0;have hcz18_1 := bc BK340 1;have hcz18_2 := bc BK340 2;have hcz18_3 := bc BK340 3;have hcz18_4 := bc BK340 4;have hcz18_5 := bc BK340 5;have hcz18_6 := bc BK340 6;have hfz18_0 := blk_frozen BK340.out 0;have hfz18_1 := blk_frozen BK340.out 1;have hfz18_2 := blk_frozen BK340.out 2;have hfz18_3 := blk_frozen BK340.out 3;have hfz18_4 := blk_frozen BK340.out 4;have hfz18_5 := blk_frozen BK340.out 5;have hfz18_6 := blk_frozen BK340.out 6;obtain ⟨Ao19,co19,eo19⟩ := Kd.R_slice HO345.out;subst eo19;obtain ⟨Ao20,co20,eo20⟩ := Kd.R_slice HO348.out;subst eo20)|((with_reducible refine gate_callee (f := 15) rfl ?_);refine goesL_ (some 46) rfl rfl Try.func15 (by kernel_rfl) rfl #[.agg #[.int .u64 a0_0,.int .i64 a0_1,.int .i64 a0_2],.slice A0_3 l0_3.length c0_3,.int .u64 (Int.tmod a0_4 a0_0),.slice Ao19 t343.length co19,.slice Ao20 t346.length co20] rfl (by (try simp only [List.map_toArray,List.map_cons,List.map_nil]);first|done|rfl|(simp only [List.length_drop,List.length_take];rfl)) ?_;(with_reducible refine (tapeshift_Sharing.calls k a0_0 a0_1 a0_2 _ _ l0_3 (Int.tmod a0_4 a0_0) _ _ t343 _ _ t346 t349 t352 _ ?side1 ?side2 ?side3 ?side4 ?side5 ?side6 A6.out).mono ?_);(case side1 => exact cb HR0_3 HB);(case side2 => exact HC0_3.out);(case side3 => exact cr HO345);(case side4 => exact (Kd.R_reads' HO345.out).2.1);(case side5 => exact cr HO348);(case side6 => exact (Kd.R_reads' HO348.out).2.1);rintro e w21 ⟨v350,v353,rfl,ho0,ho1,hb⟩;refine ⟨_,rfl,?_⟩;have n0_ := Aside0.mk (Kd.R_mono (Kd.R_told (Kd.R_told (Kd.R_old (rr HO345) hb) (Kd.R_base ho0)) (Kd.R_base ho1)) (fun _ h_ => h_.1));have n1_ := Aside0.mk (Kd.R_mono (Kd.R_told (Kd.R_told (Kd.R_old (rr HO348) hb) (Kd.R_base ho0)) (Kd.R_base ho1)) (fun _ h_ => h_.1));have n2_ := Aside0.mk (Kd.R_lower (Kd.R_new' (Kd.R_new' ho0 (Kd.R_lt (rr HO345))) (Kd.R_lt (rr HO348))) (below_size (bg HB GE340)));have n3_ := Aside0.mk (Kd.R_lower (Kd.R_new' (Kd.R_new' ho1 (Kd.R_lt (rr HO345))) (Kd.R_lt (rr HO348))) (below_size (bg HB GE340)));have n4_ := Aside0.mk (kb BK340 hb);have n5_ := Aside0.mk (below_step (bg HB GE340) hb);clear HO345 HO348 BK340 HB;have HO345 := n0_;have HO348 := n1_;have HO351 := n2_;have HO354 := n3_;have BK340 := n4_;have HB := n5_;clear n0_ n1_ n2_ n3_ n4_ n5_;(try clear hb);(try clear hb2);(try clear hk);(try clear hi);(try clear ho0);(try clear ho1)))
   have n0_ := Aside0.mk (Kd.R_drew HO345.out)
   have n1_ := Aside0.mk (Kd.R_drew HO348.out)
   have n2_ := Aside0.mk (Kd.R_drew HO351.out)
   have n3_ := Aside0.mk (Kd.R_drew HO354.out)
   have n4_ := Aside0.mk (blk_drew BK340.out)
   have n5_ := Aside0.mk (below_drew1 HB.out)
   clear HO345
   clear HO348
   clear HO351
   clear HO354
   clear BK340
   clear HB
   have HO345 := n0_
   have HO348 := n1_
   have HO351 := n2_
   have HO354 := n3_
   have BK340 := n4_
   have HB := n5_
   clear n0_ n1_ n2_ n3_ n4_ n5_
   obtain ⟨Ao23,co23,eo23⟩ := Kd.R_slice HO351.out
   (first|subst eo23|(injection eo23 with f1_ f2_ f3_;have f4_ := f1_.symm;have f5_ := f3_.symm;clear f1_ f2_ f3_;subst f4_;subst f5_))
   obtain ⟨Ao24,co24,eo24⟩ := Kd.R_slice HO354.out
   (first|subst eo24|(injection eo24 with f1_ f2_ f3_;have f4_ := f1_.symm;have f5_ := f3_.symm;clear f1_ f2_ f3_;subst f4_;subst f5_))
   refine start_ (n := 17) (S := fun w' => w'.cell? ⟨gb340,0,none⟩ = some (.int .u64 a0_0) ∧ w'.cell? ⟨gb340,1,none⟩ = some (.int .i64 a0_1) ∧ w'.cell? ⟨gb340,2,none⟩ = some (.int .i64 a0_2) ∧ w'.cell? ⟨gb340,3,none⟩ = some (.slice A0_3 l0_3.length c0_3) ∧ w'.cell? ⟨gb340,4,none⟩ = some (.int .u64 a0_4) ∧ w'.cell? ⟨gb340,5,none⟩ = some (.int .u64 a0_5) ∧ w'.cell? ⟨gb340,6,none⟩ = some (.slice A0_6 l0_6.length c0_6)) (ds := []) (bz 17 0) (by kernel_rfl) rfl rfl ⟨(blk_cell BK340.out 0).trans rfl,(blk_cell BK340.out 1).trans rfl,(blk_cell BK340.out 2).trans rfl,(blk_cell BK340.out 3).trans rfl,(blk_cell BK340.out 4).trans rfl,(blk_cell BK340.out 5).trans rfl,(blk_cell BK340.out 6).trans rfl⟩ (fun hHeld => ?_);refine with_tabW privitylaw43_TapeshiftInverse.tab7 privitylaw43_TapeshiftInverse.bits7 (fun HT_ HW_ => ?_)
   generalize w21.drew = w22 at HO345 HO348 HO351 HO354 BK340 HB hHeld ⊢
   refine pk 0 50 (bz 17 1) HT_ ?_
   refine pk 2 52 (bz 17 5) HT_ ?_
   refine pk 4 54 (bz 17 21) HT_ ?_
   refine pk 5 55 (bz 17 53) HT_ ?_
   refine pk 6 56 (bz 17 117) HT_ ?_
   refine pk 7 57 (bz 17 245) HT_ ?_
   refine pk 8 58 (bz 17 501) HT_ ?_
   refine pk 9 59 (bz 17 1013) HT_ ?_
   refine pk 10 60 (bz 17 2037) HT_ ?_
   refine tk 1 51 (bz 17 2039) HT_ HW_ hHeld ?_
   refine tk 3 53 (bz 17 2047) HT_ HW_ hHeld ?_
   refine one_ (i := 11) (N := some 61) (bz 17 4095) rfl rfl (one_of HT_.out (by kernel_rfl)) (by decide) (fun K hK => ?_)
   refine goes_ Try.func15 (by kernel_rfl) rfl #[.agg #[.int .u64 a0_0,.int .i64 a0_1,.int .i64 a0_2],.slice A0_3 l0_3.length c0_3,.int .u64 (Int.tmod (IntKind.u64.wrap (a0_0 - (Int.tmod a0_4 a0_0))) a0_0),.slice Ao23 t349.length co23,.slice Ao24 t352.length co24] (by rfl) rfl rfl (by (try simp only [List.map_toArray,List.map_cons,List.map_nil]);first|done|rfl|(simp only [List.length_drop,List.length_take];rfl)) ?_
   with_reducible refine (tapeshift_Sharing.calls k a0_0 a0_1 a0_2 _ _ l0_3 (Int.tmod (IntKind.u64.wrap (a0_0 - (Int.tmod a0_4 a0_0))) a0_0) _ _ t349 _ _ t352 t355 t358 _ ?side1 ?side2 ?side3 ?side4 ?side5 ?side6 A7.out).mono ?_
   (case side1 => exact cb HR0_3 HB)
   (case side2 => exact HC0_3.out)
   (case side3 => exact cr HO351)
   (case side4 => exact (Kd.R_reads' HO351.out).2.1)
   (case side5 => exact cr HO354)
   (case side6 => exact (Kd.R_reads' HO354.out).2.1)
   rintro e w25 ⟨v356,v359,rfl,ho0,ho1,hb⟩
   refine ⟨_,rfl,?_⟩
   have n0_ := Aside0.mk (Kd.R_mono (Kd.R_told (Kd.R_told (Kd.R_old (rr HO345) hb) (Kd.R_base ho0)) (Kd.R_base ho1)) (fun _ h_ => h_.1))
   have n1_ := Aside0.mk (Kd.R_mono (Kd.R_told (Kd.R_told (Kd.R_old (rr HO348) hb) (Kd.R_base ho0)) (Kd.R_base ho1)) (fun _ h_ => h_.1))
   have n2_ := Aside0.mk (Kd.R_mono (Kd.R_told (Kd.R_told (Kd.R_old (rr HO351) hb) (Kd.R_base ho0)) (Kd.R_base ho1)) (fun _ h_ => h_.1))
   have n3_ := Aside0.mk (Kd.R_mono (Kd.R_told (Kd.R_told (Kd.R_old (rr HO354) hb) (Kd.R_base ho0)) (Kd.R_base ho1)) (fun _ h_ => h_.1))
   have n4_ := Aside0.mk (Kd.R_lower (Kd.R_new' (Kd.R_new' (Kd.R_new' (Kd.R_new' ho0 (Kd.R_lt (rr HO345))) (Kd.R_lt (rr HO348))) (Kd.R_lt (rr HO351))) (Kd.R_lt (rr HO354))) (below_size (bg HB GE340)))
   have n5_ := Aside0.mk (Kd.R_lower (Kd.R_new' (Kd.R_new' (Kd.R_new' (Kd.R_new' ho1 (Kd.R_lt (rr HO345))) (Kd.R_lt (rr HO348))) (Kd.R_lt (rr HO351))) (Kd.R_lt (rr HO354))) (below_size (bg HB GE340)))
   have n6_ := Aside0.mk (kb BK340 hb)
   have n7_ := Aside0.mk (below_step (bg HB GE340) hb)
   clear HO345
   clear HO348
   clear HO351
   clear HO354
   clear BK340
   clear HB
   have HO345 := n0_
   have HO348 := n1_
   have HO351 := n2_
   have HO354 := n3_
   have HO357 := n4_
   have HO360 := n5_
   have BK340 := n6_
   have HB := n7_
   clear n0_ n1_ n2_ n3_ n4_ n5_ n6_ n7_
   (try clear hb)
   (try clear hb2)
   (try clear hk)
   (try clear hi)
   (try clear ho0)
   (try clear ho1)
   refine hK.out _ _ ⟨(blk_cell BK340.out 0).trans rfl,(blk_cell BK340.out 1).trans rfl,(blk_cell BK340.out 2).trans rfl,(blk_cell BK340.out 3).trans rfl,(blk_cell BK340.out 4).trans rfl,(blk_cell BK340.out 5).trans rfl,(blk_cell BK340.out 6).trans rfl⟩ (fun hHeld => ?_)
   clear hK K
   refine nm 61 ?_
   refine pk 12 49 (bz 17 8191) HT_ ?_
   refine pk 13 62 (bz 17 16383) HT_ ?_
   refine pk 14 63 (bz 17 32767) HT_ ?_
   refine pk 15 10 (bz 17 65535) HT_ ?_
   refine pk 16 11 (bz 17 131071) HT_ ?_
   refine done_ (done_of HT_.out (by kernel_rfl)) ?_
   have hcz26_0 := bc BK340 0
   have hcz26_1 := bc BK340 1
   have hcz26_2 := bc BK340 2
   have hcz26_3 := bc BK340 3
   have hcz26_4 := bc BK340 4
   have hcz26_5 := bc BK340 5
   have hcz26_6 := bc BK340 6
   have hfz26_0 := blk_frozen BK340.out 0
   have hfz26_1 := blk_frozen BK340.out 1
   have hfz26_2 := blk_frozen BK340.out 2
   have hfz26_3 := blk_frozen BK340.out 3
   have hfz26_4 := blk_frozen BK340.out 4
   have hfz26_5 := blk_frozen BK340.out 5
   have hfz26_6 := blk_frozen BK340.out 6
   go_upto_region 10 with (first|((with_reducible refine gate_callee (f := 24) rfl ?_);refine goesL_ (some 66) rfl rfl Try.func24 (by kernel_rfl) rfl #[.agg #[.int .u64 a0_0,.int .i64 a0_1,.int .i64 a0_2,.slice A0_3 l0_3.length c0_3,.int .u64 a0_4,.int .u64 a0_5,.slice A0_6 l0_6.length c0_6]] rfl (by (try simp only [List.map_toArray,List.map_cons,List.map_nil]);first|done|rfl|(simp only [List.length_drop,List.length_take];rfl)) ?_;(with_reducible refine (privitylaw43_triple.calls k a0_0 a0_1 a0_2 _ _ l0_3 a0_4 a0_5 _ _ l0_6 t361 t364 _ ?side1 ?side2 ?side3 ?side4 A8.out).mono ?_);(case side1 => exact cb HR0_3 HB);(case side2 => exact HC0_3.out);(case side3 => exact cb HR0_6 HB);(case side4 => exact HC0_6.out);rintro e w27 ⟨v362,v365,rfl,ho0,ho1,hb⟩;refine ⟨_,rfl,?_⟩;have n0_ := Aside0.mk (Kd.R_mono (Kd.R_told (Kd.R_told (Kd.R_old (rr HO345) hb) (Kd.R_base ho0)) (Kd.R_base ho1)) (fun _ h_ => h_.1));have n1_ := Aside0.mk (Kd.R_mono (Kd.R_told (Kd.R_told (Kd.R_old (rr HO348) hb) (Kd.R_base ho0)) (Kd.R_base ho1)) (fun _ h_ => h_.1));have n2_ := Aside0.mk (Kd.R_mono (Kd.R_told (Kd.R_told (Kd.R_old (rr HO351) hb) (Kd.R_base ho0)) (Kd.R_base ho1)) (fun _ h_ => h_.1));have n3_ := Aside0.mk (Kd.R_mono (Kd.R_told (Kd.R_told (Kd.R_old (rr HO354) hb) (Kd.R_base ho0)) (Kd.R_base ho1)) (fun _ h_ => h_.1));have n4_ := Aside0.mk (Kd.R_mono (Kd.R_told (Kd.R_told (Kd.R_old (rr HO357) hb) (Kd.R_base ho0)) (Kd.R_base ho1)) (fun _ h_ => h_.1));have n5_ := Aside0.mk (Kd.R_mono (Kd.R_told (Kd.R_told (Kd.R_old (rr HO360) hb) (Kd.R_base ho0)) (Kd.R_base ho1)) (fun _ h_ => h_.1));have n6_ := Aside0.mk (Kd.R_lower (Kd.R_new' (Kd.R_new' (Kd.R_new' (Kd.R_new' (Kd.R_new' (Kd.R_new' ho0 (Kd.R_lt (rr HO345))) (Kd.R_lt (rr HO348))) (Kd.R_lt (rr HO351))) (Kd.R_lt (rr HO354))) (Kd.R_lt (rr HO357))) (Kd.R_lt (rr HO360))) (below_size (bg HB GE340)));have n7_ := Aside0.mk (Kd.R_lower (Kd.R_new' (Kd.R_new' (Kd.R_new' (Kd.R_new' (Kd.R_new' (Kd.R_new' ho1 (Kd.R_lt (rr HO345))) (Kd.R_lt (rr HO348))) (Kd.R_lt (rr HO351))) (Kd.R_lt (rr HO354))) (Kd.R_lt (rr HO357))) (Kd.R_lt (rr HO360))) (below_size (bg HB GE340)));have n8_ := Aside0.mk (kb BK340 hb);have n9_ := Aside0.mk (below_step (bg HB GE340) hb);clear HO345 HO348 HO351 HO354 HO357 HO360 BK340 HB;have HO345 := n0_;have HO348 := n1_;have HO351 := n2_;have HO354 := n3_;have HO357 := n4_;have HO360 := n5_;have HO363 := n6_;have HO366 := n7_;have BK340 := n8_;have HB := n9_;clear n0_ n1_ n2_ n3_ n4_ n5_ n6_ n7_ n8_ n9_;(try clear hb);(try clear hb2);(try clear hk);(try clear hi);(try clear ho0);(try clear ho1);have hcz28_0 := bc BK340 0;have hcz28_1 := bc BK340 1;have hcz28_2 := bc BK340 2;have hcz28_3 := bc BK340 3;have hcz28_4 := bc BK340 4;have hcz28_5 := bc BK340 5;have hcz28_6 := bc BK340 6;have hfz28_0 := blk_frozen BK340.out 0;have hfz28_1 := blk_frozen BK340.out 1;have hfz28_2 := blk_frozen BK340.out 2;have hfz28_3 := blk_frozen BK340.out 3;have hfz28_4 := blk_frozen BK340.out 4;have hfz28_5 := blk_frozen BK340.out 5;have hfz28_6 := blk_frozen BK340.out 6;obtain ⟨Ao29,co29,eo29⟩ := Kd.R_slice HO363.out;subst eo29;obtain ⟨Ao30,co30,eo30⟩ := Kd.R_slice HO366.out;subst eo30)|((with_reducible refine gate_callee (f := 25) rfl ?_);refine goesL_ (some 78) rfl rfl Try.func25 (by kernel_rfl) rfl #[.agg #[.int .u64 a0_0,.int .i64 a0_1,.int .i64 a0_2],.slice A0_3 l0_3.length c0_3,.int .u64 (Int.tmod a0_4 a0_0),.int .u64 (Int.tmod a0_5 a0_0),.slice Ao29 t361.length co29,.slice Ao30 t364.length co30] rfl (by (try simp only [List.map_toArray,List.map_cons,List.map_nil]);first|done|rfl|(simp only [List.length_drop,List.length_take];rfl)) ?_;(with_reducible refine (tapeshift_Triple.calls a0_0 a0_1 a0_2 _ _ l0_3 (Int.tmod a0_4 a0_0) (Int.tmod a0_5 a0_0) _ _ t361 _ _ t364 t367 t370 _ ?side1 ?side2 ?side3 ?side4 ?side5 ?side6 A9.out).mono ?_);(case side1 => exact cb HR0_3 HB);(case side2 => exact HC0_3.out);(case side3 => exact cr HO363);(case side4 => exact (Kd.R_reads' HO363.out).2.1);(case side5 => exact cr HO366);(case side6 => exact (Kd.R_reads' HO366.out).2.1);rintro e w31 ⟨v368,v371,rfl,ho0,ho1,hb⟩;refine ⟨_,rfl,?_⟩;have n0_ := Aside0.mk (Kd.R_mono (Kd.R_told (Kd.R_told (Kd.R_old (rr HO345) hb) (Kd.R_base ho0)) (Kd.R_base ho1)) (fun _ h_ => h_.1));have n1_ := Aside0.mk (Kd.R_mono (Kd.R_told (Kd.R_told (Kd.R_old (rr HO348) hb) (Kd.R_base ho0)) (Kd.R_base ho1)) (fun _ h_ => h_.1));have n2_ := Aside0.mk (Kd.R_mono (Kd.R_told (Kd.R_told (Kd.R_old (rr HO351) hb) (Kd.R_base ho0)) (Kd.R_base ho1)) (fun _ h_ => h_.1));have n3_ := Aside0.mk (Kd.R_mono (Kd.R_told (Kd.R_told (Kd.R_old (rr HO354) hb) (Kd.R_base ho0)) (Kd.R_base ho1)) (fun _ h_ => h_.1));have n4_ := Aside0.mk (Kd.R_mono (Kd.R_told (Kd.R_told (Kd.R_old (rr HO357) hb) (Kd.R_base ho0)) (Kd.R_base ho1)) (fun _ h_ => h_.1));have n5_ := Aside0.mk (Kd.R_mono (Kd.R_told (Kd.R_told (Kd.R_old (rr HO360) hb) (Kd.R_base ho0)) (Kd.R_base ho1)) (fun _ h_ => h_.1));have n6_ := Aside0.mk (Kd.R_mono (Kd.R_told (Kd.R_told (Kd.R_old (rr HO363) hb) (Kd.R_base ho0)) (Kd.R_base ho1)) (fun _ h_ => h_.1));have n7_ := Aside0.mk (Kd.R_mono (Kd.R_told (Kd.R_told (Kd.R_old (rr HO366) hb) (Kd.R_base ho0)) (Kd.R_base ho1)) (fun _ h_ => h_.1));have n8_ := Aside0.mk (Kd.R_lower (Kd.R_new' (Kd.R_new' (Kd.R_new' (Kd.R_new' (Kd.R_new' (Kd.R_new' (Kd.R_new' (Kd.R_new' ho0 (Kd.R_lt (rr HO345))) (Kd.R_lt (rr HO348))) (Kd.R_lt (rr HO351))) (Kd.R_lt (rr HO354))) (Kd.R_lt (rr HO357))) (Kd.R_lt (rr HO360))) (Kd.R_lt (rr HO363))) (Kd.R_lt (rr HO366))) (below_size (bg HB GE340)));have n9_ := Aside0.mk (Kd.R_lower (Kd.R_new' (Kd.R_new' (Kd.R_new' (Kd.R_new' (Kd.R_new' (Kd.R_new' (Kd.R_new' (Kd.R_new' ho1 (Kd.R_lt (rr HO345))) (Kd.R_lt (rr HO348))) (Kd.R_lt (rr HO351))) (Kd.R_lt (rr HO354))) (Kd.R_lt (rr HO357))) (Kd.R_lt (rr HO360))) (Kd.R_lt (rr HO363))) (Kd.R_lt (rr HO366))) (below_size (bg HB GE340)));have n10_ := Aside0.mk (kb BK340 hb);have n11_ := Aside0.mk (below_step (bg HB GE340) hb);clear HO345 HO348 HO351 HO354 HO357 HO360 HO363 HO366 BK340 HB;have HO345 := n0_;have HO348 := n1_;have HO351 := n2_;have HO354 := n3_;have HO357 := n4_;have HO360 := n5_;have HO363 := n6_;have HO366 := n7_;have HO369 := n8_;have HO372 := n9_;have BK340 := n10_;have HB := n11_;clear n0_ n1_ n2_ n3_ n4_ n5_ n6_ n7_ n8_ n9_ n10_ n11_;(try clear hb);(try clear hb2);(try clear hk);(try clear hi);(try clear ho0);(try clear ho1)))
   (try simp only [Act.put,List.setIfInBounds_toArray,List.set_cons_zero,List.set_cons_succ])
   go_cut [102] (fun v102 wc => ∃ (kq : Nat) (x102_9 : Bool),v102 = .bool x102_9 ∧ Aside0 (privitylaw43_TapeshiftInverse.j0 kq a0_0 (Int.tmod a0_4 a0_0) (Int.tmod a0_5 a0_0) t343 t346 t355 t358 t361 t364 t367 t370 x102_9 a0_0 a0_1 a0_2 l0_3 a0_4 a0_5 l0_6 = some r) ∧ Aside0 (kq ≤ k) ∧ Aside0 (Kd.R (Kd.int .u64) 22 wc w.heap.size (fun k_ => some k_ ≠ ((.slice Ao20 t346.length co20) : Value).ownBlock ∧ some k_ ≠ (v356 : Value).ownBlock ∧ some k_ ≠ (v359 : Value).ownBlock ∧ some k_ ≠ ((.slice Ao29 t361.length co29) : Value).ownBlock ∧ some k_ ≠ ((.slice Ao30 t364.length co30) : Value).ownBlock ∧ some k_ ≠ (v368 : Value).ownBlock ∧ some k_ ≠ (v371 : Value).ownBlock) (.slice Ao19 t343.length co19) t343) ∧ Aside0 (Kd.R (Kd.int .u64) 22 wc w.heap.size (fun k_ => some k_ ≠ ((.slice Ao19 t343.length co19) : Value).ownBlock ∧ some k_ ≠ (v356 : Value).ownBlock ∧ some k_ ≠ (v359 : Value).ownBlock ∧ some k_ ≠ ((.slice Ao29 t361.length co29) : Value).ownBlock ∧ some k_ ≠ ((.slice Ao30 t364.length co30) : Value).ownBlock ∧ some k_ ≠ (v368 : Value).ownBlock ∧ some k_ ≠ (v371 : Value).ownBlock) (.slice Ao20 t346.length co20) t346) ∧ Aside0 (Kd.R (Kd.int .u64) 22 wc w.heap.size (fun k_ => some k_ ≠ ((.slice Ao19 t343.length co19) : Value).ownBlock ∧ some k_ ≠ ((.slice Ao20 t346.length co20) : Value).ownBlock ∧ some k_ ≠ (v359 : Value).ownBlock ∧ some k_ ≠ ((.slice Ao29 t361.length co29) : Value).ownBlock ∧ some k_ ≠ ((.slice Ao30 t364.length co30) : Value).ownBlock ∧ some k_ ≠ (v368 : Value).ownBlock ∧ some k_ ≠ (v371 : Value).ownBlock) v356 t355) ∧ Aside0 (Kd.R (Kd.int .u64) 22 wc w.heap.size (fun k_ => some k_ ≠ ((.slice Ao19 t343.length co19) : Value).ownBlock ∧ some k_ ≠ ((.slice Ao20 t346.length co20) : Value).ownBlock ∧ some k_ ≠ (v356 : Value).ownBlock ∧ some k_ ≠ ((.slice Ao29 t361.length co29) : Value).ownBlock ∧ some k_ ≠ ((.slice Ao30 t364.length co30) : Value).ownBlock ∧ some k_ ≠ (v368 : Value).ownBlock ∧ some k_ ≠ (v371 : Value).ownBlock) v359 t358) ∧ Aside0 (Kd.R (Kd.int .u64) 22 wc w.heap.size (fun k_ => some k_ ≠ ((.slice Ao19 t343.length co19) : Value).ownBlock ∧ some k_ ≠ ((.slice Ao20 t346.length co20) : Value).ownBlock ∧ some k_ ≠ (v356 : Value).ownBlock ∧ some k_ ≠ (v359 : Value).ownBlock ∧ some k_ ≠ ((.slice Ao30 t364.length co30) : Value).ownBlock ∧ some k_ ≠ (v368 : Value).ownBlock ∧ some k_ ≠ (v371 : Value).ownBlock) (.slice Ao29 t361.length co29) t361) ∧ Aside0 (Kd.R (Kd.int .u64) 22 wc w.heap.size (fun k_ => some k_ ≠ ((.slice Ao19 t343.length co19) : Value).ownBlock ∧ some k_ ≠ ((.slice Ao20 t346.length co20) : Value).ownBlock ∧ some k_ ≠ (v356 : Value).ownBlock ∧ some k_ ≠ (v359 : Value).ownBlock ∧ some k_ ≠ ((.slice Ao29 t361.length co29) : Value).ownBlock ∧ some k_ ≠ (v368 : Value).ownBlock ∧ some k_ ≠ (v371 : Value).ownBlock) (.slice Ao30 t364.length co30) t364) ∧ Aside0 (Kd.R (Kd.int .u64) 22 wc w.heap.size (fun k_ => some k_ ≠ ((.slice Ao19 t343.length co19) : Value).ownBlock ∧ some k_ ≠ ((.slice Ao20 t346.length co20) : Value).ownBlock ∧ some k_ ≠ (v356 : Value).ownBlock ∧ some k_ ≠ (v359 : Value).ownBlock ∧ some k_ ≠ ((.slice Ao29 t361.length co29) : Value).ownBlock ∧ some k_ ≠ ((.slice Ao30 t364.length co30) : Value).ownBlock ∧ some k_ ≠ (v371 : Value).ownBlock) v368 t367) ∧ Aside0 (Kd.R (Kd.int .u64) 22 wc w.heap.size (fun k_ => some k_ ≠ ((.slice Ao19 t343.length co19) : Value).ownBlock ∧ some k_ ≠ ((.slice Ao20 t346.length co20) : Value).ownBlock ∧ some k_ ≠ (v356 : Value).ownBlock ∧ some k_ ≠ (v359 : Value).ownBlock ∧ some k_ ≠ ((.slice Ao29 t361.length co29) : Value).ownBlock ∧ some k_ ≠ ((.slice Ao30 t364.length co30) : Value).ownBlock ∧ some k_ ≠ (v368 : Value).ownBlock) v371 t370) ∧ Aside0 (wc.heap[gb340]? = some (.cells #[.int .u64 a0_0,.int .i64 a0_1,.int .i64 a0_2,(.slice A0_3 l0_3.length c0_3),.int .u64 a0_4,.int .u64 a0_5,(.slice A0_6 l0_6.length c0_6)] 28 (0,0))) ∧ Aside0 (Below w.heap.size w wc))
   case first =>
    have H := HC10.out
    clear HC10
    by_cases c32 : (t367.length : Int) = (t361.length : Int)
    ·rw [if_pos c32] at H
     have c32b0 : ((t367.length : Int) == (t361.length : Int)) = true := beq_iff_eq.mpr c32
     have c32b1 : ((t367.length : Int) != (t361.length : Int)) = false := bne_eq_false_iff_eq.mpr c32
     have c32b2 : (t367.length == t361.length) = true := by first|simpa using c32|(simp at c32 ⊢;omega)
     clear c32
     (first|rw [c32b0]|(simp only [i64_w,i32_w];rw [c32b0])|skip)
     by_cases c33 : (t370.length : Int) = (t364.length : Int)
     ·rw [if_pos c33] at H
      have c33b0 : ((t370.length : Int) == (t364.length : Int)) = true := beq_iff_eq.mpr c33
      have c33b1 : ((t370.length : Int) != (t364.length : Int)) = false := bne_eq_false_iff_eq.mpr c33
      have c33b2 : (t370.length == t364.length) = true := by first|simpa using c33|(simp at c33 ⊢;omega)
      clear c33
      obtain ⟨y373,hy373⟩ : ∃ y_ : List (List Int),y_ = (([t349,t352,t367,t370] : List (List Int))) := ⟨_,rfl⟩
      replace H : ((privityref14_Below.f k a0_0 y373 100).bind fun t376 => (privitylaw43_TapeshiftInverse.j0 k a0_0 (Int.tmod a0_4 a0_0) (Int.tmod a0_5 a0_0) t343 t346 t355 t358 t361 t364 t367 t370 (!t376) a0_0 a0_1 a0_2 l0_3 a0_4 a0_5 l0_6)) = some r := by first|(rw [hy373];with_reducible exact H)|(have H2_ := (Option.bind_some _ _).symm.trans H;rw [hy373];with_reducible exact H2_)|(have H2_ := (Option.bind_some _ _).symm.trans H;with_reducible exact H2_)|with_reducible exact H|(rw [hy373];exact H)|exact H
      have Ny373 := Aside0.mk hy373
      clear hy373
      replace H := Option.bind_eq_some_iff.mp H
      obtain ⟨t376,A340,H⟩ := H
      try dsimp only at H
      have A34 := Aside0.mk A340
      clear A340
      have H' := Aside0.mk H
      clear H
      obtain ⟨Ao35,co35,eo35⟩ := Kd.R_slice HO369.out
      subst eo35
      obtain ⟨Ao36,co36,eo36⟩ := Kd.R_slice HO372.out
      subst eo36
      go_wp2_with (first|((with_reducible refine gate_dst (N := 99) rfl ?_);(try (refine gate_guard (by rfl) ?_;dsimp only));refine R_litx (Kd.slice 22 (Kd.int .u64)) w.heap.size 26 ?hg (N := 99) ?hd (xs := ([t349,t352,t367,t370] : List (List Int))) (inner := [?i0,?i1,?i2,?i3]) ?hr ?hp (bg HB GE340) (below_size (bg HB GE340)) (by simp) ?_;(case hd => rfl);(case hg => rfl);(case hr => first|(go_simp;done)|(go_simp;rfl));(case hp => exact (Reps.one (show Kd.M (Kd.slice 22 (Kd.int .u64)) _ _ _ t349 _ from ⟨_,rfl,Kd.R_mono (rr HO351) (fun _ _ => trivial)⟩) (Reps.one (show Kd.M (Kd.slice 22 (Kd.int .u64)) _ _ _ t352 _ from ⟨_,rfl,Kd.R_mono (rr HO354) (fun _ _ => trivial)⟩) (Reps.one (show Kd.M (Kd.slice 22 (Kd.int .u64)) _ _ _ t367 _ from ⟨_,rfl,Kd.R_mono (rr HO369) (fun _ _ => trivial)⟩) (Reps.one (show Kd.M (Kd.slice 22 (Kd.int .u64)) _ _ _ t370 _ from ⟨_,rfl,Kd.R_mono (rr HO372) (fun _ _ => trivial)⟩) (Reps.none _ _))))));intro v374 w37 ho38 hb;(first|rw [← Ny373.out] at ho38|(simp only [Int.reduceToNat] at ho38;rw [← Ny373.out] at ho38));have n0_ := Aside0.mk (Kd.R_below (rr HO345) hb);have n1_ := Aside0.mk (Kd.R_below (rr HO348) hb);have n2_ := Aside0.mk (Kd.R_below (rr HO351) hb);have n3_ := Aside0.mk (Kd.R_below (rr HO354) hb);have n4_ := Aside0.mk (Kd.R_below (rr HO357) hb);have n5_ := Aside0.mk (Kd.R_below (rr HO360) hb);have n6_ := Aside0.mk (Kd.R_below (rr HO363) hb);have n7_ := Aside0.mk (Kd.R_below (rr HO366) hb);have n8_ := Aside0.mk (Kd.R_below (rr HO369) hb);have n9_ := Aside0.mk (Kd.R_below (rr HO372) hb);have n10_ := Aside0.mk ho38;have n11_ := Aside0.mk (kb BK340 hb);have n12_ := Aside0.mk (below_step (bg HB GE340) hb);clear HO345 HO348 HO351 HO354 HO357 HO360 HO363 HO366 HO369 HO372 BK340 HB;have HO345 := n0_;have HO348 := n1_;have HO351 := n2_;have HO354 := n3_;have HO357 := n4_;have HO360 := n5_;have HO363 := n6_;have HO366 := n7_;have HO369 := n8_;have HO372 := n9_;have HO375 := n10_;have BK340 := n11_;have HB := n12_;clear n0_ n1_ n2_ n3_ n4_ n5_ n6_ n7_ n8_ n9_ n10_ n11_ n12_;clear hb ho38;obtain ⟨Ao39,co39,eo39⟩ := Kd.R_slice HO375.out;subst eo39)|(go_at_call 27;(with_reducible refine (privityref14_Below.calls k a0_0 _ _ y373 100 t376 _ ?side1 ?side2 A34.out).mono ?_);(case side1 => exact cr HO375);(case side2 => exact (Kd.R_reads' HO375.out).2.1);rintro e w' ⟨rfl,⟨nd,rfl⟩⟩))
      go_meet
      case rel => exact ⟨_,(!t376),(by first|rfl|(simp;done)|(simp [*];done)),H',⟨by first|omega|exact Nat.le_refl _⟩,⟨by (with_reducible repeat (first|apply Kd.R_alloc|apply Kd.R_drewN|apply Kd.R_drew));exact Kd.R_mono HO345.out (fun _ hk => ⟨hk.1.1.1.1.1.1.1.1,⟨hk.1.1.1.1.1.2,⟨hk.1.1.1.1.2,⟨hk.1.1.1.2,⟨hk.1.1.2,⟨hk.1.2,hk.2⟩⟩⟩⟩⟩⟩)⟩,⟨by (with_reducible repeat (first|apply Kd.R_alloc|apply Kd.R_drewN|apply Kd.R_drew));exact Kd.R_mono HO348.out (fun _ hk => ⟨hk.1.1.1.1.1.1.1.1,⟨hk.1.1.1.1.1.2,⟨hk.1.1.1.1.2,⟨hk.1.1.1.2,⟨hk.1.1.2,⟨hk.1.2,hk.2⟩⟩⟩⟩⟩⟩)⟩,⟨by (with_reducible repeat (first|apply Kd.R_alloc|apply Kd.R_drewN|apply Kd.R_drew));exact Kd.R_mono HO357.out (fun _ hk => ⟨hk.1.1.1.1.1.1.1.2,⟨hk.1.1.1.1.1.1.2,⟨hk.1.1.1.1.1.1.1.1,⟨hk.1.1.1.2,⟨hk.1.1.2,⟨hk.1.2,hk.2⟩⟩⟩⟩⟩⟩)⟩,⟨by (with_reducible repeat (first|apply Kd.R_alloc|apply Kd.R_drewN|apply Kd.R_drew));exact Kd.R_mono HO360.out (fun _ hk => ⟨hk.1.1.1.1.1.1.1.2,⟨hk.1.1.1.1.1.1.2,⟨hk.1.1.1.1.1.1.1.1,⟨hk.1.1.1.2,⟨hk.1.1.2,⟨hk.1.2,hk.2⟩⟩⟩⟩⟩⟩)⟩,⟨by (with_reducible repeat (first|apply Kd.R_alloc|apply Kd.R_drewN|apply Kd.R_drew));exact Kd.R_mono HO363.out (fun _ hk => ⟨hk.1.1.1.1.1.1.1.2,⟨hk.1.1.1.1.1.1.2,⟨hk.1.1.1.2,⟨hk.1.1.2,⟨hk.1.1.1.1.1.1.1.1,⟨hk.1.2,hk.2⟩⟩⟩⟩⟩⟩)⟩,⟨by (with_reducible repeat (first|apply Kd.R_alloc|apply Kd.R_drewN|apply Kd.R_drew));exact Kd.R_mono HO366.out (fun _ hk => ⟨hk.1.1.1.1.1.1.1.2,⟨hk.1.1.1.1.1.1.2,⟨hk.1.1.1.2,⟨hk.1.1.2,⟨hk.1.1.1.1.1.1.1.1,⟨hk.1.2,hk.2⟩⟩⟩⟩⟩⟩)⟩,⟨by (with_reducible repeat (first|apply Kd.R_alloc|apply Kd.R_drewN|apply Kd.R_drew));exact Kd.R_mono HO369.out (fun _ hk => ⟨hk.1.1.1.1.1.1.1.2,⟨hk.1.1.1.1.1.1.2,⟨hk.1.1.1.2,⟨hk.1.1.2,⟨hk.1.2,⟨hk.2,hk.1.1.1.1.1.1.1.1⟩⟩⟩⟩⟩⟩)⟩,⟨by (with_reducible repeat (first|apply Kd.R_alloc|apply Kd.R_drewN|apply Kd.R_drew));exact Kd.R_mono HO372.out (fun _ hk => ⟨hk.1.1.1.1.1.1.1.2,⟨hk.1.1.1.1.1.1.2,⟨hk.1.1.1.2,⟨hk.1.1.2,⟨hk.1.2,⟨hk.2,hk.1.1.1.1.1.1.1.1⟩⟩⟩⟩⟩⟩)⟩,⟨by (with_reducible repeat (first|refine blk_drewN ?_ _|refine blk_drew ?_|refine blk_alloc ?_ _));exact BK340.out⟩,⟨by repeat (first|(with_reducible first|exact HB.out|apply below_alloc|apply pw_below_drewN|apply below_drew1|refine below_set ?_ GE340.out)|exact HB.out)⟩⟩
     ·rw [if_neg c33] at H
      have c33b0 : ((t370.length : Int) == (t364.length : Int)) = false := beq_eq_false_iff_ne.mpr c33
      have c33b1 : ((t370.length : Int) != (t364.length : Int)) = true := bne_iff_ne.mpr c33
      have c33b2 : (t370.length == t364.length) = false := by first|simpa using c33|(simp at c33 ⊢;omega)
      have H' := Aside0.mk H
      clear H
      obtain ⟨Ao40,co40,eo40⟩ := Kd.R_slice HO369.out
      subst eo40
      obtain ⟨Ao41,co41,eo41⟩ := Kd.R_slice HO372.out
      subst eo41
      go_wp2
      go_meet
      case rel => exact ⟨_,(true),(by first|rfl|(simp;done)|(simp [*];done)),H',⟨by first|omega|exact Nat.le_refl _⟩,⟨by (with_reducible repeat (first|apply Kd.R_alloc|apply Kd.R_drewN|apply Kd.R_drew));exact Kd.R_mono HO345.out (fun _ hk => ⟨hk.1.1.1.1.1.1.1.1,⟨hk.1.1.1.1.1.2,⟨hk.1.1.1.1.2,⟨hk.1.1.1.2,⟨hk.1.1.2,⟨hk.1.2,hk.2⟩⟩⟩⟩⟩⟩)⟩,⟨by (with_reducible repeat (first|apply Kd.R_alloc|apply Kd.R_drewN|apply Kd.R_drew));exact Kd.R_mono HO348.out (fun _ hk => ⟨hk.1.1.1.1.1.1.1.1,⟨hk.1.1.1.1.1.2,⟨hk.1.1.1.1.2,⟨hk.1.1.1.2,⟨hk.1.1.2,⟨hk.1.2,hk.2⟩⟩⟩⟩⟩⟩)⟩,⟨by (with_reducible repeat (first|apply Kd.R_alloc|apply Kd.R_drewN|apply Kd.R_drew));exact Kd.R_mono HO357.out (fun _ hk => ⟨hk.1.1.1.1.1.1.1.2,⟨hk.1.1.1.1.1.1.2,⟨hk.1.1.1.1.1.1.1.1,⟨hk.1.1.1.2,⟨hk.1.1.2,⟨hk.1.2,hk.2⟩⟩⟩⟩⟩⟩)⟩,⟨by (with_reducible repeat (first|apply Kd.R_alloc|apply Kd.R_drewN|apply Kd.R_drew));exact Kd.R_mono HO360.out (fun _ hk => ⟨hk.1.1.1.1.1.1.1.2,⟨hk.1.1.1.1.1.1.2,⟨hk.1.1.1.1.1.1.1.1,⟨hk.1.1.1.2,⟨hk.1.1.2,⟨hk.1.2,hk.2⟩⟩⟩⟩⟩⟩)⟩,⟨by (with_reducible repeat (first|apply Kd.R_alloc|apply Kd.R_drewN|apply Kd.R_drew));exact Kd.R_mono HO363.out (fun _ hk => ⟨hk.1.1.1.1.1.1.1.2,⟨hk.1.1.1.1.1.1.2,⟨hk.1.1.1.2,⟨hk.1.1.2,⟨hk.1.1.1.1.1.1.1.1,⟨hk.1.2,hk.2⟩⟩⟩⟩⟩⟩)⟩,⟨by (with_reducible repeat (first|apply Kd.R_alloc|apply Kd.R_drewN|apply Kd.R_drew));exact Kd.R_mono HO366.out (fun _ hk => ⟨hk.1.1.1.1.1.1.1.2,⟨hk.1.1.1.1.1.1.2,⟨hk.1.1.1.2,⟨hk.1.1.2,⟨hk.1.1.1.1.1.1.1.1,⟨hk.1.2,hk.2⟩⟩⟩⟩⟩⟩)⟩,⟨by (with_reducible repeat (first|apply Kd.R_alloc|apply Kd.R_drewN|apply Kd.R_drew));exact Kd.R_mono HO369.out (fun _ hk => ⟨hk.1.1.1.1.1.1.1.2,⟨hk.1.1.1.1.1.1.2,⟨hk.1.1.1.2,⟨hk.1.1.2,⟨hk.1.2,⟨hk.2,hk.1.1.1.1.1.1.1.1⟩⟩⟩⟩⟩⟩)⟩,⟨by (with_reducible repeat (first|apply Kd.R_alloc|apply Kd.R_drewN|apply Kd.R_drew));exact Kd.R_mono HO372.out (fun _ hk => ⟨hk.1.1.1.1.1.1.1.2,⟨hk.1.1.1.1.1.1.2,⟨hk.1.1.1.2,⟨hk.1.1.2,⟨hk.1.2,⟨hk.2,hk.1.1.1.1.1.1.1.1⟩⟩⟩⟩⟩⟩)⟩,⟨by (with_reducible repeat (first|refine blk_drewN ?_ _|refine blk_drew ?_|refine blk_alloc ?_ _));exact BK340.out⟩,⟨by repeat (first|(with_reducible first|exact HB.out|apply below_alloc|apply pw_below_drewN|apply below_drew1|refine below_set ?_ GE340.out)|exact HB.out)⟩⟩
    ·rw [if_neg c32] at H
     have c32b0 : ((t367.length : Int) == (t361.length : Int)) = false := beq_eq_false_iff_ne.mpr c32
     have c32b1 : ((t367.length : Int) != (t361.length : Int)) = true := bne_iff_ne.mpr c32
     have c32b2 : (t367.length == t361.length) = false := by first|simpa using c32|(simp at c32 ⊢;omega)
     (first|rw [c32b0]|(simp only [i64_w,i32_w];rw [c32b0])|skip)
     have H' := Aside0.mk H
     clear H
     obtain ⟨Ao42,co42,eo42⟩ := Kd.R_slice HO369.out
     subst eo42
     go_wp2
     go_meet
     case rel => exact ⟨_,(true),(by first|rfl|(simp;done)|(simp [*];done)),H',⟨by first|omega|exact Nat.le_refl _⟩,⟨by (with_reducible repeat (first|apply Kd.R_alloc|apply Kd.R_drewN|apply Kd.R_drew));exact Kd.R_mono HO345.out (fun _ hk => ⟨hk.1.1.1.1.1.1.1.1,⟨hk.1.1.1.1.1.2,⟨hk.1.1.1.1.2,⟨hk.1.1.1.2,⟨hk.1.1.2,⟨hk.1.2,hk.2⟩⟩⟩⟩⟩⟩)⟩,⟨by (with_reducible repeat (first|apply Kd.R_alloc|apply Kd.R_drewN|apply Kd.R_drew));exact Kd.R_mono HO348.out (fun _ hk => ⟨hk.1.1.1.1.1.1.1.1,⟨hk.1.1.1.1.1.2,⟨hk.1.1.1.1.2,⟨hk.1.1.1.2,⟨hk.1.1.2,⟨hk.1.2,hk.2⟩⟩⟩⟩⟩⟩)⟩,⟨by (with_reducible repeat (first|apply Kd.R_alloc|apply Kd.R_drewN|apply Kd.R_drew));exact Kd.R_mono HO357.out (fun _ hk => ⟨hk.1.1.1.1.1.1.1.2,⟨hk.1.1.1.1.1.1.2,⟨hk.1.1.1.1.1.1.1.1,⟨hk.1.1.1.2,⟨hk.1.1.2,⟨hk.1.2,hk.2⟩⟩⟩⟩⟩⟩)⟩,⟨by (with_reducible repeat (first|apply Kd.R_alloc|apply Kd.R_drewN|apply Kd.R_drew));exact Kd.R_mono HO360.out (fun _ hk => ⟨hk.1.1.1.1.1.1.1.2,⟨hk.1.1.1.1.1.1.2,⟨hk.1.1.1.1.1.1.1.1,⟨hk.1.1.1.2,⟨hk.1.1.2,⟨hk.1.2,hk.2⟩⟩⟩⟩⟩⟩)⟩,⟨by (with_reducible repeat (first|apply Kd.R_alloc|apply Kd.R_drewN|apply Kd.R_drew));exact Kd.R_mono HO363.out (fun _ hk => ⟨hk.1.1.1.1.1.1.1.2,⟨hk.1.1.1.1.1.1.2,⟨hk.1.1.1.2,⟨hk.1.1.2,⟨hk.1.1.1.1.1.1.1.1,⟨hk.1.2,hk.2⟩⟩⟩⟩⟩⟩)⟩,⟨by (with_reducible repeat (first|apply Kd.R_alloc|apply Kd.R_drewN|apply Kd.R_drew));exact Kd.R_mono HO366.out (fun _ hk => ⟨hk.1.1.1.1.1.1.1.2,⟨hk.1.1.1.1.1.1.2,⟨hk.1.1.1.2,⟨hk.1.1.2,⟨hk.1.1.1.1.1.1.1.1,⟨hk.1.2,hk.2⟩⟩⟩⟩⟩⟩)⟩,⟨by (with_reducible repeat (first|apply Kd.R_alloc|apply Kd.R_drewN|apply Kd.R_drew));exact Kd.R_mono HO369.out (fun _ hk => ⟨hk.1.1.1.1.1.1.1.2,⟨hk.1.1.1.1.1.1.2,⟨hk.1.1.1.2,⟨hk.1.1.2,⟨hk.1.2,⟨hk.2,hk.1.1.1.1.1.1.1.1⟩⟩⟩⟩⟩⟩)⟩,⟨by (with_reducible repeat (first|apply Kd.R_alloc|apply Kd.R_drewN|apply Kd.R_drew));exact Kd.R_mono HO372.out (fun _ hk => ⟨hk.1.1.1.1.1.1.1.2,⟨hk.1.1.1.1.1.1.2,⟨hk.1.1.1.2,⟨hk.1.1.2,⟨hk.1.2,⟨hk.2,hk.1.1.1.1.1.1.1.1⟩⟩⟩⟩⟩⟩)⟩,⟨by (with_reducible repeat (first|refine blk_drewN ?_ _|refine blk_drew ?_|refine blk_alloc ?_ _));exact BK340.out⟩,⟨by repeat (first|(with_reducible first|exact HB.out|apply below_alloc|apply pw_below_drewN|apply below_drew1|refine below_set ?_ GE340.out)|exact HB.out)⟩⟩
   case rest =>
    clear HC10
    try clear c1
    try clear c2
    try clear p2
    try clear c3
    try clear c4
    try clear c4b0
    try clear c4b1
    try clear c7
    try clear c12
    try clear c14
    try clear c15
    try clear c24
    try clear c25
    try clear c32
    try clear c32b0
    try clear c32b1
    try clear c32b2
    try clear c33
    try clear c33b0
    try clear c33b1
    try clear c33b2
    try clear hcz12_0
    try clear hcz12_1
    try clear hcz12_2
    try clear hcz12_3
    try clear hcz12_4
    try clear hcz12_5
    try clear hcz12_6
    try clear hcz14_0
    try clear hcz14_1
    try clear hcz14_2
    try clear hcz14_3
    try clear hcz14_4
    try clear hcz14_5
    try clear hcz14_6
    try clear hcz16_0
    try clear hcz16_1
    try clear hcz16_2
    try clear hcz16_3
    try clear hcz16_4
    try clear hcz16_5
    try clear hcz16_6
    try clear hcz18_0
    try clear hcz18_1
    try clear hcz18_2
    try clear hcz18_3
    try clear hcz18_4
    try clear hcz18_5
    try clear hcz18_6
    try clear hcz26_0
    try clear hcz26_1
    try clear hcz26_2
    try clear hcz26_3
    try clear hcz26_4
    try clear hcz26_5
    try clear hcz26_6
    try clear hcz28_0
    try clear hcz28_1
    try clear hcz28_2
    try clear hcz28_3
    try clear hcz28_4
    try clear hcz28_5
    try clear hcz28_6
    try clear hfz12_0
    try clear hfz12_1
    try clear hfz12_2
    try clear hfz12_3
    try clear hfz12_4
    try clear hfz12_5
    try clear hfz12_6
    try clear hfz14_0
    try clear hfz14_1
    try clear hfz14_2
    try clear hfz14_3
    try clear hfz14_4
    try clear hfz14_5
    try clear hfz14_6
    try clear hfz16_0
    try clear hfz16_1
    try clear hfz16_2
    try clear hfz16_3
    try clear hfz16_4
    try clear hfz16_5
    try clear hfz16_6
    try clear hfz18_0
    try clear hfz18_1
    try clear hfz18_2
    try clear hfz18_3
    try clear hfz18_4
    try clear hfz18_5
    try clear hfz18_6
    try clear hfz26_0
    try clear hfz26_1
    try clear hfz26_2
    try clear hfz26_3
    try clear hfz26_4
    try clear hfz26_5
    try clear hfz26_6
    try clear hfz28_0
    try clear hfz28_1
    try clear hfz28_2
    try clear hfz28_3
    try clear hfz28_4
    try clear hfz28_5
    try clear hfz28_6
    obtain ⟨kq,x102_9,rfl,HA,HJ9,HO_6,HO_7,HO_10,HO_11,HO_12,HO_13,HO_14,HO_15,BK340,HB⟩ := hcut
    cases kq with
    | zero => exact absurd HA.out (by simp [privitylaw43_TapeshiftInverse.j0])
    | succ kj9 =>
     have H := HA.out
     clear HA
     simp only [privitylaw43_TapeshiftInverse.j0] at H
     by_cases c43 : x102_9 = true
     ·subst c43
      rw [if_pos rfl] at H
      exact absurd (Option.some.inj H) (by rw [HRT_.out];simp)
     ·replace c43 := Bool.eq_false_iff.mpr c43
      subst c43
      rw [if_neg (show ¬ (false = true) by decide)] at H
      by_cases c44 : a0_0 = 0
      ·rw [if_pos c44] at H
       exact absurd H (by simp)
      ·rw [if_neg c44] at H
       have c44b0 : (a0_0 == 0) = false := beq_eq_false_iff_ne.mpr c44
       have c44b1 : (a0_0 != 0) = true := bne_iff_ne.mpr c44
       replace H := Option.bind_eq_some_iff.mp H
       obtain ⟨⟨t377,t380⟩,A450,H⟩ := H
       try dsimp only at H
       have A45 := Aside0.mk A450
       clear A450
       replace H := Option.bind_eq_some_iff.mp H
       obtain ⟨t383,A460,H⟩ := H
       try dsimp only at H
       have A46 := Aside0.mk A460
       clear A460
       by_cases c47 : t383 = true
       ·subst c47
        rw [if_pos rfl] at H
        replace H := Option.bind_eq_some_iff.mp H
        obtain ⟨t384,A480,H⟩ := H
        try dsimp only at H
        have A48 := Aside0.mk A480
        clear A480
        by_cases c49 : t384 = true
        ·subst c49
         rw [if_pos rfl] at H
         replace H := Option.bind_eq_some_iff.mp H
         obtain ⟨t385,A500,H⟩ := H
         try dsimp only at H
         have A50 := Aside0.mk A500
         clear A500
         by_cases c51 : t385 = true
         ·subst c51
          rw [if_pos rfl] at H
          replace H := Option.bind_eq_some_iff.mp H
          obtain ⟨t386,A520,H⟩ := H
          try dsimp only at H
          have A52 := Aside0.mk A520
          clear A520
          by_cases c53 : t386 = true
          ·subst c53
           rw [if_pos rfl] at H
           replace H := Option.bind_eq_some_iff.mp H
           obtain ⟨t387,A540,H⟩ := H
           try dsimp only at H
           have A54 := Aside0.mk A540
           clear A540
           obtain rfl := Option.some.inj H
           try go_wp2
           have n0_ := Aside0.mk (Kd.R_drew HO_6.out)
           have n1_ := Aside0.mk (Kd.R_drew HO_7.out)
           have n2_ := Aside0.mk (Kd.R_drew HO_10.out)
           have n3_ := Aside0.mk (Kd.R_drew HO_11.out)
           have n4_ := Aside0.mk (Kd.R_drew HO_12.out)
           have n5_ := Aside0.mk (Kd.R_drew HO_13.out)
           have n6_ := Aside0.mk (Kd.R_drew HO_14.out)
           have n7_ := Aside0.mk (Kd.R_drew HO_15.out)
           have n8_ := Aside0.mk (blk_drew BK340.out)
           have n9_ := Aside0.mk (below_drew1 HB.out)
           clear HO_6
           clear HO_7
           clear HO_10
           clear HO_11
           clear HO_12
           clear HO_13
           clear HO_14
           clear HO_15
           clear BK340
           clear HB
           have HO_6 := n0_
           have HO_7 := n1_
           have HO_10 := n2_
           have HO_11 := n3_
           have HO_12 := n4_
           have HO_13 := n5_
           have HO_14 := n6_
           have HO_15 := n7_
           have BK340 := n8_
           have HB := n9_
           clear n0_ n1_ n2_ n3_ n4_ n5_ n6_ n7_ n8_ n9_
           obtain ⟨Ao56,co56,eo56⟩ := Kd.R_slice HO_14.out
           (first|subst eo56|(injection eo56 with f1_ f2_ f3_;have f4_ := f1_.symm;have f5_ := f3_.symm;clear f1_ f2_ f3_;subst f4_;subst f5_))
           obtain ⟨Ao57,co57,eo57⟩ := Kd.R_slice HO_15.out
           (first|subst eo57|(injection eo57 with f1_ f2_ f3_;have f4_ := f1_.symm;have f5_ := f3_.symm;clear f1_ f2_ f3_;subst f4_;subst f5_))
           refine start_ (n := 22) (S := fun w' => w'.cell? ⟨gb340,0,none⟩ = some (.int .u64 a0_0) ∧ w'.cell? ⟨gb340,1,none⟩ = some (.int .i64 a0_1) ∧ w'.cell? ⟨gb340,2,none⟩ = some (.int .i64 a0_2) ∧ w'.cell? ⟨gb340,3,none⟩ = some (.slice A0_3 l0_3.length c0_3) ∧ w'.cell? ⟨gb340,4,none⟩ = some (.int .u64 a0_4) ∧ w'.cell? ⟨gb340,5,none⟩ = some (.int .u64 a0_5) ∧ w'.cell? ⟨gb340,6,none⟩ = some (.slice A0_6 l0_6.length c0_6)) (ds := []) (bz 22 0) (by kernel_rfl) rfl rfl ⟨(blk_cell BK340.out 0).trans rfl,(blk_cell BK340.out 1).trans rfl,(blk_cell BK340.out 2).trans rfl,(blk_cell BK340.out 3).trans rfl,(blk_cell BK340.out 4).trans rfl,(blk_cell BK340.out 5).trans rfl,(blk_cell BK340.out 6).trans rfl⟩ (fun hHeld => ?_);refine with_tabW privitylaw43_TapeshiftInverse.tab12 privitylaw43_TapeshiftInverse.bits12 (fun HT_ HW_ => ?_)
           generalize wc.drew = w55 at HO_6 HO_7 HO_10 HO_11 HO_12 HO_13 HO_14 HO_15 BK340 HB hHeld ⊢
           refine pk 0 104 (bz 22 1) HT_ ?_
           refine pk 2 106 (bz 22 5) HT_ ?_
           refine pk 4 108 (bz 22 21) HT_ ?_
           refine pk 5 109 (bz 22 53) HT_ ?_
           refine pk 6 110 (bz 22 117) HT_ ?_
           refine pk 7 111 (bz 22 245) HT_ ?_
           refine pk 8 112 (bz 22 501) HT_ ?_
           refine pk 9 113 (bz 22 1013) HT_ ?_
           refine pk 10 114 (bz 22 2037) HT_ ?_
           refine pk 11 115 (bz 22 4085) HT_ ?_
           refine pk 12 116 (bz 22 8181) HT_ ?_
           refine pk 13 117 (bz 22 16373) HT_ ?_
           refine pk 14 118 (bz 22 32757) HT_ ?_
           refine pk 15 119 (bz 22 65525) HT_ ?_
           refine tk 1 105 (bz 22 65527) HT_ HW_ hHeld ?_
           refine tk 3 107 (bz 22 65535) HT_ HW_ hHeld ?_
           refine one_ (i := 16) (N := some 120) (bz 22 131071) rfl rfl (one_of HT_.out (by kernel_rfl)) (by decide) (fun K hK => ?_)
           refine goes_ Try.func25 (by kernel_rfl) rfl #[.agg #[.int .u64 a0_0,.int .i64 a0_1,.int .i64 a0_2],.slice A0_3 l0_3.length c0_3,.int .u64 (Int.tmod (IntKind.u64.wrap (a0_0 - (Int.tmod a0_4 a0_0))) a0_0),.int .u64 (Int.tmod (IntKind.u64.wrap (a0_0 - (Int.tmod a0_5 a0_0))) a0_0),.slice Ao56 t367.length co56,.slice Ao57 t370.length co57] (by rfl) rfl rfl (by (try simp only [List.map_toArray,List.map_cons,List.map_nil]);first|done|rfl|(simp only [List.length_drop,List.length_take];rfl)) ?_
           with_reducible refine (tapeshift_Triple.calls a0_0 a0_1 a0_2 _ _ l0_3 (Int.tmod (IntKind.u64.wrap (a0_0 - (Int.tmod a0_4 a0_0))) a0_0) (Int.tmod (IntKind.u64.wrap (a0_0 - (Int.tmod a0_5 a0_0))) a0_0) _ _ t367 _ _ t370 t377 t380 _ ?side1 ?side2 ?side3 ?side4 ?side5 ?side6 A45.out).mono ?_
           (case side1 => exact cb HR0_3 HB)
           (case side2 => exact HC0_3.out)
           (case side3 => exact cr HO_14)
           (case side4 => exact (Kd.R_reads' HO_14.out).2.1)
           (case side5 => exact cr HO_15)
           (case side6 => exact (Kd.R_reads' HO_15.out).2.1)
           rintro e w58 ⟨v378,v381,rfl,ho0,ho1,hb⟩
           refine ⟨_,rfl,?_⟩
           have n0_ := Aside0.mk (Kd.R_mono (Kd.R_told (Kd.R_told (Kd.R_old (rr HO_6) hb) (Kd.R_base ho0)) (Kd.R_base ho1)) (fun _ h_ => h_.1))
           have n1_ := Aside0.mk (Kd.R_mono (Kd.R_told (Kd.R_told (Kd.R_old (rr HO_7) hb) (Kd.R_base ho0)) (Kd.R_base ho1)) (fun _ h_ => h_.1))
           have n2_ := Aside0.mk (Kd.R_mono (Kd.R_told (Kd.R_told (Kd.R_old (rr HO_10) hb) (Kd.R_base ho0)) (Kd.R_base ho1)) (fun _ h_ => h_.1))
           have n3_ := Aside0.mk (Kd.R_mono (Kd.R_told (Kd.R_told (Kd.R_old (rr HO_11) hb) (Kd.R_base ho0)) (Kd.R_base ho1)) (fun _ h_ => h_.1))
           have n4_ := Aside0.mk (Kd.R_mono (Kd.R_told (Kd.R_told (Kd.R_old (rr HO_12) hb) (Kd.R_base ho0)) (Kd.R_base ho1)) (fun _ h_ => h_.1))
           have n5_ := Aside0.mk (Kd.R_mono (Kd.R_told (Kd.R_told (Kd.R_old (rr HO_13) hb) (Kd.R_base ho0)) (Kd.R_base ho1)) (fun _ h_ => h_.1))
           have n6_ := Aside0.mk (Kd.R_mono (Kd.R_told (Kd.R_told (Kd.R_old (rr HO_14) hb) (Kd.R_base ho0)) (Kd.R_base ho1)) (fun _ h_ => h_.1))
           have n7_ := Aside0.mk (Kd.R_mono (Kd.R_told (Kd.R_told (Kd.R_old (rr HO_15) hb) (Kd.R_base ho0)) (Kd.R_base ho1)) (fun _ h_ => h_.1))
           have n8_ := Aside0.mk (Kd.R_lower (Kd.R_new' (Kd.R_new' (Kd.R_new' (Kd.R_new' (Kd.R_new' (Kd.R_new' (Kd.R_new' (Kd.R_new' ho0 (Kd.R_lt (rr HO_6))) (Kd.R_lt (rr HO_7))) (Kd.R_lt (rr HO_10))) (Kd.R_lt (rr HO_11))) (Kd.R_lt (rr HO_12))) (Kd.R_lt (rr HO_13))) (Kd.R_lt (rr HO_14))) (Kd.R_lt (rr HO_15))) (below_size (bg HB GE340)))
           have n9_ := Aside0.mk (Kd.R_lower (Kd.R_new' (Kd.R_new' (Kd.R_new' (Kd.R_new' (Kd.R_new' (Kd.R_new' (Kd.R_new' (Kd.R_new' ho1 (Kd.R_lt (rr HO_6))) (Kd.R_lt (rr HO_7))) (Kd.R_lt (rr HO_10))) (Kd.R_lt (rr HO_11))) (Kd.R_lt (rr HO_12))) (Kd.R_lt (rr HO_13))) (Kd.R_lt (rr HO_14))) (Kd.R_lt (rr HO_15))) (below_size (bg HB GE340)))
           have n10_ := Aside0.mk (kb BK340 hb)
           have n11_ := Aside0.mk (below_step (bg HB GE340) hb)
           clear HO_6
           clear HO_7
           clear HO_10
           clear HO_11
           clear HO_12
           clear HO_13
           clear HO_14
           clear HO_15
           clear BK340
           clear HB
           have HO_6 := n0_
           have HO_7 := n1_
           have HO_10 := n2_
           have HO_11 := n3_
           have HO_12 := n4_
           have HO_13 := n5_
           have HO_14 := n6_
           have HO_15 := n7_
           have HO379 := n8_
           have HO382 := n9_
           have BK340 := n10_
           have HB := n11_
           clear n0_ n1_ n2_ n3_ n4_ n5_ n6_ n7_ n8_ n9_ n10_ n11_
           (try clear hb)
           (try clear hb2)
           (try clear hk)
           (try clear hi)
           (try clear ho0)
           (try clear ho1)
           refine hK.out _ _ ⟨(blk_cell BK340.out 0).trans rfl,(blk_cell BK340.out 1).trans rfl,(blk_cell BK340.out 2).trans rfl,(blk_cell BK340.out 3).trans rfl,(blk_cell BK340.out 4).trans rfl,(blk_cell BK340.out 5).trans rfl,(blk_cell BK340.out 6).trans rfl⟩ (fun hHeld => ?_)
           clear hK K
           refine nm 120 ?_
           refine pk 17 103 (bz 22 262143) HT_ ?_
           refine pk 18 121 (bz 22 524287) HT_ ?_
           refine pk 19 122 (bz 22 1048575) HT_ ?_
           refine pk 20 16 (bz 22 2097151) HT_ ?_
           refine pk 21 17 (bz 22 4194303) HT_ ?_
           refine done_ (done_of HT_.out (by kernel_rfl)) ?_
           try go_wp2_with (first|((with_reducible refine gate_callee (f := 13) rfl ?_);refine goesL_ (some 123) rfl rfl Try.func13 (by kernel_rfl) rfl #[] rfl (by (try simp only [List.map_toArray,List.map_cons,List.map_nil]);first|done|rfl|(simp only [List.length_drop,List.length_take];rfl)) ?_;(with_reducible refine (privitylaw43_awake.calls kj9  true _ A46.out).mono ?_);rintro e w59 ⟨rfl,hb⟩;refine ⟨_,rfl,?_⟩;have n0_ := Aside0.mk (Kd.R_below (rr HO_6) hb);have n1_ := Aside0.mk (Kd.R_below (rr HO_7) hb);have n2_ := Aside0.mk (Kd.R_below (rr HO_10) hb);have n3_ := Aside0.mk (Kd.R_below (rr HO_11) hb);have n4_ := Aside0.mk (Kd.R_below (rr HO_12) hb);have n5_ := Aside0.mk (Kd.R_below (rr HO_13) hb);have n6_ := Aside0.mk (Kd.R_below (rr HO_14) hb);have n7_ := Aside0.mk (Kd.R_below (rr HO_15) hb);have n8_ := Aside0.mk (Kd.R_below (rr HO379) hb);have n9_ := Aside0.mk (Kd.R_below (rr HO382) hb);have n10_ := Aside0.mk (kb BK340 hb);have n11_ := Aside0.mk (below_step (bg HB GE340) hb);clear HO_6 HO_7 HO_10 HO_11 HO_12 HO_13 HO_14 HO_15 HO379 HO382 BK340 HB;have HO_6 := n0_;have HO_7 := n1_;have HO_10 := n2_;have HO_11 := n3_;have HO_12 := n4_;have HO_13 := n5_;have HO_14 := n6_;have HO_15 := n7_;have HO379 := n8_;have HO382 := n9_;have BK340 := n10_;have HB := n11_;clear n0_ n1_ n2_ n3_ n4_ n5_ n6_ n7_ n8_ n9_ n10_ n11_;(try clear hb);(try clear hb2);(try clear hk);(try clear hi);obtain ⟨Ao60,co60,eo60⟩ := Kd.R_slice HO_10.out;subst eo60)|(go_at_call 18;(with_reducible refine (privityref14_Words.calls kj9 _ _ t343 _ _ t355 true _ ?side1 ?side2 ?side3 ?side4 A48.out).mono ?_);(case side1 => exact cr HO_6);(case side2 => exact (Kd.R_reads' HO_6.out).2.1);(case side3 => exact cr HO_10);(case side4 => exact (Kd.R_reads' HO_10.out).2.1);rintro e w' ⟨rfl,⟨nd,rfl⟩⟩;obtain ⟨Ao61,co61,eo61⟩ := Kd.R_slice HO_11.out;subst eo61)|(go_at_call 18;(with_reducible refine (privityref14_Words.calls kj9 _ _ t346 _ _ t358 true _ ?side1 ?side2 ?side3 ?side4 A50.out).mono ?_);(case side1 => exact cr HO_7);(case side2 => exact (Kd.R_reads' HO_7.out).2.1);(case side3 => exact cr HO_11);(case side4 => exact (Kd.R_reads' HO_11.out).2.1);rintro e w' ⟨rfl,⟨nd,rfl⟩⟩;obtain ⟨Ao62,co62,eo62⟩ := Kd.R_slice HO379.out;subst eo62)|(go_at_call 18;(with_reducible refine (privityref14_Words.calls kj9 _ _ t361 _ _ t377 true _ ?side1 ?side2 ?side3 ?side4 A52.out).mono ?_);(case side1 => exact cr HO_12);(case side2 => exact (Kd.R_reads' HO_12.out).2.1);(case side3 => exact cr HO379);(case side4 => exact (Kd.R_reads' HO379.out).2.1);rintro e w' ⟨rfl,⟨nd,rfl⟩⟩;obtain ⟨Ao63,co63,eo63⟩ := Kd.R_slice HO382.out;subst eo63)|(go_at_call 18;(with_reducible refine (privityref14_Words.calls kj9 _ _ t364 _ _ t380 t387 _ ?side1 ?side2 ?side3 ?side4 A54.out).mono ?_);(case side1 => exact cr HO_13);(case side2 => exact (Kd.R_reads' HO_13.out).2.1);(case side3 => exact cr HO382);(case side4 => exact (Kd.R_reads' HO382.out).2.1);rintro e w' ⟨rfl,⟨nd,rfl⟩⟩))
           go_ret
           exact ⟨by first|rfl|(simp [errW_none,errW_some] <;> rfl)|(simp [*,errW_none,errW_some] <;> rfl),by repeat (first|(with_reducible first|exact HB.out|apply below_alloc|apply pw_below_drewN|apply below_drew1|refine below_set ?_ GE340.out)|exact HB.out)⟩
          ·replace c53 := Bool.eq_false_iff.mpr c53
           subst c53
           rw [if_neg (show ¬ (false = true) by decide)] at H
           exact absurd (Option.some.inj H) (by rw [HRT_.out];simp)
         ·replace c51 := Bool.eq_false_iff.mpr c51
          subst c51
          rw [if_neg (show ¬ (false = true) by decide)] at H
          exact absurd (Option.some.inj H) (by rw [HRT_.out];simp)
        ·replace c49 := Bool.eq_false_iff.mpr c49
         subst c49
         rw [if_neg (show ¬ (false = true) by decide)] at H
         exact absurd (Option.some.inj H) (by rw [HRT_.out];simp)
       ·replace c47 := Bool.eq_false_iff.mpr c47
        subst c47
        rw [if_neg (show ¬ (false = true) by decide)] at H
        exact absurd (Option.some.inj H) (by rw [HRT_.out];simp)
 ·replace c3 := Bool.eq_false_iff.mpr c3
  subst c3
  rw [if_neg (show ¬ (false = true) by decide)] at H
  replace H := Option.bind_eq_some_iff.mp H
  obtain ⟨t342,A900,H⟩ := H
  try dsimp only at H
  have A90 := Aside0.mk A900
  clear A900
  obtain rfl := Option.some.inj H
  go_enter Try.func7,Try.ntmps7
  go_wp2_with (first|((with_reducible refine gate_dst (N := 1) rfl ?_);(try (refine gate_guard (by rfl) ?_;dsimp only));refine box_event ?hg (N := 1) ?hd (cs := #[.int .u64 a0_0,.int .i64 a0_1,.int .i64 a0_2,.slice A0_3 l0_3.length c0_3,.int .u64 a0_4,.int .u64 a0_5,.slice A0_6 l0_6.length c0_6]) (t := 28) ?hr ?_;(case hd => rfl);(case hg => rfl);(case hr => first|(go_simp;done)|(go_simp;rfl));intro gb340 hg w91 hbox hb;have n0_ := Aside0.mk (below_step (bb HB) hb);have n1_ := Aside0.mk (hbox);have n2_ := Aside0.mk ((by rw [hg];exact (below_size (bb HB)) : w.heap.size ≤ gb340));have n3_ := Aside0.mk ((by rw [hg];exact (below_size (bb HB)) : w.heap.size ≤ gb340));clear HB;have HB := n0_;have BK340 := n1_;have GW340 := n2_;have GE340 := n3_;clear n0_ n1_ n2_ n3_;clear hb hbox hg;have hcz92_0 := bc BK340 0;have hcz92_1 := bc BK340 1;have hcz92_2 := bc BK340 2;have hcz92_3 := bc BK340 3;have hcz92_4 := bc BK340 4;have hcz92_5 := bc BK340 5;have hcz92_6 := bc BK340 6;have hfz92_0 := blk_frozen BK340.out 0;have hfz92_1 := blk_frozen BK340.out 1;have hfz92_2 := blk_frozen BK340.out 2;have hfz92_3 := blk_frozen BK340.out 3;have hfz92_4 := blk_frozen BK340.out 4;have hfz92_5 := blk_frozen BK340.out 5;have hfz92_6 := blk_frozen BK340.out 6)|((with_reducible refine gate_callee (f := 12) rfl ?_);refine goesL_ (some 19) rfl rfl Try.func12 (by kernel_rfl) rfl #[.agg #[.int .u64 a0_0,.int .i64 a0_1,.int .i64 a0_2,.slice A0_3 l0_3.length c0_3,.int .u64 a0_4,.int .u64 a0_5,.slice A0_6 l0_6.length c0_6]] rfl (by (try simp only [List.map_toArray,List.map_cons,List.map_nil]);first|done|rfl|(simp only [List.length_drop,List.length_take];rfl)) ?_;(with_reducible refine (privitylaw43_may.calls k a0_0 a0_1 a0_2 _ _ l0_3 a0_4 a0_5 _ _ l0_6 false _ ?side1 ?side2 ?side3 ?side4 A2.out).mono ?_);(case side1 => exact cb HR0_3 HB);(case side2 => exact HC0_3.out);(case side3 => exact cb HR0_6 HB);(case side4 => exact HC0_6.out);rintro e w93 ⟨rfl,hb⟩;refine ⟨_,rfl,?_⟩;have n0_ := Aside0.mk (kb BK340 hb);have n1_ := Aside0.mk (below_step (bg HB GE340) hb);clear BK340 HB;have BK340 := n0_;have HB := n1_;clear n0_ n1_;(try clear hb);(try clear hb2);(try clear hk);(try clear hi))|((with_reducible refine gate_callee (f := 13) rfl ?_);refine goesL_ (some 21) rfl rfl Try.func13 (by kernel_rfl) rfl #[] rfl (by (try simp only [List.map_toArray,List.map_cons,List.map_nil]);first|done|rfl|(simp only [List.length_drop,List.length_take];rfl)) ?_;(with_reducible refine (privitylaw43_awake.calls k  t342 _ A90.out).mono ?_);rintro e w94 ⟨rfl,hb⟩;refine ⟨_,rfl,?_⟩;have n0_ := Aside0.mk (kb BK340 hb);have n1_ := Aside0.mk (below_step (bg HB GE340) hb);clear BK340 HB;have BK340 := n0_;have HB := n1_;clear n0_ n1_;(try clear hb);(try clear hb2);(try clear hk);(try clear hi)))
  go_ret
  exact ⟨by first|rfl|(simp [errW_none,errW_some] <;> rfl)|(simp [*,errW_none,errW_some] <;> rfl),by repeat (first|(with_reducible first|exact HB.out|apply below_alloc|apply pw_below_drewN|apply below_drew1|refine below_set ?_ GE340.out)|exact HB.out)⟩
end Go.Proofs.Ytejeelpnmdfibaa.Pr
end
section
namespace Go.Proofs.Ytejeelpnmdfibaa.E
open Go.RowKit Go.Proofs.Ytejeelpnmdfibaa.Pr Go.Proofs.Ytejeelpnmdfibaa.Hw Go.Proofs.Ytejeelpnmdfibaa.Pl Go.Proofs.YtejeelpnmdfibaaW.PrintWords Go.Proofs.YtejeelpnmdfibaaW.PrintLast Go.Proofs.YtejeelpnmdfibaaW.PrintMore
set_option linter.unusedVariables false
set_option linter.unusedSimpArgs false
def hL (p T : Int) (w : List Int) : List Int := cutL p w 0 (2 * (T.toNat + 1) + T.toNat * T.toNat)
def lL (p T : Int) (w : List Int) : List Int := cutL p w (2 * (T.toNat + 1) + T.toNat * T.toNat) ((T.toNat + 3) * (T.toNat * (T.toNat + 1) / 2))
theorem triple_ev {p : Int} (hp : Supp p) (N : Int) {T : Int} (hT : T = 1 ∨ T = 2) (bad : List Int) (da db : Int) {w : List Int} (hw : ∀ x ∈ w,0 ≤ x) : Ev (fun k => privitylaw43_triple.f k p N T bad da db w) (hL p T w,lL p T w) := by
 unfold privitylaw43_triple.f
 rcases hT with rfl|rfl
 ·have h1 := cut_ev hp N 1 bad da db hw 0 5 (by omega) (by omega)
  have h2 := cut_ev hp N 1 bad da db hw 5 4 (by omega) (by omega)
  have a1 : wrap64 (wrap64 (2 * wrap64 ((1 : Int) + 1)) + wrap64 (1 * 1)) = 5 := by kernel_rfl
  have a2 : wrap64 (Int.tdiv (wrap64 (wrap64 (wrap64 ((1 : Int) + 3) * 1) * wrap64 (1 + 1))) 2) = 4 := by kernel_rfl
  rw [a1,a2]
  exact Ev.bind h1 (Ev.bind h2 (Ev.now _))
 ·have h1 := cut_ev hp N 2 bad da db hw 0 10 (by omega) (by omega)
  have h2 := cut_ev hp N 2 bad da db hw 10 15 (by omega) (by omega)
  have a1 : wrap64 (wrap64 (2 * wrap64 ((2 : Int) + 1)) + wrap64 (2 * 2)) = 10 := by kernel_rfl
  have a2 : wrap64 (Int.tdiv (wrap64 (wrap64 (wrap64 ((2 : Int) + 3) * 2) * wrap64 (2 + 1))) 2) = 15 := by kernel_rfl
  rw [a1,a2]
  exact Ev.bind h1 (Ev.bind h2 (Ev.now _))
theorem hL_length (p T : Int) (w : List Int) : (hL p T w).length = 2 * (T.toNat + 1) + T.toNat * T.toNat := cutL_length _ _ _ _
theorem lL_length (p T : Int) (w : List Int) : (lL p T w).length = (T.toNat + 3) * (T.toNat * (T.toNat + 1) / 2) := cutL_length _ _ _ _
theorem tri_eq {p N T : Int} {bad : List Int} (h : mayB p N T bad = true) {da db : Int} (rda : Res p da) (rdb : Res p db) {head rests : List Int} (rh : ∀ x ∈ head,Res p x) (rr : ∀ x ∈ rests,Res p x) (lh : head.length = 2 * (T.toNat + 1) + T.toNat * T.toNat) (lr : rests.length = (T.toNat + 3) * (T.toNat * (T.toNat + 1) / 2)) :
  tapeshift_Triple.f p N T bad da db head rests = some (triH p N T bad da db head,triR p N T bad da db head rests) := by
 unfold tapeshift_Triple.f
 rw [if_pos h,if_pos (resB_iff.2 rda),if_pos (resB_iff.2 rdb),if_pos (ressB_iff.2 rh),if_pos (ressB_iff.2 rr),if_pos lh,if_pos lr]
theorem cat_take (l : List Int) (s t : Nat) (f : Nat → List Int) : ∀ n,(∀ m,m < n → f (m + 1) = (l.drop (s + m * t)).take t) → l.take s ++ catF f n = l.take (s + n * t)
 | 0,_ => by rw [catF,List.append_nil,Nat.zero_mul,Nat.add_zero]
 | n + 1,h => by
  rw [catF,← List.append_assoc,cat_take l s t f n (fun m hm => h m (by omega)),h n (Nat.lt_succ_self n),Nat.succ_mul,← Nat.add_assoc,List.take_add (i := s + n * t)]
theorem triH_len (p N : Int) {T : Int} (bad : List Int) (da db : Int) (hT : T = 1 ∨ T = 2) {head : List Int} (lh : head.length = 2 * (T.toNat + 1) + T.toNat * T.toNat) : (triH p N T bad da db head).length = head.length := by
 have hD : ∀ m,(triD p N T bad da db head m).length = ((head.drop (2 * (T.toNat + 1) + (m - 1) * T.toNat)).take T.toNat).length := fun m => byL_length _ _ _ _
 unfold triH
 rw [List.length_append,List.length_append,byL_length,byL_length]
 rcases hT with rfl|rfl
 ·have h1 := hD 1
  have h5 : head.length = 5 := lh
  rw [List.length_take,List.length_drop,h5] at h1
  rw [show Int.toNat 1 = 1 from rfl] at h1 ⊢
  simp only [catF,List.length_append,List.length_nil,h1,List.length_take,List.length_drop,h5]
  decide
 ·have h1 := hD 1
  have h2 := hD 2
  have h5 : head.length = 10 := lh
  rw [List.length_take,List.length_drop,h5] at h1 h2
  rw [show Int.toNat 2 = 2 from rfl] at h1 h2 ⊢
  simp only [catF,List.length_append,List.length_nil,h1,h2,List.length_take,List.length_drop,h5]
  decide
theorem triR_len (p N : Int) {T : Int} (bad : List Int) (da db : Int) (hT : T = 1 ∨ T = 2) (head : List Int) {rests : List Int} (lr : rests.length = (T.toNat + 3) * (T.toNat * (T.toNat + 1) / 2)) : (triR p N T bad da db head rests).length = rests.length := by
 have hE : ∀ m,(triE p N T bad da db head rests m).length = ((rests.drop ((if m = 0 then T.toNat + 2 else m + 1) * (T.toNat * (T.toNat + 1) / 2))).take (T.toNat * (T.toNat + 1) / 2)).length := fun m => byL_length _ _ _ _
 unfold triR
 rw [List.length_append,List.length_append,List.length_append,byL_length,byL_length]
 rcases hT with rfl|rfl
 ·have h0 := hE 0
  have h1 := hE 1
  have h5 : rests.length = 4 := lr
  rw [List.length_take,List.length_drop,h5] at h0 h1
  rw [show Int.toNat 1 = 1 from rfl] at h0 h1 ⊢
  simp only [catF,List.length_append,List.length_nil,h0,h1,List.length_take,List.length_drop,h5]
  decide
 ·have h0 := hE 0
  have h1 := hE 1
  have h2 := hE 2
  have h5 : rests.length = 15 := lr
  rw [List.length_take,List.length_drop,h5] at h0 h1 h2
  rw [show Int.toNat 2 = 2 from rfl] at h0 h1 h2 ⊢
  simp only [catF,List.length_append,List.length_nil,h0,h1,h2,List.length_take,List.length_drop,h5]
  decide
theorem zero_res {p : Int} (hp : Supp p) : Res p 0 := by have := hp.bd;exact ⟨Int.le_refl 0,by omega⟩
theorem T_cancel {p : Int} (hp : Supp p) [NeZero p.toNat] {d d' : Int} (h : (d + d') % p = 0) : T p d + T p d' = 0 := by
 rw [← T_add,← T_mod hp,h,T_zero]
theorem inv_T {p : Int} (hp : Supp p) [NeZero p.toNat] {d d' : Int} (h : T p d + T p d' = 0) : (d + d') % p = 0 := by
 refine T_inj hp (Res.mod hp _) (zero_res hp) ?_
 rw [T_mod hp,T_add,h,T_zero]
theorem by_back {p : Int} (hp : Supp p) (z : List Int) {d d' : Int} {q : List Int} (h : (d + d') % p = 0) (hq : ∀ x ∈ q,Res p x) : byL p z d' (byL p z d q) = q := by
 haveI := nz hp
 have hT := T_cancel hp h
 unfold byL
 rw [tabL_length]
 refine (tabL_congr fun j hj => ?_).trans (tabL_of q)
 have rj := res_getD hp hq j
 rw [tabL_getD,if_pos hj]
 refine T_inj hp (Res.mod hp _) rj ?_
 simp only [T_mod hp,T_add,T_mul]
 grind
theorem wq_back {p : Int} (hp : Supp p) {z A B : List Int} (la : A.length = z.length) (lb : B.length = z.length) {da db da' db' : Int} (ha : (da + da') % p = 0) (hb : (db + db') % p = 0) (j : Nat) :
  ((wqL p z da db A B).getD j 0 + (wqL p z da' db' (byL p z da A) (byL p z db B)).getD j 0) % p = 0 := by
 haveI := nz hp
 have hTa := T_cancel hp ha
 have hTb := T_cancel hp hb
 refine inv_T hp ?_
 unfold wqL byL
 by_cases hj : j < z.length
 ·rw [tabL_getD,tabL_getD,if_pos hj,if_pos hj,tabL_getD,tabL_getD,if_pos (by omega),if_pos (by omega)]
  simp only [T_mod hp,T_add,T_mul]
  grind
 ·rw [tabL_getD,tabL_getD,if_neg hj,if_neg hj,T_zero]
  grind
theorem len_catF {f : Nat → List Int} {t : Nat} : ∀ n,(∀ m,m < n → (f (m + 1)).length = t) → (catF f n).length = n * t
 | 0,_ => by simp [catF]
 | n + 1,h => by
  rw [catF,List.length_append,len_catF n (fun m hm => h m (by omega)),h n (by omega),Nat.succ_mul]
theorem catF_piece {f : Nat → List Int} {t : Nat} : ∀ n,(∀ m,m < n → (f (m + 1)).length = t) → ∀ m,m < n → ((catF f n).drop (m * t)).take t = f (m + 1)
 | n + 1,h,m,hm => by
  have hl := len_catF n (fun m hm => h m (by omega))
  rw [catF]
  by_cases e : m = n
  ·subst e
   rw [List.drop_left' hl,List.take_of_length_le (Nat.le_of_eq (h m hm))]
  ·have hle : m * t + t ≤ n * t := by
    have := Nat.mul_le_mul_right t (show m + 1 ≤ n by omega)
    rwa [Nat.succ_mul] at this
   rw [List.drop_append_of_le_length (by omega),List.take_append_of_le_length (by rw [List.length_drop];omega)]
   exact catF_piece n (fun m hm => h m (by omega)) m (by omega)
structure Parts (p N T : Int) (bad : List Int) (da db : Int) (head rests : List Int) : Prop where
 a : (triH p N T bad da db head).take (T.toNat + 1) = byL p (vanZ p N T bad) da (head.take (T.toNat + 1))
 b : ((triH p N T bad da db head).drop (T.toNat + 1)).take (T.toNat + 1) = byL p (vanZ p N T bad) db ((head.drop (T.toNat + 1)).take (T.toNat + 1))
 d : ∀ m,m < T.toNat → ((triH p N T bad da db head).drop (2 * (T.toNat + 1) + m * T.toNat)).take T.toNat = triD p N T bad da db head (m + 1)
 ra : (triR p N T bad da db head rests).take (T.toNat * (T.toNat + 1) / 2) = byL p (wL p T (vanZ p N T bad)) da (rests.take (T.toNat * (T.toNat + 1) / 2))
 rb : ((triR p N T bad da db head rests).drop (T.toNat * (T.toNat + 1) / 2)).take (T.toNat * (T.toNat + 1) / 2) = byL p (wL p T (vanZ p N T bad)) db ((rests.drop (T.toNat * (T.toNat + 1) / 2)).take (T.toNat * (T.toNat + 1) / 2))
 rd : ∀ m,m < T.toNat → ((triR p N T bad da db head rests).drop ((m + 2) * (T.toNat * (T.toNat + 1) / 2))).take (T.toNat * (T.toNat + 1) / 2) = triE p N T bad da db head rests (m + 1)
 rc : ((triR p N T bad da db head rests).drop ((T.toNat + 2) * (T.toNat * (T.toNat + 1) / 2))).take (T.toNat * (T.toNat + 1) / 2) = triE p N T bad da db head rests 0
theorem parts (p N T : Int) (bad : List Int) (da db : Int) {head rests : List Int} (lh : head.length = 2 * (T.toNat + 1) + T.toNat * T.toNat) (lr : rests.length = (T.toNat + 3) * (T.toNat * (T.toNat + 1) / 2)) : Parts p N T bad da db head rests := by
 obtain ⟨t,ht⟩ : ∃ t,t = T.toNat := ⟨_,rfl⟩
 obtain ⟨O,hO⟩ : ∃ O,O = T.toNat * (T.toNat + 1) / 2 := ⟨_,rfl⟩
 rw [← hO] at lr
 rw [← ht] at lh lr
 have la : (byL p (vanZ p N T bad) da (head.take (t + 1))).length = t + 1 := by rw [byL_length,List.length_take];omega
 have lb : (byL p (vanZ p N T bad) db ((head.drop (t + 1)).take (t + 1))).length = t + 1 := by rw [byL_length,List.length_take,List.length_drop];omega
 have ld : ∀ m,m < t → (triD p N T bad da db head (m + 1)).length = t := fun m hm => by
  unfold triD
  rw [byL_length,List.length_take,List.length_drop,← ht,Nat.add_sub_cancel]
  have := Nat.mul_le_mul_right t (show m + 1 ≤ t by omega)
  rw [Nat.succ_mul] at this
  omega
 have m3 : (t + 3) * O = (t + 2) * O + O := Nat.succ_mul (t + 2) O
 have m2 : (t + 2) * O = t * O + O + O := by rw [show t + 2 = t + 1 + 1 from rfl,Nat.succ_mul,Nat.succ_mul]
 have lra : (byL p (wL p T (vanZ p N T bad)) da (rests.take O)).length = O := by rw [byL_length,List.length_take];omega
 have lrb : (byL p (wL p T (vanZ p N T bad)) db ((rests.drop O).take O)).length = O := by rw [byL_length,List.length_take,List.length_drop];omega
 have le : ∀ m,m < t → (triE p N T bad da db head rests (m + 1)).length = O := fun m hm => by
  unfold triE
  rw [byL_length,List.length_take,List.length_drop,if_neg (by omega),← hO]
  have h2 : (m + 1 + 1 + 1) * O ≤ (t + 3) * O := Nat.mul_le_mul_right O (by omega)
  rw [Nat.succ_mul (m + 1 + 1) O] at h2
  omega
 have le0 : (triE p N T bad da db head rests 0).length = O := by
  unfold triE
  rw [byL_length,List.length_take,List.length_drop,if_pos rfl,← hO,← ht]
  omega
 have lcd := len_catF (t := t) t ld
 have lce := len_catF (t := O) t le
 have eH : triH p N T bad da db head = byL p (vanZ p N T bad) da (head.take (t + 1)) ++ (byL p (vanZ p N T bad) db ((head.drop (t + 1)).take (t + 1)) ++ catF (triD p N T bad da db head) t) := by
  unfold triH
  rw [← ht,List.append_assoc]
 have eR : triR p N T bad da db head rests = byL p (wL p T (vanZ p N T bad)) da (rests.take O) ++ (byL p (wL p T (vanZ p N T bad)) db ((rests.drop O).take O) ++ (catF (triE p N T bad da db head rests) t ++ triE p N T bad da db head rests 0)) := by
  unfold triR
  rw [← hO,← ht,List.append_assoc,List.append_assoc]
 refine ⟨?_,?_,fun m hm => ?_,?_,?_,fun m hm => ?_,?_⟩
 ·rw [← ht,eH,List.take_left' la]
 ·rw [← ht,eH,List.drop_left' la,List.take_left' lb]
 ·rw [← ht] at hm ⊢
  rw [eH,show 2 * (t + 1) + m * t = (t + 1) + ((t + 1) + m * t) by omega,← List.drop_drop,List.drop_left' la,← List.drop_drop,List.drop_left' lb]
  exact catF_piece t ld m hm
 ·rw [← hO,eR,List.take_left' lra]
 ·rw [← hO,eR,List.drop_left' lra,List.take_left' lrb]
 ·rw [← ht] at hm
  rw [← hO,eR,show (m + 2) * O = O + (O + m * O) by rw [show m + 2 = m + 1 + 1 from rfl,Nat.succ_mul,Nat.succ_mul];omega,← List.drop_drop,List.drop_left' lra,← List.drop_drop,List.drop_left' lrb]
  have hle : m * O + O ≤ t * O := by
   have := Nat.mul_le_mul_right O (show m + 1 ≤ t by omega)
   rwa [Nat.succ_mul] at this
  rw [List.drop_append_of_le_length (by omega),List.take_append_of_le_length (by rw [List.length_drop];omega)]
  exact catF_piece t le m hm
 ·rw [← hO,← ht,eR,m2,show t * O + O + O = O + (O + t * O) by omega,← List.drop_drop,List.drop_left' lra,← List.drop_drop,List.drop_left' lrb,List.drop_left' lce]
  exact List.take_of_length_le (Nat.le_of_eq le0)
theorem tri_back {p N T : Int} {bad : List Int} (h : OkM p N T bad) {da db da' db' : Int} (hda : (da + da') % p = 0) (hdb : (db + db') % p = 0) {head rests : List Int} (rh : ∀ x ∈ head,Res p x) (rr : ∀ x ∈ rests,Res p x) (lh : head.length = 2 * (T.toNat + 1) + T.toNat * T.toNat) (lr : rests.length = (T.toNat + 3) * (T.toNat * (T.toNat + 1) / 2)) :
  triH p N T bad da' db' (triH p N T bad da db head) = head ∧ triR p N T bad da' db' (triH p N T bad da db head) (triR p N T bad da db head rests) = rests := by
 have hp := h.ok.hp
 have hzl := vanZ_length h.ok
 have hT := h.t
 have P := parts p N T bad da db lh lr
 have la : (head.take (T.toNat + 1)).length = (vanZ p N T bad).length := by rw [List.length_take];omega
 have lb : ((head.drop (T.toNat + 1)).take (T.toNat + 1)).length = (vanZ p N T bad).length := by rw [List.length_take,List.length_drop];omega
 have hW : ∀ j,((triW p N T bad da db head).getD j 0 + (triW p N T bad da' db' (triH p N T bad da db head)).getD j 0) % p = 0 := fun j => by
  unfold triW
  rw [P.a,P.b]
  exact wq_back hp la lb hda hdb j
 constructor
 ·have hD : ∀ m,m < T.toNat → triD p N T bad da' db' (triH p N T bad da db head) (m + 1) = (head.drop (T.toNat + 1 + (T.toNat + 1) + m * T.toNat)).take T.toNat := fun m hm => by
   have e := P.d m hm
   unfold triD at e ⊢
   rw [Nat.add_sub_cancel] at e ⊢
   rw [e,by_back hp _ (hW _) (res_take (res_drop rh _) _),show 2 * (T.toNat + 1) = T.toNat + 1 + (T.toNat + 1) by omega]
  have e1 : triH p N T bad da' db' (triH p N T bad da db head) = byL p (vanZ p N T bad) da' ((triH p N T bad da db head).take (T.toNat + 1)) ++ byL p (vanZ p N T bad) db' (((triH p N T bad da db head).drop (T.toNat + 1)).take (T.toNat + 1)) ++ catF (triD p N T bad da' db' (triH p N T bad da db head)) T.toNat := rfl
  rw [e1,P.a,P.b,by_back hp _ hda (res_take rh _),by_back hp _ hdb (res_take (res_drop rh _) _),← List.take_add]
  refine (cat_take head (T.toNat + 1 + (T.toNat + 1)) T.toNat _ T.toNat hD).trans (List.take_of_length_le (by omega))
 ·obtain ⟨O,hO⟩ : ∃ O,O = T.toNat * (T.toNat + 1) / 2 := ⟨_,rfl⟩
  have Pra := P.ra
  have Prb := P.rb
  have Prd := P.rd
  have Prc := P.rc
  rw [← hO] at Pra Prb Prd Prc lr
  have hE : ∀ m,m < T.toNat → triE p N T bad da' db' (triH p N T bad da db head) (triR p N T bad da db head rests) (m + 1) = (rests.drop (O + O + m * O)).take O := fun m hm => by
   have e := Prd m hm
   unfold triE at e ⊢
   rw [if_neg (by omega),← hO] at e ⊢
   rw [show m + 1 + 1 = m + 2 from rfl] at e ⊢
   rw [e,by_back hp _ (hW _) (res_take (res_drop rr _) _),show (m + 2) * O = O + O + m * O by rw [show m + 2 = m + 1 + 1 from rfl,Nat.succ_mul,Nat.succ_mul];omega]
  have hC : triE p N T bad da' db' (triH p N T bad da db head) (triR p N T bad da db head rests) 0 = (rests.drop ((T.toNat + 2) * O)).take O := by
   have e := Prc
   unfold triE at e ⊢
   rw [if_pos rfl,← hO] at e ⊢
   rw [e,by_back hp _ (hW _) (res_take (res_drop rr _) _)]
  have e1 : triR p N T bad da' db' (triH p N T bad da db head) (triR p N T bad da db head rests) = byL p (wL p T (vanZ p N T bad)) da' ((triR p N T bad da db head rests).take O) ++ byL p (wL p T (vanZ p N T bad)) db' (((triR p N T bad da db head rests).drop O).take O) ++ catF (triE p N T bad da' db' (triH p N T bad da db head) (triR p N T bad da db head rests)) T.toNat ++ triE p N T bad da' db' (triH p N T bad da db head) (triR p N T bad da db head rests) 0 := by rw [hO];rfl
  rw [e1,Pra,Prb,by_back hp _ hda (res_take rr _),by_back hp _ hdb (res_take (res_drop rr _) _),← List.take_add,cat_take rests (O + O) O _ T.toNat hE,hC,show (T.toNat + 2) * O = O + O + T.toNat * O by rw [show T.toNat + 2 = T.toNat + 1 + 1 from rfl,Nat.succ_mul,Nat.succ_mul];omega,← List.take_add]
  exact List.take_of_length_le (by rw [lr,show T.toNat + 3 = T.toNat + 1 + 1 + 1 from rfl,Nat.succ_mul,Nat.succ_mul,Nat.succ_mul];omega)
theorem triH_res {p N T : Int} (hp : Supp p) (bad : List Int) (da db : Int) (head : List Int) : ∀ x ∈ triH p N T bad da db head,Res p x := by
 have hc : ∀ n,∀ x ∈ catF (triD p N T bad da db head) n,Res p x := fun n => by
  induction n with
  | zero => intro x hx;simp [catF] at hx
  | succ n ih =>
   intro x hx
   rw [catF] at hx
   rcases List.mem_append.1 hx with h|h
   ·exact ih x h
   ·exact byL_res hp _ _ _ x h
 intro x hx
 unfold triH at hx
 rcases List.mem_append.1 hx with h|h
 ·rcases List.mem_append.1 h with h|h
  ·exact byL_res hp _ _ _ x h
  ·exact byL_res hp _ _ _ x h
 ·exact hc _ x h
theorem triR_res {p N T : Int} (hp : Supp p) (bad : List Int) (da db : Int) (head rests : List Int) : ∀ x ∈ triR p N T bad da db head rests,Res p x := by
 have hc : ∀ n,∀ x ∈ catF (triE p N T bad da db head rests) n,Res p x := fun n => by
  induction n with
  | zero => intro x hx;simp [catF] at hx
  | succ n ih =>
   intro x hx
   rw [catF] at hx
   rcases List.mem_append.1 hx with h|h
   ·exact ih x h
   ·exact byL_res hp _ _ _ x h
 intro x hx
 unfold triR at hx
 rcases List.mem_append.1 hx with h|h
 ·rcases List.mem_append.1 h with h|h
  ·rcases List.mem_append.1 h with h|h
   ·exact byL_res hp _ _ _ x h
   ·exact byL_res hp _ _ _ x h
  ·exact hc _ x h
 ·exact byL_res hp _ _ _ x h
end Go.Proofs.Ytejeelpnmdfibaa.E
end
section
namespace Go.Proofs.Ytejeelpnmdfibaa.Pure
open Go.RowKit Go.Proofs.Ytejeelpnmdfibaa.Pr Go.Proofs.Ytejeelpnmdfibaa.Hw Go.Proofs.Ytejeelpnmdfibaa.E Go.Proofs.Ytejeelpnmdfibaa.Pl Go.Proofs.YtejeelpnmdfibaaW.PrintWords Go.Proofs.YtejeelpnmdfibaaW.PrintLast Go.Proofs.YtejeelpnmdfibaaW.PrintMore
set_option linter.unusedVariables false
set_option linter.unusedSimpArgs false
theorem rdB_nat (l : List (List Int)) (i : Nat) : rd_L4 l (i : Int) = l.getD i [] := by unfold rd_L4;rw [Int.toNat_natCast]
theorem below14_ev (p : Int) (l : List (List Int)) (hl : l.length ≤ 1000) (h : ∀ i,i < l.length → (l.getD i []).length ≤ 100 ∧ ∀ j,j < (l.getD i []).length → (l.getD i []).getD j 0 < p) : Ev (fun k => privityref14_Below.f k p l 100) true := by
 unfold privityref14_Below.f
 refine up (Q := fun i => Ev (fun k => privityref14_Below.l0 k p l 100 (i : Int)) true) (n := l.length) ?_ fun i hi h2 => ?_
 ·refine Ev.step (fun k => ?_) (Ev.now _)
  simp only [privityref14_Below.l0]
  rw [if_neg (by omega)]
 ·obtain ⟨h3,h4⟩ := h i hi
  have hin := up (Q := fun j => Ev (fun k => privityref14_Below.l1 k p l 100 (i : Int) (j : Int)) true) (n := (l.getD i []).length) ?_ fun j hj h5 => ?_
  ·refine Ev.step (fun k => ?_) hin
   simp only [privityref14_Below.l0]
   rw [if_pos (by omega),if_pos (by omega),rdB_nat,if_neg (by omega)];rfl
  ·refine Ev.step (fun k => ?_) h2
   simp only [privityref14_Below.l1]
   rw [if_pos (by omega),if_pos (by omega),rdB_nat,if_neg (by omega),wnat (by omega)]
  ·have h6 := h4 j hj
   refine Ev.step (fun k => ?_) h5
   simp only [privityref14_Below.l1]
   rw [if_pos (by omega),if_pos (by omega),rdB_nat,if_pos (by omega),if_pos (by omega),rd_nat,if_neg (by omega),wnat (by omega)]
theorem triH_smallI (p N : Int) {T : Int} (bad : List Int) (da db : Int) (w : List Int) (hT : T = 1 ∨ T = 2) : (triH p N T bad da db (hL p T w)).length ≤ 10 := by
 rw [triH_len p N bad da db hT (hL_length p T w),hL_length]
 rcases hT with rfl|rfl <;> decide
theorem triR_smallI (p N : Int) {T : Int} (bad : List Int) (da db : Int) (w : List Int) (hT : T = 1 ∨ T = 2) : (triR p N T bad da db (hL p T w) (lL p T w)).length ≤ 15 := by
 rw [triR_len p N bad da db hT _ (lL_length p T w),lL_length]
 rcases hT with rfl|rfl <;> decide
theorem sameI (a : List Int) (h : a.length ≤ 1000) : Ev (fun k => privityref14_Words.f k a a) true := by
 have := words_ev a a (by omega)
 rwa [decide_eq_true rfl] at this
theorem backD {p : Int} (hp : Supp p) {d : Int} (hd : 0 ≤ d) : Int.tmod (IntKind.u64.wrap (p - Int.tmod d p)) p = (p - d % p) % p := by
 have hb := hp.bd
 have h := Res.mod hp d
 have h1 := h.1
 have h2 := h.2
 rw [tmod_pos hd,wrapU_id (by omega) (by omega),tmod_pos (by omega)]
theorem backS {p : Int} (hp : Supp p) (d : Int) : (d % p + (p - d % p) % p) % p = 0 := by
 rw [Int.add_emod,Int.emod_emod_of_dvd (p - d % p) (Int.dvd_refl p),← Int.add_emod,show d % p + (p - d % p) = p by omega,Int.emod_self]
theorem TapeshiftInverse (p N T : Int) (bad : List Int) (da db : Int) (w : List Int) (wp : (Lit.int .u64 p).wf = true) (wN : (Lit.int .i64 N).wf = true) (wT : (Lit.int .i64 T).wf = true) (wb : ∀ x_ ∈ bad,(Lit.int .i64 x_).wf = true) (wda : (Lit.int .u64 da).wf = true) (wdb : (Lit.int .u64 db).wf = true) (ww : ∀ x_ ∈ w,(Lit.int .u64 x_).wf = true) : ∃ k,privitylaw43_TapeshiftInverse.f k p N T bad da db w = some true := by
 refine Ev.rounds (r := true) ?_
 unfold privitylaw43_TapeshiftInverse.f
 refine ev_if (may_ev p N T bad da db w) (fun h => ?_) (fun _ => awake43')
 have hm := okM h
 have hp := hm.ok.hp
 have hb := hp.bd
 have hT := hm.t
 have hw : ∀ x ∈ w,0 ≤ x := fun x hx => (wf64 (ww x hx)).1
 have rda := Res.mod hp da
 have rdb := Res.mod hp db
 have rda' := Res.mod hp (p - da % p)
 have rdb' := Res.mod hp (p - db % p)
 have sa := backS hp da
 have sb := backS hp db
 have hone := one_ev hp N hT bad da db hw
 have htri := triple_ev hp N hT bad da db hw
 have lq : (qL p T w).length = T.toNat + 1 := cutL_length _ _ _ _
 have lr : (rL p T w).length = T.toNat * (T.toNat + 1) / 2 := cutL_length _ _ _ _
 have lh := hL_length p T w
 have ll := lL_length p T w
 have rq : ∀ x ∈ qL p T w,Res p x := cutL_res hp _ _ _
 have rr : ∀ x ∈ rL p T w,Res p x := cutL_res hp _ _ _
 have rh : ∀ x ∈ hL p T w,Res p x := cutL_res hp _ _ _
 have rl : ∀ x ∈ lL p T w,Res p x := cutL_res hp _ _ _
 have s1 := triH_smallI p N bad (da % p) (db % p) w hT
 have s2 := triR_smallI p N bad (da % p) (db % p) w hT
 have s3 : T.toNat + 1 ≤ 3 ∧ T.toNat * (T.toNat + 1) / 2 ≤ 3 := ⟨by omega,by rcases hT with rfl|rfl <;> decide⟩
 have e1 := triH_len p N bad (da % p) (db % p) hT lh
 have e2 := triR_len p N bad (da % p) (db % p) hT (hL p T w) ll
 have hs := sharing_ev hm rda rq rr lq lr
 have hs2 := sharing_ev hm rda' (byL_res hp (vanZ p N T bad) (da % p) (qL p T w)) (byL_res hp (wL p T (vanZ p N T bad)) (da % p) (rL p T w)) (by rw [byL_length,lq]) (by rw [byL_length,lr])
 rw [by_back hp _ sa rq,by_back hp _ sa rr] at hs2
 have ht := tri_eq h rda rdb rh rl lh ll
 have rH := triH_res (T := T) (N := N) hp bad (da % p) (db % p) (hL p T w)
 have rR := triR_res (T := T) (N := N) hp bad (da % p) (db % p) (hL p T w) (lL p T w)
 have ht2 := tri_eq h rda' rdb' rH rR (by rw [e1,lh]) (by rw [e2,ll])
 obtain ⟨b1,b2⟩ := tri_back hm sa sb rh rl lh ll
 rw [b1,b2] at ht2
 have w1 := sameI (qL p T w) (by omega)
 have w2 := sameI (rL p T w) (by omega)
 have w3 := sameI (hL p T w) (by omega)
 have w4 := sameI (lL p T w) (by omega)
 have hbel : Ev (fun k => privityref14_Below.f k p [byL p (vanZ p N T bad) (da % p) (qL p T w),byL p (wL p T (vanZ p N T bad)) (da % p) (rL p T w),triH p N T bad (da % p) (db % p) (hL p T w),triR p N T bad (da % p) (db % p) (hL p T w) (lL p T w)] 100) true := by
  refine below14_ev p _ (by simp) fun i hi => ?_
  have hi4 : i < 4 := hi
  have key : ∀ r : List Int,r.length ≤ 100 → (∀ x ∈ r,Res p x) → r.length ≤ 100 ∧ ∀ j,j < r.length → r.getD j 0 < p := fun r h1 h2 => ⟨h1,fun j hj => (res_getD hp h2 j).2⟩
  have c : i = 0 ∨ i = 1 ∨ i = 2 ∨ i = 3 := by omega
  rcases c with rfl|rfl|rfl|rfl
  ·exact key (byL p (vanZ p N T bad) (da % p) (qL p T w)) (by rw [byL_length];omega) (byL_res hp _ _ _)
  ·exact key (byL p (wL p T (vanZ p N T bad)) (da % p) (rL p T w)) (by rw [byL_length];omega) (byL_res hp _ _ _)
  ·exact key (triH p N T bad (da % p) (db % p) (hL p T w)) (by omega) rH
  ·exact key (triR p N T bad (da % p) (db % p) (hL p T w) (lL p T w)) (by omega) rR
 have da0 := (wf64 wda).1
 have db0 := (wf64 wdb).1
 rw [backD hp da0,tmod_pos da0,tmod_pos db0]
 refine Ev.congr (fun k => if_neg (by omega)) ?_
 refine Ev.bind hone (Ev.bind hs (Ev.bind hs2 (Ev.bind htri (ev_now_bind ht ?_))))
 refine Ev.congr (fun k => if_pos (by show ((triH p N T bad (da % p) (db % p) (hL p T w)).length : Int) = ((hL p T w).length : Int);rw [e1])) ?_
 refine Ev.congr (fun k => if_pos (by show ((triR p N T bad (da % p) (db % p) (hL p T w) (lL p T w)).length : Int) = ((lL p T w).length : Int);rw [e2])) ?_
 refine Ev.bind hbel ?_
 have b3 : Int.tmod (IntKind.u64.wrap (p - da % p)) p = (p - da % p) % p := by have := backD hp da0;rwa [tmod_pos da0] at this
 have b4 : Int.tmod (IntKind.u64.wrap (p - db % p)) p = (p - db % p) % p := by have := backD hp db0;rwa [tmod_pos db0] at this
 refine Ev.step (f := fun k => (tapeshift_Triple.f p N T bad ((p - da % p) % p) ((p - db % p) % p) (triH p N T bad (da % p) (db % p) (hL p T w)) (triR p N T bad (da % p) (db % p) (hL p T w) (lL p T w))).bind fun bt377 => ((privitylaw43_awake.f k).bind fun t383 => (if t383 = true then ((privityref14_Words.f k (qL p T w) (qL p T w)).bind fun t384 => (if t384 = true then ((privityref14_Words.f k (rL p T w) (rL p T w)).bind fun t385 => (if t385 = true then ((privityref14_Words.f k (hL p T w) bt377.1).bind fun t386 => (if t386 = true then ((privityref14_Words.f k (lL p T w) bt377.2).bind fun t387 => (some t387)) else (some false))) else (some false))) else (some false))) else (some false)))) (fun k => ?_) ?_
 ·simp only [privitylaw43_TapeshiftInverse.j0,Bool.not_true]
  rw [if_neg (by simp),if_neg (by omega),b3,b4]
 ·refine ev_now_bind ht2 (ev_if awake43 (fun _ => ?_) fun h => by cases h)
  refine ev_if w1 (fun _ => ?_) fun h => by cases h
  refine ev_if w2 (fun _ => ?_) fun h => by cases h
  refine ev_if w3 (fun _ => ?_) fun h => by cases h
  exact Ev.bind w4 (Ev.now _)
end Go.Proofs.Ytejeelpnmdfibaa.Pure
end
section
namespace Go.Proofs.Ytejeelpnmdfibaa.Op
open Go.RowKit Go.Proofs.YtejeelpnmdfibaaW.PrintWords
set_option linter.unusedVariables false
def OpenK {α : Type} (P : Program) (t : TypeId) (d : Kd α) (Q : α → Prop) : Prop :=
 ∀ {H : Type} {enc : TypeId × Value → H} {w : World} {base : Nat} {sp : Nat → Bool} {hd : Bool} {fuel : Nat} {cs : List Value} {x : DataW H × List MemPlace},DataW.trod enc P w base sp hd fuel t cs = some x → ∃ v : α,d.K w v cs ∧ Q v
theorem openInt {P : Program} {t : TypeId} {k : IntKind} (ht : P.underlying t = some (.int k)) : OpenK P t (Kd.int k) (fun n => (Lit.int k n).wf = true) := by
 intro H enc w base sp hd fuel cs x h
 obtain ⟨n,rfl,_,hw⟩ := DataW.trod_int ht h
 exact ⟨n,rfl,hw⟩
theorem exists_list {α : Type} {R : Nat → α → Prop} : ∀ (n : Nat),(∀ i,i < n → ∃ v,R i v) → ∃ l : List α,l.length = n ∧ ∀ i v,l[i]? = some v → R i v
 | 0,_ => ⟨[],rfl,fun i v h => by simp at h⟩
 | n + 1,h => by
  obtain ⟨l,hl,hr⟩ := exists_list n (fun i hi => h i (by omega))
  obtain ⟨v,hv⟩ := h n (by omega)
  refine ⟨l ++ [v],by simp [hl],fun i u hu => ?_⟩
  by_cases hi : i < n
  ·rw [List.getElem?_append_left (by omega)] at hu
   exact hr i u hu
  ·rw [List.getElem?_append_right (by omega)] at hu
   by_cases h0 : i - l.length = 0
   ·rw [h0] at hu
    simp only [List.getElem?_cons_zero,Option.some.injEq] at hu
    rw [← hu,show i = n from by omega];exact hv
   ·rw [List.getElem?_eq_none (by simp;omega)] at hu;cases hu
theorem openSlice {α : Type} {P : Program} {t e : TypeId} {d : Kd α} {Q : α → Prop} (ht : P.underlying t = some (.slice e)) (hc : P.cellsOf e = d.sz) (he : OpenK P e d Q) : OpenK P t (Kd.slice e d) (fun l => ∀ x ∈ l,Q x) := by
 intro H enc w base sp hd fuel cs x h
 rcases DataW.trod_slice ht h with ⟨rfl,_⟩|⟨a,len,cap,elems,rest,n,_,rfl,_,_,hlc,hm,hlen,hel,_,_⟩
 ·exact ⟨[],⟨none,0,rfl,Nat.le_refl _,rfl,Nat.zero_le _,fun h => absurd h (Nat.lt_irrefl 0)⟩,fun x hx => by cases hx⟩
 ·have each : ∀ i,i < len → ∃ v,(∃ c,c.length = d.sz ∧ d.K w v c ∧ ∀ j u,c[j]? = some u → w.cell? (a.add (i * d.sz + j)) = some u) ∧ Q v := by
   intro i hi
   have h1 := hel i hi
   rw [List.getElem?_eq_getElem (by omega),hc] at h1
   obtain ⟨c,hcs,htr⟩ := Option.bind_eq_some_iff.1 h1
   obtain ⟨v,hk,hq⟩ := he htr
   refine ⟨v,⟨c,d.K_len hk,hk,fun j u hu => ?_⟩,hq⟩
   have h2 := World.cells?_some hcs
   have hj := (List.getElem?_eq_some_iff.1 hu).1
   have h3 := h2.2.2 j (by rw [← d.K_len hk];exact hj)
   rw [hu] at h3
   rw [← h3,← Addr.add_add]
  obtain ⟨l,hl,hr⟩ := exists_list len each
  refine ⟨l,⟨some a,cap,by rw [hl],by omega,rfl,by rw [hl];simp only [maxLen] at hm;omega,fun _ => ⟨a,rfl,fun j p hj => (hr j p hj).1⟩⟩,fun x hx => ?_⟩
  obtain ⟨i,hi,rfl⟩ := List.getElem_of_mem hx
  exact (hr i _ (List.getElem?_eq_getElem hi)).2
theorem openFields {P : Program} {H : Type} {enc : TypeId × Value → H} {w : World} {base : Nat} {sp : Nat → Bool} {hd : Bool} {fuel : Nat} {t : TypeId} {cs : List Value} {x : DataW H × List MemPlace} {fs : Array Field} (ht : P.underlying t = some (.struct fs))
  (h : DataW.trod enc P w base sp hd fuel t cs = some x) : cs.length = P.cellsOf t ∧ ∀ (i : Nat) (f : Field),fs[i]? = some f → ∃ n y,DataW.trod enc P w base sp hd n f.type ((cs.drop f.offset).take (P.cellsOf f.type)) = some y := by
 obtain ⟨xs,n,_,_,hl,hlen,hf⟩ := DataW.trod_struct ht h
 refine ⟨hl,fun i f hi => ?_⟩
 have h1 := hf i f hi
 have h2 : i < fs.size := (Array.getElem?_eq_some_iff.1 hi).1
 rw [List.getElem?_eq_getElem (by omega)] at h1
 exact ⟨n,_,h1⟩
end Go.Proofs.Ytejeelpnmdfibaa.Op
end
section
/- The row of the law TapeshiftInverse, out of its plain law and the walk. -/
namespace Go.Proofs.Ytejeelpnmdfibaa.tapeshiftInverse
open Go.ChangeShapes Go.WideShapes Go.ChangeAt Go.RowKit Go.Proofs.Ytejeelpnmdfibaa.Pr Go.Proofs.YtejeelpnmdfibaaW.PrintWords
set_option linter.unusedVariables false
theorem own : ownKnob Try.prog.godebug = none := by kernel_rfl
theorem laidOut : laidOutB Try.prog = true := by kernel_rfl
set_option maxRecDepth 100000 in
theorem arr7 (cs : Array Value) (h : cs.size = 7) : ∃ c0_ c1_ c2_ c3_ c4_ c5_ c6_, cs = #[c0_, c1_, c2_, c3_, c4_, c5_, c6_] := by
  obtain ⟨l_⟩ := cs
  match l_, h with
  | [c0_, c1_, c2_, c3_, c4_, c5_, c6_], _ => exact ⟨_, _, _, _, _, _, _, rfl⟩
set_option maxHeartbeats 4000000 in
set_option maxRecDepth 100000 in
theorem lifted (os : Os) (started : os.Started) (H : Type) (enc : TypeId × Value → H) :
    ReturnsInHanded {} Try.checked os 7 .any (Rows.tapeshiftInverseSpec.pre6 enc Try.prog Try.f7 Rows.tapeshiftInverseRow.domain false) (Rows.tapeshiftInverseSpec.post enc Try.prog Try.f7 false true false false) := by
  refine returnsInHanded_of_change_sized (C := Try.checked) own started (by kernel_rfl) Try.func7
    (ChangeSpec.witness6 (enc := enc) (C := Try.checked) false ⟨#[], #[.agg #[.int .u64 0, .int .i64 0, .int .i64 0, .slice none 0 0, .int .u64 0, .int .u64 0, .slice none 0 0]], []⟩ 8 (by kernel_rfl) (by kernel_rfl) (by kernel_rfl) (by kernel_rfl)) ?_
  intro W base args ds gs before hval0 hW hcnd hsz0 _
  have hval : ∀ (j : Nat) t v, Try.f7.params[j]? = some t → args[j]? = some v → Value.okWide Try.prog W .any base t v := hval0
  have hW' := hW
  obtain ⟨p, q, hA0, hV, rfl, hfz, hnd⟩ := hW
  have hA : DataW.TrodAll enc Try.prog W 0 (fun _ => true) true Try.f7.params.toList args.toList ds p := hA0
  rw [Try.params7] at hA hval
  obtain ⟨v0, vs0, d0, ds0, p0, q0, hargs, rfl, rfl, h0, r0⟩ := trodAll_cons hA
  obtain ⟨rfl, rfl, rfl⟩ := trodAll_nil r0
  obtain rfl : args = #[v0] := by cases args; simp_all
  obtain ⟨rfl, rfl⟩ := trodVars_none hV
  have k0 := h0
  have lt0 : ∀ x ∈ p0, x.block < W.heap.size := by obtain ⟨m, hm⟩ := k0; exact DataW.trod_lt m _ _ _ hm
  obtain ⟨cs0, rfl, hs0⟩ := okWide_struct Try.underlying28 (hval 0 28 v0 rfl rfl)
  have hN0 : Try.prog.cellsOf 28 = 7 := by kernel_rfl
  rw [hN0] at hs0
  obtain ⟨x0_0, x0_1, x0_2, x0_3, x0_4, x0_5, x0_6, rfl⟩ := arr7 cs0 hs0
  obtain ⟨fu0, hf0⟩ := h0
  have hg0 : DataW.trod enc Try.prog W 0 (fun _ => true) true fu0 28 [x0_0, x0_1, x0_2, x0_3, x0_4, x0_5, x0_6] = some (d0, p0) := hf0
  have f0 := (Op.openFields Try.underlying28 hg0).2
  obtain ⟨n0_0, y0_0, e0_0⟩ := f0 0 _ rfl
  have b0_0 : DataW.trod enc Try.prog W 0 (fun _ => true) true n0_0 24 [x0_0, x0_1, x0_2] = some y0_0 := e0_0
  have f0_0 := (Op.openFields Try.underlying24 b0_0).2
  obtain ⟨n0_0_0, y0_0_0, e0_0_0⟩ := f0_0 0 _ rfl
  have b0_0_0 : DataW.trod enc Try.prog W 0 (fun _ => true) true n0_0_0 22 [x0_0] = some y0_0_0 := e0_0_0
  obtain ⟨a0_0_0, e0_0_0, w0_0_0⟩ := (Op.openInt (k := .u64) Try.underlying22) b0_0_0
  cases e0_0_0
  obtain ⟨n0_0_1, y0_0_1, e0_0_1⟩ := f0_0 1 _ rfl
  have b0_0_1 : DataW.trod enc Try.prog W 0 (fun _ => true) true n0_0_1 3 [x0_1] = some y0_0_1 := e0_0_1
  obtain ⟨a0_0_1, e0_0_1, w0_0_1⟩ := (Op.openInt (k := .i64) Try.underlying3) b0_0_1
  cases e0_0_1
  obtain ⟨n0_0_2, y0_0_2, e0_0_2⟩ := f0_0 2 _ rfl
  have b0_0_2 : DataW.trod enc Try.prog W 0 (fun _ => true) true n0_0_2 3 [x0_2] = some y0_0_2 := e0_0_2
  obtain ⟨a0_0_2, e0_0_2, w0_0_2⟩ := (Op.openInt (k := .i64) Try.underlying3) b0_0_2
  cases e0_0_2
  obtain ⟨n0_1, y0_1, e0_1⟩ := f0 1 _ rfl
  have b0_1 : DataW.trod enc Try.prog W 0 (fun _ => true) true n0_1 25 [x0_3] = some y0_1 := e0_1
  obtain ⟨z0_1, ⟨A0_1, c0_1, e0_1, hc0_1, g0_1⟩, w0_1⟩ := (Op.openSlice (d := (Kd.int .i64)) Try.underlying25 (by kernel_rfl) (Op.openInt (k := .i64) Try.underlying3)) b0_1
  cases e0_1
  obtain ⟨n0_2, y0_2, e0_2⟩ := f0 2 _ rfl
  have b0_2 : DataW.trod enc Try.prog W 0 (fun _ => true) true n0_2 22 [x0_4] = some y0_2 := e0_2
  obtain ⟨a0_2, e0_2, w0_2⟩ := (Op.openInt (k := .u64) Try.underlying22) b0_2
  cases e0_2
  obtain ⟨n0_3, y0_3, e0_3⟩ := f0 3 _ rfl
  have b0_3 : DataW.trod enc Try.prog W 0 (fun _ => true) true n0_3 22 [x0_5] = some y0_3 := e0_3
  obtain ⟨a0_3, e0_3, w0_3⟩ := (Op.openInt (k := .u64) Try.underlying22) b0_3
  cases e0_3
  obtain ⟨n0_4, y0_4, e0_4⟩ := f0 4 _ rfl
  have b0_4 : DataW.trod enc Try.prog W 0 (fun _ => true) true n0_4 26 [x0_6] = some y0_4 := e0_4
  obtain ⟨z0_4, ⟨A0_4, c0_4, e0_4, hc0_4, g0_4⟩, w0_4⟩ := (Op.openSlice (d := (Kd.int .u64)) Try.underlying26 (by kernel_rfl) (Op.openInt (k := .u64) Try.underlying22)) b0_4
  cases e0_4
  clear hA0 hval0 hsz0
  obtain ⟨kk, hk⟩ := Pure.TapeshiftInverse a0_0_0 a0_0_1 a0_0_2 z0_1 a0_2 a0_3 z0_4 w0_0_0 w0_0_1 w0_0_2 w0_1 w0_2 w0_3 w0_4
  refine (privitylaw43_TapeshiftInverse.calls kk a0_0_0 a0_0_1 a0_0_2 _ _ z0_1 a0_2 a0_3 _ _ z0_4 true W g0_1 hc0_1 g0_4 hc0_4 rfl hk).mono fun e W' ⟨he, bel⟩ => ?_
  subst he
  exact ⟨_, rfl, _, _, _, [], _, [], hW', trodAll_mk1 (shut_bool Try.underlying4 _), (trodAll_cons_mk (Below.trod laidOut (by kernel_rfl) (of_decide_eq_true (by kernel_rfl)) k0 bel lt0) trodAll_mk0), rfl, bel.frame _, fun h => by cases h⟩
theorem over : Rows.tapeshiftInverseRow.holds Try.pinned (OpenSpec.ofChange Rows.tapeshiftInverseSpec) :=
  OpenClaim.holds_of_wide 7 Try.f7 rfl rfl rfl rfl rfl rfl rfl ⟨rfl, rfl, rfl, rfl, rfl⟩ rfl rfl rfl rfl rfl (by kernel_rfl) Try.func7 (by kernel_rfl)
    (of_decide_eq_true (by kernel_rfl)) (by unfold Func.isWrapper; first | (rw [if_pos (by decide +kernel)]; kernel_rfl) | (rw [if_neg (by decide +kernel)]; exact ⟨rfl, rfl⟩))
    (fun os started H enc _ => lifted os started H enc)
theorem proved : Rows.TapeshiftInverseSaid := over
#print axioms proved
end Go.Proofs.Ytejeelpnmdfibaa.tapeshiftInverse
namespace Go.Proofs.Ytejeelpnmdfibaa
/-- The row, under a short name, for the claim. -/
theorem tapeshiftInverse_holds : Rows.TapeshiftInverseSaid := tapeshiftInverse.proved
end Go.Proofs.Ytejeelpnmdfibaa
end
