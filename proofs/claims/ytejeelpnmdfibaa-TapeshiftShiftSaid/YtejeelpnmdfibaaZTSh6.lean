/- Part 6 of the proof's texts, joined in build order. -/
import Derived.Test.YtejeelpnmdfibaaZTSh1
import Derived.Test.YtejeelpnmdfibaaZTSh2
import Derived.Test.YtejeelpnmdfibaaZTSh4
import Derived.Test.YtejeelpnmdfibaaZTSh5
import Derived.Test.YtejeelpnmdfibaaZTSh3
import Derived.Laws.CopyOwn
section
namespace Go.Proofs.Ytejeelpnmdfibaa.Pr
open Go.RowKit Go.Proofs.YtejeelpnmdfibaaW.PrintWords Go.Proofs.YtejeelpnmdfibaaW.PrintLast Go.Proofs.YtejeelpnmdfibaaW.PrintMore
attribute [local go_sem] max2_int min2_int max_two min_two max_three min_three max_four min_four
set_option linter.unusedVariables false
set_option linter.unusedSimpArgs false
open Go.Proofs.Ytejeelpnmdfibaa.Hw
mutual
def privityref43_Triple.l0 : Nat → Int → Int → List Int → Int → Int → List Int → List Int → List Int → List Int → List Int → List Int → Int → Option (List Int × List Int)
 | 0,_,_,_,_,_,_,_,_,_,_,_,_ => none
 | k + 1,x2,x3,x5,x14,x15,x16,x17,x18,x19,x20,x21,x22 => if x22 ≤ x15 then ((privityref04_Coefficient.f x20 x22).bind fun t693 => (if x21.length < 17592186044416 then (privityref43_Triple.l0 k x2 x3 x5 x14 x15 x16 x17 x18 x19 x20 (x21 ++ [t693]) (wrap64 (x22 + 1))) else (none))) else ((privityref04_Coefficient.f x20 0).bind fun t697 => (if x21.length < 17592186044416 then ((privityref04_Scale.f k x14 x2 x16).bind fun t701 => ((privityref04_Add.f k x14 x17 t701).bind fun t704 => ((privityref43_Fit.f k t704 (wrap64 (x15 + 1))).bind fun t707 => ((privityref04_Scale.f k x14 x3 x16).bind fun t710 => ((privityref04_Add.f k x14 x18 t710).bind fun t713 => ((privityref43_Fit.f k t713 (wrap64 (x15 + 1))).bind fun t716 => (if t707.length + t716.length < 17592186044416 then (privityref43_Triple.l1 k x5 x14 x15 x16 x19 (x21 ++ [t697]) (t707 ++ t716) 1) else (none)))))))) else (none)))
def privityref43_Triple.l1 : Nat → List Int → Int → Int → List Int → List Int → List Int → List Int → Int → Option (List Int × List Int)
 | 0,_,_,_,_,_,_,_,_ => none
 | k + 1,x5,x14,x15,x16,x19,x21,x23,x24 => if x24 ≤ x15 then (privityref43_Triple.l2 k x5 x14 x15 x16 x19 x21 x23 x24 0) else (privityref43_Triple.l3 k x5 x14 x15 x16 x21 x23 ([] : List Int) (wrap64 (Int.tdiv (wrap64 (x15 * (wrap64 (x15 + 1)))) 2)) 0)
def privityref43_Triple.l2 : Nat → List Int → Int → Int → List Int → List Int → List Int → List Int → Int → Int → Option (List Int × List Int)
 | 0,_,_,_,_,_,_,_,_,_ => none
 | k + 1,x5,x14,x15,x16,x19,x21,x23,x24,x25 => if x25 < x15 then (if 0 ≤ (wrap64 ((wrap64 ((wrap64 (x24 - 1)) * x15)) + x25)) then (if (wrap64 ((wrap64 ((wrap64 (x24 - 1)) * x15)) + x25)) < (x19.length : Int) then (if 0 ≤ (wrap64 (x24 + 1)) then (if (wrap64 (x24 + 1)) < (x21.length : Int) then (if 0 ≤ x25 then (if x25 < (x16.length : Int) then ((privityref01_Mul.f k x14 (rd x21 (wrap64 (x24 + 1))) (rd x16 x25)).bind fun t725 => ((privityref01_Add.f x14 (rd x19 (wrap64 ((wrap64 ((wrap64 (x24 - 1)) * x15)) + x25))) t725).bind fun t726 => (if x23.length < 17592186044416 then (privityref43_Triple.l2 k x5 x14 x15 x16 x19 x21 (x23 ++ [t726]) x24 (wrap64 (x25 + 1))) else (none)))) else (none)) else (none)) else (none)) else (none)) else (none)) else (none)) else (privityref43_Triple.l1 k x5 x14 x15 x16 x19 x21 x23 (wrap64 (x24 + 1)))
def privityref43_Triple.l3 : Nat → List Int → Int → Int → List Int → List Int → List Int → List Int → Int → Int → Option (List Int × List Int)
 | 0,_,_,_,_,_,_,_,_,_ => none
 | k + 1,x5,x14,x15,x16,x21,x23,x26,x27,x28 => if x28 < (x21.length : Int) then (if 0 ≤ x28 then (if 0 ≤ (wrap64 (x15 + 1)) then (if (wrap64 (x15 + 1) : Int).toNat ≤ 35184372088832 then (if 0 ≤ (wrap64 (x28 * x27)) then (if (wrap64 (x28 * x27)) ≤ (wrap64 ((wrap64 (x28 + 1)) * x27)) then (if (wrap64 ((wrap64 (x28 + 1)) * x27)) ≤ (x5.length : Int) then ((privityref43_moved.f k x14 x16 (rd x21 x28) (List.replicate (wrap64 (x15 + 1) : Int).toNat 0) ((x5.take ((wrap64 ((wrap64 (x28 + 1)) * x27)) : Int).toNat).drop ((wrap64 (x28 * x27)) : Int).toNat)).bind fun bt735 => (if x26.length + bt735.2.length < 17592186044416 then (privityref43_Triple.l3 k x5 x14 x15 x16 x21 x23 (x26 ++ bt735.2) x27 (wrap64 (x28 + 1))) else (none))) else (none)) else (none)) else (none)) else (none)) else (none)) else (none)) else (some (x23,x26))
end
def privityref43_Triple.f (k : Nat) (a0_0 : Int) (a0_1 : Int) (a0_2 : Int) (l1 : List Int) (a2 : Int) (a3 : Int) (l4 : List Int) (l5 : List Int) : Option (List Int × List Int) := (privityref12_VanishingPolynomial.f k a0_0 a0_1 a0_2 l1).bind fun t681 => (if 0 ≤ (wrap64 (a0_2 + 1)) then (if (wrap64 (a0_2 + 1)) ≤ (l4.length : Int) then (if (wrap64 (a0_2 + 1)) ≤ (wrap64 ((wrap64 (2 * a0_2)) + 2)) then (if (wrap64 ((wrap64 (2 * a0_2)) + 2)) ≤ (l4.length : Int) then (if 0 ≤ (wrap64 ((wrap64 (2 * a0_2)) + 2)) then ((privityref43_Quotient.f k a0_0 t681 (l4.take ((wrap64 (a0_2 + 1)) : Int).toNat) ((l4.take ((wrap64 ((wrap64 (2 * a0_2)) + 2)) : Int).toNat).drop ((wrap64 (a0_2 + 1)) : Int).toNat) a2 a3).bind fun t687 => (privityref43_Triple.l0 k a2 a3 l5 a0_0 a0_2 t681 (l4.take ((wrap64 (a0_2 + 1)) : Int).toNat) ((l4.take ((wrap64 ((wrap64 (2 * a0_2)) + 2)) : Int).toNat).drop ((wrap64 (a0_2 + 1)) : Int).toNat) (l4.drop ((wrap64 ((wrap64 (2 * a0_2)) + 2)) : Int).toNat) t687 (([a2,a3] : List Int)) 1)) else (none)) else (none)) else (none)) else (none)) else (none))
def privityref43_Triple.T3 : Bool × List (List Nat × List Nat) := (true,[([],[]),([],[]),([1],[1]),([0,2],[0,2]),([],[]),([],[]),([5],[5]),([],[]),([7],[7]),([8],[8]),([4,6,9],[4,6,9]),([],[]),([],[]),([12],[12]),([13],[13]),([11,14],[11,14]),([3,0,1,2,3],[3]),([10,16,0,1,2,3,4,5,6,7,8,9,10,16],[10]),([15,17,0,1,2,3,4,5,6,7,8,9,10,11,12,13,14,15,16,17],[15])])
def privityref43_Triple.B3 : List Nat := [0,0,2,7,0,0,32,0,128,384,1008,0,0,4096,12288,30720,15,67583,262143]
theorem privityref43_Triple.tab3 : rtab .any (opsOf Try.f26 3) = privityref43_Triple.T3 := by kernel_rfl
theorem privityref43_Triple.bits3 : waitsOk privityref43_Triple.T3.2 privityref43_Triple.B3 = true := by kernel_rfl
def privityref43_Triple.T19 : Bool × List (List Nat × List Nat) := (true,[([],[]),([],[]),([],[]),([],[]),([3],[3]),([],[]),([4,5],[4,5]),([],[]),([6,7],[6,7]),([2,8],[2,8]),([9],[9]),([],[]),([],[]),([],[]),([13],[13]),([12,14],[12,14]),([15],[15]),([],[]),([],[]),([17,18],[17,18]),([19],[19]),([11,16,20],[11,16,20]),([1,10,21,21],[1,10,21]),([22],[22]),([0,23,22],[0,23]),([24,24,0,1,2,3,4,5,6,7,8,9,10,11,12,13,14,15,16,17,18,19,20,21,22,23,24],[0,24])])
def privityref43_Triple.B19 : List Nat := [0,0,0,0,8,0,56,0,248,508,1020,0,0,0,8192,28672,61440,0,0,393216,917504,2095104,4194302,8388606,16777215,33554431]
theorem privityref43_Triple.tab19 : rtab .any (opsOf Try.f26 19) = privityref43_Triple.T19 := by kernel_rfl
theorem privityref43_Triple.bits19 : waitsOk privityref43_Triple.T19.2 privityref43_Triple.B19 = true := by kernel_rfl
def privityref43_Triple.T25 : Bool × List (List Nat × List Nat) := (true,[([],[]),([],[]),([],[]),([],[]),([2,3],[2,3]),([4],[4]),([],[]),([6],[6]),([7,7],[7]),([],[]),([],[]),([],[]),([10,11],[10,11]),([],[]),([13],[13]),([],[]),([14,15],[14,15]),([9,12,16],[9,12,16]),([0,1,5,8,17],[0,1,5,8,17]),([18],[18]),([19],[19]),([19],[19]),([20,18,0,1,2,3,4,5,6,7,8,9,10,11,12,13,14,15,16,17,18,19,20],[20]),([21,22,0,1,2,3,4,5,6,7,8,9,10,11,12,13,14,15,16,17,18,19,20,21,22],[21])])
def privityref43_Triple.B25 : List Nat := [0,0,0,0,12,28,0,64,192,0,0,0,3072,0,8192,0,57344,130560,262143,524287,1048575,1048575,2097151,8388607]
theorem privityref43_Triple.tab25 : rtab .any (opsOf Try.f26 25) = privityref43_Triple.T25 := by kernel_rfl
theorem privityref43_Triple.bits25 : waitsOk privityref43_Triple.T25.2 privityref43_Triple.B25 = true := by kernel_rfl
set_option maxHeartbeats 8000000 in
set_option maxRecDepth 100000 in
theorem privityref43_Triple.calls (k : Nat) (a0_0 : Int) (a0_1 : Int) (a0_2 : Int) (A1 : Option Addr) (c1 : Nat) (l1 : List Int) (a2 : Int) (a3 : Int) (A4 : Option Addr) (c4 : Nat) (l4 : List Int) (A5 : Option Addr) (c5 : Nat) (l5 : List Int) (r1 : List Int) (r2 : List Int) (w : World) (hr1 : Kd.C (Kd.int .i64) w A1 l1.length l1) (hc1 : l1.length ≤ c1) (hr4 : Kd.C (Kd.int .u64) w A4 l4.length l4) (hc4 : l4.length ≤ c4) (hr5 : Kd.C (Kd.int .u64) w A5 l5.length l5) (hc5 : l5.length ≤ c5) (h : privityref43_Triple.f k a0_0 a0_1 a0_2 l1 a2 a3 l4 l5 = some (r1,r2)) :
  Calls Try.prog 26 #[.agg #[.int .u64 a0_0,.int .i64 a0_1,.int .i64 a0_2],.slice A1 l1.length c1,.int .u64 a2,.int .u64 a3,.slice A4 l4.length c4,.slice A5 l5.length c5] w fun e w' => ∃ v0_ v1_ : Value,e = .returned (.tuple #[v0_,v1_]) ∧ Kd.R (Kd.int .u64) 22 w' w.heap.size (fun k_ => some k_ ≠ (v1_ : Value).ownBlock) v0_ r1 ∧ Kd.R (Kd.int .u64) 22 w' w.heap.size (fun k_ => some k_ ≠ (v0_ : Value).ownBlock) v1_ r2 ∧ Below w.heap.size w w' := by
 have hu24 := Try.underlying24
 have HR1 := Aside0.mk hr1
 have HC1 := Aside0.mk hc1
 clear hr1 hc1
 have HR4 := Aside0.mk hr4
 have HC4 := Aside0.mk hc4
 clear hr4 hc4
 have HR5 := Aside0.mk hr5
 have HC5 := Aside0.mk hc5
 clear hr5 hc5
 have HB := Aside0.mk (Below.refl w.heap.size w)
 have H : ((privityref12_VanishingPolynomial.f k a0_0 a0_1 a0_2 l1).bind fun t681 => (if 0 ≤ (wrap64 (a0_2 + 1)) then (if (wrap64 (a0_2 + 1)) ≤ (l4.length : Int) then (if (wrap64 (a0_2 + 1)) ≤ (wrap64 ((wrap64 (2 * a0_2)) + 2)) then (if (wrap64 ((wrap64 (2 * a0_2)) + 2)) ≤ (l4.length : Int) then (if 0 ≤ (wrap64 ((wrap64 (2 * a0_2)) + 2)) then ((privityref43_Quotient.f k a0_0 t681 (l4.take ((wrap64 (a0_2 + 1)) : Int).toNat) ((l4.take ((wrap64 ((wrap64 (2 * a0_2)) + 2)) : Int).toNat).drop ((wrap64 (a0_2 + 1)) : Int).toNat) a2 a3).bind fun t687 => (privityref43_Triple.l0 k a2 a3 l5 a0_0 a0_2 t681 (l4.take ((wrap64 (a0_2 + 1)) : Int).toNat) ((l4.take ((wrap64 ((wrap64 (2 * a0_2)) + 2)) : Int).toNat).drop ((wrap64 (a0_2 + 1)) : Int).toNat) (l4.drop ((wrap64 ((wrap64 (2 * a0_2)) + 2)) : Int).toNat) t687 (([a2,a3] : List Int)) 1)) else (none)) else (none)) else (none)) else (none)) else (none))) = some (r1,r2) := h
 clear h
 replace H := Option.bind_eq_some_iff.mp H
 obtain ⟨t681,A70,H⟩ := H
 try dsimp only at H
 have A7 := Aside0.mk A70
 clear A70
 obtain ⟨ji8,hji8⟩ : ∃ j_ : Int,(wrap64 (a0_2 + 1)) = j_ := ⟨_,rfl⟩
 first|rw [hji8] at H|simp only [hji8] at H
 (try rw [hji8] at A7)
 have hji8w : (IntKind.i64.wrap (a0_2 + 1)) = ji8 := (i64_w _).trans hji8
 by_cases c9 : 0 ≤ (ji8)
 ·rw [if_pos c9] at H
  have c9b0 := eq_true c9
  have c9b1 : decide (0 ≤ (ji8)) = true := decide_eq_true c9
  clear c9
  by_cases c10 : (ji8) ≤ (l4.length : Int)
  ·rw [if_pos c10] at H
   have c10b0 := eq_true c10
   have c10b1 : decide ((ji8) ≤ (l4.length : Int)) = true := decide_eq_true c10
   clear c10
   have c11b0 := eq_true (of_decide_eq_true (by first|(with_reducible assumption)|assumption) : 0 ≤ (ji8))
   by_cases c12 : (ji8) ≤ (wrap64 ((wrap64 (2 * a0_2)) + 2))
   ·rw [if_pos c12] at H
    have c12b0 := eq_true c12
    have c12b1 : decide ((ji8) ≤ (wrap64 ((wrap64 (2 * a0_2)) + 2))) = true := decide_eq_true c12
    by_cases c13 : (wrap64 ((wrap64 (2 * a0_2)) + 2)) ≤ (l4.length : Int)
    ·rw [if_pos c13] at H
     have c13b0 := eq_true c13
     have c13b1 : decide ((wrap64 ((wrap64 (2 * a0_2)) + 2)) ≤ (l4.length : Int)) = true := decide_eq_true c13
     obtain ⟨ji14,hji14⟩ : ∃ j_ : Int,(wrap64 ((wrap64 (2 * a0_2)) + 2)) = j_ := ⟨_,rfl⟩
     first|rw [hji14] at H|simp only [hji14] at H
     (try rw [hji14] at c12b0)
     (try rw [hji14] at c12b1)
     (try rw [hji14] at c12)
     (try rw [hji14] at c13b0)
     (try rw [hji14] at c13b1)
     (try rw [hji14] at c13)
     (try rw [hji14] at A7)
     have hji14w : (IntKind.i64.wrap ((wrap64 (2 * a0_2)) + 2)) = ji14 := (i64_w _).trans hji14
     by_cases c15 : 0 ≤ (ji14)
     ·rw [if_pos c15] at H
      have c15b0 := eq_true c15
      have c15b1 : decide (0 ≤ (ji14)) = true := decide_eq_true c15
      clear c15
      have c16b0 := eq_true (of_decide_eq_true (by first|(with_reducible assumption)|assumption) : (ji14) ≤ (l4.length : Int))
      replace H := Option.bind_eq_some_iff.mp H
      obtain ⟨t687,A170,H⟩ := H
      try dsimp only at H
      have A17 := Aside0.mk A170
      clear A170
      obtain ⟨y690,hy690⟩ : ∃ y_ : List Int,y_ = (([a2,a3] : List Int)) := ⟨_,rfl⟩
      replace H : (privityref43_Triple.l0 k a2 a3 l5 a0_0 a0_2 t681 (l4.take ((ji8) : Int).toNat) ((l4.take ((ji14) : Int).toNat).drop ((ji8) : Int).toNat) (l4.drop ((ji14) : Int).toNat) t687 y690 1) = some (r1,r2) := by first|(rw [hy690];with_reducible exact H)|(have H2_ := (Option.bind_some _ _).symm.trans H;rw [hy690];with_reducible exact H2_)|(have H2_ := (Option.bind_some _ _).symm.trans H;with_reducible exact H2_)|with_reducible exact H|(rw [hy690];exact H)|exact H
      have Ny690 := Aside0.mk hy690
      clear hy690
      have H' := Aside0.mk H
      clear H
      go_enter Try.func26,Try.ntmps26
      try go_wp2_with (first|((with_reducible refine gate_dst (N := 6) rfl ?_);refine box_event ?hg (N := 6) ?hd (cs := #[.int .u64 a0_0,.int .i64 a0_1,.int .i64 a0_2]) (t := 24) ?hr ?_;(case hd => rfl);(case hg => rfl);(case hr => first|(go_simp;done)|(go_simp;rfl));intro gb680 hg w18 hbox hb;have n0_ := Aside0.mk (below_step (bb HB) hb);have n1_ := Aside0.mk (hbox);have n2_ := Aside0.mk ((by rw [hg];exact (below_size (bb HB)) : w.heap.size ≤ gb680));have n3_ := Aside0.mk ((by rw [hg];exact (below_size (bb HB)) : w.heap.size ≤ gb680));clear HB;have HB := n0_;have BK680 := n1_;have GW680 := n2_;have GE680 := n3_;clear n0_ n1_ n2_ n3_;clear hb hbox hg))
      have n0_ := Aside0.mk (blk_drew BK680.out)
      have n1_ := Aside0.mk (below_drew1 HB.out)
      clear BK680
      clear HB
      have BK680 := n0_
      have HB := n1_
      clear n0_ n1_
      refine start_ (n := 6) (S := fun w' => w'.cell? ⟨gb680,0,none⟩ = some (.int .u64 a0_0) ∧ w'.cell? ⟨gb680,1,none⟩ = some (.int .i64 a0_1) ∧ w'.cell? ⟨gb680,2,none⟩ = some (.int .i64 a0_2)) (ds := []) (bz 6 0) (by kernel_rfl) rfl rfl ⟨(blk_cell BK680.out 0).trans rfl,(blk_cell BK680.out 1).trans rfl,(blk_cell BK680.out 2).trans rfl⟩ (fun hHeld => ?_)
      generalize w18.drew = w19 at BK680 HB hHeld ⊢
      refine pu 0 31 (bz 6 1) ?_
      refine pu 2 33 (bz 6 5) ?_
      refine tu 1 32 (bz 6 7) hHeld ?_
      refine pu 4 14 (bz 6 23) ?_
      refine tu 3 34 (bz 6 31) hHeld ?_
      refine pu 5 15 (bz 6 63) ?_
      refine done_ (by kernel_rfl) ?_
      have hcz20_0 := bc BK680 0
      have hcz20_1 := bc BK680 1
      have hcz20_2 := bc BK680 2
      have hfz20_0 := blk_frozen BK680.out 0
      have hfz20_1 := blk_frozen BK680.out 1
      have hfz20_2 := blk_frozen BK680.out 2
      try go_wp2_with (first|((with_reducible refine gate_callee (f := 49) rfl ?_);refine goesL_ (some 37) rfl rfl Try.func49 (by kernel_rfl) rfl #[.agg #[.int .u64 a0_0,.int .i64 a0_1,.int .i64 a0_2],.slice A1 l1.length c1] rfl (by (try simp only [List.map_toArray,List.map_cons,List.map_nil]);first|done|rfl|(simp only [hji8,hji14];rfl)|(simp only [List.length_drop,List.length_take];rfl)) ?_;(with_reducible refine (privityref12_VanishingPolynomial.calls k a0_0 a0_1 a0_2 _ _ l1 t681 _ ?side1 ?side2 A7.out).mono ?_);(case side1 => exact cb HR1 HB);(case side2 => exact HC1.out);rintro e w21 ⟨v682,rfl,ho0,hb⟩;refine ⟨_,rfl,?_⟩;have n0_ := Aside0.mk (Kd.R_lower ho0 (below_size (bg HB GE680)));have n1_ := Aside0.mk (kb BK680 hb);have n2_ := Aside0.mk (below_step (bg HB GE680) hb);clear BK680 HB;have HO683 := n0_;have BK680 := n1_;have HB := n2_;clear n0_ n1_ n2_;(try clear hb);(try clear hb2);(try clear hk);(try clear hi);(try clear ho0)))
      have n0_ := Aside0.mk (Kd.R_drew HO683.out)
      have n1_ := Aside0.mk (blk_drew BK680.out)
      have n2_ := Aside0.mk (below_drew1 HB.out)
      clear HO683
      clear BK680
      clear HB
      have HO683 := n0_
      have BK680 := n1_
      have HB := n2_
      clear n0_ n1_ n2_
      obtain ⟨i023,hi023,_,hsz23,_⟩ := info_parts info22
      obtain ⟨hcut23,hA23,hC23⟩ := print_take_of (P := Try.prog) (Value.int .u64) 0 26 22 .i64 Try.underlying26 hi023 hsz23 A4 c4 l4 (ji8) (of_decide_eq_true (by first|(with_reducible assumption)|assumption)) (of_decide_eq_true (by first|(with_reducible assumption)|assumption)) HC4.out
      have HR684 := Aside0.mk (Kd.C_of_reads (h1 := fun _ => rfl) (hA23 _ (Kd.reads_of_C HR4.out)))
      have HC684 := Aside0.mk hC23
      try (have HLx0_ := Aside0.mk (show (l4.take ((ji8) : Int).toNat).length = (ji8).toNat from (by rw [List.length_take];have h_ : ((ji8) : Int) ≤ (l4.length : Int) := of_decide_eq_true (by first|(with_reducible assumption)|assumption);omega)))
      try (have HLx1_ := Aside0.mk (show ((l4.take ((ji14) : Int).toNat).drop ((ji8) : Int).toNat).length = ((ji14).toNat - (ji8).toNat) from (by rw [List.length_drop,List.length_take];have h_ : ((ji14) : Int) ≤ (l4.length : Int) := of_decide_eq_true (by first|(with_reducible assumption)|assumption);omega)))
      clear hA23 hC23 hi023 hsz23
      obtain ⟨i024,hi024,_,hsz24,_⟩ := info_parts info22
      obtain ⟨A24,hcut24,hA24,hC24⟩ := print_mid_of (P := Try.prog) (Value.int .u64) 0 26 22 .i64 .i64 Try.underlying26 hi024 hsz24 A4 c4 l4 (ji8) (ji14) (of_decide_eq_true (by first|(with_reducible assumption)|assumption)) (by first|omega|exact of_decide_eq_true (by first|(with_reducible assumption)|assumption)) (of_decide_eq_true (by first|(with_reducible assumption)|assumption)) HC4.out
      have HR685 := Aside0.mk (Kd.C_of_reads (h1 := fun _ => rfl) (hA24 _ (Kd.reads_of_C HR4.out)))
      have HC685 := Aside0.mk hC24
      try (have HLx0_ := Aside0.mk (show (l4.take ((ji8) : Int).toNat).length = (ji8).toNat from (by rw [List.length_take];have h_ : ((ji8) : Int) ≤ (l4.length : Int) := of_decide_eq_true (by first|(with_reducible assumption)|assumption);omega)))
      try (have HLx1_ := Aside0.mk (show ((l4.take ((ji14) : Int).toNat).drop ((ji8) : Int).toNat).length = ((ji14).toNat - (ji8).toNat) from (by rw [List.length_drop,List.length_take];have h_ : ((ji14) : Int) ≤ (l4.length : Int) := of_decide_eq_true (by first|(with_reducible assumption)|assumption);omega)))
      clear hA24 hC24 hi024 hsz24
      obtain ⟨i025,hi025,_,hsz25,_⟩ := info_parts info22
      obtain ⟨A25,hcut25,hA25,hC25⟩ := print_drop_of (P := Try.prog) (Value.int .u64) 0 26 22 .i64 Try.underlying26 hi025 hsz25 A4 c4 l4 (ji14) (of_decide_eq_true (by first|(with_reducible assumption)|assumption)) (of_decide_eq_true (by first|(with_reducible assumption)|assumption)) HC4.out
      have HR686 := Aside0.mk (Kd.C_of_reads (h1 := fun _ => rfl) (hA25 _ (Kd.reads_of_C HR4.out)))
      have HC686 := Aside0.mk hC25
      try (have HLx0_ := Aside0.mk (show (l4.take ((ji8) : Int).toNat).length = (ji8).toNat from (by rw [List.length_take];have h_ : ((ji8) : Int) ≤ (l4.length : Int) := of_decide_eq_true (by first|(with_reducible assumption)|assumption);omega)))
      try (have HLx1_ := Aside0.mk (show ((l4.take ((ji14) : Int).toNat).drop ((ji8) : Int).toNat).length = ((ji14).toNat - (ji8).toNat) from (by rw [List.length_drop,List.length_take];have h_ : ((ji14) : Int) ≤ (l4.length : Int) := of_decide_eq_true (by first|(with_reducible assumption)|assumption);omega)))
      clear hA25 hC25 hi025 hsz25
      refine start_ (n := 19) (S := fun w' => True) (ds := []) (bz 19 0) (by kernel_rfl) rfl rfl trivial (fun hHeld => ?_);refine with_tabW privityref43_Triple.tab3 privityref43_Triple.bits3 (fun HT_ HW_ => ?_)
      generalize w21.drew = w22 at HO683 BK680 HB HR684 HR685 HR686 hHeld ⊢
      refine pk 0 38 (bz 19 1) HT_ ?_
      refine pk 1 39 (bz 19 3) HT_ ?_
      refine pk 2 40 (bz 19 7) HT_ ?_
      refine pk 3 41 (bz 19 15) HT_ ?_
      refine pk 4 42 (bz 19 31) HT_ ?_
      refine pk 5 43 (bz 19 63) HT_ ?_
      refine pk 6 44 (bz 19 127) HT_ ?_
      refine pk 7 45 (bz 19 255) HT_ ?_
      refine pk 8 46 (bz 19 511) HT_ ?_
      refine pk 9 47 (bz 19 1023) HT_ ?_
      refine pk 10 48 (bz 19 2047) HT_ ?_
      refine pk 11 49 (bz 19 4095) HT_ ?_
      refine pk 12 50 (bz 19 8191) HT_ ?_
      refine pk 13 51 (bz 19 16383) HT_ ?_
      refine pk 14 52 (bz 19 32767) HT_ ?_
      refine pk 15 53 (bz 19 65535) HT_ ?_
      refine pk 16 17 (bz 19 131071) HT_ ?_
      refine pk 17 18 (bz 19 262143) HT_ ?_
      refine pk 18 19 (bz 19 524287) HT_ ?_
      refine done_ (done_of HT_.out (by kernel_rfl)) ?_
      obtain ⟨Ao26,co26,eo26⟩ := Kd.R_slice HO683.out
      subst eo26
      try go_wp2_with (first|((with_reducible refine gate_callee (f := 56) rfl ?_);refine goesL_ (some 60) rfl rfl Try.func56 (by kernel_rfl) rfl #[.int .u64 a0_0,.slice Ao26 t681.length co26,.slice A4 (l4.take ((ji8) : Int).toNat).length c4,.slice A24 ((l4.take ((ji14) : Int).toNat).drop ((ji8) : Int).toNat).length (c4 - (ji8).toNat),.int .u64 a2,.int .u64 a3] rfl (by (try simp only [List.map_toArray,List.map_cons,List.map_nil]);first|done|(rw [show (l4.take ((ji8) : Int).toNat).length = (ji8).toNat from (by first|exact HLx0_.out|exact (by rw [List.length_take];have h_ : ((ji8) : Int) ≤ (l4.length : Int) := of_decide_eq_true (by first|(with_reducible assumption)|assumption);omega)),show ((l4.take ((ji14) : Int).toNat).drop ((ji8) : Int).toNat).length = ((ji14).toNat - (ji8).toNat) from (by first|exact HLx1_.out|exact (by rw [List.length_drop,List.length_take];have h_ : ((ji14) : Int) ≤ (l4.length : Int) := of_decide_eq_true (by first|(with_reducible assumption)|assumption);omega))] <;> rfl)|(rw [show (l4.take ((ji8) : Int).toNat).length = (ji8).toNat from (by first|exact HLx0_.out|exact (by rw [List.length_take];have h_ : ((ji8) : Int) ≤ (l4.length : Int) := of_decide_eq_true (by first|(with_reducible assumption)|assumption);omega))] <;> rfl)|(rw [show ((l4.take ((ji14) : Int).toNat).drop ((ji8) : Int).toNat).length = ((ji14).toNat - (ji8).toNat) from (by first|exact HLx1_.out|exact (by rw [List.length_drop,List.length_take];have h_ : ((ji14) : Int) ≤ (l4.length : Int) := of_decide_eq_true (by first|(with_reducible assumption)|assumption);omega))] <;> rfl)|(simp only [hji14,hji8];rfl)|rfl|(simp only [List.length_drop,List.length_take];rfl)) ?_;(with_reducible refine (privityref43_Quotient.calls k a0_0 _ _ t681 _ _ (l4.take ((ji8) : Int).toNat) _ _ ((l4.take ((ji14) : Int).toNat).drop ((ji8) : Int).toNat) a2 a3 t687 _ ?side1 ?side2 ?side3 ?side4 ?side5 ?side6 A17.out).mono ?_);(case side1 => exact cr HO683);(case side2 => exact (Kd.R_reads' HO683.out).2.1);(case side3 => exact cb HR684 HB);(case side4 => exact HC684.out);(case side5 => exact cb HR685 HB);(case side6 => exact HC685.out);rintro e w27 ⟨v688,rfl,ho0,hb⟩;refine ⟨_,rfl,?_⟩;have n0_ := Aside0.mk (Kd.R_elder' (rr HO683) (Kd.R_base ho0) hb);have n1_ := Aside0.mk (Kd.R_lower (Kd.R_new' ho0 (Kd.R_lt (rr HO683))) (below_size (bg HB GE680)));have n2_ := Aside0.mk (kb BK680 hb);have n3_ := Aside0.mk (below_step (bg HB GE680) hb);clear HO683 BK680 HB;have HO683 := n0_;have HO689 := n1_;have BK680 := n2_;have HB := n3_;clear n0_ n1_ n2_ n3_;(try clear hb);(try clear hb2);(try clear hk);(try clear hi);(try clear ho0))|((with_reducible refine gate_dst (N := 63) rfl ?_);refine Kd.R_lit (Kd.int .u64) _ 22 ?hg (N := 63) ?hd (xs := ([a2,a3] : List Int)) (inner := [.int .u64 a2,.int .u64 a3]) (ok := fun _ => True) (okp := fun _ => True) ?hr ?hp (fun _ hk => hk) trivial (Below.refl _ _) (Nat.le_refl _) (by simp) ?_;(case hd => rfl);(case hg => rfl);(case hr => first|(go_simp;done)|(go_simp;rfl));(case hp => exact (Reps.one (show Kd.M (Kd.int .u64) _ _ _ a2 [.int .u64 a2] from rfl) (Reps.one (show Kd.M (Kd.int .u64) _ _ _ a3 [.int .u64 a3] from rfl) (Reps.none _ _))));intro v691 w28 ho29 hb hg_ hnew_;clear hg_ hnew_;(first|rw [← Ny690.out] at ho29|(simp only [Int.reduceToNat] at ho29;rw [← Ny690.out] at ho29));have n0_ := Aside0.mk (Kd.R_elder' (rr HO683) (Kd.R_base ho29) hb);have n1_ := Aside0.mk (Kd.R_elder' (rr HO689) (Kd.R_base ho29) hb);have n2_ := Aside0.mk (Kd.R_lower (Kd.R_new' (Kd.R_new' ho29 (Kd.R_lt (rr HO683))) (Kd.R_lt (rr HO689))) (below_size (bg HB GE680)));have n3_ := Aside0.mk (kb BK680 hb);have n4_ := Aside0.mk (below_step (bg HB GE680) hb);clear HO683 HO689 BK680 HB;have HO683 := n0_;have HO689 := n1_;have HO692 := n2_;have BK680 := n3_;have HB := n4_;clear n0_ n1_ n2_ n3_ n4_;clear hb ho29))
      go_loopg [21,22] k (fun kq v21 v22 w' => ∃ (x21_1 : List Int) (x22_1 : Int),v22 = .int .i64 x22_1 ∧ Aside0 (privityref43_Triple.l0 kq a2 a3 l5 a0_0 a0_2 t681 (l4.take ((ji8) : Int).toNat) ((l4.take ((ji14) : Int).toNat).drop ((ji8) : Int).toNat) (l4.drop ((ji14) : Int).toNat) t687 x21_1 x22_1 = some (r1,r2)) ∧ Aside0 (kq ≤ k) ∧ Aside0 (Kd.R (Kd.int .u64) 22 w' w.heap.size (fun k_ => some k_ ≠ (v688 : Value).ownBlock ∧ some k_ ≠ (v21 : Value).ownBlock) (.slice Ao26 t681.length co26) t681) ∧ Aside0 (Kd.R (Kd.int .u64) 22 w' w.heap.size (fun k_ => some k_ ≠ ((.slice Ao26 t681.length co26) : Value).ownBlock ∧ some k_ ≠ (v21 : Value).ownBlock) v688 t687) ∧ Aside0 (Kd.R (Kd.int .u64) 22 w' w.heap.size (fun k_ => some k_ ≠ ((.slice Ao26 t681.length co26) : Value).ownBlock ∧ some k_ ≠ (v688 : Value).ownBlock) v21 x21_1) ∧ Aside0 (w'.heap[gb680]? = some (.cells #[.int .u64 a0_0,.int .i64 a0_1,.int .i64 a0_2] 24 (0,0))) ∧ Aside0 (Below w.heap.size w w'))
      case atStart => exact ⟨(y690),(1),(by first|rfl|(simp;done)|(simp [*];done)),H',⟨Nat.le_refl _⟩,⟨by (with_reducible repeat (first|apply Kd.R_alloc|apply Kd.R_drewN|apply Kd.R_drew));exact Kd.R_mono HO683.out (fun _ hk => ⟨hk.1.2,hk.2⟩)⟩,⟨by (with_reducible repeat (first|apply Kd.R_alloc|apply Kd.R_drewN|apply Kd.R_drew));exact Kd.R_mono HO689.out (fun _ hk => ⟨hk.1.2,hk.2⟩)⟩,⟨by (with_reducible repeat (first|apply Kd.R_alloc|apply Kd.R_drewN|apply Kd.R_drew));exact Kd.R_mono HO692.out (fun _ hk => ⟨hk.1.2,hk.2⟩)⟩,⟨by (with_reducible repeat (first|refine blk_drewN ?_ _|refine blk_drew ?_|refine blk_alloc ?_ _));exact BK680.out⟩,⟨by repeat (first|(with_reducible first|exact HB.out|apply below_alloc|apply pw_below_drewN|apply below_drew1|refine below_set ?_ GE680.out)|exact HB.out)⟩⟩
      case round =>
       clear H'
       try clear c1
       try clear c2
       try clear p2
       try clear c4
       try clear c5
       try clear p6
       try clear c9
       try clear c9b0
       try clear c9b1
       try clear c10
       try clear c10b0
       try clear c10b1
       try clear c11
       try clear c11b0
       try clear c12
       try clear c12b0
       try clear c12b1
       try clear c13
       try clear c13b0
       try clear c13b1
       try clear c15
       try clear c15b0
       try clear c15b1
       try clear c16
       try clear c16b0
       try clear c26
       try clear hcz20_0
       try clear hcz20_1
       try clear hcz20_2
       try clear hfz20_0
       try clear hfz20_1
       try clear hfz20_2
       obtain ⟨x21_1,x22_1,rfl,HA,HK1,HO_16,HO_20,HO_21,BK680,HB⟩ := hrel
       cases gk with
       | zero => exact absurd HA.out (by simp [privityref43_Triple.l0])
       | succ k1 =>
        have H := HA.out
        clear HA
        simp only [privityref43_Triple.l0] at H
        by_cases c30 : x22_1 ≤ a0_2
        ·rw [if_pos c30] at H
         have c30b0 : decide (x22_1 ≤ a0_2) = true := decide_eq_true c30
         clear c30
         replace H := Option.bind_eq_some_iff.mp H
         obtain ⟨t693,A310,H⟩ := H
         try dsimp only at H
         have A31 := Aside0.mk A310
         clear A310
         by_cases c32 : x21_1.length < 17592186044416
         ·rw [if_pos c32] at H
          have LMc32 := Aside0.mk c32
          clear c32
          obtain ⟨y694,hy694⟩ : ∃ y_ : List Int,y_ = (x21_1 ++ [t693]) := ⟨_,rfl⟩
          replace H : (privityref43_Triple.l0 k1 a2 a3 l5 a0_0 a0_2 t681 (l4.take ((ji8) : Int).toNat) ((l4.take ((ji14) : Int).toNat).drop ((ji8) : Int).toNat) (l4.drop ((ji14) : Int).toNat) t687 y694 (wrap64 (x22_1 + 1))) = some (r1,r2) := by first|(rw [hy694];with_reducible exact H)|(have H2_ := (Option.bind_some _ _).symm.trans H;rw [hy694];with_reducible exact H2_)|(have H2_ := (Option.bind_some _ _).symm.trans H;with_reducible exact H2_)|with_reducible exact H|(rw [hy694];exact H)|exact H
          have Ny694 := Aside0.mk hy694
          clear hy694
          have H' := Aside0.mk H
          clear H
          obtain ⟨Ao33,co33,eo33⟩ := Kd.R_slice HO_20.out
          subst eo33
          go_wp2_with (first|((with_reducible refine gate_callee (f := 57) rfl ?_);refine goesL_ (some 72) rfl rfl Try.func57 (by kernel_rfl) rfl #[.slice Ao33 t687.length co33,.int .i64 x22_1] rfl (by (try simp only [List.map_toArray,List.map_cons,List.map_nil]);first|done|rfl|(simp only [hji8,hji14];rfl)|(simp only [List.length_drop,List.length_take];rfl)) ?_;(with_reducible refine (privityref04_Coefficient.calls _ _ t687 x22_1 t693 _ ?side1 ?side2 A31.out).mono ?_);(case side1 => exact cr HO_20);(case side2 => exact (Kd.R_reads' HO_20.out).2.1);rintro e w' ⟨rfl,⟨nd,rfl⟩⟩;refine ⟨_,rfl,?_⟩)|((with_reducible refine gate_builtin (b := .append) (xs := #[.tmp 69,.tmp 73]) rfl ?_);at_builtin;refine Kd.R_append (Kd.int .u64) (w0 := w) w.heap.size rfl (.tmp 69) (.tmp 73) 26 22 (.int .u64 0) 8 rfl Try.underlying26 info22 rfl (by decide) (by omega) u21 x21_1 t693 [.int .u64 t693] (fun k_ => some k_ ≠ (.slice Ao26 t681.length co26 : Value).ownBlock ∧ some k_ ≠ (.slice Ao33 t687.length co33 : Value).ownBlock) (fun _ => False) rfl rfl ?aP (fun _ hk => hk.elim) ?aF ?aO ?aB ?aS ?aL ?_;(case aP => exact rfl);(case aB => exact (bg HB GE680));(case aF => exact (fun k_ hk => ⟨Kd.fresh' (Kd.R_lt (rr HO_16)) k_ hk,Kd.fresh' (Kd.R_lt (rr HO_20)) k_ hk⟩));(case aO => exact (rr HO_21));(case aS => exact (below_size (bg HB GE680)));(case aL => have := LMc32.out;omega);intro v695 w34 ho hb hg hat;rw [← Ny694.out] at ho;have n0_ := Aside0.mk (Kd.R_after (ok := (fun k_ => some k_ ≠ (.slice Ao33 t687.length co33 : Value).ownBlock)) (rr HO_16) hg hat);have n1_ := Aside0.mk (Kd.R_after (ok := (fun k_ => some k_ ≠ (.slice Ao26 t681.length co26 : Value).ownBlock)) (rr HO_20) hg hat);have n2_ := Aside0.mk (blk_grown (g := gb680) (o := .cells #[.int .u64 a0_0,.int .i64 a0_1,.int .i64 a0_2] 24 (0,0)) (by (with_reducible repeat (first|refine blk_drewN ?_ _|refine blk_drew ?_|refine blk_alloc ?_ _));exact BK680.out) hg (Kd.R_ne HO_21.out BK680.out (by decide)));have n3_ := Aside0.mk (hb);have n4_ := Aside0.mk (ho);clear HO_16 HO_20 BK680 HB HO_21;have HO_16 := n0_;have HO_20 := n1_;have BK680 := n2_;have HB := n3_;have HO696 := n4_;clear n0_ n1_ n2_ n3_ n4_;clear ho hb hg hat))
          go_roundg k1
          case measure => have := HK1.out;omega
          case rel => exact ⟨(y694),(wrap64 (x22_1 + 1)),(by first|rfl|(simp;done)|(simp [*];done)),(by first|exact H'|(simp only [hji76];exact H')),⟨by have := HK1.out;omega⟩,⟨by (with_reducible repeat (first|apply Kd.R_alloc|apply Kd.R_drewN|apply Kd.R_drew));exact HO_16.out⟩,⟨by (with_reducible repeat (first|apply Kd.R_alloc|apply Kd.R_drewN|apply Kd.R_drew));exact HO_20.out⟩,⟨by (with_reducible repeat (first|apply Kd.R_alloc|apply Kd.R_drewN|apply Kd.R_drew));exact HO696.out⟩,⟨by (with_reducible repeat (first|refine blk_drewN ?_ _|refine blk_drew ?_|refine blk_alloc ?_ _));exact BK680.out⟩,⟨by repeat (first|(with_reducible first|exact HB.out|apply below_alloc|apply pw_below_drewN|apply below_drew1|refine below_set ?_ GE680.out)|exact HB.out)⟩⟩
         ·rw [if_neg c32] at H
          exact absurd H (by simp)
        ·rw [if_neg c30] at H
         have c30b0 : decide (x22_1 ≤ a0_2) = false := decide_eq_false c30
         clear c30
         replace H := Option.bind_eq_some_iff.mp H
         obtain ⟨t697,A350,H⟩ := H
         try dsimp only at H
         have A35 := Aside0.mk A350
         clear A350
         by_cases c36 : x21_1.length < 17592186044416
         ·rw [if_pos c36] at H
          have LMc36 := Aside0.mk c36
          clear c36
          obtain ⟨y698,hy698⟩ : ∃ y_ : List Int,y_ = (x21_1 ++ [t697]) := ⟨_,rfl⟩
          replace H : ((privityref04_Scale.f k1 a0_0 a2 t681).bind fun t701 => ((privityref04_Add.f k1 a0_0 (l4.take ((ji8) : Int).toNat) t701).bind fun t704 => ((privityref43_Fit.f k1 t704 (wrap64 (a0_2 + 1))).bind fun t707 => ((privityref04_Scale.f k1 a0_0 a3 t681).bind fun t710 => ((privityref04_Add.f k1 a0_0 ((l4.take ((ji14) : Int).toNat).drop ((ji8) : Int).toNat) t710).bind fun t713 => ((privityref43_Fit.f k1 t713 (wrap64 (a0_2 + 1))).bind fun t716 => (if t707.length + t716.length < 17592186044416 then (privityref43_Triple.l1 k1 l5 a0_0 a0_2 t681 (l4.drop ((ji14) : Int).toNat) y698 (t707 ++ t716) 1) else (none)))))))) = some (r1,r2) := by first|(rw [hy698];with_reducible exact H)|(have H2_ := (Option.bind_some _ _).symm.trans H;rw [hy698];with_reducible exact H2_)|(have H2_ := (Option.bind_some _ _).symm.trans H;with_reducible exact H2_)|with_reducible exact H|(rw [hy698];exact H)|exact H
          have Ny698 := Aside0.mk hy698
          clear hy698
          replace H := Option.bind_eq_some_iff.mp H
          obtain ⟨t701,A370,H⟩ := H
          try dsimp only at H
          have A37 := Aside0.mk A370
          clear A370
          replace H := Option.bind_eq_some_iff.mp H
          obtain ⟨t704,A380,H⟩ := H
          try dsimp only at H
          have A38 := Aside0.mk A380
          clear A380
          replace H := Option.bind_eq_some_iff.mp H
          obtain ⟨t707,A390,H⟩ := H
          try dsimp only at H
          have A39 := Aside0.mk A390
          clear A390
          replace H := Option.bind_eq_some_iff.mp H
          obtain ⟨t710,A400,H⟩ := H
          try dsimp only at H
          have A40 := Aside0.mk A400
          clear A400
          replace H := Option.bind_eq_some_iff.mp H
          obtain ⟨t713,A410,H⟩ := H
          try dsimp only at H
          have A41 := Aside0.mk A410
          clear A410
          replace H := Option.bind_eq_some_iff.mp H
          obtain ⟨t716,A420,H⟩ := H
          try dsimp only at H
          have A42 := Aside0.mk A420
          clear A420
          by_cases c43 : t707.length + t716.length < 17592186044416
          ·rw [if_pos c43] at H
           have LMc43 := Aside0.mk c43
           clear c43
           obtain ⟨y719,hy719⟩ : ∃ y_ : List Int,y_ = (t707 ++ t716) := ⟨_,rfl⟩
           replace H : (privityref43_Triple.l1 k1 l5 a0_0 a0_2 t681 (l4.drop ((ji14) : Int).toNat) y698 y719 1) = some (r1,r2) := by first|(rw [hy719];with_reducible exact H)|(have H2_ := (Option.bind_some _ _).symm.trans H;rw [hy719];with_reducible exact H2_)|(have H2_ := (Option.bind_some _ _).symm.trans H;with_reducible exact H2_)|with_reducible exact H|(rw [hy719];exact H)|exact H
           have Ny719 := Aside0.mk hy719
           clear hy719
           have H' := Aside0.mk H
           clear H
           obtain ⟨Ao44,co44,eo44⟩ := Kd.R_slice HO_20.out
           subst eo44
           go_wp2_with (first|((with_reducible refine gate_callee (f := 57) rfl ?_);refine goesL_ (some 77) rfl rfl Try.func57 (by kernel_rfl) rfl #[.slice Ao44 t687.length co44,.int .i64 0] rfl (by (try simp only [List.map_toArray,List.map_cons,List.map_nil]);first|done|rfl|(simp only [hji8,hji14];rfl)|(simp only [List.length_drop,List.length_take];rfl)) ?_;(with_reducible refine (privityref04_Coefficient.calls _ _ t687 0 t697 _ ?side1 ?side2 A35.out).mono ?_);(case side1 => exact cr HO_20);(case side2 => exact (Kd.R_reads' HO_20.out).2.1);rintro e w' ⟨rfl,⟨nd,rfl⟩⟩;refine ⟨_,rfl,?_⟩)|((with_reducible refine gate_builtin (b := .append) (xs := #[.tmp 75,.tmp 78]) rfl ?_);at_builtin;refine Kd.R_append (Kd.int .u64) (w0 := w) w.heap.size rfl (.tmp 75) (.tmp 78) 26 22 (.int .u64 0) 8 rfl Try.underlying26 info22 rfl (by decide) (by omega) u21 x21_1 t697 [.int .u64 t697] (fun k_ => some k_ ≠ (.slice Ao26 t681.length co26 : Value).ownBlock ∧ some k_ ≠ (.slice Ao44 t687.length co44 : Value).ownBlock) (fun _ => False) rfl rfl ?aP (fun _ hk => hk.elim) ?aF ?aO ?aB ?aS ?aL ?_;(case aP => exact rfl);(case aB => exact (bg HB GE680));(case aF => exact (fun k_ hk => ⟨Kd.fresh' (Kd.R_lt (rr HO_16)) k_ hk,Kd.fresh' (Kd.R_lt (rr HO_20)) k_ hk⟩));(case aO => exact (rr HO_21));(case aS => exact (below_size (bg HB GE680)));(case aL => have := LMc36.out;omega);intro v699 w45 ho hb hg hat;rw [← Ny698.out] at ho;have n0_ := Aside0.mk (Kd.R_after (ok := (fun k_ => some k_ ≠ (.slice Ao44 t687.length co44 : Value).ownBlock)) (rr HO_16) hg hat);have n1_ := Aside0.mk (Kd.R_after (ok := (fun k_ => some k_ ≠ (.slice Ao26 t681.length co26 : Value).ownBlock)) (rr HO_20) hg hat);have n2_ := Aside0.mk (blk_grown (g := gb680) (o := .cells #[.int .u64 a0_0,.int .i64 a0_1,.int .i64 a0_2] 24 (0,0)) (by (with_reducible repeat (first|refine blk_drewN ?_ _|refine blk_drew ?_|refine blk_alloc ?_ _));exact BK680.out) hg (Kd.R_ne HO_21.out BK680.out (by decide)));have n3_ := Aside0.mk (hb);have n4_ := Aside0.mk (ho);clear HO_16 HO_20 BK680 HB HO_21;have HO_16 := n0_;have HO_20 := n1_;have BK680 := n2_;have HB := n3_;have HO700 := n4_;clear n0_ n1_ n2_ n3_ n4_;clear ho hb hg hat)|((with_reducible refine gate_callee (f := 60) rfl ?_);refine goesL_ (some 85) rfl rfl Try.func60 (by kernel_rfl) rfl #[.int .u64 a0_0,.int .u64 a2,.slice Ao26 t681.length co26] rfl (by (try simp only [List.map_toArray,List.map_cons,List.map_nil]);first|done|rfl|(simp only [hji8,hji14];rfl)|(simp only [List.length_drop,List.length_take];rfl)) ?_;(with_reducible refine (privityref04_Scale.calls k1 a0_0 a2 _ _ t681 t701 _ ?side1 ?side2 A37.out).mono ?_);(case side1 => exact cr HO_16);(case side2 => exact (Kd.R_reads' HO_16.out).2.1);rintro e w46 ⟨v702,rfl,ho0,hb⟩;refine ⟨_,rfl,?_⟩;have n0_ := Aside0.mk (Kd.R_elder' (rr HO_16) (Kd.R_base ho0) hb);have n1_ := Aside0.mk (Kd.R_elder' (rr HO_20) (Kd.R_base ho0) hb);have n2_ := Aside0.mk (Kd.R_elder' (rr HO700) (Kd.R_base ho0) hb);have n3_ := Aside0.mk (Kd.R_lower (Kd.R_new' (Kd.R_new' (Kd.R_new' ho0 (Kd.R_lt (rr HO_16))) (Kd.R_lt (rr HO_20))) (Kd.R_lt (rr HO700))) (below_size (bg HB GE680)));have n4_ := Aside0.mk (kb BK680 hb);have n5_ := Aside0.mk (below_step (bg HB GE680) hb);clear HO_16 HO_20 HO700 BK680 HB;have HO_16 := n0_;have HO_20 := n1_;have HO700 := n2_;have HO703 := n3_;have BK680 := n4_;have HB := n5_;clear n0_ n1_ n2_ n3_ n4_ n5_;(try clear hb);(try clear hb2);(try clear hk);(try clear hi);(try clear ho0);obtain ⟨Ao47,co47,eo47⟩ := Kd.R_slice HO703.out;subst eo47)|((with_reducible refine gate_callee (f := 59) rfl ?_);refine goesL_ (some 86) rfl rfl Try.func59 (by kernel_rfl) rfl #[.int .u64 a0_0,.slice A4 (l4.take ((ji8) : Int).toNat).length c4,.slice Ao47 t701.length co47] rfl (by (try simp only [List.map_toArray,List.map_cons,List.map_nil]);first|done|(rw [show (l4.take ((ji8) : Int).toNat).length = (ji8).toNat from (by first|exact HLx0_.out|exact (by rw [List.length_take];have h_ : ((ji8) : Int) ≤ (l4.length : Int) := of_decide_eq_true (by first|(with_reducible assumption)|assumption);omega))] <;> rfl)|(simp only [hji8];rfl)|rfl|(simp only [List.length_drop,List.length_take];rfl)) ?_;(with_reducible refine (privityref04_Add.calls k1 a0_0 _ _ (l4.take ((ji8) : Int).toNat) _ _ t701 t704 _ ?side1 ?side2 ?side3 ?side4 A38.out).mono ?_);(case side1 => exact cb HR684 HB);(case side2 => exact HC684.out);(case side3 => exact cr HO703);(case side4 => exact (Kd.R_reads' HO703.out).2.1);rintro e w48 ⟨v705,rfl,ho0,hb⟩;refine ⟨_,rfl,?_⟩;have n0_ := Aside0.mk (Kd.R_elder' (rr HO_16) (Kd.R_base ho0) hb);have n1_ := Aside0.mk (Kd.R_elder' (rr HO_20) (Kd.R_base ho0) hb);have n2_ := Aside0.mk (Kd.R_elder' (rr HO700) (Kd.R_base ho0) hb);have n3_ := Aside0.mk (Kd.R_elder' (rr HO703) (Kd.R_base ho0) hb);have n4_ := Aside0.mk (Kd.R_lower (Kd.R_new' (Kd.R_new' (Kd.R_new' (Kd.R_new' ho0 (Kd.R_lt (rr HO_16))) (Kd.R_lt (rr HO_20))) (Kd.R_lt (rr HO700))) (Kd.R_lt (rr HO703))) (below_size (bg HB GE680)));have n5_ := Aside0.mk (kb BK680 hb);have n6_ := Aside0.mk (below_step (bg HB GE680) hb);clear HO_16 HO_20 HO700 HO703 BK680 HB;have HO_16 := n0_;have HO_20 := n1_;have HO700 := n2_;have HO703 := n3_;have HO706 := n4_;have BK680 := n5_;have HB := n6_;clear n0_ n1_ n2_ n3_ n4_ n5_ n6_;(try clear hb);(try clear hb2);(try clear hk);(try clear hi);(try clear ho0);obtain ⟨Ao49,co49,eo49⟩ := Kd.R_slice HO706.out;subst eo49)|((with_reducible refine gate_callee (f := 58) rfl ?_);refine goesL_ (some 89) rfl rfl Try.func58 (by kernel_rfl) rfl #[.slice Ao49 t704.length co49,.int .i64 (wrap64 (a0_2 + 1))] rfl (by (try simp only [List.map_toArray,List.map_cons,List.map_nil]);first|done|rfl|(simp only [hji8,hji14];rfl)|(simp only [List.length_drop,List.length_take];rfl)) ?_;(with_reducible refine (privityref43_Fit.calls k1 _ _ t704 (wrap64 (a0_2 + 1)) t707 _ ?side1 ?side2 A39.out).mono ?_);(case side1 => exact cr HO706);(case side2 => exact (Kd.R_reads' HO706.out).2.1);rintro e w50 ⟨v708,rfl,ho0,hb⟩;refine ⟨_,rfl,?_⟩;have n0_ := Aside0.mk (Kd.R_elder' (rr HO_16) (Kd.R_base ho0) hb);have n1_ := Aside0.mk (Kd.R_elder' (rr HO_20) (Kd.R_base ho0) hb);have n2_ := Aside0.mk (Kd.R_elder' (rr HO700) (Kd.R_base ho0) hb);have n3_ := Aside0.mk (Kd.R_elder' (rr HO703) (Kd.R_base ho0) hb);have n4_ := Aside0.mk (Kd.R_elder' (rr HO706) (Kd.R_base ho0) hb);have n5_ := Aside0.mk (Kd.R_lower (Kd.R_new' (Kd.R_new' (Kd.R_new' (Kd.R_new' (Kd.R_new' ho0 (Kd.R_lt (rr HO_16))) (Kd.R_lt (rr HO_20))) (Kd.R_lt (rr HO700))) (Kd.R_lt (rr HO703))) (Kd.R_lt (rr HO706))) (below_size (bg HB GE680)));have n6_ := Aside0.mk (kb BK680 hb);have n7_ := Aside0.mk (below_step (bg HB GE680) hb);clear HO_16 HO_20 HO700 HO703 HO706 BK680 HB;have HO_16 := n0_;have HO_20 := n1_;have HO700 := n2_;have HO703 := n3_;have HO706 := n4_;have HO709 := n5_;have BK680 := n6_;have HB := n7_;clear n0_ n1_ n2_ n3_ n4_ n5_ n6_ n7_;(try clear hb);(try clear hb2);(try clear hk);(try clear hi);(try clear ho0))|((with_reducible refine gate_callee (f := 60) rfl ?_);refine goesL_ (some 96) rfl rfl Try.func60 (by kernel_rfl) rfl #[.int .u64 a0_0,.int .u64 a3,.slice Ao26 t681.length co26] rfl (by (try simp only [List.map_toArray,List.map_cons,List.map_nil]);first|done|rfl|(simp only [hji8,hji14];rfl)|(simp only [List.length_drop,List.length_take];rfl)) ?_;(with_reducible refine (privityref04_Scale.calls k1 a0_0 a3 _ _ t681 t710 _ ?side1 ?side2 A40.out).mono ?_);(case side1 => exact cr HO_16);(case side2 => exact (Kd.R_reads' HO_16.out).2.1);rintro e w51 ⟨v711,rfl,ho0,hb⟩;refine ⟨_,rfl,?_⟩;have n0_ := Aside0.mk (Kd.R_elder' (rr HO_16) (Kd.R_base ho0) hb);have n1_ := Aside0.mk (Kd.R_elder' (rr HO_20) (Kd.R_base ho0) hb);have n2_ := Aside0.mk (Kd.R_elder' (rr HO700) (Kd.R_base ho0) hb);have n3_ := Aside0.mk (Kd.R_elder' (rr HO703) (Kd.R_base ho0) hb);have n4_ := Aside0.mk (Kd.R_elder' (rr HO706) (Kd.R_base ho0) hb);have n5_ := Aside0.mk (Kd.R_elder' (rr HO709) (Kd.R_base ho0) hb);have n6_ := Aside0.mk (Kd.R_lower (Kd.R_new' (Kd.R_new' (Kd.R_new' (Kd.R_new' (Kd.R_new' (Kd.R_new' ho0 (Kd.R_lt (rr HO_16))) (Kd.R_lt (rr HO_20))) (Kd.R_lt (rr HO700))) (Kd.R_lt (rr HO703))) (Kd.R_lt (rr HO706))) (Kd.R_lt (rr HO709))) (below_size (bg HB GE680)));have n7_ := Aside0.mk (kb BK680 hb);have n8_ := Aside0.mk (below_step (bg HB GE680) hb);clear HO_16 HO_20 HO700 HO703 HO706 HO709 BK680 HB;have HO_16 := n0_;have HO_20 := n1_;have HO700 := n2_;have HO703 := n3_;have HO706 := n4_;have HO709 := n5_;have HO712 := n6_;have BK680 := n7_;have HB := n8_;clear n0_ n1_ n2_ n3_ n4_ n5_ n6_ n7_ n8_;(try clear hb);(try clear hb2);(try clear hk);(try clear hi);(try clear ho0);obtain ⟨Ao52,co52,eo52⟩ := Kd.R_slice HO712.out;subst eo52)|((with_reducible refine gate_callee (f := 59) rfl ?_);refine goesL_ (some 97) rfl rfl Try.func59 (by kernel_rfl) rfl #[.int .u64 a0_0,.slice A24 ((l4.take ((ji14) : Int).toNat).drop ((ji8) : Int).toNat).length (c4 - (ji8).toNat),.slice Ao52 t710.length co52] rfl (by (try simp only [List.map_toArray,List.map_cons,List.map_nil]);first|done|(rw [show ((l4.take ((ji14) : Int).toNat).drop ((ji8) : Int).toNat).length = ((ji14).toNat - (ji8).toNat) from (by first|exact HLx1_.out|exact (by rw [List.length_drop,List.length_take];have h_ : ((ji14) : Int) ≤ (l4.length : Int) := of_decide_eq_true (by first|(with_reducible assumption)|assumption);omega))] <;> rfl)|(simp only [hji14,hji8];rfl)|rfl|(simp only [List.length_drop,List.length_take];rfl)) ?_;(with_reducible refine (privityref04_Add.calls k1 a0_0 _ _ ((l4.take ((ji14) : Int).toNat).drop ((ji8) : Int).toNat) _ _ t710 t713 _ ?side1 ?side2 ?side3 ?side4 A41.out).mono ?_);(case side1 => exact cb HR685 HB);(case side2 => exact HC685.out);(case side3 => exact cr HO712);(case side4 => exact (Kd.R_reads' HO712.out).2.1);rintro e w53 ⟨v714,rfl,ho0,hb⟩;refine ⟨_,rfl,?_⟩;have n0_ := Aside0.mk (Kd.R_elder' (rr HO_16) (Kd.R_base ho0) hb);have n1_ := Aside0.mk (Kd.R_elder' (rr HO_20) (Kd.R_base ho0) hb);have n2_ := Aside0.mk (Kd.R_elder' (rr HO700) (Kd.R_base ho0) hb);have n3_ := Aside0.mk (Kd.R_elder' (rr HO703) (Kd.R_base ho0) hb);have n4_ := Aside0.mk (Kd.R_elder' (rr HO706) (Kd.R_base ho0) hb);have n5_ := Aside0.mk (Kd.R_elder' (rr HO709) (Kd.R_base ho0) hb);have n6_ := Aside0.mk (Kd.R_elder' (rr HO712) (Kd.R_base ho0) hb);have n7_ := Aside0.mk (Kd.R_lower (Kd.R_new' (Kd.R_new' (Kd.R_new' (Kd.R_new' (Kd.R_new' (Kd.R_new' (Kd.R_new' ho0 (Kd.R_lt (rr HO_16))) (Kd.R_lt (rr HO_20))) (Kd.R_lt (rr HO700))) (Kd.R_lt (rr HO703))) (Kd.R_lt (rr HO706))) (Kd.R_lt (rr HO709))) (Kd.R_lt (rr HO712))) (below_size (bg HB GE680)));have n8_ := Aside0.mk (kb BK680 hb);have n9_ := Aside0.mk (below_step (bg HB GE680) hb);clear HO_16 HO_20 HO700 HO703 HO706 HO709 HO712 BK680 HB;have HO_16 := n0_;have HO_20 := n1_;have HO700 := n2_;have HO703 := n3_;have HO706 := n4_;have HO709 := n5_;have HO712 := n6_;have HO715 := n7_;have BK680 := n8_;have HB := n9_;clear n0_ n1_ n2_ n3_ n4_ n5_ n6_ n7_ n8_ n9_;(try clear hb);(try clear hb2);(try clear hk);(try clear hi);(try clear ho0);obtain ⟨Ao54,co54,eo54⟩ := Kd.R_slice HO715.out;subst eo54)|((with_reducible refine gate_callee (f := 58) rfl ?_);refine goesL_ (some 100) rfl rfl Try.func58 (by kernel_rfl) rfl #[.slice Ao54 t713.length co54,.int .i64 (wrap64 (a0_2 + 1))] rfl (by (try simp only [List.map_toArray,List.map_cons,List.map_nil]);first|done|rfl|(simp only [hji8,hji14];rfl)|(simp only [List.length_drop,List.length_take];rfl)) ?_;(with_reducible refine (privityref43_Fit.calls k1 _ _ t713 (wrap64 (a0_2 + 1)) t716 _ ?side1 ?side2 A42.out).mono ?_);(case side1 => exact cr HO715);(case side2 => exact (Kd.R_reads' HO715.out).2.1);rintro e w55 ⟨v717,rfl,ho0,hb⟩;refine ⟨_,rfl,?_⟩;have n0_ := Aside0.mk (Kd.R_elder' (rr HO_16) (Kd.R_base ho0) hb);have n1_ := Aside0.mk (Kd.R_elder' (rr HO_20) (Kd.R_base ho0) hb);have n2_ := Aside0.mk (Kd.R_elder' (rr HO700) (Kd.R_base ho0) hb);have n3_ := Aside0.mk (Kd.R_elder' (rr HO703) (Kd.R_base ho0) hb);have n4_ := Aside0.mk (Kd.R_elder' (rr HO706) (Kd.R_base ho0) hb);have n5_ := Aside0.mk (Kd.R_elder' (rr HO709) (Kd.R_base ho0) hb);have n6_ := Aside0.mk (Kd.R_elder' (rr HO712) (Kd.R_base ho0) hb);have n7_ := Aside0.mk (Kd.R_elder' (rr HO715) (Kd.R_base ho0) hb);have n8_ := Aside0.mk (Kd.R_lower (Kd.R_new' (Kd.R_new' (Kd.R_new' (Kd.R_new' (Kd.R_new' (Kd.R_new' (Kd.R_new' (Kd.R_new' ho0 (Kd.R_lt (rr HO_16))) (Kd.R_lt (rr HO_20))) (Kd.R_lt (rr HO700))) (Kd.R_lt (rr HO703))) (Kd.R_lt (rr HO706))) (Kd.R_lt (rr HO709))) (Kd.R_lt (rr HO712))) (Kd.R_lt (rr HO715))) (below_size (bg HB GE680)));have n9_ := Aside0.mk (kb BK680 hb);have n10_ := Aside0.mk (below_step (bg HB GE680) hb);clear HO_16 HO_20 HO700 HO703 HO706 HO709 HO712 HO715 BK680 HB;have HO_16 := n0_;have HO_20 := n1_;have HO700 := n2_;have HO703 := n3_;have HO706 := n4_;have HO709 := n5_;have HO712 := n6_;have HO715 := n7_;have HO718 := n8_;have BK680 := n9_;have HB := n10_;clear n0_ n1_ n2_ n3_ n4_ n5_ n6_ n7_ n8_ n9_ n10_;(try clear hb);(try clear hb2);(try clear hk);(try clear hi);(try clear ho0);obtain ⟨Ao57,co57,eo57⟩ := Kd.R_slice HO718.out;subst eo57)|((with_reducible refine gate_builtin (b := .append) (xs := #[.tmp 90,.tmp 100]) rfl ?_);at_builtin;refine Kd.R_append_rows (Kd.int .u64) (w0 := w) w.heap.size rfl (.tmp 90) (.tmp 100) 26 22 (.int .u64 0) 8 rfl Try.underlying26 info22 rfl (by decide) (by omega) v708 t707 t716 _ _ _ (fun k_ => some k_ ≠ (.slice Ao26 t681.length co26 : Value).ownBlock ∧ some k_ ≠ (.slice Ao44 t687.length co44 : Value).ownBlock ∧ some k_ ≠ (v699 : Value).ownBlock ∧ some k_ ≠ (.slice Ao47 t701.length co47 : Value).ownBlock ∧ some k_ ≠ (.slice Ao49 t704.length co49 : Value).ownBlock ∧ some k_ ≠ (.slice Ao52 t710.length co52 : Value).ownBlock ∧ some k_ ≠ (.slice Ao54 t713.length co54 : Value).ownBlock ∧ some k_ ≠ (.slice Ao57 t716.length co57 : Value).ownBlock) (fun _ => False) rfl rfl ?aO ?aR (fun _ _ h => h) (fun _ h => h.elim) ?aF ?aB ?aS ?aL ?_;(case aR => repeat (first|exact (Kd.R_reads' HO718.out).2.2|(with_reducible refine Kd.C_alloc ?_ _)|(with_reducible refine Kd.C_drewN ?_ _)|(with_reducible refine Kd.C_drew ?_)));(case aB => exact (bg HB GE680));(case aF => exact (fun k_ hk => ⟨Kd.fresh' (Kd.R_lt (rr HO_16)) k_ hk,Kd.fresh' (Kd.R_lt (rr HO_20)) k_ hk,Kd.fresh' (Kd.R_lt (rr HO700)) k_ hk,Kd.fresh' (Kd.R_lt (rr HO703)) k_ hk,Kd.fresh' (Kd.R_lt (rr HO706)) k_ hk,Kd.fresh' (Kd.R_lt (rr HO712)) k_ hk,Kd.fresh' (Kd.R_lt (rr HO715)) k_ hk,Kd.fresh' (Kd.R_lt (rr HO718)) k_ hk⟩));(case aO => exact (by (with_reducible repeat (first|apply Kd.R_alloc|apply Kd.R_drewN|apply Kd.R_drew));exact Kd.R_mono HO709.out (fun _ hk => ⟨hk.1.1.1.1.1.1.1.2,⟨hk.1.1.1.1.1.1.2,⟨hk.1.1.1.1.1.2,⟨hk.1.1.1.1.2,⟨hk.1.1.1.2,⟨hk.1.1.2,⟨hk.1.2,hk.2⟩⟩⟩⟩⟩⟩⟩)));(case aS => exact (below_size (bg HB GE680)));(case aL => have := LMc43.out;omega);intro v720 w56 ho hb hg hat;rw [← Ny719.out] at ho;have n0_ := Aside0.mk (Kd.R_after (ok := (fun k_ => some k_ ≠ (.slice Ao44 t687.length co44 : Value).ownBlock ∧ some k_ ≠ (v699 : Value).ownBlock ∧ some k_ ≠ (.slice Ao47 t701.length co47 : Value).ownBlock ∧ some k_ ≠ (.slice Ao49 t704.length co49 : Value).ownBlock ∧ some k_ ≠ (.slice Ao52 t710.length co52 : Value).ownBlock ∧ some k_ ≠ (.slice Ao54 t713.length co54 : Value).ownBlock ∧ some k_ ≠ (.slice Ao57 t716.length co57 : Value).ownBlock)) (by (with_reducible repeat (first|apply Kd.R_alloc|apply Kd.R_drewN|apply Kd.R_drew));exact Kd.R_mono HO_16.out (fun _ hk => ⟨⟨hk.1.1.1.1.1.1.1,⟨hk.1.1.1.1.1.1.2,⟨hk.1.1.1.1.1.2,⟨hk.1.1.1.1.2,⟨hk.1.1.2,⟨hk.1.2,hk.2⟩⟩⟩⟩⟩⟩,hk.1.1.1.2⟩)) hg hat);have n1_ := Aside0.mk (Kd.R_after (ok := (fun k_ => some k_ ≠ (.slice Ao26 t681.length co26 : Value).ownBlock ∧ some k_ ≠ (v699 : Value).ownBlock ∧ some k_ ≠ (.slice Ao47 t701.length co47 : Value).ownBlock ∧ some k_ ≠ (.slice Ao49 t704.length co49 : Value).ownBlock ∧ some k_ ≠ (.slice Ao52 t710.length co52 : Value).ownBlock ∧ some k_ ≠ (.slice Ao54 t713.length co54 : Value).ownBlock ∧ some k_ ≠ (.slice Ao57 t716.length co57 : Value).ownBlock)) (by (with_reducible repeat (first|apply Kd.R_alloc|apply Kd.R_drewN|apply Kd.R_drew));exact Kd.R_mono HO_20.out (fun _ hk => ⟨⟨hk.1.1.1.1.1.1.1,⟨hk.1.1.1.1.1.1.2,⟨hk.1.1.1.1.1.2,⟨hk.1.1.1.1.2,⟨hk.1.1.2,⟨hk.1.2,hk.2⟩⟩⟩⟩⟩⟩,hk.1.1.1.2⟩)) hg hat);have n2_ := Aside0.mk (blk_grown (g := gb680) (o := .cells #[.int .u64 a0_0,.int .i64 a0_1,.int .i64 a0_2] 24 (0,0)) (by (with_reducible repeat (first|refine blk_drewN ?_ _|refine blk_drew ?_|refine blk_alloc ?_ _));exact BK680.out) hg (Kd.R_ne HO709.out BK680.out (by decide)));have n3_ := Aside0.mk (Kd.R_after (ok := (fun k_ => some k_ ≠ (.slice Ao26 t681.length co26 : Value).ownBlock ∧ some k_ ≠ (.slice Ao44 t687.length co44 : Value).ownBlock ∧ some k_ ≠ (.slice Ao47 t701.length co47 : Value).ownBlock ∧ some k_ ≠ (.slice Ao49 t704.length co49 : Value).ownBlock ∧ some k_ ≠ (.slice Ao52 t710.length co52 : Value).ownBlock ∧ some k_ ≠ (.slice Ao54 t713.length co54 : Value).ownBlock ∧ some k_ ≠ (.slice Ao57 t716.length co57 : Value).ownBlock)) (by (with_reducible repeat (first|apply Kd.R_alloc|apply Kd.R_drewN|apply Kd.R_drew));exact Kd.R_mono HO700.out (fun _ hk => ⟨⟨hk.1.1.1.1.1.1.1,⟨hk.1.1.1.1.1.1.2,⟨hk.1.1.1.1.1.2,⟨hk.1.1.1.1.2,⟨hk.1.1.2,⟨hk.1.2,hk.2⟩⟩⟩⟩⟩⟩,hk.1.1.1.2⟩)) hg hat);have n4_ := Aside0.mk (Kd.R_after (ok := (fun k_ => some k_ ≠ (.slice Ao26 t681.length co26 : Value).ownBlock ∧ some k_ ≠ (.slice Ao44 t687.length co44 : Value).ownBlock ∧ some k_ ≠ (v699 : Value).ownBlock ∧ some k_ ≠ (.slice Ao49 t704.length co49 : Value).ownBlock ∧ some k_ ≠ (.slice Ao52 t710.length co52 : Value).ownBlock ∧ some k_ ≠ (.slice Ao54 t713.length co54 : Value).ownBlock ∧ some k_ ≠ (.slice Ao57 t716.length co57 : Value).ownBlock)) (by (with_reducible repeat (first|apply Kd.R_alloc|apply Kd.R_drewN|apply Kd.R_drew));exact Kd.R_mono HO703.out (fun _ hk => ⟨⟨hk.1.1.1.1.1.1.1.2,⟨hk.1.1.1.1.1.1.2,⟨hk.1.1.1.1.1.2,⟨hk.1.1.1.1.2,⟨hk.1.1.2,⟨hk.1.2,hk.2⟩⟩⟩⟩⟩⟩,hk.1.1.1.2⟩)) hg hat);have n5_ := Aside0.mk (Kd.R_after (ok := (fun k_ => some k_ ≠ (.slice Ao26 t681.length co26 : Value).ownBlock ∧ some k_ ≠ (.slice Ao44 t687.length co44 : Value).ownBlock ∧ some k_ ≠ (v699 : Value).ownBlock ∧ some k_ ≠ (.slice Ao47 t701.length co47 : Value).ownBlock ∧ some k_ ≠ (.slice Ao52 t710.length co52 : Value).ownBlock ∧ some k_ ≠ (.slice Ao54 t713.length co54 : Value).ownBlock ∧ some k_ ≠ (.slice Ao57 t716.length co57 : Value).ownBlock)) (by (with_reducible repeat (first|apply Kd.R_alloc|apply Kd.R_drewN|apply Kd.R_drew));exact Kd.R_mono HO706.out (fun _ hk => ⟨⟨hk.1.1.1.1.1.1.1.2,⟨hk.1.1.1.1.1.1.2,⟨hk.1.1.1.1.1.2,⟨hk.1.1.1.1.2,⟨hk.1.1.2,⟨hk.1.2,hk.2⟩⟩⟩⟩⟩⟩,hk.1.1.1.2⟩)) hg hat);have n6_ := Aside0.mk (Kd.R_after (ok := (fun k_ => some k_ ≠ (.slice Ao26 t681.length co26 : Value).ownBlock ∧ some k_ ≠ (.slice Ao44 t687.length co44 : Value).ownBlock ∧ some k_ ≠ (v699 : Value).ownBlock ∧ some k_ ≠ (.slice Ao47 t701.length co47 : Value).ownBlock ∧ some k_ ≠ (.slice Ao49 t704.length co49 : Value).ownBlock ∧ some k_ ≠ (.slice Ao54 t713.length co54 : Value).ownBlock ∧ some k_ ≠ (.slice Ao57 t716.length co57 : Value).ownBlock)) (by (with_reducible repeat (first|apply Kd.R_alloc|apply Kd.R_drewN|apply Kd.R_drew));exact Kd.R_mono HO712.out (fun _ hk => ⟨⟨hk.1.1.1.1.1.1.1.2,⟨hk.1.1.1.1.1.1.2,⟨hk.1.1.1.1.1.2,⟨hk.1.1.1.1.2,⟨hk.1.1.1.2,⟨hk.1.2,hk.2⟩⟩⟩⟩⟩⟩,hk.1.1.2⟩)) hg hat);have n7_ := Aside0.mk (Kd.R_after (ok := (fun k_ => some k_ ≠ (.slice Ao26 t681.length co26 : Value).ownBlock ∧ some k_ ≠ (.slice Ao44 t687.length co44 : Value).ownBlock ∧ some k_ ≠ (v699 : Value).ownBlock ∧ some k_ ≠ (.slice Ao47 t701.length co47 : Value).ownBlock ∧ some k_ ≠ (.slice Ao49 t704.length co49 : Value).ownBlock ∧ some k_ ≠ (.slice Ao52 t710.length co52 : Value).ownBlock ∧ some k_ ≠ (.slice Ao57 t716.length co57 : Value).ownBlock)) (by (with_reducible repeat (first|apply Kd.R_alloc|apply Kd.R_drewN|apply Kd.R_drew));exact Kd.R_mono HO715.out (fun _ hk => ⟨⟨hk.1.1.1.1.1.1.1.2,⟨hk.1.1.1.1.1.1.2,⟨hk.1.1.1.1.1.2,⟨hk.1.1.1.1.2,⟨hk.1.1.1.2,⟨hk.1.2,hk.2⟩⟩⟩⟩⟩⟩,hk.1.1.2⟩)) hg hat);have n8_ := Aside0.mk (Kd.R_after (ok := (fun k_ => some k_ ≠ (.slice Ao26 t681.length co26 : Value).ownBlock ∧ some k_ ≠ (.slice Ao44 t687.length co44 : Value).ownBlock ∧ some k_ ≠ (v699 : Value).ownBlock ∧ some k_ ≠ (.slice Ao47 t701.length co47 : Value).ownBlock ∧ some k_ ≠ (.slice Ao49 t704.length co49 : Value).ownBlock ∧ some k_ ≠ (.slice Ao52 t710.length co52 : Value).ownBlock ∧ some k_ ≠ (.slice Ao54 t713.length co54 : Value).ownBlock)) (by (with_reducible repeat (first|apply Kd.R_alloc|apply Kd.R_drewN|apply Kd.R_drew));exact Kd.R_mono HO718.out (fun _ hk => ⟨⟨hk.1.1.1.1.1.1.1.2,⟨hk.1.1.1.1.1.1.2,⟨hk.1.1.1.1.1.2,⟨hk.1.1.1.1.2,⟨hk.1.1.1.2,⟨hk.1.2,hk.2⟩⟩⟩⟩⟩⟩,hk.1.1.2⟩)) hg hat);have n9_ := Aside0.mk (hb);have n10_ := Aside0.mk (ho);clear HO_16 HO_20 BK680 HO700 HO703 HO706 HO712 HO715 HO718 HB HO709;have HO_16 := n0_;have HO_20 := n1_;have BK680 := n2_;have HO700 := n3_;have HO703 := n4_;have HO706 := n5_;have HO712 := n6_;have HO715 := n7_;have HO718 := n8_;have HB := n9_;have HO721 := n10_;clear n0_ n1_ n2_ n3_ n4_ n5_ n6_ n7_ n8_ n9_ n10_;clear ho hb hg hat))
           go_loopg [23,24] k1 (fun kq v23 v24 w' => ∃ (x23_2 : List Int) (x24_2 : Int),v24 = .int .i64 x24_2 ∧ Aside0 (privityref43_Triple.l1 kq l5 a0_0 a0_2 t681 (l4.drop ((ji14) : Int).toNat) y698 x23_2 x24_2 = some (r1,r2)) ∧ Aside0 (kq ≤ k1) ∧ Aside0 (Kd.R (Kd.int .u64) 22 w' w.heap.size (fun k_ => some k_ ≠ (v699 : Value).ownBlock ∧ some k_ ≠ (v23 : Value).ownBlock) (.slice Ao26 t681.length co26) t681) ∧ Aside0 (Kd.R (Kd.int .u64) 22 w' w.heap.size (fun k_ => some k_ ≠ ((.slice Ao26 t681.length co26) : Value).ownBlock ∧ some k_ ≠ (v23 : Value).ownBlock) v699 y698) ∧ Aside0 (Kd.R (Kd.int .u64) 22 w' w.heap.size (fun k_ => some k_ ≠ ((.slice Ao26 t681.length co26) : Value).ownBlock ∧ some k_ ≠ (v699 : Value).ownBlock) v23 x23_2) ∧ Aside0 (w'.heap[gb680]? = some (.cells #[.int .u64 a0_0,.int .i64 a0_1,.int .i64 a0_2] 24 (0,0))) ∧ Aside0 (Below w.heap.size w w'))
           case atStart => exact ⟨(y719),(1),(by first|rfl|(simp;done)|(simp [*];done)),H',⟨Nat.le_refl _⟩,⟨by (with_reducible repeat (first|apply Kd.R_alloc|apply Kd.R_drewN|apply Kd.R_drew));exact Kd.R_mono HO_16.out (fun _ hk => ⟨hk.1.2.1,hk.2⟩)⟩,⟨by (with_reducible repeat (first|apply Kd.R_alloc|apply Kd.R_drewN|apply Kd.R_drew));exact Kd.R_mono HO700.out (fun _ hk => ⟨hk.1.1,hk.2⟩)⟩,⟨by (with_reducible repeat (first|apply Kd.R_alloc|apply Kd.R_drewN|apply Kd.R_drew));exact Kd.R_mono HO721.out (fun _ hk => ⟨hk.1,hk.2.2.1⟩)⟩,⟨by (with_reducible repeat (first|refine blk_drewN ?_ _|refine blk_drew ?_|refine blk_alloc ?_ _));exact BK680.out⟩,⟨by repeat (first|(with_reducible first|exact HB.out|apply below_alloc|apply pw_below_drewN|apply below_drew1|refine below_set ?_ GE680.out)|exact HB.out)⟩⟩
           case round =>
            clear H'
            try clear c1
            try clear c2
            try clear p2
            try clear c3
            try clear c4
            try clear c5
            try clear c6
            try clear p6
            try clear c9
            try clear c9b0
            try clear c9b1
            try clear c10
            try clear c10b0
            try clear c10b1
            try clear c11
            try clear c11b0
            try clear c12
            try clear c12b0
            try clear c12b1
            try clear c13
            try clear c13b0
            try clear c13b1
            try clear c15
            try clear c15b0
            try clear c15b1
            try clear c16
            try clear c16b0
            try clear c26
            try clear c30
            try clear c30b0
            try clear c32
            try clear c36
            try clear c43
            try clear c49
            try clear c56
            try clear c57
            try clear hcz20_0
            try clear hcz20_1
            try clear hcz20_2
            try clear hfz20_0
            try clear hfz20_1
            try clear hfz20_2
            try clear p2
            try clear p6
            obtain ⟨x23_2,x24_2,rfl,HA,HK2,HO_16,HO_21,HO_23,BK680,HB⟩ := hrel
            cases gk with
            | zero => exact absurd HA.out (by simp [privityref43_Triple.l1])
            | succ k2 =>
             have H := HA.out
             clear HA
             simp only [privityref43_Triple.l1] at H
             by_cases c58 : x24_2 ≤ a0_2
             ·rw [if_pos c58] at H
              have c58b0 : decide (x24_2 ≤ a0_2) = true := decide_eq_true c58
              clear c58
              have H' := Aside0.mk H
              clear H
              go_wp2
              go_loopg [23,25] k2 (fun kq v23 v25 w' => ∃ (x23_3 : List Int) (x25_3 : Int),v25 = .int .i64 x25_3 ∧ Aside0 (privityref43_Triple.l2 kq l5 a0_0 a0_2 t681 (l4.drop ((ji14) : Int).toNat) y698 x23_3 x24_2 x25_3 = some (r1,r2)) ∧ Aside0 (kq ≤ k2) ∧ Aside0 (Kd.R (Kd.int .u64) 22 w' w.heap.size (fun k_ => some k_ ≠ (v699 : Value).ownBlock ∧ some k_ ≠ (v23 : Value).ownBlock) (.slice Ao26 t681.length co26) t681) ∧ Aside0 (Kd.R (Kd.int .u64) 22 w' w.heap.size (fun k_ => some k_ ≠ ((.slice Ao26 t681.length co26) : Value).ownBlock ∧ some k_ ≠ (v23 : Value).ownBlock) v699 y698) ∧ Aside0 (Kd.R (Kd.int .u64) 22 w' w.heap.size (fun k_ => some k_ ≠ ((.slice Ao26 t681.length co26) : Value).ownBlock ∧ some k_ ≠ (v699 : Value).ownBlock) v23 x23_3) ∧ Aside0 (w'.heap[gb680]? = some (.cells #[.int .u64 a0_0,.int .i64 a0_1,.int .i64 a0_2] 24 (0,0))) ∧ Aside0 (Below w.heap.size w w'))
              case atStart => exact ⟨(x23_2),(0),(by first|rfl|(simp;done)|(simp [*];done)),H',⟨Nat.le_refl _⟩,⟨by (with_reducible repeat (first|apply Kd.R_alloc|apply Kd.R_drewN|apply Kd.R_drew));exact HO_16.out⟩,⟨by (with_reducible repeat (first|apply Kd.R_alloc|apply Kd.R_drewN|apply Kd.R_drew));exact HO_21.out⟩,⟨by (with_reducible repeat (first|apply Kd.R_alloc|apply Kd.R_drewN|apply Kd.R_drew));exact HO_23.out⟩,⟨by (with_reducible repeat (first|refine blk_drewN ?_ _|refine blk_drew ?_|refine blk_alloc ?_ _));exact BK680.out⟩,⟨by repeat (first|(with_reducible first|exact HB.out|apply below_alloc|apply pw_below_drewN|apply below_drew1|refine below_set ?_ GE680.out)|exact HB.out)⟩⟩
              case round =>
               clear H'
               try clear c1
               try clear c2
               try clear p2
               try clear c3
               try clear c4
               try clear c5
               try clear c6
               try clear p6
               try clear c9
               try clear c9b0
               try clear c9b1
               try clear c10
               try clear c10b0
               try clear c10b1
               try clear c11
               try clear c11b0
               try clear c12
               try clear c12b0
               try clear c12b1
               try clear c13
               try clear c13b0
               try clear c13b1
               try clear c15
               try clear c15b0
               try clear c15b1
               try clear c16
               try clear c16b0
               try clear c26
               try clear c30
               try clear c30b0
               try clear c32
               try clear c36
               try clear c43
               try clear c49
               try clear c56
               try clear c57
               try clear c58
               try clear c58b0
               try clear hcz20_0
               try clear hcz20_1
               try clear hcz20_2
               try clear hfz20_0
               try clear hfz20_1
               try clear hfz20_2
               try clear p2
               try clear p6
               obtain ⟨x23_3,x25_3,rfl,HA,HK3,HO_16,HO_21,HO_23,BK680,HB⟩ := hrel
               cases gk with
               | zero => exact absurd HA.out (by simp [privityref43_Triple.l2])
               | succ k3 =>
                have H := HA.out
                clear HA
                simp only [privityref43_Triple.l2] at H
                by_cases c59 : x25_3 < a0_2
                ·rw [if_pos c59] at H
                 have c59b0 : decide (x25_3 < a0_2) = true := decide_eq_true c59
                 clear c59
                 obtain ⟨ji60,hji60⟩ : ∃ j_ : Int,(wrap64 ((wrap64 ((wrap64 (x24_2 - 1)) * a0_2)) + x25_3)) = j_ := ⟨_,rfl⟩
                 first|rw [hji60] at H|simp only [hji60] at H
                 have hji60w : (IntKind.i64.wrap ((wrap64 ((wrap64 (x24_2 - 1)) * a0_2)) + x25_3)) = ji60 := (i64_w _).trans hji60
                 by_cases c61 : 0 ≤ (ji60)
                 ·rw [if_pos c61] at H
                  have c61b0 : decide (0 ≤ (ji60)) = true := decide_eq_true c61
                  clear c61
                  by_cases c62 : (ji60) < ((l4.drop ((ji14) : Int).toNat).length : Int)
                  ·rw [if_pos c62] at H
                   have c62b0 : decide ((ji60) < ((l4.drop ((ji14) : Int).toNat).length : Int)) = true := decide_eq_true c62
                   clear c62
                   obtain ⟨ji63,hji63⟩ : ∃ j_ : Int,(wrap64 (x24_2 + 1)) = j_ := ⟨_,rfl⟩
                   first|rw [hji63] at H|simp only [hji63] at H
                   have hji63w : (IntKind.i64.wrap (x24_2 + 1)) = ji63 := (i64_w _).trans hji63
                   by_cases c64 : 0 ≤ (ji63)
                   ·rw [if_pos c64] at H
                    have c64b0 : decide (0 ≤ (ji63)) = true := decide_eq_true c64
                    clear c64
                    by_cases c65 : (ji63) < (y698.length : Int)
                    ·rw [if_pos c65] at H
                     have c65b0 : decide ((ji63) < (y698.length : Int)) = true := decide_eq_true c65
                     clear c65
                     by_cases c66 : 0 ≤ x25_3
                     ·rw [if_pos c66] at H
                      have c66b0 : decide (0 ≤ x25_3) = true := decide_eq_true c66
                      clear c66
                      by_cases c67 : x25_3 < (t681.length : Int)
                      ·rw [if_pos c67] at H
                       have c67b0 : decide (x25_3 < (t681.length : Int)) = true := decide_eq_true c67
                       clear c67
                       replace H := Option.bind_eq_some_iff.mp H
                       obtain ⟨t725,A680,H⟩ := H
                       try dsimp only at H
                       have A68 := Aside0.mk A680
                       clear A680
                       replace H := Option.bind_eq_some_iff.mp H
                       obtain ⟨t726,A690,H⟩ := H
                       try dsimp only at H
                       have A69 := Aside0.mk A690
                       clear A690
                       by_cases c70 : x23_3.length < 17592186044416
                       ·rw [if_pos c70] at H
                        have LMc70 := Aside0.mk c70
                        clear c70
                        obtain ⟨y727,hy727⟩ : ∃ y_ : List Int,y_ = (x23_3 ++ [t726]) := ⟨_,rfl⟩
                        replace H : (privityref43_Triple.l2 k3 l5 a0_0 a0_2 t681 (l4.drop ((ji14) : Int).toNat) y698 y727 x24_2 (wrap64 (x25_3 + 1))) = some (r1,r2) := by first|(rw [hy727];with_reducible exact H)|(have H2_ := (Option.bind_some _ _).symm.trans H;rw [hy727];with_reducible exact H2_)|(have H2_ := (Option.bind_some _ _).symm.trans H;with_reducible exact H2_)|with_reducible exact H|(rw [hy727];exact H)|exact H
                        have Ny727 := Aside0.mk hy727
                        clear hy727
                        have H' := Aside0.mk H
                        clear H
                        try go_wp2
                        have n0_ := Aside0.mk (Kd.R_drew HO_16.out)
                        have n1_ := Aside0.mk (Kd.R_drew HO_21.out)
                        have n2_ := Aside0.mk (Kd.R_drew HO_23.out)
                        have n3_ := Aside0.mk (blk_drew BK680.out)
                        have n4_ := Aside0.mk (below_drew1 HB.out)
                        clear HO_16
                        clear HO_21
                        clear HO_23
                        clear BK680
                        clear HB
                        have HO_16 := n0_
                        have HO_21 := n1_
                        have HO_23 := n2_
                        have BK680 := n3_
                        have HB := n4_
                        clear n0_ n1_ n2_ n3_ n4_
                        have p722 : 0 ≤ ((ji60) : Int) := of_decide_eq_true (by first|(with_reducible assumption)|assumption)
                        have q722 : (ji60) < ((l4.drop ((ji14) : Int).toNat).length : Int) := of_decide_eq_true (by first|(with_reducible assumption)|assumption)
                        have q722_ : (ji60 < ((l4.length - (ji14).toNat : Nat) : Int)) = True := eq_true (by rw [← List.length_drop];exact q722)
                        obtain ⟨ad722,e722,hx722_0⟩ := Kd.at_int HR686.out (ji60) p722 q722
                        have hw722_0 := hx722_0
                        cases e722
                        replace hx722_0 := (HB.out.cell (World.block_lt_of_cell? w _ hx722_0)).trans hx722_0
                        replace p722 := eq_true p722
                        replace q722 := eq_true q722
                        obtain ⟨Ao72,co72,eo72⟩ := Kd.R_slice HO_21.out
                        (first|subst eo72|(injection eo72 with f1_ f2_ f3_;have f4_ := f1_.symm;have f5_ := f3_.symm;clear f1_ f2_ f3_;subst f4_;subst f5_))
                        have p723 : 0 ≤ ((ji63) : Int) := of_decide_eq_true (by first|(with_reducible assumption)|assumption)
                        have q723 : (ji63) < (y698.length : Int) := of_decide_eq_true (by first|(with_reducible assumption)|assumption)
                        obtain ⟨ad723,e723,hx723_0⟩ := Kd.at_int (Kd.R_reads' HO_21.out).2.2 (ji63) p723 q723
                        cases e723
                        replace p723 := eq_true p723
                        replace q723 := eq_true q723
                        have p724 : 0 ≤ (x25_3 : Int) := of_decide_eq_true (by first|(with_reducible assumption)|assumption)
                        have q724 : x25_3 < (t681.length : Int) := of_decide_eq_true (by first|(with_reducible assumption)|assumption)
                        obtain ⟨ad724,e724,hx724_0⟩ := Kd.at_int (Kd.R_reads' HO_16.out).2.2 x25_3 p724 q724
                        cases e724
                        replace p724 := eq_true p724
                        replace q724 := eq_true q724
                        refine start_ (n := 26) (S := fun w' => w'.cell? (ad722.add ((ji60)).toNat) = some (.int .u64 (rd (l4.drop ((ji14) : Int).toNat) (ji60))) ∧ w'.cell? (ad723.add ((ji63)).toNat) = some (.int .u64 (rd y698 (ji63))) ∧ w'.cell? (ad724.add (x25_3).toNat) = some (.int .u64 (rd t681 x25_3))) (ds := [23,24]) (bz 26 0) (by kernel_rfl) rfl rfl ⟨((HB.out.cell (World.block_lt_of_cell? w _ hw722_0)).trans hw722_0),hx723_0,hx724_0⟩ (fun hHeld => ?_);refine with_tabW privityref43_Triple.tab19 privityref43_Triple.bits19 (fun HT_ HW_ => ?_)
                        generalize wr.drew = w71 at HO_16 HO_21 HO_23 BK680 HB hx722_0 hx723_0 hx724_0 hHeld ⊢
                        refine pk 0 112 (bz 26 1) HT_ ?_
                        refine pk 1 113 (bz 26 3) HT_ ?_
                        refine pk 2 114 (bz 26 7) HT_ ?_
                        refine pk 3 115 (bz 26 15) HT_ ?_
                        refine pk 4 116 (bz 26 31) HT_ ?_
                        refine pk 5 117 (bz 26 63) HT_ ?_
                        refine pk 6 118 (bz 26 127) HT_ ?_
                        refine pk 7 119 (bz 26 255) HT_ ?_
                        refine pk 8 120 (bz 26 511) HT_ ?_
                        refine pk 9 121 (bz 26 1023) HT_ ?_
                        refine pk 11 123 (bz 26 3071) HT_ ?_
                        refine pk 12 124 (bz 26 7167) HT_ ?_
                        refine pk 13 125 (bz 26 15359) HT_ ?_
                        refine pk 14 126 (bz 26 31743) HT_ ?_
                        refine pk 15 127 (bz 26 64511) HT_ ?_
                        refine pk 17 129 (bz 26 195583) HT_ ?_
                        refine pk 18 130 (bz 26 457727) HT_ ?_
                        refine pk 19 131 (bz 26 982015) HT_ ?_
                        refine tk 10 122 (bz 26 983039) HT_ HW_ hHeld ?_
                        refine tk 16 128 (bz 26 1048575) HT_ HW_ hHeld ?_
                        refine tk 20 132 (bz 26 2097151) HT_ HW_ hHeld ?_
                        refine one_ (i := 21) (N := some 133) (bz 26 4194303) rfl rfl (one_of HT_.out (by kernel_rfl)) (by decide) (fun K hK => ?_)
                        refine goes_ Try.func31 (by kernel_rfl) rfl #[.int .u64 a0_0,.int .u64 (rd y698 (ji63)),.int .u64 (rd t681 x25_3)] (by rfl) rfl rfl (by (try simp only [List.map_toArray,List.map_cons,List.map_nil]);first|done|(simp only [hji63];rfl)|rfl|(simp only [List.length_drop,List.length_take];rfl)) ?_
                        with_reducible refine (privityref01_Mul.calls k3 a0_0 (rd y698 (ji63)) (rd t681 x25_3) t725 _ A68.out).mono ?_
                        rintro e w' ⟨rfl,⟨nd,rfl⟩⟩
                        refine ⟨_,rfl,?_⟩
                        refine hK.out _ _ ⟨((HB.out.cell (World.block_lt_of_cell? w _ hw722_0)).trans hw722_0),hHeld.2.1,hHeld.2.2⟩ (fun hHeld => ?_)
                        clear hK K
                        refine nm 133 ?_
                        refine one_ (i := 22) (N := some 134) (bz 26 8388607) rfl rfl (one_of HT_.out (by kernel_rfl)) (by decide) (fun K hK => ?_)
                        refine goes_ Try.func17 (by kernel_rfl) rfl #[.int .u64 a0_0,.int .u64 (rd (l4.drop ((ji14) : Int).toNat) (ji60)),.int .u64 t725] (by rfl) rfl rfl (by (try simp only [List.map_toArray,List.map_cons,List.map_nil]);first|done|(simp only [hji14,hji60];rfl)|rfl|(simp only [List.length_drop,List.length_take];rfl)) ?_
                        with_reducible refine (privityref01_Add.calls a0_0 (rd (l4.drop ((ji14) : Int).toNat) (ji60)) t725 t726 _ A69.out).mono ?_
                        rintro e w' ⟨rfl,⟨nd,rfl⟩⟩
                        refine ⟨_,rfl,?_⟩
                        refine hK.out _ _ ⟨((HB.out.cell (World.block_lt_of_cell? w _ hw722_0)).trans hw722_0),hHeld.2.1,hHeld.2.2⟩ (fun hHeld => ?_)
                        clear hK K
                        refine nm 134 ?_
                        refine last_ (i := 23) (N := some 135) (bz 26 16777215) rfl rfl (one_of HT_.out (by kernel_rfl)) (by decide) (fun K hK => ?_)
                        refine value_ (w1 := ?_) (v := ?_) (by rfl) rfl ?_ ?_
                        rotate_left 2
                        ·go_simp
                         constructor
                         ·rfl
                         ·rfl
                        refine hK.out _ _ ?_
                        clear hK K
                        refine nm 135 ?_
                        refine last_ (i := 24) (N := some 136) (bz 26 33554431) rfl rfl (one_of HT_.out (by kernel_rfl)) (by decide) (fun K hK => ?_)
                        refine Kd.R_append_step (Kd.int .u64) (w0 := w) w.heap.size (by rfl) (.tmp 112) (.tmp 135) 26 22 (.int .u64 0) 8 rfl Try.underlying26 info22 rfl (by decide) (by omega) u23 x23_3 t726 [.int .u64 t726] (fun k_ => some k_ ≠ (.slice (some ad724) t681.length co26 : Value).ownBlock ∧ some k_ ≠ (.slice (some ad723) y698.length co72 : Value).ownBlock) (fun _ => False) rfl rfl ?aP (fun _ hk => hk.elim) ?aF ?aO ?aB ?aS ?aL ?_
                        (case aP => exact rfl)
                        (case aB => exact (bg HB GE680))
                        (case aF => exact (fun k_ hk => ⟨Kd.fresh' (Kd.R_lt (rr HO_16)) k_ hk,Kd.fresh' (Kd.R_lt (rr HO_21)) k_ hk⟩))
                        (case aO => exact (rr HO_23))
                        (case aS => exact (below_size (bg HB GE680)))
                        (case aL => have := LMc70.out;omega)
                        intro v728 w73 ho hb hg hat
                        rw [← Ny727.out] at ho
                        have n0_ := Aside0.mk (Kd.R_after (ok := (fun k_ => some k_ ≠ (.slice (some ad723) y698.length co72 : Value).ownBlock)) (rr HO_16) hg hat)
                        have n1_ := Aside0.mk (Kd.R_after (ok := (fun k_ => some k_ ≠ (.slice (some ad724) t681.length co26 : Value).ownBlock)) (rr HO_21) hg hat)
                        have n2_ := Aside0.mk (blk_grown (g := gb680) (o := .cells #[.int .u64 a0_0,.int .i64 a0_1,.int .i64 a0_2] 24 (0,0)) (by (with_reducible repeat (first|refine blk_drewN ?_ _|refine blk_drew ?_|refine blk_alloc ?_ _));exact BK680.out) hg (Kd.R_ne HO_23.out BK680.out (by decide)))
                        have n3_ := Aside0.mk (hb)
                        have n4_ := Aside0.mk (ho)
                        clear HO_16
                        clear HO_21
                        clear BK680
                        clear HB
                        clear HO_23
                        have HO_16 := n0_
                        have HO_21 := n1_
                        have BK680 := n2_
                        have HB := n3_
                        have HO729 := n4_
                        clear n0_ n1_ n2_ n3_ n4_
                        clear ho hb hg hat
                        refine hK.out _ _ ?_
                        clear hK K
                        refine nm 136 ?_
                        refine pk 25 23 (bz 26 67108863) HT_ ?_
                        refine done_ (done_of HT_.out (by kernel_rfl)) ?_
                        try go_wp2
                        go_roundg k3
                        case measure => have := HK1.out;have := HK2.out;have := HK3.out;omega
                        case rel => exact ⟨(y727),(wrap64 (x25_3 + 1)),(by first|rfl|(simp;done)|(simp [*];done)),(by first|exact H'|(simp only [hji76];exact H')),⟨by have := HK1.out;have := HK2.out;have := HK3.out;omega⟩,⟨by (with_reducible repeat (first|apply Kd.R_alloc|apply Kd.R_drewN|apply Kd.R_drew));exact HO_16.out⟩,⟨by (with_reducible repeat (first|apply Kd.R_alloc|apply Kd.R_drewN|apply Kd.R_drew));exact HO_21.out⟩,⟨by (with_reducible repeat (first|apply Kd.R_alloc|apply Kd.R_drewN|apply Kd.R_drew));exact HO729.out⟩,⟨by (with_reducible repeat (first|refine blk_drewN ?_ _|refine blk_drew ?_|refine blk_alloc ?_ _));exact BK680.out⟩,⟨by repeat (first|(with_reducible first|exact HB.out|apply below_alloc|apply pw_below_drewN|apply below_drew1|refine below_set ?_ GE680.out)|exact HB.out)⟩⟩
                       ·rw [if_neg c70] at H
                        exact absurd H (by simp)
                      ·rw [if_neg c67] at H
                       exact absurd H (by simp)
                     ·rw [if_neg c66] at H
                      exact absurd H (by simp)
                    ·rw [if_neg c65] at H
                     exact absurd H (by simp)
                   ·rw [if_neg c64] at H
                    exact absurd H (by simp)
                  ·rw [if_neg c62] at H
                   exact absurd H (by simp)
                 ·rw [if_neg c61] at H
                  exact absurd H (by simp)
                ·rw [if_neg c59] at H
                 have c59b0 : decide (x25_3 < a0_2) = false := decide_eq_false c59
                 clear c59
                 have H' := Aside0.mk H
                 clear H
                 go_wp2
                 go_roundg k3
                 case measure => have := HK1.out;have := HK2.out;have := HK3.out;omega
                 case rel => exact ⟨(x23_3),(wrap64 (x24_2 + 1)),(by first|rfl|(simp;done)|(simp [*];done)),(by first|exact H'|(simp only [hji76];exact H')),⟨by have := HK1.out;have := HK2.out;have := HK3.out;omega⟩,⟨by (with_reducible repeat (first|apply Kd.R_alloc|apply Kd.R_drewN|apply Kd.R_drew));exact HO_16.out⟩,⟨by (with_reducible repeat (first|apply Kd.R_alloc|apply Kd.R_drewN|apply Kd.R_drew));exact HO_21.out⟩,⟨by (with_reducible repeat (first|apply Kd.R_alloc|apply Kd.R_drewN|apply Kd.R_drew));exact HO_23.out⟩,⟨by (with_reducible repeat (first|refine blk_drewN ?_ _|refine blk_drew ?_|refine blk_alloc ?_ _));exact BK680.out⟩,⟨by repeat (first|(with_reducible first|exact HB.out|apply below_alloc|apply pw_below_drewN|apply below_drew1|refine below_set ?_ GE680.out)|exact HB.out)⟩⟩
             ·rw [if_neg c58] at H
              have c58b0 : decide (x24_2 ≤ a0_2) = false := decide_eq_false c58
              clear c58
              have H' := Aside0.mk H
              clear H
              go_wp2
              go_loopg [26,28] k2 (fun kq v26 v28 w' => ∃ (x26_3 : List Int) (x28_3 : Int),v28 = .int .i64 x28_3 ∧ Aside0 (privityref43_Triple.l3 kq l5 a0_0 a0_2 t681 y698 x23_2 x26_3 (wrap64 (Int.tdiv (wrap64 (a0_2 * (wrap64 (a0_2 + 1)))) 2)) x28_3 = some (r1,r2)) ∧ Aside0 (kq ≤ k2) ∧ Aside0 (Kd.R (Kd.int .u64) 22 w' w.heap.size (fun k_ => some k_ ≠ (v699 : Value).ownBlock ∧ some k_ ≠ (u23 : Value).ownBlock ∧ some k_ ≠ (v26 : Value).ownBlock) (.slice Ao26 t681.length co26) t681) ∧ Aside0 (Kd.R (Kd.int .u64) 22 w' w.heap.size (fun k_ => some k_ ≠ ((.slice Ao26 t681.length co26) : Value).ownBlock ∧ some k_ ≠ (u23 : Value).ownBlock ∧ some k_ ≠ (v26 : Value).ownBlock) v699 y698) ∧ Aside0 (Kd.R (Kd.int .u64) 22 w' w.heap.size (fun k_ => some k_ ≠ ((.slice Ao26 t681.length co26) : Value).ownBlock ∧ some k_ ≠ (v699 : Value).ownBlock ∧ some k_ ≠ (v26 : Value).ownBlock) u23 x23_2) ∧ Aside0 (Kd.R (Kd.int .u64) 22 w' w.heap.size (fun k_ => some k_ ≠ ((.slice Ao26 t681.length co26) : Value).ownBlock ∧ some k_ ≠ (v699 : Value).ownBlock ∧ some k_ ≠ (u23 : Value).ownBlock) v26 x26_3) ∧ Aside0 (w'.heap[gb680]? = some (.cells #[.int .u64 a0_0,.int .i64 a0_1,.int .i64 a0_2] 24 (0,0))) ∧ Aside0 (Below w.heap.size w w'))
              case atStart => exact ⟨(([] : List Int)),(0),(by first|rfl|(simp;done)|(simp [*];done)),H',⟨Nat.le_refl _⟩,⟨by (with_reducible repeat (first|apply Kd.R_alloc|apply Kd.R_drewN|apply Kd.R_drew));exact Kd.R_mono HO_16.out (fun _ hk => ⟨hk.1,⟨hk.2,(by simp [Value.ownBlock])⟩⟩)⟩,⟨by (with_reducible repeat (first|apply Kd.R_alloc|apply Kd.R_drewN|apply Kd.R_drew));exact Kd.R_mono HO_21.out (fun _ hk => ⟨hk.1,⟨hk.2,(by simp [Value.ownBlock])⟩⟩)⟩,⟨by (with_reducible repeat (first|apply Kd.R_alloc|apply Kd.R_drewN|apply Kd.R_drew));exact Kd.R_mono HO_23.out (fun _ hk => ⟨hk.1,⟨hk.2,(by simp [Value.ownBlock])⟩⟩)⟩,⟨by first|exact Kd.R_nil _ _ _ _ _|exact Kd.N_nil _ _ _ _ _|exact Kd.V_nil _ _ _ _ _|exact Kd.Q_nil _ _ _ _ _|exact Kd.S_nil _ _ _ _ _⟩,⟨by (with_reducible repeat (first|refine blk_drewN ?_ _|refine blk_drew ?_|refine blk_alloc ?_ _));exact BK680.out⟩,⟨by repeat (first|(with_reducible first|exact HB.out|apply below_alloc|apply pw_below_drewN|apply below_drew1|refine below_set ?_ GE680.out)|exact HB.out)⟩⟩
              case round =>
               clear H'
               try clear c1
               try clear c2
               try clear p2
               try clear c3
               try clear c4
               try clear c5
               try clear c6
               try clear p6
               try clear c7
               try clear p7
               try clear q7
               try clear hx7
               try clear c9
               try clear c9b0
               try clear c9b1
               try clear c10
               try clear c10b0
               try clear c10b1
               try clear c11
               try clear c11b0
               try clear c12
               try clear c12b0
               try clear c12b1
               try clear c13
               try clear c13b0
               try clear c13b1
               try clear c15
               try clear c15b0
               try clear c15b1
               try clear c16
               try clear c16b0
               try clear c17
               try clear c26
               try clear c30
               try clear c30b0
               try clear c31
               try clear c32
               try clear c36
               try clear c43
               try clear c49
               try clear c56
               try clear c57
               try clear c58
               try clear c58b0
               try clear c59
               try clear c59b0
               try clear c60
               try clear c61
               try clear c61b0
               try clear c62
               try clear c62b0
               try clear c64
               try clear c64b0
               try clear p64
               try clear c65
               try clear c65b0
               try clear c66
               try clear c66b0
               try clear c67
               try clear c67b0
               try clear c70
               try clear p72
               try clear q72
               try clear hx72
               try clear hcz20_0
               try clear hcz20_1
               try clear hcz20_2
               try clear hfz20_0
               try clear hfz20_1
               try clear hfz20_2
               try clear hx722_0
               try clear hx723_0
               try clear hx724_0
               try clear p2
               try clear p6
               try clear p722
               try clear p723
               try clear p724
               try clear q722
               try clear q723
               try clear q724
               obtain ⟨x26_3,x28_3,rfl,HA,HK3,HO_16,HO_21,HO_23,HO_26,BK680,HB⟩ := hrel
               cases gk with
               | zero => exact absurd HA.out (by simp [privityref43_Triple.l3])
               | succ k3 =>
                have H := HA.out
                clear HA
                simp only [privityref43_Triple.l3] at H
                by_cases c74 : x28_3 < (y698.length : Int)
                ·rw [if_pos c74] at H
                 have c74b0 : decide (x28_3 < (y698.length : Int)) = true := decide_eq_true c74
                 clear c74
                 by_cases c75 : 0 ≤ x28_3
                 ·rw [if_pos c75] at H
                  have c75b0 : decide (0 ≤ x28_3) = true := decide_eq_true c75
                  clear c75
                  obtain ⟨ji76,hji76⟩ : ∃ j_ : Int,(wrap64 (a0_2 + 1)) = j_ := ⟨_,rfl⟩
                  first|rw [hji76] at H|simp only [hji76] at H
                  have hji76w : (IntKind.i64.wrap (a0_2 + 1)) = ji76 := (i64_w _).trans hji76
                  try (obtain rfl : ji76 = ji8 := hji76.symm.trans hji8)
                  by_cases c77 : 0 ≤ (ji76)
                  ·rw [if_pos c77] at H
                   have c77b0 := eq_true c77
                   have c77b1 : decide (0 ≤ (ji76)) = true := decide_eq_true c77
                   clear c77
                   by_cases c78 : (ji76 : Int).toNat ≤ 35184372088832
                   ·rw [if_pos c78] at H
                    have c78b0 := eq_true c78
                    have c78b1 : decide ((ji76 : Int).toNat ≤ 35184372088832) = true := decide_eq_true c78
                    clear c78
                    obtain ⟨y731,hy731⟩ : ∃ y_ : List Int,y_ = (List.replicate (ji76 : Int).toNat 0) := ⟨_,rfl⟩
                    replace H : (if 0 ≤ (wrap64 (x28_3 * (wrap64 (Int.tdiv (wrap64 (a0_2 * (ji76))) 2)))) then (if (wrap64 (x28_3 * (wrap64 (Int.tdiv (wrap64 (a0_2 * (ji76))) 2)))) ≤ (wrap64 ((wrap64 (x28_3 + 1)) * (wrap64 (Int.tdiv (wrap64 (a0_2 * (ji76))) 2)))) then (if (wrap64 ((wrap64 (x28_3 + 1)) * (wrap64 (Int.tdiv (wrap64 (a0_2 * (ji76))) 2)))) ≤ (l5.length : Int) then ((privityref43_moved.f k3 a0_0 t681 (rd y698 x28_3) y731 ((l5.take ((wrap64 ((wrap64 (x28_3 + 1)) * (wrap64 (Int.tdiv (wrap64 (a0_2 * (ji76))) 2)))) : Int).toNat).drop ((wrap64 (x28_3 * (wrap64 (Int.tdiv (wrap64 (a0_2 * (ji76))) 2)))) : Int).toNat)).bind fun bt735 => (if x26_3.length + bt735.2.length < 17592186044416 then (privityref43_Triple.l3 k3 l5 a0_0 a0_2 t681 y698 x23_2 (x26_3 ++ bt735.2) (wrap64 (Int.tdiv (wrap64 (a0_2 * (ji76))) 2)) (wrap64 (x28_3 + 1))) else (none))) else (none)) else (none)) else (none)) = some (r1,r2) := by first|(rw [hy731];with_reducible exact H)|(have H2_ := (Option.bind_some _ _).symm.trans H;rw [hy731];with_reducible exact H2_)|(have H2_ := (Option.bind_some _ _).symm.trans H;with_reducible exact H2_)|with_reducible exact H|(rw [hy731];exact H)|exact H
                    have Ny731 := Aside0.mk hy731
                    clear hy731
                    obtain ⟨ji79,hji79⟩ : ∃ j_ : Int,(wrap64 (x28_3 * (wrap64 (Int.tdiv (wrap64 (a0_2 * (ji76))) 2)))) = j_ := ⟨_,rfl⟩
                    first|rw [hji79] at H|simp only [hji79] at H
                    have hji79w : (IntKind.i64.wrap (x28_3 * (wrap64 (Int.tdiv (wrap64 (a0_2 * (ji76))) 2)))) = ji79 := (i64_w _).trans hji79
                    by_cases c80 : 0 ≤ (ji79)
                    ·rw [if_pos c80] at H
                     have c80b0 := eq_true c80
                     have c80b1 : decide (0 ≤ (ji79)) = true := decide_eq_true c80
                     clear c80
                     by_cases c81 : (ji79) ≤ (wrap64 ((wrap64 (x28_3 + 1)) * (wrap64 (Int.tdiv (wrap64 (a0_2 * (ji76))) 2))))
                     ·rw [if_pos c81] at H
                      have c81b0 := eq_true c81
                      have c81b1 : decide ((ji79) ≤ (wrap64 ((wrap64 (x28_3 + 1)) * (wrap64 (Int.tdiv (wrap64 (a0_2 * (ji76))) 2))))) = true := decide_eq_true c81
                      by_cases c82 : (wrap64 ((wrap64 (x28_3 + 1)) * (wrap64 (Int.tdiv (wrap64 (a0_2 * (ji76))) 2)))) ≤ (l5.length : Int)
                      ·rw [if_pos c82] at H
                       have c82b0 := eq_true c82
                       have c82b1 : decide ((wrap64 ((wrap64 (x28_3 + 1)) * (wrap64 (Int.tdiv (wrap64 (a0_2 * (ji76))) 2)))) ≤ (l5.length : Int)) = true := decide_eq_true c82
                       replace H := Option.bind_eq_some_iff.mp H
                       obtain ⟨⟨t735,t736⟩,A830,H⟩ := H
                       try dsimp only at H
                       have A83 := Aside0.mk A830
                       clear A830
                       by_cases c84 : x26_3.length + t736.length < 17592186044416
                       ·rw [if_pos c84] at H
                        have LMc84 := Aside0.mk c84
                        clear c84
                        obtain ⟨y741,hy741⟩ : ∃ y_ : List Int,y_ = (x26_3 ++ t736) := ⟨_,rfl⟩
                        replace H : (privityref43_Triple.l3 k3 l5 a0_0 a0_2 t681 y698 x23_2 y741 (wrap64 (Int.tdiv (wrap64 (a0_2 * (ji76))) 2)) (wrap64 (x28_3 + 1))) = some (r1,r2) := by first|(rw [hy741];with_reducible exact H)|(have H2_ := (Option.bind_some _ _).symm.trans H;rw [hy741];with_reducible exact H2_)|(have H2_ := (Option.bind_some _ _).symm.trans H;with_reducible exact H2_)|with_reducible exact H|(rw [hy741];exact H)|exact H
                        have Ny741 := Aside0.mk hy741
                        clear hy741
                        have H' := Aside0.mk H
                        clear H
                        obtain ⟨Ao85,co85,eo85⟩ := Kd.R_slice HO_21.out
                        subst eo85
                        try go_wp2
                        have n0_ := Aside0.mk (Kd.R_drew HO_16.out)
                        have n1_ := Aside0.mk (Kd.R_drew HO_21.out)
                        have n2_ := Aside0.mk (Kd.R_drew HO_23.out)
                        have n3_ := Aside0.mk (Kd.R_drew HO_26.out)
                        have n4_ := Aside0.mk (blk_drew BK680.out)
                        have n5_ := Aside0.mk (below_drew1 HB.out)
                        clear HO_16
                        clear HO_21
                        clear HO_23
                        clear HO_26
                        clear BK680
                        clear HB
                        have HO_16 := n0_
                        have HO_21 := n1_
                        have HO_23 := n2_
                        have HO_26 := n3_
                        have BK680 := n4_
                        have HB := n5_
                        clear n0_ n1_ n2_ n3_ n4_ n5_
                        have p730 : 0 ≤ (x28_3 : Int) := of_decide_eq_true (by first|(with_reducible assumption)|assumption)
                        have q730 : x28_3 < (y698.length : Int) := of_decide_eq_true (by first|(with_reducible assumption)|assumption)
                        obtain ⟨ad730,e730,hx730_0⟩ := Kd.at_int (Kd.R_reads' HO_21.out).2.2 x28_3 p730 q730
                        cases e730
                        replace p730 := eq_true p730
                        replace q730 := eq_true q730
                        obtain ⟨i087,hi087,_,hsz87,_⟩ := info_parts info22
                        obtain ⟨A87,hcut87,hA87,hC87⟩ := print_mid_of (P := Try.prog) (Value.int .u64) 0 26 22 .i64 .i64 Try.underlying26 hi087 hsz87 A5 c5 l5 (ji79) (wrap64 ((wrap64 (x28_3 + 1)) * (wrap64 (Int.tdiv (wrap64 (a0_2 * (ji76))) 2)))) (of_decide_eq_true (by first|(with_reducible assumption)|assumption)) (by first|omega|exact of_decide_eq_true (by first|(with_reducible assumption)|assumption)) (of_decide_eq_true (by first|(with_reducible assumption)|assumption)) HC5.out
                        have HR734 := Aside0.mk (Kd.C_of_reads (h1 := fun _ => rfl) (hA87 _ (Kd.reads_of_C HR5.out)))
                        have HC734 := Aside0.mk hC87
                        try (have HLx0_ := Aside0.mk (show (l4.take ((ji8) : Int).toNat).length = (ji8).toNat from (by rw [List.length_take];have h_ : ((ji8) : Int) ≤ (l4.length : Int) := of_decide_eq_true (by first|(with_reducible assumption)|assumption);omega)))
                        try (have HLx1_ := Aside0.mk (show ((l4.take ((ji14) : Int).toNat).drop ((ji8) : Int).toNat).length = ((ji14).toNat - (ji8).toNat) from (by rw [List.length_drop,List.length_take];have h_ : ((ji14) : Int) ≤ (l4.length : Int) := of_decide_eq_true (by first|(with_reducible assumption)|assumption);omega)))
                        clear hA87 hC87 hi087 hsz87
                        refine start_ (n := 24) (S := fun w' => w'.cell? (ad730.add (x28_3).toNat) = some (.int .u64 (rd y698 x28_3))) (ds := []) (bz 24 0) (by kernel_rfl) rfl rfl (hx730_0) (fun hHeld => ?_);refine with_tabW privityref43_Triple.tab25 privityref43_Triple.bits25 (fun HT_ HW_ => ?_)
                        generalize wr.drew = w86 at HO_16 HO_21 HO_23 HO_26 BK680 HB HR734 hx730_0 hHeld ⊢
                        refine pk 0 149 (bz 24 1) HT_ ?_
                        refine pk 1 150 (bz 24 3) HT_ ?_
                        refine pk 2 151 (bz 24 7) HT_ ?_
                        refine pk 3 152 (bz 24 15) HT_ ?_
                        refine pk 4 153 (bz 24 31) HT_ ?_
                        refine pk 6 155 (bz 24 95) HT_ ?_
                        refine pk 7 156 (bz 24 223) HT_ ?_
                        refine pk 9 158 (bz 24 735) HT_ ?_
                        refine pk 10 159 (bz 24 1759) HT_ ?_
                        refine pk 11 160 (bz 24 3807) HT_ ?_
                        refine pk 12 161 (bz 24 7903) HT_ ?_
                        refine pk 13 162 (bz 24 16095) HT_ ?_
                        refine pk 14 163 (bz 24 32479) HT_ ?_
                        refine pk 15 164 (bz 24 65247) HT_ ?_
                        refine pk 16 165 (bz 24 130783) HT_ ?_
                        refine pk 17 166 (bz 24 261855) HT_ ?_
                        refine tk 5 154 (bz 24 261887) HT_ HW_ hHeld ?_
                        refine one_ (i := 8) (N := some 157) (bz 24 262143) rfl rfl (one_of HT_.out (by kernel_rfl)) (by decide) (fun K hK => ?_)
                        refine Kd.R_make_step (Kd.int .u64) _ 22 (by rfl) (N := 157) rfl 26 _ _ rfl ji76 rfl rfl Try.underlying26 (.int .u64 0) 8 info22 rfl (by decide) (by omega) 0 (ok := fun _ => True) (okp := fun _ => True) rfl (fun _ hk => hk) trivial (of_decide_eq_true (by first|(with_reducible assumption)|assumption)) (Nat.le_trans (Nat.mul_le_mul_right _ (of_decide_eq_true (by first|(with_reducible assumption)|assumption) : ji76.toNat ≤ 35184372088832)) (by omega)) (Below.refl _ _) (Nat.le_refl _) ?_
                        intro v732 w88 ho89 hb hg_ hnew_
                        have HS0_ := (hb.cell (World.block_lt_of_cell? _ _ (hHeld))).trans (hHeld)
                        clear hg_ hnew_
                        (first|rw [← Ny731.out] at ho89|(simp only [Int.reduceToNat] at ho89;rw [← Ny731.out] at ho89))
                        have n0_ := Aside0.mk (Kd.R_elder' (rr HO_16) (Kd.R_base ho89) hb)
                        have n1_ := Aside0.mk (Kd.R_elder' (rr HO_21) (Kd.R_base ho89) hb)
                        have n2_ := Aside0.mk (Kd.R_elder' (rr HO_23) (Kd.R_base ho89) hb)
                        have n3_ := Aside0.mk (Kd.R_elder' (rr HO_26) (Kd.R_base ho89) hb)
                        have n4_ := Aside0.mk (Kd.R_lower (Kd.R_new' (Kd.R_new' (Kd.R_new' (Kd.R_new' ho89 (Kd.R_lt (rr HO_16))) (Kd.R_lt (rr HO_21))) (Kd.R_lt (rr HO_23))) (Kd.R_lt (rr HO_26))) (below_size (bg HB GE680)))
                        have n5_ := Aside0.mk (kb BK680 hb)
                        have n6_ := Aside0.mk (below_step (bg HB GE680) hb)
                        clear HO_16
                        clear HO_21
                        clear HO_23
                        clear HO_26
                        clear BK680
                        clear HB
                        have HO_16 := n0_
                        have HO_21 := n1_
                        have HO_23 := n2_
                        have HO_26 := n3_
                        have HO733 := n4_
                        have BK680 := n5_
                        have HB := n6_
                        clear n0_ n1_ n2_ n3_ n4_ n5_ n6_
                        clear hb ho89
                        obtain ⟨Ao90,co90,eo90⟩ := Kd.R_slice HO733.out
                        (first|subst eo90|(injection eo90 with f1_ f2_ f3_;have f4_ := f1_.symm;have f5_ := f3_.symm;clear f1_ f2_ f3_;subst f4_;subst f5_))
                        refine hK.out _ _ (HS0_) (fun hHeld => ?_)
                        clear hK K
                        refine nm 157 ?_
                        refine one_ (i := 18) (N := some 167) (bz 24 524287) rfl rfl (one_of HT_.out (by kernel_rfl)) (by decide) (fun K hK => ?_)
                        refine goes_ Try.func48 (by kernel_rfl) rfl #[.int .u64 a0_0,.slice Ao26 t681.length co26,.int .u64 (rd y698 x28_3),.slice Ao90 y731.length co90,.slice A87 ((l5.take ((wrap64 ((wrap64 (x28_3 + 1)) * (wrap64 (Int.tdiv (wrap64 (a0_2 * (ji76))) 2)))) : Int).toNat).drop ((ji79) : Int).toNat).length (c5 - (ji79).toNat)] (by rfl) rfl rfl (by (try simp only [List.map_toArray,List.map_cons,List.map_nil]);first|done|(rw [show ((l5.take ((wrap64 ((wrap64 (x28_3 + 1)) * (wrap64 (Int.tdiv (wrap64 (a0_2 * (ji76))) 2)))) : Int).toNat).drop ((ji79) : Int).toNat).length = ((wrap64 ((wrap64 (x28_3 + 1)) * (wrap64 (Int.tdiv (wrap64 (a0_2 * (ji76))) 2)))).toNat - (ji79).toNat) from (by rw [List.length_drop,List.length_take];have h_ : ((wrap64 ((wrap64 (x28_3 + 1)) * (wrap64 (Int.tdiv (wrap64 (a0_2 * (ji76))) 2)))) : Int) ≤ (l5.length : Int) := of_decide_eq_true (by first|(with_reducible assumption)|assumption);omega)] <;> rfl)|(simp only [hji76,hji79];rfl)|rfl|(simp only [List.length_drop,List.length_take];rfl)) ?_
                        with_reducible refine (privityref43_moved.calls k3 a0_0 _ _ t681 (rd y698 x28_3) _ _ y731 _ _ ((l5.take ((wrap64 ((wrap64 (x28_3 + 1)) * (wrap64 (Int.tdiv (wrap64 (a0_2 * (ji76))) 2)))) : Int).toNat).drop ((ji79) : Int).toNat) t735 t736 _ ?side1 ?side2 ?side3 ?side4 ?side5 ?side6 A83.out).mono ?_
                        (case side1 => exact cr HO_16)
                        (case side2 => exact (Kd.R_reads' HO_16.out).2.1)
                        (case side3 => exact cr HO733)
                        (case side4 => exact (Kd.R_reads' HO733.out).2.1)
                        (case side5 => exact cb HR734 HB)
                        (case side6 => exact HC734.out)
                        rintro e w91 ⟨v737,v739,rfl,ho0,ho1,hb⟩
                        have HS0_ := (hb.cell (World.block_lt_of_cell? _ _ (hHeld))).trans (hHeld)
                        refine ⟨_,rfl,?_⟩
                        have n0_ := Aside0.mk (Kd.R_mono (Kd.R_told (Kd.R_told (Kd.R_old (rr HO_16) hb) (Kd.R_base ho0)) (Kd.R_base ho1)) (fun _ h_ => h_.1))
                        have n1_ := Aside0.mk (Kd.R_mono (Kd.R_told (Kd.R_told (Kd.R_old (rr HO_21) hb) (Kd.R_base ho0)) (Kd.R_base ho1)) (fun _ h_ => h_.1))
                        have n2_ := Aside0.mk (Kd.R_mono (Kd.R_told (Kd.R_told (Kd.R_old (rr HO_23) hb) (Kd.R_base ho0)) (Kd.R_base ho1)) (fun _ h_ => h_.1))
                        have n3_ := Aside0.mk (Kd.R_mono (Kd.R_told (Kd.R_told (Kd.R_old (rr HO_26) hb) (Kd.R_base ho0)) (Kd.R_base ho1)) (fun _ h_ => h_.1))
                        have n4_ := Aside0.mk (Kd.R_mono (Kd.R_told (Kd.R_told (Kd.R_old (rr HO733) hb) (Kd.R_base ho0)) (Kd.R_base ho1)) (fun _ h_ => h_.1))
                        have n5_ := Aside0.mk (Kd.R_lower (Kd.R_new' (Kd.R_new' (Kd.R_new' (Kd.R_new' (Kd.R_new' ho0 (Kd.R_lt (rr HO_16))) (Kd.R_lt (rr HO_21))) (Kd.R_lt (rr HO_23))) (Kd.R_lt (rr HO_26))) (Kd.R_lt (rr HO733))) (below_size (bg HB GE680)))
                        have n6_ := Aside0.mk (Kd.R_lower (Kd.R_new' (Kd.R_new' (Kd.R_new' (Kd.R_new' (Kd.R_new' ho1 (Kd.R_lt (rr HO_16))) (Kd.R_lt (rr HO_21))) (Kd.R_lt (rr HO_23))) (Kd.R_lt (rr HO_26))) (Kd.R_lt (rr HO733))) (below_size (bg HB GE680)))
                        have n7_ := Aside0.mk (kb BK680 hb)
                        have n8_ := Aside0.mk (below_step (bg HB GE680) hb)
                        clear HO_16
                        clear HO_21
                        clear HO_23
                        clear HO_26
                        clear HO733
                        clear BK680
                        clear HB
                        have HO_16 := n0_
                        have HO_21 := n1_
                        have HO_23 := n2_
                        have HO_26 := n3_
                        have HO733 := n4_
                        have HO738 := n5_
                        have HO740 := n6_
                        have BK680 := n7_
                        have HB := n8_
                        clear n0_ n1_ n2_ n3_ n4_ n5_ n6_ n7_ n8_
                        (try clear hb)
                        (try clear hb2)
                        (try clear hk)
                        (try clear hi)
                        (try clear ho0)
                        (try clear ho1)
                        refine hK.out _ _ (HS0_) (fun hHeld => ?_)
                        clear hK K
                        refine nm 167 ?_
                        refine pk 19 148 (bz 24 1048575) HT_ ?_
                        refine pk 20 168 (bz 24 2097151) HT_ ?_
                        refine pk 21 169 (bz 24 4194303) HT_ ?_
                        refine pk 22 29 (bz 24 8388607) HT_ ?_
                        refine pk 23 30 (bz 24 16777215) HT_ ?_
                        refine done_ (done_of HT_.out (by kernel_rfl)) ?_
                        obtain ⟨Ao93,co93,eo93⟩ := Kd.R_slice HO740.out
                        subst eo93
                        try go_wp2_with (first|((with_reducible refine gate_builtin (b := .append) (xs := #[.tmp 170,.tmp 171]) rfl ?_);at_builtin;refine Kd.R_append_rows (Kd.int .u64) (w0 := w) w.heap.size rfl (.tmp 170) (.tmp 171) 26 22 (.int .u64 0) 8 rfl Try.underlying26 info22 rfl (by decide) (by omega) u26 x26_3 t736 _ _ _ (fun k_ => some k_ ≠ (.slice Ao26 t681.length co26 : Value).ownBlock ∧ some k_ ≠ (.slice (some ad730) y698.length co85 : Value).ownBlock ∧ some k_ ≠ (u23 : Value).ownBlock ∧ some k_ ≠ (.slice Ao90 y731.length co90 : Value).ownBlock ∧ some k_ ≠ (v737 : Value).ownBlock ∧ some k_ ≠ (.slice Ao93 t736.length co93 : Value).ownBlock) (fun _ => False) rfl rfl ?aO ?aR (fun _ _ h => h) (fun _ h => h.elim) ?aF ?aB ?aS ?aL ?_;(case aR => repeat (first|exact (Kd.R_reads' HO740.out).2.2|(with_reducible refine Kd.C_alloc ?_ _)|(with_reducible refine Kd.C_drewN ?_ _)|(with_reducible refine Kd.C_drew ?_)));(case aB => exact (bg HB GE680));(case aF => exact (fun k_ hk => ⟨Kd.fresh' (Kd.R_lt (rr HO_16)) k_ hk,Kd.fresh' (Kd.R_lt (rr HO_21)) k_ hk,Kd.fresh' (Kd.R_lt (rr HO_23)) k_ hk,Kd.fresh' (Kd.R_lt (rr HO733)) k_ hk,Kd.fresh' (Kd.R_lt (rr HO738)) k_ hk,Kd.fresh' (Kd.R_lt (rr HO740)) k_ hk⟩));(case aO => exact (by (with_reducible repeat (first|apply Kd.R_alloc|apply Kd.R_drewN|apply Kd.R_drew));exact Kd.R_mono HO_26.out (fun _ hk => ⟨hk.1.1.1.1,⟨hk.1.1.1.2.1,⟨hk.1.1.1.2.2,⟨hk.1.1.2,⟨hk.1.2,hk.2⟩⟩⟩⟩⟩)));(case aS => exact (below_size (bg HB GE680)));(case aL => have := LMc84.out;omega);intro v742 w92 ho hb hg hat;rw [← Ny741.out] at ho;have n0_ := Aside0.mk (Kd.R_after (ok := (fun k_ => some k_ ≠ (.slice (some ad730) y698.length co85 : Value).ownBlock ∧ some k_ ≠ (u23 : Value).ownBlock ∧ some k_ ≠ (.slice Ao90 y731.length co90 : Value).ownBlock ∧ some k_ ≠ (v737 : Value).ownBlock ∧ some k_ ≠ (.slice Ao93 t736.length co93 : Value).ownBlock)) (by (with_reducible repeat (first|apply Kd.R_alloc|apply Kd.R_drewN|apply Kd.R_drew));exact Kd.R_mono HO_16.out (fun _ hk => ⟨⟨hk.1.1.1.1,⟨hk.1.1.1.2.1,⟨hk.1.1.2,⟨hk.1.2,hk.2⟩⟩⟩⟩,hk.1.1.1.2.2⟩)) hg hat);have n1_ := Aside0.mk (Kd.R_after (ok := (fun k_ => some k_ ≠ (.slice Ao26 t681.length co26 : Value).ownBlock ∧ some k_ ≠ (u23 : Value).ownBlock ∧ some k_ ≠ (.slice Ao90 y731.length co90 : Value).ownBlock ∧ some k_ ≠ (v737 : Value).ownBlock ∧ some k_ ≠ (.slice Ao93 t736.length co93 : Value).ownBlock)) (by (with_reducible repeat (first|apply Kd.R_alloc|apply Kd.R_drewN|apply Kd.R_drew));exact Kd.R_mono HO_21.out (fun _ hk => ⟨⟨hk.1.1.1.1,⟨hk.1.1.1.2.1,⟨hk.1.1.2,⟨hk.1.2,hk.2⟩⟩⟩⟩,hk.1.1.1.2.2⟩)) hg hat);have n2_ := Aside0.mk (Kd.R_after (ok := (fun k_ => some k_ ≠ (.slice Ao26 t681.length co26 : Value).ownBlock ∧ some k_ ≠ (.slice (some ad730) y698.length co85 : Value).ownBlock ∧ some k_ ≠ (.slice Ao90 y731.length co90 : Value).ownBlock ∧ some k_ ≠ (v737 : Value).ownBlock ∧ some k_ ≠ (.slice Ao93 t736.length co93 : Value).ownBlock)) (by (with_reducible repeat (first|apply Kd.R_alloc|apply Kd.R_drewN|apply Kd.R_drew));exact Kd.R_mono HO_23.out (fun _ hk => ⟨⟨hk.1.1.1.1,⟨hk.1.1.1.2.1,⟨hk.1.1.2,⟨hk.1.2,hk.2⟩⟩⟩⟩,hk.1.1.1.2.2⟩)) hg hat);have n3_ := Aside0.mk (blk_grown (g := gb680) (o := .cells #[.int .u64 a0_0,.int .i64 a0_1,.int .i64 a0_2] 24 (0,0)) (by (with_reducible repeat (first|refine blk_drewN ?_ _|refine blk_drew ?_|refine blk_alloc ?_ _));exact BK680.out) hg (Kd.R_ne HO_26.out BK680.out (by decide)));have n4_ := Aside0.mk (Kd.R_after (ok := (fun k_ => some k_ ≠ (.slice Ao26 t681.length co26 : Value).ownBlock ∧ some k_ ≠ (.slice (some ad730) y698.length co85 : Value).ownBlock ∧ some k_ ≠ (u23 : Value).ownBlock ∧ some k_ ≠ (v737 : Value).ownBlock ∧ some k_ ≠ (.slice Ao93 t736.length co93 : Value).ownBlock)) (by (with_reducible repeat (first|apply Kd.R_alloc|apply Kd.R_drewN|apply Kd.R_drew));exact Kd.R_mono HO733.out (fun _ hk => ⟨⟨hk.1.1.1.1.1.2,⟨hk.1.1.1.1.2,⟨hk.1.1.1.2,⟨hk.1.2,hk.2⟩⟩⟩⟩,hk.1.1.2⟩)) hg hat);have n5_ := Aside0.mk (Kd.R_after (ok := (fun k_ => some k_ ≠ (.slice Ao26 t681.length co26 : Value).ownBlock ∧ some k_ ≠ (.slice (some ad730) y698.length co85 : Value).ownBlock ∧ some k_ ≠ (u23 : Value).ownBlock ∧ some k_ ≠ (.slice Ao90 y731.length co90 : Value).ownBlock ∧ some k_ ≠ (.slice Ao93 t736.length co93 : Value).ownBlock)) (by (with_reducible repeat (first|apply Kd.R_alloc|apply Kd.R_drewN|apply Kd.R_drew));exact Kd.R_mono HO738.out (fun _ hk => ⟨⟨hk.1.1.1.1.2,⟨hk.1.1.1.2,⟨hk.1.1.2,⟨hk.2,hk.1.1.1.1.1⟩⟩⟩⟩,hk.1.2⟩)) hg hat);have n6_ := Aside0.mk (Kd.R_after (ok := (fun k_ => some k_ ≠ (.slice Ao26 t681.length co26 : Value).ownBlock ∧ some k_ ≠ (.slice (some ad730) y698.length co85 : Value).ownBlock ∧ some k_ ≠ (u23 : Value).ownBlock ∧ some k_ ≠ (.slice Ao90 y731.length co90 : Value).ownBlock ∧ some k_ ≠ (v737 : Value).ownBlock)) (by (with_reducible repeat (first|apply Kd.R_alloc|apply Kd.R_drewN|apply Kd.R_drew));exact Kd.R_mono HO740.out (fun _ hk => ⟨⟨hk.1.1.1.1.2,⟨hk.1.1.1.2,⟨hk.1.1.2,⟨hk.2,hk.1.1.1.1.1⟩⟩⟩⟩,hk.1.2⟩)) hg hat);have n7_ := Aside0.mk (hb);have n8_ := Aside0.mk (ho);clear HO_16 HO_21 HO_23 BK680 HO733 HO738 HO740 HB HO_26;have HO_16 := n0_;have HO_21 := n1_;have HO_23 := n2_;have BK680 := n3_;have HO733 := n4_;have HO738 := n5_;have HO740 := n6_;have HB := n7_;have HO743 := n8_;clear n0_ n1_ n2_ n3_ n4_ n5_ n6_ n7_ n8_;clear ho hb hg hat))
                        go_roundg k3
                        case measure => have := HK1.out;have := HK2.out;have := HK3.out;omega
                        case rel => exact ⟨(y741),(wrap64 (x28_3 + 1)),(by first|rfl|(simp;done)|(simp [*];done)),(by first|exact H'|(simp only [hji76];exact H')),⟨by have := HK1.out;have := HK2.out;have := HK3.out;omega⟩,⟨by (with_reducible repeat (first|apply Kd.R_alloc|apply Kd.R_drewN|apply Kd.R_drew));exact Kd.R_mono HO_16.out (fun _ hk => ⟨hk.1.1,⟨hk.1.2.1,hk.2⟩⟩)⟩,⟨by (with_reducible repeat (first|apply Kd.R_alloc|apply Kd.R_drewN|apply Kd.R_drew));exact Kd.R_mono HO_21.out (fun _ hk => ⟨hk.1.1,⟨hk.1.2.1,hk.2⟩⟩)⟩,⟨by (with_reducible repeat (first|apply Kd.R_alloc|apply Kd.R_drewN|apply Kd.R_drew));exact Kd.R_mono HO_23.out (fun _ hk => ⟨hk.1.1,⟨hk.1.2.1,hk.2⟩⟩)⟩,⟨by (with_reducible repeat (first|apply Kd.R_alloc|apply Kd.R_drewN|apply Kd.R_drew));exact Kd.R_mono HO743.out (fun _ hk => ⟨hk.1,⟨hk.2.1,hk.2.2.1⟩⟩)⟩,⟨by (with_reducible repeat (first|refine blk_drewN ?_ _|refine blk_drew ?_|refine blk_alloc ?_ _));exact BK680.out⟩,⟨by repeat (first|(with_reducible first|exact HB.out|apply below_alloc|apply pw_below_drewN|apply below_drew1|refine below_set ?_ GE680.out)|exact HB.out)⟩⟩
                       ·rw [if_neg c84] at H
                        exact absurd H (by simp)
                      ·rw [if_neg c82] at H
                       exact absurd H (by simp)
                     ·rw [if_neg c81] at H
                      exact absurd H (by simp)
                    ·rw [if_neg c80] at H
                     exact absurd H (by simp)
                   ·rw [if_neg c78] at H
                    exact absurd H (by simp)
                  ·rw [if_neg c77] at H
                   exact absurd H (by simp)
                 ·rw [if_neg c75] at H
                  exact absurd H (by simp)
                ·rw [if_neg c74] at H
                 have c74b0 : decide (x28_3 < (y698.length : Int)) = false := decide_eq_false c74
                 clear c74
                 simp only [Option.some.injEq,Prod.mk.injEq] at H
                 obtain ⟨rfl,rfl⟩ := H
                 obtain ⟨Ao94,co94,eo94⟩ := Kd.R_slice HO_21.out
                 subst eo94
                 go_wp2
                 go_ret2
                 exact ⟨_,_,by first|rfl|(simp [errW_none,errW_some] <;> rfl)|(simp only [← hji8,← hji14];first|rfl|(simp [errW_none,errW_some] <;> rfl))|(simp [*,errW_none,errW_some] <;> rfl),by (with_reducible repeat (first|apply Kd.R_alloc|apply Kd.R_drewN|apply Kd.R_drew));exact Kd.R_mono HO_23.out (fun _ hk => hk.2.2),by (with_reducible repeat (first|apply Kd.R_alloc|apply Kd.R_drewN|apply Kd.R_drew));exact Kd.R_mono HO_26.out (fun _ hk => hk.2.2),by repeat (first|(with_reducible first|exact HB.out|apply below_alloc|apply pw_below_drewN|apply below_drew1|refine below_set ?_ GE680.out)|exact HB.out)⟩
          ·rw [if_neg c43] at H
           exact absurd H (by simp)
         ·rw [if_neg c36] at H
          exact absurd H (by simp)
     ·rw [if_neg c15] at H
      exact absurd H (by simp)
    ·rw [if_neg c13] at H
     exact absurd H (by simp)
   ·rw [if_neg c12] at H
    exact absurd H (by simp)
  ·rw [if_neg c10] at H
   exact absurd H (by simp)
 ·rw [if_neg c9] at H
  exact absurd H (by simp)
end Go.Proofs.Ytejeelpnmdfibaa.Pr
end
section
namespace Go.Proofs.Ytejeelpnmdfibaa.Hw
open Go.RowKit Go.Proofs.Ytejeelpnmdfibaa.Pr Go.Proofs.YtejeelpnmdfibaaW.PrintWords Go.Proofs.YtejeelpnmdfibaaW.PrintLast Go.Proofs.YtejeelpnmdfibaaW.PrintMore Go.Proofs.Ytejeelpnmdfibaa.E
set_option linter.unusedVariables false
set_option linter.unusedSimpArgs false
def LeftAt (w : World) (g : Nat) (A : Option Addr) (n c : Nat) : Prop := w.heap[g]? = some (.cells #[.slice A n c] 26 (0,0))
set_option maxHeartbeats 2000000 in
set_option maxRecDepth 100000 in
theorem cutter_walk (A : Option Addr) (n c : Nat) (w : World) : Calls Try.prog 50 #[.slice A n c] w fun e w' => ∃ g : Nat,e = .returned (.func (.func 79) #[] #[.pointer (some ⟨g,0,none⟩)]) ∧ w.heap.size ≤ g ∧ LeftAt w' g A n c ∧ Below w.heap.size w w' := by
 go_enter Try.func50,Try.ntmps50
 go_wp2
 first|go_ret|((try simp only [Exit.inBlock,Exit.then]);refine bodyPost_ret (results_tmp rfl _ _ _) rfl ?_)
 exact ⟨w.heap.size,rfl,Nat.le_refl _,blk_new w _,below_alloc (Below.refl _ _) _⟩
theorem info_u64 : ∃ i,Try.prog.info? 22 = some i ∧ i.size = 1 := by
 have h := info22
 cases hi : Try.prog.info? 22 with
 | none => rw [hi] at h;cases h
 | some i =>
  rw [hi] at h
  simp only [Option.map_some,Option.some.injEq,Prod.mk.injEq] at h
  exact ⟨i,rfl,h.2.1⟩
def dropA (A : Option Addr) (c m : Nat) : Option Addr := if c = m then A else A.map (·.add m)
theorem cut_drop (A : Option Addr) (n c m : Nat) (hm : m ≤ n) (W : World) : (Instr.slice 26 (.slice A n c) (some (.int .i64 (m : Int))) none none).run Try.prog W = .ok (.slice (dropA A c m) (n - m) (c - m)) W := by
 obtain ⟨i,hi,hsz⟩ := info_u64
 have hel : Try.prog.elem 26 = 22 := by simp [Program.elem,Try.underlying26]
 have hu : Try.prog.underlying 26 = some (.slice (Try.prog.elem 26)) := by rw [hel];exact Try.underlying26
 unfold dropA
 rw [run_slice_l W 26 A n c hu .i64 (m : Int) (Int.natCast_nonneg _) (by omega),hel]
 simp [sizeOf,typeInfo,hi,hsz,sliced,Result.andThen]
theorem cut_take (A : Option Addr) (n c m : Nat) (hm : m ≤ c) (W : World) : (Instr.slice 26 (.slice A n c) none (some (.int .i64 (m : Int))) none).run Try.prog W = .ok (.slice A m c) W := by
 obtain ⟨i,hi,hsz⟩ := info_u64
 have hel : Try.prog.elem 26 = 22 := by simp [Program.elem,Try.underlying26]
 have hu : Try.prog.underlying 26 = some (.slice (Try.prog.elem 26)) := by rw [hel];exact Try.underlying26
 have ha : (A.map fun x => x.add 0) = A := by cases A <;> simp [Addr.add]
 rw [run_slice_h W 26 A n c hu .i64 (m : Int) (Int.natCast_nonneg _) (by omega),hel]
 simp [sizeOf,typeInfo,hi,hsz,sliced,Result.andThen,ha]
set_option maxHeartbeats 2000000 in
set_option maxRecDepth 100000 in
theorem take_walk (g : Nat) (A : Option Addr) (n c m : Nat) (w : World) (hg : LeftAt w g A n c) (hc : n ≤ c) (hm : m ≤ n) :
  Calls Try.prog 79 #[.int .i64 (m : Int),.pointer (some ⟨g,0,none⟩)] w fun e w' => e = .returned (.slice A m c) ∧ LeftAt w' g (dropA A c m) (n - m) (c - m) ∧
   (∀ b,b ≠ g → w'.heap[b]? = w.heap[b]?) ∧ (∀ B w0,B ≤ g → Below B w0 w → Below B w0 w') := by
 have c0 := blk_cell hg 0
 simp only [List.getElem?_toArray,List.getElem?_cons_zero] at c0
 have f0 := blk_frozen hg 0
 have h1 := cut_take A n c m (by omega)
 have h2 := cut_drop A n c m hm
 have HG := Aside0.mk hg
 clear hg
 go_enter Try.func79,Try.ntmps79
 go_wp2
 first|go_ret|((try simp only [Exit.inBlock,Exit.then]);refine bodyPost_ret (results_tmp rfl _ _ _) rfl ?_)
 refine ⟨rfl,?_,fun b hb => heap_setCell_other _ ⟨g,0,none⟩ b _ hb,fun B w0 hB h => Below.setCell h (p := ⟨g,0,none⟩) hB _⟩
 exact blk_put HG.out 0 _ rfl
set_option maxHeartbeats 2000000 in
set_option maxRecDepth 100000 in
theorem grow_walk (n : Nat) (hn : n ≤ 1000000) (w : World) : Calls Try.prog 86 #[.slice none 0 0,.int .i64 (n : Int)] w fun e w' => ∃ v : Value,e = .returned v ∧ Kd.R (Kd.int .u64) 22 w' w.heap.size (fun _ => True) v [] ∧ Below w.heap.size w w' := by
 have h0 := cut_take none 0 0 0 (Nat.le_refl _)
 have q0 : decide ((n : Int) < 0) = false := decide_eq_false (by omega)
 by_cases hz : n = 0
 ·subst hz
  go_enter Try.func86,Try.ntmps86
  go_wp2
  first|go_ret|((try simp only [Exit.inBlock,Exit.then]);refine bodyPost_ret (results_tmp rfl _ _ _) rfl ?_)
  exact ⟨_,rfl,Kd.R_nil _ _ _ _ _,Below.refl _ _⟩
 ·have q1 : decide ((n : Int) > 0) = true := decide_eq_true (by omega)
  have q2 : decide ((0 : Int) < (n : Int)) = true := decide_eq_true (by omega)
  have q3 : decide (0 < n) = true := decide_eq_true (by omega)
  go_enter Try.func86,Try.ntmps86
  go_wp2_with (first
   | ((with_reducible refine gate_builtin (b := .append) (xs := #[.tmp 20,.tmp 21]) rfl ?_);at_builtin;refine Kd.R_append_zeros (Kd.int .u64) (w0 := w) w.heap.size rfl (.tmp 20) (.tmp 21) 26 3 22 (.int .u64 0) 8 rfl Try.underlying26 (k := .i64) Try.underlying3 info22 rfl (by decide) (by omega) (.slice none 0 0) ([] : List Int) (0 : Int) (kx := .i64) (n : Int) (fun _ => True) rfl rfl rfl (fun _ _ => trivial) (Kd.R_nil _ _ _ _ _) (by omega) (by first|exact Below.refl _ _|exact below_drew (Below.refl _ _)) (by first|exact Nat.le_refl _|exact below_size (below_drew (Below.refl _ _))) (by simp;omega) ?_;intro v6 w6 ho6 hb6 hg6 ha6;have HO6 := Aside0.mk ho6;have HB6 := Aside0.mk hb6;obtain ⟨A6,c6,e6⟩ := Kd.R_slice ho6;subst e6;clear ho6 hb6 hg6 ha6;have h6 := cut_take A6 (([] : List Int) ++ List.replicate (n : Int).toNat 0).length c6 0 (Nat.zero_le _)))
  first|go_ret|((try simp only [Exit.inBlock,Exit.then]);refine bodyPost_ret (results_tmp rfl _ _ _) rfl ?_)
  refine ⟨_,rfl,?_,HB6.out⟩
  have := Kd.R_take (m := 0) HO6.out (Nat.zero_le _)
  rwa [List.take_zero] at this
def catL (l : List (List Int)) (i : Nat) : List Int := (l.take i).flatten
theorem catL_next (l : List (List Int)) (i : Nat) (h : i < l.length) : catL l (i + 1) = catL l i ++ rd_L4 l (i : Int) := by
 have hr : rd_L4 l (i : Int) = l[i] := by unfold rd_L4;rw [Int.toNat_natCast,List.getD_eq_getElem?_getD,List.getElem?_eq_getElem h];rfl
 unfold catL
 rw [hr,List.take_succ_eq_append_getElem h,List.flatten_append];simp
theorem catL_len (l : List (List Int)) (hx : ∀ x ∈ l,x.length ≤ 1000) : ∀ i,i ≤ l.length → (catL l i).length ≤ 1000 * i
 | 0,_ => by simp [catL]
 | i + 1,h => by
  have ih := catL_len l hx i (by omega)
  rw [catL_next l i (by omega),List.length_append]
  have hr : rd_L4 l (i : Int) = l[i] := by unfold rd_L4;rw [Int.toNat_natCast,List.getD_eq_getElem?_getD,List.getElem?_eq_getElem (by omega)];rfl
  have := hx _ (List.getElem_mem (show i < l.length by omega))
  rw [hr];omega
set_option maxHeartbeats 4000000 in
set_option maxRecDepth 100000 in
theorem concat_walk (A : Option Addr) (c : Nat) (l : List (List Int)) (w : World) (hr : Kd.C (Kd.slice 22 (Kd.int .u64)) w A l.length l) (hc : l.length ≤ c) (hl : l.length ≤ 10) (hx : ∀ x ∈ l,x.length ≤ 1000) :
  Calls Try.prog 54 #[.slice A l.length c] w fun e w' => ∃ v : Value,e = .returned v ∧ Kd.R (Kd.int .u64) 22 w' w.heap.size (fun _ => True) v l.flatten ∧ Below w.heap.size w w' := by
 have HR := Aside0.mk hr
 have HLen := Aside0.mk (catL_len l hx)
 have HNext := Aside0.mk (catL_next l)
 clear hr
 go_enter Try.func54,Try.ntmps54
 go_wp2
 go_loopg [3,5,11] l.length (fun kq v3 v5 v11 w' => ∃ n : Nat,v3 = .int .i64 ((catL l n).length : Int) ∧ v11 = .int .i64 (n : Int) ∧ Aside0 (kq + n = l.length) ∧ w' = w)
 case atStart => exact ⟨0,by simp [catL],rfl,⟨rfl⟩,rfl⟩
 case round =>
  obtain ⟨n,rfl,rfl,HK,hww⟩ := hrel
  cases hww
  by_cases hlt : n < l.length
  ·have p1 : ((0 : Int) ≤ (n : Int)) = True := eq_true (by omega)
   have q1 : ((n : Int) < (l.length : Int)) = True := eq_true (by omega)
   have q2 : decide (n < l.length) = true := decide_eq_true hlt
   obtain ⟨ad,A4,c4,e1,hy,hc4,hC4⟩ := at_L4 HR.out (n : Int) (by omega) (by omega)
   cases e1
   rw [Int.toNat_natCast] at hy
   have hnx := HNext.out n hlt
   have hb1 := HLen.out (n + 1) (by omega)
   rw [hnx,List.length_append] at hb1
   obtain ⟨y,hyy⟩ : ∃ y,y = rd_L4 l (n : Int) := ⟨_,rfl⟩
   obtain ⟨t,ht⟩ : ∃ y,y = (catL l n).length := ⟨_,rfl⟩
   rw [← hyy] at hy hnx hb1 hc4 hC4
   rw [← ht] at hb1
   rw [← ht]
   have HNX := Aside0.mk (show (catL l (n + 1)).length = t + y.length by rw [hnx,List.length_append,← ht])
   have hw1 : wrap64 ((t : Int) + (y.length : Int)) = ((t + y.length : Nat) : Int) := by rw [wrap64];omega
   have q3 : decide (((t + y.length : Nat) : Int) < 0) = false := decide_eq_false (by omega)
   have q4 : decide ((t : Int) + (y.length : Int) < 0) = false := decide_eq_false (by omega)
   have HW := Aside0.mk hw1
   clear hnx hyy ht hC4 hc4 hw1
   go_wp2
   go_roundg (l.length - (n + 1))
   case measure => have := HK.out;omega
   case rel => exact ⟨n + 1,by rw [HNX.out];first|rfl|go_num,by go_num,⟨by omega⟩,rfl⟩
  ·have hd : decide ((n : Int) < (l.length : Int)) = false := decide_eq_false (by omega)
   have hd2 : decide (n < l.length) = false := decide_eq_false hlt
   have hn : n = l.length := by have := HK.out;omega
   subst hn
   have hb1 := HLen.out l.length (Nat.le_refl _)
   have hg := Aside0.mk (grow_walk (catL l l.length).length (by omega) w)
   clear hb1
   go_wp2_with (first
    | (go_at_call 86;(with_reducible refine hg.out.mono ?_);rintro e w1 ⟨v1,rfl,ho1,hb1⟩;have HO1 := Aside0.mk ho1;have HB1 := Aside0.mk hb1;clear ho1 hb1))
   go_loopg [6,8,27] l.length (fun kq v6 v8 v27 w' => ∃ m : Nat,v27 = .int .i64 (m : Int) ∧ Aside0 (kq + m = l.length) ∧ Aside0 (Kd.R (Kd.int .u64) 22 w' w.heap.size (fun _ => True) v6 (catL l m)) ∧ Aside0 (Below w.heap.size w w'))
   case atStart => exact ⟨0,rfl,⟨rfl⟩,HO1,HB1⟩
   case round =>
    clear HO1 HB1 hg
    obtain ⟨m,rfl,HK2,HO,HB⟩ := hrel
    by_cases hlt2 : m < l.length
    ·have p1 : ((0 : Int) ≤ (m : Int)) = True := eq_true (by omega)
     have q1 : ((m : Int) < (l.length : Int)) = True := eq_true (by omega)
     have q2 : decide (m < l.length) = true := decide_eq_true hlt2
     obtain ⟨ad,A4,c4,e1,hy,hc4,hC4⟩ := at_L4 HR.out (m : Int) (by omega) (by omega)
     cases e1
     replace hy := pw_cell_below HB.out hy
     rw [Int.toNat_natCast] at hy
     have hnx := HNext.out m hlt2
     have hb1 := HLen.out (m + 1) (by omega)
     rw [hnx,List.length_append] at hb1
     obtain ⟨y,hyy⟩ : ∃ y,y = rd_L4 l (m : Int) := ⟨_,rfl⟩
     rw [← hyy] at hy hnx hb1 hc4 hC4
     have HNX := Aside0.mk hnx
     have HBd := Aside0.mk hb1
     have HC4 := Aside0.mk (Kd.C_below hC4 HB.out)
     obtain ⟨A7,c7,e7⟩ := Kd.R_slice HO.out
     subst e7
     clear hnx hyy hC4 hc4 hb1
     go_wp2_with (first
      | ((with_reducible refine gate_builtin (b := .append) (xs := #[.tmp 31,.tmp 32]) rfl ?_);at_builtin;refine Kd.R_append_rows (Kd.int .u64) (w0 := w) w.heap.size rfl (.tmp 31) (.tmp 32) 26 22 (.int .u64 0) 8 rfl Try.underlying26 info22 rfl (by decide) (by omega) (.slice A7 (catL l m).length c7) (catL l m) y A4 y.length c4 (fun _ => True) (fun _ => False) rfl rfl HO.out HC4.out (fun _ _ h => h) (fun _ hk => hk.elim) (fun _ _ => trivial) HB.out (below_size HB.out) (by have := HBd.out;omega) ?_;intro v1 w1 ho hb hg hat;rw [← HNX.out] at ho;have HO1 := Aside0.mk ho;have HB1 := Aside0.mk hb;clear ho hb hg hat))
     go_roundg (l.length - (m + 1))
     case measure => have := HK2.out;omega
     case rel => exact ⟨m + 1,by go_num,⟨by omega⟩,HO1,HB1⟩
    ·have hd : decide ((m : Int) < (l.length : Int)) = false := decide_eq_false (by omega)
     have hd2 : decide (m < l.length) = false := decide_eq_false hlt2
     have hm : m = l.length := by have := HK2.out;omega
     have hfull : catL l m = l.flatten := by unfold catL;rw [hm,List.take_length]
     have HFull := Aside0.mk hfull
     clear hfull hm
     go_wp2
     first|go_ret|((try simp only [Exit.inBlock,Exit.then]);refine bodyPost_ret (results_tmp rfl _ _ _) rfl ?_)
     exact ⟨_,rfl,by rw [← HFull.out];exact HO.out,HB.out⟩
end Go.Proofs.Ytejeelpnmdfibaa.Hw
end
section
namespace Go.Proofs.Ytejeelpnmdfibaa.Pr
open Go.RowKit Go.Proofs.YtejeelpnmdfibaaW.PrintWords Go.Proofs.YtejeelpnmdfibaaW.PrintLast Go.Proofs.YtejeelpnmdfibaaW.PrintMore
attribute [local go_sem] max2_int min2_int max_two min_two max_three min_three max_four min_four
set_option linter.unusedVariables false
set_option linter.unusedSimpArgs false
open Go.Proofs.Ytejeelpnmdfibaa.Hw
mutual
def poly_DivMod.l0 : Nat → Int → List Int → Int → List Int → List Int → Option (List Int × List Int × Int)
 | 0,_,_,_,_,_ => none
 | k + 1,x0,x2,x9,x11,x12 => if (x11.length : Int) ≥ (x2.length : Int) then (if 0 ≤ (wrap64 ((x11.length : Int) - 1)) then (if (wrap64 ((x11.length : Int) - 1)) < (x11.length : Int) then ((field_Mul.f k x0 (rd x11 (wrap64 ((x11.length : Int) - 1))) x9).bind fun t154 => (if 0 ≤ (wrap64 ((x11.length : Int) - (x2.length : Int))) then (if (wrap64 ((x11.length : Int) - (x2.length : Int))) < (x12.length : Int) then (poly_DivMod.l1 k x0 x2 x9 x11 (x12.set ((wrap64 ((x11.length : Int) - (x2.length : Int))) : Int).toNat t154) (wrap64 ((x11.length : Int) - (x2.length : Int))) t154 x2 (x2.length : Int) 0) else (none)) else (none))) else (none)) else (none)) else ((poly_Trim.f k x12).bind fun t150 => (some (t150,x11,0)))
def poly_DivMod.l1 : Nat → Int → List Int → Int → List Int → List Int → Int → Int → List Int → Int → Int → Option (List Int × List Int × Int)
 | 0,_,_,_,_,_,_,_,_,_,_ => none
 | k + 1,x0,x2,x9,x11,x12,x13,x14,x66,x67,x68 => if x68 < x67 then (if 0 ≤ x68 then (if x68 < (x66.length : Int) then (if 0 ≤ (wrap64 (x13 + x68)) then (if (wrap64 (x13 + x68)) < (x11.length : Int) then ((field_Mul.f k x0 x14 (rd x66 x68)).bind fun t158 => ((field_Sub.f k x0 (rd x11 (wrap64 (x13 + x68))) t158).bind fun t159 => (poly_DivMod.l1 k x0 x2 x9 (x11.set ((wrap64 (x13 + x68)) : Int).toNat t159) x12 x13 x14 x66 x67 (wrap64 (x68 + 1))))) else (none)) else (none)) else (none)) else (none)) else ((poly_Trim.f k x11).bind fun t161 => (poly_DivMod.l0 k x0 x2 x9 t161 x12))
end
def poly_DivMod.f (k : Nat) (a0 : Int) (l1 : List Int) (l2 : List Int) : Option (List Int × List Int × Int) := (poly_Trim.f k l2).bind fun t138 => (if (t138.length : Int) = 0 then (some (([] : List Int),([] : List Int),8)) else (if 0 ≤ (wrap64 ((t138.length : Int) - 1)) then (if (wrap64 ((t138.length : Int) - 1)) < (t138.length : Int) then ((field_Inverse.f k a0 (rd t138 (wrap64 ((t138.length : Int) - 1)))).bind fun bt142 => ((poly_Trim.f k l1).bind fun t144 => (if 0 ≤ (mx 0 (wrap64 ((wrap64 ((t144.length : Int) - (t138.length : Int))) + 1))) then (if (mx 0 (wrap64 ((wrap64 ((t144.length : Int) - (t138.length : Int))) + 1)) : Int).toNat ≤ 35184372088832 then (poly_DivMod.l0 k a0 t138 bt142.1 t144 (List.replicate (mx 0 (wrap64 ((wrap64 ((t144.length : Int) - (t138.length : Int))) + 1)) : Int).toNat 0)) else (none)) else (none)))) else (none)) else (none)))
def poly_DivMod.T14 : Bool × List (List Nat × List Nat) := (true,[([],[]),([],[]),([],[]),([1,2],[1,2]),([],[]),([],[]),([],[]),([],[]),([6,7],[6,7]),([5,8],[5,8]),([9],[9]),([],[]),([],[]),([],[]),([11,12,13],[11,12,13]),([4,10,14,14],[4,10,14]),([0,3,0,1,2,3,4,5,6,7,8,9,10,11,12,13,14,15],[0,3]),([16,15,15,0,1,2,3,4,5,6,7,8,9,10,11,12,13,14,15],[15,16])])
def poly_DivMod.B14 : List Nat := [0,0,0,6,0,0,0,0,192,480,992,0,0,0,14336,32752,65535,131071]
theorem poly_DivMod.tab14 : rtab .any (opsOf Try.f53 14) = poly_DivMod.T14 := by kernel_rfl
theorem poly_DivMod.bits14 : waitsOk poly_DivMod.T14.2 poly_DivMod.B14 = true := by kernel_rfl
set_option maxHeartbeats 8000000 in
set_option maxRecDepth 100000 in
theorem poly_DivMod.calls (k : Nat) (a0 : Int) (A1 : Option Addr) (c1 : Nat) (l1 : List Int) (A2 : Option Addr) (c2 : Nat) (l2 : List Int) (r1 : List Int) (r2 : List Int) (r3 : Int) (w : World) (hr1 : Kd.C (Kd.int .u64) w A1 l1.length l1) (hc1 : l1.length ≤ c1) (hr2 : Kd.C (Kd.int .u64) w A2 l2.length l2) (hc2 : l2.length ≤ c2) (h : poly_DivMod.f k a0 l1 l2 = some (r1,r2,r3)) :
  Calls Try.prog 53 #[.int .u64 a0,.slice A1 l1.length c1,.slice A2 l2.length c2] w fun e w' => ∃ v0_ v1_ : Value,e = .returned (.tuple #[v0_,v1_,.int .i64 r3]) ∧ Kd.R (Kd.int .u64) 22 w' w.heap.size (fun k_ => some k_ ≠ (v1_ : Value).ownBlock) v0_ r1 ∧ Kd.R (Kd.int .u64) 22 w' w.heap.size (fun k_ => some k_ ≠ (v0_ : Value).ownBlock) v1_ r2 ∧ Below w.heap.size w w' := by
 have HR1 := Aside0.mk hr1
 have HC1 := Aside0.mk hc1
 clear hr1 hc1
 have HR2 := Aside0.mk hr2
 have HC2 := Aside0.mk hc2
 clear hr2 hc2
 have HB := Aside0.mk (Below.refl w.heap.size w)
 have H : ((poly_Trim.f k l2).bind fun t138 => (if (t138.length : Int) = 0 then (some (([] : List Int),([] : List Int),8)) else (if 0 ≤ (wrap64 ((t138.length : Int) - 1)) then (if (wrap64 ((t138.length : Int) - 1)) < (t138.length : Int) then ((field_Inverse.f k a0 (rd t138 (wrap64 ((t138.length : Int) - 1)))).bind fun bt142 => ((poly_Trim.f k l1).bind fun t144 => (if 0 ≤ (mx 0 (wrap64 ((wrap64 ((t144.length : Int) - (t138.length : Int))) + 1))) then (if (mx 0 (wrap64 ((wrap64 ((t144.length : Int) - (t138.length : Int))) + 1)) : Int).toNat ≤ 35184372088832 then (poly_DivMod.l0 k a0 t138 bt142.1 t144 (List.replicate (mx 0 (wrap64 ((wrap64 ((t144.length : Int) - (t138.length : Int))) + 1)) : Int).toNat 0)) else (none)) else (none)))) else (none)) else (none)))) = some (r1,r2,r3) := h
 clear h
 replace H := Option.bind_eq_some_iff.mp H
 obtain ⟨t138,A40,H⟩ := H
 try dsimp only at H
 have A4 := Aside0.mk A40
 clear A40
 by_cases c5 : (t138.length : Int) = 0
 ·rw [if_pos c5] at H
  have c5b0 : ((t138.length : Int) == 0) = true := beq_iff_eq.mpr c5
  have c5b1 : ((t138.length : Int) != 0) = false := bne_eq_false_iff_eq.mpr c5
  clear c5
  simp only [Option.some.injEq,Prod.mk.injEq] at H
  obtain ⟨rfl,rfl,rfl⟩ := H
  go_enter Try.func53,Try.ntmps53
  go_wp2_with (first|((with_reducible refine gate_callee (f := 83) rfl ?_);refine goesL_ (some 18) rfl rfl Try.func83 (by kernel_rfl) rfl #[.slice A2 l2.length c2] rfl (by (try simp only [List.map_toArray,List.map_cons,List.map_nil]);first|done|rfl|(simp only [List.length_drop,List.length_take];rfl)) ?_;(with_reducible refine (poly_Trim.calls k _ _ l2 t138 _ ?side1 ?side2 A4.out).mono ?_);(case side1 => repeat (first|exact HR2.out|(with_reducible refine Kd.C_alloc ?_ _)|(with_reducible refine Kd.C_drewN ?_ _)|(with_reducible refine Kd.C_drew ?_)));(case side2 => exact HC2.out);rintro e w6 ⟨v139,rfl,ho0,hb⟩;refine ⟨_,rfl,?_⟩;have n0_ := Aside0.mk (Kd.R_lower ho0 (below_size (bb HB)));have n1_ := Aside0.mk (below_step (bb HB) hb);clear HB;have HO140 := n0_;have HB := n1_;clear n0_ n1_;(try clear hb);(try clear hb2);(try clear hk);(try clear hi);(try clear ho0);obtain ⟨Ao7,co7,eo7⟩ := Kd.R_slice HO140.out;subst eo7))
  go_ret3
  exact ⟨_,_,by first|rfl|(simp [errW_none,errW_some] <;> rfl)|(simp [*,errW_none,errW_some] <;> rfl),by first|exact Kd.R_nil _ _ _ _ _|exact Kd.N_nil _ _ _ _ _|exact Kd.V_nil _ _ _ _ _|exact Kd.Q_nil _ _ _ _ _|exact Kd.S_nil _ _ _ _ _,by first|exact Kd.R_nil _ _ _ _ _|exact Kd.N_nil _ _ _ _ _|exact Kd.V_nil _ _ _ _ _|exact Kd.Q_nil _ _ _ _ _|exact Kd.S_nil _ _ _ _ _,by repeat (first|(with_reducible first|exact HB.out|apply below_alloc|apply pw_below_drewN|apply below_drew1)|exact HB.out)⟩
 ·rw [if_neg c5] at H
  have c5b0 : ((t138.length : Int) == 0) = false := beq_eq_false_iff_ne.mpr c5
  have c5b1 : ((t138.length : Int) != 0) = true := bne_iff_ne.mpr c5
  have c5b2 : ¬ (t138 = []) := fun h_ => c5 (by rw [h_];rfl)
  obtain ⟨ji8,hji8⟩ : ∃ j_ : Int,(wrap64 ((t138.length : Int) - 1)) = j_ := ⟨_,rfl⟩
  first|rw [hji8] at H|simp only [hji8] at H
  (try rw [hji8] at A4)
  have hji8w : (IntKind.i64.wrap ((t138.length : Int) - 1)) = ji8 := (i64_w _).trans hji8
  by_cases c9 : 0 ≤ (ji8)
  ·rw [if_pos c9] at H
   have c9b0 : decide (0 ≤ (ji8)) = true := decide_eq_true c9
   clear c9
   by_cases c10 : (ji8) < (t138.length : Int)
   ·rw [if_pos c10] at H
    have c10b0 : decide ((ji8) < (t138.length : Int)) = true := decide_eq_true c10
    clear c10
    replace H := Option.bind_eq_some_iff.mp H
    obtain ⟨⟨t142,t143⟩,A110,H⟩ := H
    try dsimp only at H
    have A11 := Aside0.mk A110
    clear A110
    replace H := Option.bind_eq_some_iff.mp H
    obtain ⟨t144,A120,H⟩ := H
    try dsimp only at H
    have A12 := Aside0.mk A120
    clear A120
    obtain ⟨ji13,hji13⟩ : ∃ j_ : Int,(mx 0 (wrap64 ((wrap64 ((t144.length : Int) - (t138.length : Int))) + 1))) = j_ := ⟨_,rfl⟩
    first|rw [hji13] at H|simp only [hji13] at H
    (try rw [hji13] at A4)
    (try rw [hji13] at A11)
    (try rw [hji13] at A12)
    (try (have hji13l : 0 ≤ ji13 := by (rw [← hji13];unfold mx;(repeat' split) <;> omega)))
    (try (have hji13m : 0 ≤ ji13 := by omega))
    have hji13_ : (if 0 < (wrap64 ((wrap64 ((t144.length : Int) - (t138.length : Int))) + 1)) then (wrap64 ((wrap64 ((t144.length : Int) - (t138.length : Int))) + 1)) else 0) = ji13 := hji13
    by_cases c14 : 0 ≤ (ji13)
    ·rw [if_pos c14] at H
     have c14b0 := eq_true c14
     have c14b1 : decide (0 ≤ (ji13)) = true := decide_eq_true c14
     clear c14
     by_cases c15 : (ji13 : Int).toNat ≤ 35184372088832
     ·rw [if_pos c15] at H
      have c15b0 := eq_true c15
      have c15b1 : decide ((ji13 : Int).toNat ≤ 35184372088832) = true := decide_eq_true c15
      clear c15
      obtain ⟨y147,hy147⟩ : ∃ y_ : List Int,y_ = (List.replicate (ji13 : Int).toNat 0) := ⟨_,rfl⟩
      replace H : (poly_DivMod.l0 k a0 t138 t142 t144 y147) = some (r1,r2,r3) := by first|(rw [hy147];with_reducible exact H)|(have H2_ := (Option.bind_some _ _).symm.trans H;rw [hy147];with_reducible exact H2_)|(have H2_ := (Option.bind_some _ _).symm.trans H;with_reducible exact H2_)|with_reducible exact H|(rw [hy147];exact H)|exact H
      have Ny147 := Aside0.mk hy147
      clear hy147
      have H' := Aside0.mk H
      clear H
      go_enter Try.func53,Try.ntmps53
      go_wp2_with (first|((with_reducible refine gate_callee (f := 83) rfl ?_);refine goesL_ (some 18) rfl rfl Try.func83 (by kernel_rfl) rfl #[.slice A2 l2.length c2] rfl (by (try simp only [List.map_toArray,List.map_cons,List.map_nil]);first|done|rfl|(simp only [List.length_drop,List.length_take];rfl)) ?_;(with_reducible refine (poly_Trim.calls k _ _ l2 t138 _ ?side1 ?side2 A4.out).mono ?_);(case side1 => repeat (first|exact HR2.out|(with_reducible refine Kd.C_alloc ?_ _)|(with_reducible refine Kd.C_drewN ?_ _)|(with_reducible refine Kd.C_drew ?_)));(case side2 => exact HC2.out);rintro e w16 ⟨v139,rfl,ho0,hb⟩;refine ⟨_,rfl,?_⟩;have n0_ := Aside0.mk (Kd.R_lower ho0 (below_size (bb HB)));have n1_ := Aside0.mk (below_step (bb HB) hb);clear HB;have HO140 := n0_;have HB := n1_;clear n0_ n1_;(try clear hb);(try clear hb2);(try clear hk);(try clear hi);(try clear ho0);obtain ⟨Ao17,co17,eo17⟩ := Kd.R_slice HO140.out;subst eo17;have p141 : 0 ≤ ((ji8) : Int) := of_decide_eq_true (by first|(with_reducible assumption)|assumption);have q141 : (ji8) < (t138.length : Int) := of_decide_eq_true (by first|(with_reducible assumption)|assumption);obtain ⟨ad141,e141,hx141_0⟩ := Kd.at_int (Kd.R_reads' HO140.out).2.2 (ji8) p141 q141;cases e141;replace p141 := eq_true p141;replace q141 := eq_true q141)|((with_reducible refine gate_callee (f := 84) rfl ?_);refine goesL_ (some 30) rfl rfl Try.func84 (by kernel_rfl) rfl #[.int .u64 a0,.int .u64 (rd t138 (ji8))] rfl (by (try simp only [List.map_toArray,List.map_cons,List.map_nil]);first|done|(simp only [hji8];rfl)|rfl|(simp only [List.length_drop,List.length_take];rfl)) ?_;(with_reducible refine (field_Inverse.calls k a0 (rd t138 (ji8)) t142 t143 _ A11.out).mono ?_);rintro e w' ⟨rfl,⟨nd,rfl⟩⟩;refine ⟨_,rfl,?_⟩)|((with_reducible refine gate_callee (f := 83) rfl ?_);refine goesL_ (some 34) rfl rfl Try.func83 (by kernel_rfl) rfl #[.slice A1 l1.length c1] rfl (by (try simp only [List.map_toArray,List.map_cons,List.map_nil]);first|done|rfl|(simp only [List.length_drop,List.length_take];rfl)) ?_;(with_reducible refine (poly_Trim.calls k _ _ l1 t144 _ ?side1 ?side2 A12.out).mono ?_);(case side1 => repeat (first|exact (Kd.C_below HR1.out (bb HB))|(with_reducible refine Kd.C_alloc ?_ _)|(with_reducible refine Kd.C_drewN ?_ _)|(with_reducible refine Kd.C_drew ?_)));(case side2 => exact HC1.out);rintro e w18 ⟨v145,rfl,ho0,hb⟩;refine ⟨_,rfl,?_⟩;have n0_ := Aside0.mk (Kd.R_elder' (rr HO140) (Kd.R_base ho0) hb);have n1_ := Aside0.mk (Kd.R_lower (Kd.R_new' ho0 (Kd.R_lt (rr HO140))) (below_size (bb HB)));have n2_ := Aside0.mk (below_step (bb HB) hb);clear HO140 HB;have HO140 := n0_;have HO146 := n1_;have HB := n2_;clear n0_ n1_ n2_;(try clear hb);(try clear hb2);(try clear hk);(try clear hi);(try clear ho0);obtain ⟨Ao19,co19,eo19⟩ := Kd.R_slice HO146.out;subst eo19)|((with_reducible refine gate_dst (N := 42) rfl ?_);refine Kd.R_make (Kd.int .u64) _ 22 rfl (N := 42) rfl 26 _ _ rfl ji13 rfl rfl Try.underlying26 (.int .u64 0) 8 info22 rfl (by decide) (by omega) 0 (ok := fun _ => True) (okp := fun _ => True) rfl (fun _ hk => hk) trivial (of_decide_eq_true (by first|(with_reducible assumption)|assumption)) (Nat.le_trans (Nat.mul_le_mul_right _ (of_decide_eq_true (by first|(with_reducible assumption)|assumption) : ji13.toNat ≤ 35184372088832)) (by omega)) (Below.refl _ _) (Nat.le_refl _) ?_;intro v148 w20 ho21 hb hg_ hnew_;clear hg_ hnew_;(first|rw [← Ny147.out] at ho21|(simp only [Int.reduceToNat] at ho21;rw [← Ny147.out] at ho21));have n0_ := Aside0.mk (Kd.R_elder' (rr HO140) (Kd.R_base ho21) hb);have n1_ := Aside0.mk (Kd.R_elder' (rr HO146) (Kd.R_base ho21) hb);have n2_ := Aside0.mk (Kd.R_lower (Kd.R_new' (Kd.R_new' ho21 (Kd.R_lt (rr HO140))) (Kd.R_lt (rr HO146))) (below_size (bb HB)));have n3_ := Aside0.mk (below_step (bb HB) hb);clear HO140 HO146 HB;have HO140 := n0_;have HO146 := n1_;have HO149 := n2_;have HB := n3_;clear n0_ n1_ n2_ n3_;clear hb ho21))
      go_loopg [11] k (fun kq v11 w' => ∃ (x2_1 : List Int) (x11_1 : List Int) (x12_1 : List Int),Aside0 (poly_DivMod.l0 kq a0 x2_1 t142 x11_1 x12_1 = some (r1,r2,r3)) ∧ Aside0 (kq ≤ k) ∧ Aside0 (Kd.R (Kd.int .u64) 22 w' w.heap.size (fun k_ => some k_ ≠ (v11 : Value).ownBlock ∧ some k_ ≠ (v148 : Value).ownBlock) (.slice (some ad141) t138.length co17) x2_1) ∧ Aside0 (Kd.R (Kd.int .u64) 22 w' w.heap.size (fun k_ => some k_ ≠ ((.slice (some ad141) t138.length co17) : Value).ownBlock ∧ some k_ ≠ (v148 : Value).ownBlock) v11 x11_1) ∧ Aside0 (Kd.R (Kd.int .u64) 22 w' w.heap.size (fun k_ => some k_ ≠ ((.slice (some ad141) t138.length co17) : Value).ownBlock ∧ some k_ ≠ (v11 : Value).ownBlock) v148 x12_1) ∧ Aside0 (Below w.heap.size w w'))
      case atStart => exact ⟨(t138),(t144),(y147),H',⟨Nat.le_refl _⟩,⟨by (with_reducible repeat (first|apply Kd.R_alloc|apply Kd.R_drewN|apply Kd.R_drew));exact Kd.R_mono HO140.out (fun _ hk => ⟨hk.1.2,hk.2⟩)⟩,⟨by (with_reducible repeat (first|apply Kd.R_alloc|apply Kd.R_drewN|apply Kd.R_drew));exact Kd.R_mono HO146.out (fun _ hk => ⟨hk.1.2,hk.2⟩)⟩,⟨by (with_reducible repeat (first|apply Kd.R_alloc|apply Kd.R_drewN|apply Kd.R_drew));exact Kd.R_mono HO149.out (fun _ hk => ⟨hk.1.2,hk.2⟩)⟩,⟨by repeat (first|(with_reducible first|exact HB.out|apply below_alloc|apply pw_below_drewN|apply below_drew1)|exact HB.out)⟩⟩
      case round =>
       clear H'
       try clear c1
       try clear p1
       try clear q1
       try clear hx1
       try clear c2
       try clear p2
       try clear c5
       try clear c5b0
       try clear c5b1
       try clear c5b2
       try clear p6
       try clear c8
       try clear c9
       try clear c9b0
       try clear c10
       try clear c10b0
       try clear c14
       try clear c14b0
       try clear c14b1
       try clear p14
       try clear q14
       try clear hx14
       try clear c15
       try clear c15b0
       try clear c15b1
       try clear hx141_0
       try clear p141
       try clear q141
       obtain ⟨x2_1,x11_1,x12_1,HA,HK1,HO_2,HO_11,HO_12,HB⟩ := hrel
       have hl2_1 := (Kd.R_reads' HO_2.out).1
       rw [hl2_1] at HO_2
       (try simp only [hl2_1])
       (try simp only [hl2_1] at HO_11)
       (try simp only [hl2_1] at HO_12)
       cases gk with
       | zero => exact absurd HA.out (by simp [poly_DivMod.l0])
       | succ k1 =>
        have H := HA.out
        clear HA
        simp only [poly_DivMod.l0] at H
        by_cases c22 : (x11_1.length : Int) ≥ (x2_1.length : Int)
        ·rw [if_pos c22] at H
         have c22b0 : decide ((x2_1.length : Int) ≤ (x11_1.length : Int)) = true := decide_eq_true c22
         have c22b1 : decide (x2_1.length ≤ x11_1.length) = true := decide_eq_true (Int.ofNat_le.mp c22)
         clear c22
         obtain ⟨ji23,hji23⟩ : ∃ j_ : Int,(wrap64 ((x11_1.length : Int) - 1)) = j_ := ⟨_,rfl⟩
         first|rw [hji23] at H|simp only [hji23] at H
         have hji23w : (IntKind.i64.wrap ((x11_1.length : Int) - 1)) = ji23 := (i64_w _).trans hji23
         by_cases c24 : 0 ≤ (ji23)
         ·rw [if_pos c24] at H
          have c24b0 : decide (0 ≤ (ji23)) = true := decide_eq_true c24
          clear c24
          by_cases c25 : (ji23) < (x11_1.length : Int)
          ·rw [if_pos c25] at H
           have c25b0 : decide ((ji23) < (x11_1.length : Int)) = true := decide_eq_true c25
           clear c25
           replace H := Option.bind_eq_some_iff.mp H
           obtain ⟨t154,A260,H⟩ := H
           try dsimp only at H
           have A26 := Aside0.mk A260
           clear A260
           obtain ⟨ji27,hji27⟩ : ∃ j_ : Int,(wrap64 ((x11_1.length : Int) - (x2_1.length : Int))) = j_ := ⟨_,rfl⟩
           first|rw [hji27] at H|simp only [hji27] at H
           (try rw [hji27] at A26)
           have hji27w : (IntKind.i64.wrap ((x11_1.length : Int) - (x2_1.length : Int))) = ji27 := (i64_w _).trans hji27
           by_cases c28 : 0 ≤ (ji27)
           ·rw [if_pos c28] at H
            have c28b0 : decide (0 ≤ (ji27)) = true := decide_eq_true c28
            clear c28
            by_cases c29 : (ji27) < (x12_1.length : Int)
            ·rw [if_pos c29] at H
             have c29b0 : decide ((ji27) < (x12_1.length : Int)) = true := decide_eq_true c29
             clear c29
             obtain ⟨y155,hy155⟩ : ∃ y_ : List Int,y_ = (x12_1.set ((ji27) : Int).toNat t154) := ⟨_,rfl⟩
             replace H : (poly_DivMod.l1 k1 a0 x2_1 t142 x11_1 y155 ji27 t154 x2_1 (x2_1.length : Int) 0) = some (r1,r2,r3) := by first|(rw [hy155];with_reducible exact H)|(have H2_ := (Option.bind_some _ _).symm.trans H;rw [hy155];with_reducible exact H2_)|(have H2_ := (Option.bind_some _ _).symm.trans H;with_reducible exact H2_)|with_reducible exact H|(rw [hy155];exact H)|exact H
             have Ny155 := Aside0.mk hy155
             clear hy155
             have H' := Aside0.mk H
             clear H
             obtain ⟨Ao31,co31,eo31⟩ := Kd.R_slice HO_11.out
             subst eo31
             have p153 : 0 ≤ ((ji23) : Int) := of_decide_eq_true (by first|(with_reducible assumption)|assumption)
             have q153 : (ji23) < (x11_1.length : Int) := of_decide_eq_true (by first|(with_reducible assumption)|assumption)
             obtain ⟨ad153,e153,hx153_0⟩ := Kd.at_int (Kd.R_reads' HO_11.out).2.2 (ji23) p153 q153
             cases e153
             replace p153 := eq_true p153
             replace q153 := eq_true q153
             go_wp2_with (first|((with_reducible refine gate_callee (f := 70) rfl ?_);refine goesL_ (some 61) rfl rfl Try.func70 (by kernel_rfl) rfl #[.int .u64 a0,.int .u64 (rd x11_1 (ji23)),.int .u64 t142] rfl (by (try simp only [List.map_toArray,List.map_cons,List.map_nil]);first|done|(simp only [hji23];rfl)|rfl|(simp only [List.length_drop,List.length_take];rfl)) ?_;(with_reducible refine (field_Mul.calls k1 a0 (rd x11_1 (ji23)) t142 t154 _ A26.out).mono ?_);rintro e w' ⟨rfl,⟨nd,rfl⟩⟩;refine ⟨_,rfl,?_⟩;(try (rw [drewN_self wr];generalize hq_ : World.drewN wr _ = wr;have n0_ : Aside0 (Kd.R (Kd.int .u64) 22 wr w.heap.size (fun k_ => some k_ ≠ (v148 : Value).ownBlock ∧ some k_ ≠ (.slice (some ad141) x2_1.length co17 : Value).ownBlock) (.slice (some ad153) x11_1.length co31) x11_1) := ⟨by rw [← hq_];exact (by (with_reducible repeat (first|apply Kd.R_alloc|apply Kd.R_drewN|apply Kd.R_drew));exact Kd.R_mono HO_11.out (fun _ hk => ⟨hk.2,hk.1⟩))⟩;have n1_ : Aside0 (Kd.R (Kd.int .u64) 22 wr w.heap.size (fun k_ => some k_ ≠ (.slice (some ad153) x11_1.length co31 : Value).ownBlock ∧ some k_ ≠ (.slice (some ad141) x2_1.length co17 : Value).ownBlock) v148 x12_1) := ⟨by rw [← hq_];exact (by (with_reducible repeat (first|apply Kd.R_alloc|apply Kd.R_drewN|apply Kd.R_drew));exact Kd.R_mono HO_12.out (fun _ hk => ⟨hk.2,hk.1⟩))⟩;have n2_ : Aside0 (Kd.R (Kd.int .u64) 22 wr w.heap.size (fun k_ => some k_ ≠ (.slice (some ad153) x11_1.length co31 : Value).ownBlock ∧ some k_ ≠ (v148 : Value).ownBlock) (.slice (some ad141) x2_1.length co17) x2_1) := ⟨by rw [← hq_];exact (rr HO_2)⟩;have n3_ : Aside0 (Below w.heap.size w wr) := ⟨by rw [← hq_];exact (bb HB)⟩;clear HO_11 HO_12 HO_2 HB hq_;have HO_11 := n0_;have HO_12 := n1_;have HO_2 := n2_;have HB := n3_;clear n0_ n1_ n2_ n3_));have p30 : 0 ≤ ((ji27) : Int) := of_decide_eq_true (by first|(with_reducible assumption)|assumption);have q30 : ((ji27) : Int) < ((x12_1.length : Int) : Int) := of_decide_eq_true (by first|(with_reducible assumption)|assumption);obtain ⟨go30,co30,eo30,gb30,gl30,cl30,HG30⟩ := Kd.R_form HO_12.out (by omega);(first|cases eo30|(injection eo30 with ea_ en_ ec_;(first|subst ea_|(injection ea_ with ea_;subst ea_));subst ec_;clear en_));have GB30 := Aside0.mk gb30;have GG30 := Aside0.mk HG30;clear gb30 gl30 HG30;obtain ⟨hx30_0,hf30_0⟩ := Kd.R_celln 0 HO_12.out ((ji27) : Int) p30 q30;replace p30 := eq_true p30;replace q30 := eq_true q30;obtain ⟨hy32_,hz32_⟩ := Kd.R_celln 0 HO_12.out ((ji27) : Int) (of_decide_eq_true (by first|(with_reducible assumption)|assumption)) (of_decide_eq_true (by first|(with_reducible assumption)|assumption));have HP32 := Kd.R_putg HO_12.out ((ji27) : Int) t154)|((with_reducible refine gate_store (t := 22) (p := 65) rfl ?_);refine store_event (t := 22) (p := 65) (v := ?vo_w33) (w1 := (wr.setCell ⟨go30,((ji27) : Int).toNat,none⟩ (.int .u64 t154))) ?hg ?ho ?hn ?hr ?_;(case ho => rfl);(case hg => rfl);(case hn => rfl);(case hr => first|(go_simp;done)|(go_simp;rfl));intro w33 hw;have hg : wr.grownBy w33 (some go30) := (by rw [hw];exact HP32.2);have hp_ : Kd.R (Kd.int .u64) 22 w33 w.heap.size (fun k_ => some k_ ≠ (.slice (some ad141) x2_1.length co17 : Value).ownBlock ∧ some k_ ≠ (.slice (some ad153) x11_1.length co31 : Value).ownBlock) (.slice (some ⟨go30,0,none⟩) x12_1.length co30) y155 := (by rw [hw,Ny155.out];exact HP32.1);clear HP32;have n0_ := Aside0.mk (Kd.R_after (v := (.slice (some ⟨go30,0,none⟩) x12_1.length co30)) (v1 := (.slice (some ⟨go30,0,none⟩) x12_1.length co30)) (ok := (fun k_ => some k_ ≠ (.slice (some ad153) x11_1.length co31 : Value).ownBlock)) (rr HO_2) hg (.inl rfl));have n1_ := Aside0.mk (Kd.R_after (v := (.slice (some ⟨go30,0,none⟩) x12_1.length co30)) (v1 := (.slice (some ⟨go30,0,none⟩) x12_1.length co30)) (ok := (fun k_ => some k_ ≠ (.slice (some ad141) x2_1.length co17 : Value).ownBlock)) (rr HO_11) hg (.inl rfl));have n2_ := Aside0.mk (hp_);have n3_ := Aside0.mk ((by rw [hw];exact below_set (HB.out) GB30.out : Below w.heap.size w w33));clear HO_2 HO_11 HO_12 HB;have HO_2 := n0_;have HO_11 := n1_;have HO_12 := n2_;have HB := n3_;clear n0_ n1_ n2_ n3_;clear hg hw hp_))
             go_loopg [68] k1 (fun kq v68 w' => ∃ (x11_2 : List Int) (x68_2 : Int),v68 = .int .i64 x68_2 ∧ Aside0 (poly_DivMod.l1 kq a0 x2_1 t142 x11_2 y155 ji27 t154 x2_1 (x2_1.length : Int) x68_2 = some (r1,r2,r3)) ∧ Aside0 (kq ≤ k1) ∧ Aside0 (Kd.R (Kd.int .u64) 22 w' w.heap.size (fun k_ => some k_ ≠ ((.slice (some ad153) x11_1.length co31) : Value).ownBlock ∧ some k_ ≠ ((.slice (some ⟨go30,0,none⟩) x12_1.length co30) : Value).ownBlock) (.slice (some ad141) x2_1.length co17) x2_1) ∧ Aside0 (Kd.R (Kd.int .u64) 22 w' w.heap.size (fun k_ => some k_ ≠ ((.slice (some ad141) x2_1.length co17) : Value).ownBlock ∧ some k_ ≠ ((.slice (some ⟨go30,0,none⟩) x12_1.length co30) : Value).ownBlock ∧ some k_ ≠ ((.slice (some ad141) x2_1.length co17) : Value).ownBlock) (.slice (some ad153) x11_1.length co31) x11_2) ∧ Aside0 (Kd.R (Kd.int .u64) 22 w' w.heap.size (fun k_ => some k_ ≠ ((.slice (some ad141) x2_1.length co17) : Value).ownBlock ∧ some k_ ≠ ((.slice (some ad153) x11_1.length co31) : Value).ownBlock ∧ some k_ ≠ ((.slice (some ad141) x2_1.length co17) : Value).ownBlock) (.slice (some ⟨go30,0,none⟩) x12_1.length co30) y155) ∧ Aside0 (Kd.R (Kd.int .u64) 22 w' w.heap.size (fun k_ => some k_ ≠ ((.slice (some ad153) x11_1.length co31) : Value).ownBlock ∧ some k_ ≠ ((.slice (some ⟨go30,0,none⟩) x12_1.length co30) : Value).ownBlock) (.slice (some ad141) x2_1.length co17) x2_1) ∧ Aside0 (Below w.heap.size w w'))
             case atStart => exact ⟨(x11_1),(0),(by first|rfl|(simp;done)|(simp [*];done)),H',⟨Nat.le_refl _⟩,⟨by (try simp only [hl2_1]);(with_reducible repeat (first|apply Kd.R_alloc|apply Kd.R_drewN|apply Kd.R_drew));exact R_setfar HO_2.out (fun k_ hk e => by subst e;first|exact hk.2 rfl|exact hk.1 rfl)⟩,⟨by (try simp only [hl2_1]);(with_reducible repeat (first|apply Kd.R_alloc|apply Kd.R_drewN|apply Kd.R_drew));exact Kd.R_mono (R_setfar HO_11.out (fun k_ hk e => by subst e;first|exact hk.2 rfl|exact hk.1 rfl)) (fun _ hk => by first|exact ⟨hk.1,⟨hk.2,hk.1⟩⟩|exact ⟨hk.2,⟨hk.1,hk.2⟩⟩)⟩,⟨by (try simp only [hl2_1]);(with_reducible repeat (first|apply Kd.R_alloc|apply Kd.R_drewN|apply Kd.R_drew));exact Kd.R_mono (R_setown Ny155.out HO_12.out) (fun _ hk => by first|exact ⟨hk.1,⟨hk.2,hk.1⟩⟩|exact ⟨hk.2,⟨hk.1,hk.2⟩⟩)⟩,⟨by (try simp only [hl2_1]);(with_reducible repeat (first|apply Kd.R_alloc|apply Kd.R_drewN|apply Kd.R_drew));exact R_setfar HO_2.out (fun k_ hk e => by subst e;first|exact hk.2 rfl|exact hk.1 rfl)⟩,⟨Below.setCell HB.out (p := ⟨_,(ji27).toNat,none⟩) (own_base (Kd.own_of_R HO_12.out) _ rfl) _⟩⟩
             case round =>
              clear H'
              try clear c1
              try clear p1
              try clear q1
              try clear hx1
              try clear c2
              try clear p2
              try clear p3
              try clear q3
              try clear hx3
              try clear hf3
              try clear c5
              try clear c5b0
              try clear c5b1
              try clear c5b2
              try clear p6
              try clear c7
              try clear c8
              try clear c9
              try clear c9b0
              try clear c10
              try clear c10b0
              try clear c14
              try clear c14b0
              try clear c14b1
              try clear p14
              try clear q14
              try clear hx14
              try clear c15
              try clear c15b0
              try clear c15b1
              try clear p15
              try clear q15
              try clear hx15
              try clear c22
              try clear c22b0
              try clear c22b1
              try clear c24
              try clear c24b0
              try clear c25
              try clear c25b0
              try clear c28
              try clear c28b0
              try clear c29
              try clear c29b0
              try clear p30
              try clear q30
              try clear hx30
              try clear hf30
              try clear hx141_0
              try clear hx153_0
              try clear hx30_0
              try clear p1
              try clear p14
              try clear p141
              try clear p153
              try clear p2
              try clear p30
              try clear p6
              try clear q1
              try clear q14
              try clear q141
              try clear q153
              try clear q30
              obtain ⟨x11_2,x68_2,rfl,HA,HK2,HO_2,HO_11,HO_12,HO_66,HB⟩ := hrel
              have hl11_2 := (Kd.R_reads' HO_11.out).1
              rw [hl11_2] at HO_11
              (try simp only [hl11_2])
              (try simp only [hl11_2] at HO_2)
              (try simp only [hl11_2] at HO_12)
              (try simp only [hl11_2] at HO_66)
              have hl12_2 := (Kd.R_reads' HO_12.out).1
              rw [hl12_2] at HO_12
              (try simp only [hl12_2])
              (try simp only [hl12_2] at HO_2)
              (try simp only [hl12_2] at HO_11)
              (try simp only [hl12_2] at HO_66)
              cases gk with
              | zero => exact absurd HA.out (by simp [poly_DivMod.l1])
              | succ k2 =>
               have H := HA.out
               clear HA
               simp only [poly_DivMod.l1] at H
               by_cases c34 : x68_2 < (x2_1.length : Int)
               ·rw [if_pos c34] at H
                have c34b0 : decide (x68_2 < (x2_1.length : Int)) = true := decide_eq_true c34
                clear c34
                by_cases c35 : 0 ≤ x68_2
                ·rw [if_pos c35] at H
                 have c35b0 : decide (0 ≤ x68_2) = true := decide_eq_true c35
                 clear c35
                 by_cases c36 : x68_2 < (x2_1.length : Int)
                 ·rw [if_pos c36] at H
                  have c36b0 : decide (x68_2 < (x2_1.length : Int)) = true := decide_eq_true c36
                  clear c36
                  obtain ⟨ji37,hji37⟩ : ∃ j_ : Int,(wrap64 (ji27 + x68_2)) = j_ := ⟨_,rfl⟩
                  first|rw [hji37] at H|simp only [hji37] at H
                  have hji37w : (IntKind.i64.wrap (ji27 + x68_2)) = ji37 := (i64_w _).trans hji37
                  by_cases c38 : 0 ≤ (ji37)
                  ·rw [if_pos c38] at H
                   have c38b0 : decide (0 ≤ (ji37)) = true := decide_eq_true c38
                   clear c38
                   by_cases c39 : (ji37) < (x11_2.length : Int)
                   ·rw [if_pos c39] at H
                    have c39b0 : decide ((ji37) < (x11_2.length : Int)) = true := decide_eq_true c39
                    clear c39
                    replace H := Option.bind_eq_some_iff.mp H
                    obtain ⟨t158,A400,H⟩ := H
                    try dsimp only at H
                    have A40 := Aside0.mk A400
                    clear A400
                    replace H := Option.bind_eq_some_iff.mp H
                    obtain ⟨t159,A410,H⟩ := H
                    try dsimp only at H
                    have A41 := Aside0.mk A410
                    clear A410
                    obtain ⟨y160,hy160⟩ : ∃ y_ : List Int,y_ = (x11_2.set ((ji37) : Int).toNat t159) := ⟨_,rfl⟩
                    replace H : (poly_DivMod.l1 k2 a0 x2_1 t142 y160 y155 ji27 t154 x2_1 (x2_1.length : Int) (wrap64 (x68_2 + 1))) = some (r1,r2,r3) := by first|(rw [hy160];with_reducible exact H)|(have H2_ := (Option.bind_some _ _).symm.trans H;rw [hy160];with_reducible exact H2_)|(have H2_ := (Option.bind_some _ _).symm.trans H;with_reducible exact H2_)|with_reducible exact H|(rw [hy160];exact H)|exact H
                    have Ny160 := Aside0.mk hy160
                    clear hy160
                    have H' := Aside0.mk H
                    clear H
                    have p156 : 0 ≤ (x68_2 : Int) := of_decide_eq_true (by first|(with_reducible assumption)|assumption)
                    have q156 : x68_2 < (x2_1.length : Int) := of_decide_eq_true (by first|(with_reducible assumption)|assumption)
                    obtain ⟨ad156,e156,hx156_0⟩ := Kd.at_int (Kd.R_reads' HO_66.out).2.2 x68_2 p156 q156
                    obtain rfl : ad141 = ad156 := (by injection e156)
                    replace p156 := eq_true p156
                    replace q156 := eq_true q156
                    try go_wp2
                    have n0_ := Aside0.mk (Kd.R_drew HO_2.out)
                    have n1_ := Aside0.mk (Kd.R_drew HO_11.out)
                    have n2_ := Aside0.mk (Kd.R_drew HO_12.out)
                    have n3_ := Aside0.mk (Kd.R_drew HO_66.out)
                    have n4_ := Aside0.mk (below_drew1 HB.out)
                    clear HO_2
                    clear HO_11
                    clear HO_12
                    clear HO_66
                    clear HB
                    have HO_2 := n0_
                    have HO_11 := n1_
                    have HO_12 := n2_
                    have HO_66 := n3_
                    have HB := n4_
                    clear n0_ n1_ n2_ n3_ n4_
                    have p157 : 0 ≤ ((ji37) : Int) := of_decide_eq_true (by first|(with_reducible assumption)|assumption)
                    have q157 : (ji37) < (x11_2.length : Int) := of_decide_eq_true (by first|(with_reducible assumption)|assumption)
                    obtain ⟨ad157,e157,hx157_0⟩ := Kd.at_int (Kd.R_reads' HO_11.out).2.2 (ji37) p157 q157
                    obtain rfl : ad153 = ad157 := (by injection e157)
                    replace p157 := eq_true p157
                    replace q157 := eq_true q157
                    refine start_ (n := 18) (S := fun w' => w'.cell? (ad153.add ((ji37)).toNat) = some (.int .u64 (rd x11_2 (ji37)))) (ds := [17]) (bz 18 0) (by kernel_rfl) rfl rfl (hx157_0) (fun hHeld => ?_);refine with_tabW poly_DivMod.tab14 poly_DivMod.bits14 (fun HT_ HW_ => ?_)
                    generalize wr.drew = w43 at HO_2 HO_11 HO_12 HO_66 HB hx157_0 hHeld ⊢
                    refine pk 0 73 (bz 18 1) HT_ ?_
                    refine pk 1 74 (bz 18 3) HT_ ?_
                    refine pk 2 75 (bz 18 7) HT_ ?_
                    refine pk 3 76 (bz 18 15) HT_ ?_
                    refine pk 4 77 (bz 18 31) HT_ ?_
                    refine pk 5 78 (bz 18 63) HT_ ?_
                    refine pk 6 79 (bz 18 127) HT_ ?_
                    refine pk 7 80 (bz 18 255) HT_ ?_
                    refine pk 8 81 (bz 18 511) HT_ ?_
                    refine pk 9 82 (bz 18 1023) HT_ ?_
                    refine pk 11 84 (bz 18 3071) HT_ ?_
                    refine pk 12 85 (bz 18 7167) HT_ ?_
                    refine pk 13 86 (bz 18 15359) HT_ ?_
                    refine tk 10 83 (bz 18 16383) HT_ HW_ hHeld ?_
                    refine one_ (i := 14) (N := some 87) (bz 18 32767) rfl rfl (one_of HT_.out (by kernel_rfl)) (by decide) (fun K hK => ?_)
                    refine goes_ Try.func70 (by kernel_rfl) rfl #[.int .u64 a0,.int .u64 t154,.int .u64 (rd x2_1 x68_2)] (by rfl) rfl rfl (by (try simp only [List.map_toArray,List.map_cons,List.map_nil]);first|done|rfl|(simp only [List.length_drop,List.length_take];rfl)) ?_
                    with_reducible refine (field_Mul.calls k2 a0 t154 (rd x2_1 x68_2) t158 _ A40.out).mono ?_
                    rintro e w' ⟨rfl,⟨nd,rfl⟩⟩
                    refine ⟨_,rfl,?_⟩
                    refine hK.out _ _ (hHeld) (fun hHeld => ?_)
                    clear hK K
                    refine nm 87 ?_
                    refine one_ (i := 15) (N := some 88) (bz 18 65535) rfl rfl (one_of HT_.out (by kernel_rfl)) (by decide) (fun K hK => ?_)
                    refine goes_ Try.func85 (by kernel_rfl) rfl #[.int .u64 a0,.int .u64 (rd x11_2 (ji37)),.int .u64 t158] (by rfl) rfl rfl (by (try simp only [List.map_toArray,List.map_cons,List.map_nil]);first|done|(simp only [hji37];rfl)|rfl|(simp only [List.length_drop,List.length_take];rfl)) ?_
                    with_reducible refine (field_Sub.calls k2 a0 (rd x11_2 (ji37)) t158 t159 _ A41.out).mono ?_
                    rintro e w' ⟨rfl,⟨nd,rfl⟩⟩
                    refine ⟨_,rfl,?_⟩
                    have p42 : 0 ≤ ((ji37) : Int) := of_decide_eq_true (by first|(with_reducible assumption)|assumption)
                    have q42 : ((ji37) : Int) < ((x11_2.length : Int) : Int) := of_decide_eq_true (by first|(with_reducible assumption)|assumption)
                    obtain ⟨go42,co42,eo42,gb42,gl42,cl42,HG42⟩ := Kd.R_form HO_11.out (by omega)
                    (first|cases eo42|(injection eo42 with ea_ en_ ec_;(first|subst ea_|(injection ea_ with ea_;subst ea_));subst ec_;clear en_))
                    have GB42 := Aside0.mk gb42
                    have GG42 := Aside0.mk HG42
                    clear gb42 gl42 HG42
                    (first|simp only [add_plain] at hx153_0|skip)
                    (first|simp only [add_plain] at hx157_0|skip)
                    obtain ⟨hx42_0,hf42_0⟩ := Kd.R_celln 0 HO_11.out ((ji37) : Int) p42 q42
                    replace p42 := eq_true p42
                    replace q42 := eq_true q42
                    have HP44 := Kd.R_putn HO_11.out ((ji37) : Int) t159
                    rw [← Ny160.out] at HP44
                    have HQ44 := Aside0.mk HP44
                    clear HP44
                    refine hK.out _ _ (hHeld) (fun hHeld => ?_)
                    clear hK K
                    refine nm 88 ?_
                    refine pk 16 89 (bz 18 131071) HT_ ?_
                    refine last_ (i := 17) (N := none) (bz 18 262143) rfl rfl (one_of HT_.out (by kernel_rfl)) (by decide) (fun K hK => ?_)
                    refine skip_ (w1 := ?_) (by rfl) rfl ?_ ?_
                    rotate_left
                    ·go_simp
                     rfl
                    refine hK.out _ _ ?_
                    clear hK K
                    refine done_ (done_of HT_.out (by kernel_rfl)) ?_
                    try go_wp2
                    (try simp only [← hl11_2,← hl12_2])
                    (try rw [show (⟨go42,ji23.toNat,none⟩ : Addr) = (⟨go42,0,none⟩ : Addr).add ji23.toNat from by rw [Addr.add_lit,Nat.zero_add]])
                    go_roundg k2
                    case measure => have := HK1.out;have := HK2.out;omega
                    case rel => exact ⟨(y160),(wrap64 (x68_2 + 1)),(by first|rfl|(simp;done)|(simp [*];done)),H',⟨by have := HK1.out;have := HK2.out;omega⟩,⟨by (try simp only [hl2_1]);(try simp only [hl11_2]);(try simp only [hl12_2]);(with_reducible repeat (first|apply Kd.R_alloc|apply Kd.R_drewN|apply Kd.R_drew));exact Kd.R_mono (Kd.R_far (p := ⟨go42,((ji37) : Int).toNat,none⟩) (Kd.R_mono HO_2.out (fun k_ hk => (⟨hk,fun e_ => hk.1 (by rw [e_];rfl)⟩ : _ ∧ k_ ≠ go42))) (fun _ hk => hk.2) (.int .u64 t159)) (fun _ hk => ⟨hk.1.1,hk.1.2⟩)⟩,⟨by (try simp only [hl2_1]);(try simp only [hl11_2]);(try simp only [hl12_2]);(with_reducible repeat (first|apply Kd.R_alloc|apply Kd.R_drewN|apply Kd.R_drew));exact HQ44.out⟩,⟨by (try simp only [hl2_1]);(try simp only [hl11_2]);(try simp only [hl12_2]);(with_reducible repeat (first|apply Kd.R_alloc|apply Kd.R_drewN|apply Kd.R_drew));exact Kd.R_mono (Kd.R_far (p := ⟨go42,((ji37) : Int).toNat,none⟩) (Kd.R_mono HO_12.out (fun k_ hk => (⟨hk,fun e_ => hk.2.1 (by rw [e_];rfl)⟩ : _ ∧ k_ ≠ go42))) (fun _ hk => hk.2) (.int .u64 t159)) (fun _ hk => ⟨hk.1.1,⟨hk.1.2.1,hk.1.2.2⟩⟩)⟩,⟨by (try simp only [hl2_1]);(try simp only [hl11_2]);(try simp only [hl12_2]);(with_reducible repeat (first|apply Kd.R_alloc|apply Kd.R_drewN|apply Kd.R_drew));exact Kd.R_mono (Kd.R_far (p := ⟨go42,((ji37) : Int).toNat,none⟩) (Kd.R_mono HO_66.out (fun k_ hk => (⟨hk,fun e_ => hk.1 (by rw [e_];rfl)⟩ : _ ∧ k_ ≠ go42))) (fun _ hk => hk.2) (.int .u64 t159)) (fun _ hk => ⟨hk.1.1,hk.1.2⟩)⟩,⟨by repeat (first|(with_reducible first|exact HB.out|apply below_alloc|apply pw_below_drewN|apply below_drew1|refine below_set ?_ GB42.out)|exact HB.out)⟩⟩
                   ·rw [if_neg c39] at H
                    exact absurd H (by simp)
                  ·rw [if_neg c38] at H
                   exact absurd H (by simp)
                 ·rw [if_neg c36] at H
                  exact absurd H (by simp)
                ·rw [if_neg c35] at H
                 exact absurd H (by simp)
               ·rw [if_neg c34] at H
                have c34b0 : decide (x68_2 < (x2_1.length : Int)) = false := decide_eq_false c34
                clear c34
                replace H := Option.bind_eq_some_iff.mp H
                obtain ⟨t161,A450,H⟩ := H
                try dsimp only at H
                have A45 := Aside0.mk A450
                clear A450
                have H' := Aside0.mk H
                clear H
                go_wp2_with (first|((with_reducible refine gate_callee (f := 83) rfl ?_);refine goesL_ (some 92) rfl rfl Try.func83 (by kernel_rfl) rfl #[.slice (some ad153) x11_2.length co31] rfl (by (try simp only [List.map_toArray,List.map_cons,List.map_nil]);first|done|rfl|(simp only [List.length_drop,List.length_take];rfl)) ?_;(with_reducible refine (poly_Trim.calls k2 _ _ x11_2 t161 _ ?side1 ?side2 A45.out).mono ?_);(case side1 => exact cr HO_11);(case side2 => exact (Kd.R_reads' HO_11.out).2.1);rintro e w46 ⟨v162,rfl,ho0,hb⟩;refine ⟨_,rfl,?_⟩;have n0_ := Aside0.mk (Kd.R_elder' (rr HO_2) (Kd.R_base ho0) hb);have n1_ := Aside0.mk (Kd.R_elder' (rr HO_11) (Kd.R_base ho0) hb);have n2_ := Aside0.mk (Kd.R_elder' (rr HO_12) (Kd.R_base ho0) hb);have n3_ := Aside0.mk (Kd.R_elder' (rr HO_66) (Kd.R_base ho0) hb);have n4_ := Aside0.mk (Kd.R_lower (Kd.R_new' (Kd.R_new' (Kd.R_new' (Kd.R_new' ho0 (Kd.R_lt (rr HO_2))) (Kd.R_lt (rr HO_11))) (Kd.R_lt (rr HO_12))) (Kd.R_lt (rr HO_66))) (below_size (bb HB)));have n5_ := Aside0.mk (below_step (bb HB) hb);clear HO_2 HO_11 HO_12 HO_66 HB;have HO_2 := n0_;have HO_11 := n1_;have HO_12 := n2_;have HO_66 := n3_;have HO163 := n4_;have HB := n5_;clear n0_ n1_ n2_ n3_ n4_ n5_;(try clear hb);(try clear hb2);(try clear hk);(try clear hi);(try clear ho0)))
                (try simp only [← hl2_1,← hl11_2,← hl12_2])
                (try rw [show (⟨go42,ji23.toNat,none⟩ : Addr) = (⟨go42,0,none⟩ : Addr).add ji23.toNat from by rw [Addr.add_lit,Nat.zero_add]])
                go_roundg k2
                case measure => have := HK1.out;have := HK2.out;omega
                case rel => exact ⟨(x2_1),(t161),(y155),H',⟨by have := HK1.out;have := HK2.out;omega⟩,⟨by (try simp only [hl2_1]);(try simp only [hl11_2]);(try simp only [hl12_2]);(with_reducible repeat (first|apply Kd.R_alloc|apply Kd.R_drewN|apply Kd.R_drew));exact Kd.R_mono HO_2.out (fun _ hk => ⟨hk.2,hk.1.2⟩)⟩,⟨by (try simp only [hl2_1]);(try simp only [hl11_2]);(try simp only [hl12_2]);(with_reducible repeat (first|apply Kd.R_alloc|apply Kd.R_drewN|apply Kd.R_drew));exact Kd.R_mono HO163.out (fun _ hk => ⟨hk.1.1.1.2,hk.1.2⟩)⟩,⟨by (try simp only [hl2_1]);(try simp only [hl11_2]);(try simp only [hl12_2]);(with_reducible repeat (first|apply Kd.R_alloc|apply Kd.R_drewN|apply Kd.R_drew));exact Kd.R_mono HO_12.out (fun _ hk => ⟨hk.1.1,hk.2⟩)⟩,⟨by repeat (first|(with_reducible first|exact HB.out|apply below_alloc|apply pw_below_drewN|apply below_drew1)|exact HB.out)⟩⟩
            ·rw [if_neg c29] at H
             exact absurd H (by simp)
           ·rw [if_neg c28] at H
            exact absurd H (by simp)
          ·rw [if_neg c25] at H
           exact absurd H (by simp)
         ·rw [if_neg c24] at H
          exact absurd H (by simp)
        ·rw [if_neg c22] at H
         have c22b0 : decide ((x2_1.length : Int) ≤ (x11_1.length : Int)) = false := decide_eq_false c22
         have c22b1 : decide (x2_1.length ≤ x11_1.length) = false := decide_eq_false (fun h => c22 (Int.ofNat_le.mpr h))
         clear c22
         replace H := Option.bind_eq_some_iff.mp H
         obtain ⟨t150,A470,H⟩ := H
         try dsimp only at H
         have A47 := Aside0.mk A470
         clear A470
         simp only [Option.some.injEq,Prod.mk.injEq] at H
         obtain ⟨rfl,rfl,rfl⟩ := H
         obtain ⟨Ao48,co48,eo48⟩ := Kd.R_slice HO_11.out
         subst eo48
         obtain ⟨Ao49,co49,eo49⟩ := Kd.R_slice HO_12.out
         subst eo49
         go_wp2_with (first|((with_reducible refine gate_callee (f := 83) rfl ?_);refine goesL_ (some 94) rfl rfl Try.func83 (by kernel_rfl) rfl #[.slice Ao49 x12_1.length co49] rfl (by (try simp only [List.map_toArray,List.map_cons,List.map_nil]);first|done|rfl|(simp only [List.length_drop,List.length_take];rfl)) ?_;(with_reducible refine (poly_Trim.calls k1 _ _ x12_1 t150 _ ?side1 ?side2 A47.out).mono ?_);(case side1 => exact cr HO_12);(case side2 => exact (Kd.R_reads' HO_12.out).2.1);rintro e w50 ⟨v151,rfl,ho0,hb⟩;refine ⟨_,rfl,?_⟩;have n0_ := Aside0.mk (Kd.R_elder' (rr HO_2) (Kd.R_base ho0) hb);have n1_ := Aside0.mk (Kd.R_elder' (rr HO_11) (Kd.R_base ho0) hb);have n2_ := Aside0.mk (Kd.R_elder' (rr HO_12) (Kd.R_base ho0) hb);have n3_ := Aside0.mk (Kd.R_lower (Kd.R_new' (Kd.R_new' (Kd.R_new' ho0 (Kd.R_lt (rr HO_2))) (Kd.R_lt (rr HO_11))) (Kd.R_lt (rr HO_12))) (below_size (bb HB)));have n4_ := Aside0.mk (below_step (bb HB) hb);clear HO_2 HO_11 HO_12 HB;have HO_2 := n0_;have HO_11 := n1_;have HO_12 := n2_;have HO152 := n3_;have HB := n4_;clear n0_ n1_ n2_ n3_ n4_;(try clear hb);(try clear hb2);(try clear hk);(try clear hi);(try clear ho0)))
         go_ret3
         exact ⟨_,_,by first|rfl|(simp [errW_none,errW_some] <;> rfl)|(simp only [← hji8,← hji13];first|rfl|(simp [errW_none,errW_some] <;> rfl))|(simp [*,errW_none,errW_some] <;> rfl),by (with_reducible repeat (first|apply Kd.R_alloc|apply Kd.R_drewN|apply Kd.R_drew));exact Kd.R_mono HO152.out (fun _ hk => hk.1.2),by (with_reducible repeat (first|apply Kd.R_alloc|apply Kd.R_drewN|apply Kd.R_drew));exact Kd.R_mono HO_11.out (fun _ hk => hk.2),by repeat (first|(with_reducible first|exact HB.out|apply below_alloc|apply pw_below_drewN|apply below_drew1)|exact HB.out)⟩
     ·rw [if_neg c15] at H
      exact absurd H (by simp)
    ·rw [if_neg c14] at H
     exact absurd H (by simp)
   ·rw [if_neg c10] at H
    exact absurd H (by simp)
  ·rw [if_neg c9] at H
   exact absurd H (by simp)
def poly_Sub.f (k : Nat) (a0 : Int) (l1 : List Int) (l2 : List Int) : Option (List Int) := (poly_Scale.f k a0 (IntKind.u64.wrap (a0 - 1)) l2).bind fun t164 => ((poly_Add.f a0 l1 t164).bind fun t167 => (some t167))
set_option maxHeartbeats 8000000 in
set_option maxRecDepth 100000 in
theorem poly_Sub.calls (k : Nat) (a0 : Int) (A1 : Option Addr) (c1 : Nat) (l1 : List Int) (A2 : Option Addr) (c2 : Nat) (l2 : List Int) (r : List Int) (w : World) (hr1 : Kd.C (Kd.int .u64) w A1 l1.length l1) (hc1 : l1.length ≤ c1) (hr2 : Kd.C (Kd.int .u64) w A2 l2.length l2) (hc2 : l2.length ≤ c2) (h : poly_Sub.f k a0 l1 l2 = some r) :
  Calls Try.prog 51 #[.int .u64 a0,.slice A1 l1.length c1,.slice A2 l2.length c2] w fun e w' => ∃ v0_ : Value,e = .returned (v0_) ∧ Kd.R (Kd.int .u64) 22 w' w.heap.size (fun _ => True) v0_ r ∧ Below w.heap.size w w' := by
 have HR1 := Aside0.mk hr1
 have HC1 := Aside0.mk hc1
 clear hr1 hc1
 have HR2 := Aside0.mk hr2
 have HC2 := Aside0.mk hc2
 clear hr2 hc2
 have HB := Aside0.mk (Below.refl w.heap.size w)
 have H : ((poly_Scale.f k a0 (IntKind.u64.wrap (a0 - 1)) l2).bind fun t164 => ((poly_Add.f a0 l1 t164).bind fun t167 => (some t167))) = some r := h
 clear h
 replace H := Option.bind_eq_some_iff.mp H
 obtain ⟨t164,A40,H⟩ := H
 try dsimp only at H
 have A4 := Aside0.mk A40
 clear A40
 replace H := Option.bind_eq_some_iff.mp H
 obtain ⟨t167,A50,H⟩ := H
 try dsimp only at H
 have A5 := Aside0.mk A50
 clear A50
 obtain rfl := Option.some.inj H
 go_enter Try.func51,Try.ntmps51
 go_wp2_with (first|((with_reducible refine gate_callee (f := 81) rfl ?_);refine goesL_ (some 13) rfl rfl Try.func81 (by kernel_rfl) rfl #[.int .u64 a0,.int .u64 (IntKind.u64.wrap (a0 - 1)),.slice A2 l2.length c2] rfl (by (try simp only [List.map_toArray,List.map_cons,List.map_nil]);first|done|rfl|(simp only [List.length_drop,List.length_take];rfl)) ?_;(with_reducible refine (poly_Scale.calls k a0 (IntKind.u64.wrap (a0 - 1)) _ _ l2 t164 _ ?side1 ?side2 A4.out).mono ?_);(case side1 => repeat (first|exact HR2.out|(with_reducible refine Kd.C_alloc ?_ _)|(with_reducible refine Kd.C_drewN ?_ _)|(with_reducible refine Kd.C_drew ?_)));(case side2 => exact HC2.out);rintro e w6 ⟨v165,rfl,ho0,hb⟩;refine ⟨_,rfl,?_⟩;have n0_ := Aside0.mk (Kd.R_lower ho0 (below_size (bb HB)));have n1_ := Aside0.mk (below_step (bb HB) hb);clear HB;have HO166 := n0_;have HB := n1_;clear n0_ n1_;(try clear hb);(try clear hb2);(try clear hk);(try clear hi);(try clear ho0);obtain ⟨Ao7,co7,eo7⟩ := Kd.R_slice HO166.out;subst eo7)|((with_reducible refine gate_callee (f := 80) rfl ?_);refine goesL_ (some 14) rfl rfl Try.func80 (by kernel_rfl) rfl #[.int .u64 a0,.slice A1 l1.length c1,.slice Ao7 t164.length co7] rfl (by (try simp only [List.map_toArray,List.map_cons,List.map_nil]);first|done|rfl|(simp only [List.length_drop,List.length_take];rfl)) ?_;(with_reducible refine (poly_Add.calls a0 _ _ l1 _ _ t164 t167 _ ?side1 ?side2 ?side3 ?side4 A5.out).mono ?_);(case side1 => exact cb HR1 HB);(case side2 => exact HC1.out);(case side3 => exact cr HO166);(case side4 => exact (Kd.R_reads' HO166.out).2.1);rintro e w8 ⟨v168,rfl,ho0,hb⟩;refine ⟨_,rfl,?_⟩;have n0_ := Aside0.mk (Kd.R_elder' (rr HO166) (Kd.R_base ho0) hb);have n1_ := Aside0.mk (Kd.R_lower (Kd.R_new' ho0 (Kd.R_lt (rr HO166))) (below_size (bb HB)));have n2_ := Aside0.mk (below_step (bb HB) hb);clear HO166 HB;have HO166 := n0_;have HO169 := n1_;have HB := n2_;clear n0_ n1_ n2_;(try clear hb);(try clear hb2);(try clear hk);(try clear hi);(try clear ho0)))
 go_ret
 exact ⟨_,by first|rfl|(simp [errW_none,errW_some] <;> rfl)|(simp [*,errW_none,errW_some] <;> rfl),by (with_reducible repeat (first|apply Kd.R_alloc|apply Kd.R_drewN|apply Kd.R_drew));exact Kd.R_mono HO169.out (fun _ hk => trivial),by repeat (first|(with_reducible first|exact HB.out|apply below_alloc|apply pw_below_drewN|apply below_drew1)|exact HB.out)⟩
end Go.Proofs.Ytejeelpnmdfibaa.Pr
end
