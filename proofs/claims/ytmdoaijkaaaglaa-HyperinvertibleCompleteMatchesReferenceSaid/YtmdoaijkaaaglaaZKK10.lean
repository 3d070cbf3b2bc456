/- Part 10 of the proof's texts, joined in build order. -/
import Derived.Test.YtmdoaijkaaaglaaZKK1
import Derived.Test.YtmdoaijkaaaglaaZKK2
import Derived.Test.YtmdoaijkaaaglaaZKK7
import Derived.Test.YtmdoaijkaaaglaaZKK9
set_option linter.unusedVariables false
set_option linter.unusedSimpArgs false
section
namespace Go.Proofs.Ytmdoaijkaaaglaa.Pr
open Go.RowKit Go.Proofs.YtmdoaijkaaaglaaW.PrintWords Go.Proofs.YtmdoaijkaaaglaaW.PrintLast Go.Proofs.YtmdoaijkaaaglaaW.PrintMore
attribute [local go_sem] max2_int min2_int max_two min_two max_three min_three max_four min_four
open Go.Proofs.Ytmdoaijkaaaglaa.Hw
mutual
def privityref07_Complete.j0 : Nat → Int → List (List Int) → List (S56) → List (S56) → Bool → Option (List Int × List Int × Int)
 | 0,_,_,_,_,_ => none
 | k + 1,x0,x1,x2,x3,x57 => if x57 = true then (some (([] : List Int),([] : List Int),1)) else (if 0 < (x1.length : Int) then (if 0 ≤ ((rd_L2 x1 0).length : Int) then (if (((rd_L2 x1 0).length : Int) : Int).toNat ≤ 281474976710656 then (if (((rd_L2 x1 0).length : Int) : Int).toNat ≤ 35184372088832 then (privityref07_Complete.l0 k x0 x1 x2 x3 ((rd_L2 x1 0).length : Int) (List.replicate (((rd_L2 x1 0).length : Int) : Int).toNat false) (List.replicate (((rd_L2 x1 0).length : Int) : Int).toNat 0) 0) else (none)) else (none)) else (none)) else (none))
def privityref07_Complete.l0 : Nat → Int → List (List Int) → List (S56) → List (S56) → Int → List Bool → List Int → Int → Option (List Int × List Int × Int)
 | 0,_,_,_,_,_,_,_,_ => none
 | k + 1,x0,x1,x2,x3,x11,x12,x13,x14 => if x14 < (x2.length : Int) then (if 0 ≤ x14 then (if 0 ≤ ((rd_T56 x2 x14).f0) then (if ((rd_T56 x2 x14).f0) < (x12.length : Int) then (if ((rd_T56 x2 x14).f0) < (x13.length : Int) then (privityref07_Complete.l0 k x0 x1 x2 x3 x11 (x12.set (((rd_T56 x2 x14).f0) : Int).toNat true) (x13.set (((rd_T56 x2 x14).f0) : Int).toNat ((rd_T56 x2 x14).f1)) (wrap64 (x14 + 1))) else (none)) else (none)) else (none)) else (none)) else (privityref07_Complete.l1 k x0 x1 x3 x11 x12 x13 ([] : List Int) 0)
def privityref07_Complete.l1 : Nat → Int → List (List Int) → List (S56) → Int → List Bool → List Int → List Int → Int → Option (List Int × List Int × Int)
 | 0,_,_,_,_,_,_,_,_ => none
 | k + 1,x0,x1,x3,x11,x12,x13,x15,x16 => if x16 < x11 then (if 0 ≤ x16 then (if x16 < (x12.length : Int) then (if rdOf false x12 x16 = true then (privityref07_Complete.l1 k x0 x1 x3 x11 x12 x13 x15 (wrap64 (x16 + 1))) else (if x15.length < 17592186044416 then (privityref07_Complete.l1 k x0 x1 x3 x11 x12 x13 (x15 ++ [x16]) (wrap64 (x16 + 1))) else (none))) else (none)) else (none)) else (privityref07_Complete.l2 k x0 x1 x3 x13 x15 ([] : List Int) ([] : List Int) 0)
def privityref07_Complete.l2 : Nat → Int → List (List Int) → List (S56) → List Int → List Int → List Int → List Int → Int → Option (List Int × List Int × Int)
 | 0,_,_,_,_,_,_,_,_ => none
 | k + 1,x0,x1,x3,x13,x15,x17,x18,x19 => if x19 < (x3.length : Int) then (if 0 ≤ x19 then (if x17.length < 17592186044416 then (if 0 ≤ ((rd_T56 x3 x19).f0) then (if ((rd_T56 x3 x19).f0) < (x1.length : Int) then ((privityref07_dot.f k x0 (rd_L2 x1 ((rd_T56 x3 x19).f0)) x13).bind fun t571 => ((privityref01_Sub.f x0 ((rd_T56 x3 x19).f1) t571).bind fun t572 => (if x18.length < 17592186044416 then (privityref07_Complete.l2 k x0 x1 x3 x13 x15 (x17 ++ [wrap64 ((rd_T56 x3 x19).f0)]) (x18 ++ [t572]) (wrap64 (x19 + 1))) else (none)))) else (none)) else (none)) else (none)) else (none)) else (if (x17.length : Int) > 0 then ((privityref07_Submatrix.f k x1 x17 x15).bind fun bt576 => ((privityref06_Inverse.f k x0 bt576.1).bind fun bt580 => (if bt580.2 = 0 then (privityref07_Complete.l3 k x0 x1 x13 x15 x18 bt580.1 0) else (some (([] : List Int),([] : List Int),8))))) else (privityref07_Complete.j5 k x0 x1 x13))
def privityref07_Complete.j5 : Nat → Int → List (List Int) → List Int → Option (List Int × List Int × Int)
 | 0,_,_,_ => none
 | k + 1,x0,x1,x13 => privityref07_Complete.l4 k x0 x1 x13 ([] : List Int) 0
def privityref07_Complete.l4 : Nat → Int → List (List Int) → List Int → List Int → Int → Option (List Int × List Int × Int)
 | 0,_,_,_,_,_ => none
 | k + 1,x0,x1,x13,x25,x26 => if x26 < (x1.length : Int) then (if 0 ≤ x26 then ((privityref07_dot.f k x0 (rd_L2 x1 x26) x13).bind fun t589 => (if x25.length < 17592186044416 then (privityref07_Complete.l4 k x0 x1 x13 (x25 ++ [t589]) (wrap64 (x26 + 1))) else (none))) else (none)) else (some (x13,x25,0))
def privityref07_Complete.l3 : Nat → Int → List (List Int) → List Int → List Int → List Int → List (List Int) → Int → Option (List Int × List Int × Int)
 | 0,_,_,_,_,_,_,_ => none
 | k + 1,x0,x1,x13,x15,x18,x22,x24 => if x24 < (x15.length : Int) then (if 0 ≤ x24 then (if x24 < (x22.length : Int) then ((privityref07_dot.f k x0 (rd_L2 x22 x24) x18).bind fun t586 => (if 0 ≤ (rd x15 x24) then (if (rd x15 x24) < (x13.length : Int) then (privityref07_Complete.l3 k x0 x1 (x13.set ((rd x15 x24) : Int).toNat t586) x15 x18 x22 (wrap64 (x24 + 1))) else (none)) else (none))) else (none)) else (none)) else (privityref07_Complete.j5 k x0 x1 x13)
end
def privityref07_Complete.f (k : Nat) (a0 : Int) (l1 : List (List Int)) (l2 : List (S56)) (l3 : List (S56)) : Option (List Int × List Int × Int) := (privityref07_Even.f k l1).bind fun t543 => (if t543 = true then (if 0 < (l1.length : Int) then ((privityref07_places.f k l2 ((rd_L2 l1 0).length : Int)).bind fun t545 => (if t545 = true then ((privityref07_places.f k l3 (l1.length : Int)).bind fun t546 => (if t546 = true then (privityref07_Complete.j0 k a0 l1 l2 l3 ((wrap64 ((l2.length : Int) + (l3.length : Int))) != ((rd_L2 l1 0).length : Int))) else (privityref07_Complete.j0 k a0 l1 l2 l3 true))) else (privityref07_Complete.j0 k a0 l1 l2 l3 true))) else (none)) else (privityref07_Complete.j0 k a0 l1 l2 l3 true))
def privityref07_Complete.T10 : Bool × List (List Nat × List Nat) := (true,[([],[]),([],[]),([],[]),([1,2],[1,2]),([3],[3]),([4],[4]),([],[]),([],[]),([6,7],[6,7]),([8],[8]),([9],[9]),([0,5,0,1,2,3,4,5,6,7,8,9,10],[0,5]),([11,10,0,1,2,3,4,5,6,7,8,9,10],[10,11])])
def privityref07_Complete.B10 : List Nat := [0,0,0,6,14,30,0,0,192,448,960,2047,4095]
theorem privityref07_Complete.tab10 : rtab .any (opsOf Try.f23 10) = privityref07_Complete.T10 := by kernel_rfl
theorem privityref07_Complete.bits10 : waitsOk privityref07_Complete.T10.2 privityref07_Complete.B10 = true := by kernel_rfl
def privityref07_Complete.T23 : Bool × List (List Nat × List Nat) := (true,[([],[]),([],[]),([],[]),([],[]),([2,3],[2,3]),([4],[4]),([5],[5]),([],[]),([],[]),([],[]),([],[]),([9,10],[9,10]),([11],[11]),([12],[12]),([8,13],[8,13]),([14],[14]),([],[]),([7,15,16],[7,15,16]),([1,6,17,17],[1,6,17]),([18],[18]),([0,19,18],[0,19]),([20,20,0,1,2,3,4,5,6,7,8,9,10,11,12,13,14,15,16,17,18,19,20],[0,20])])
def privityref07_Complete.B23 : List Nat := [0,0,0,0,12,28,60,0,0,0,0,1536,3584,7680,16128,32512,0,130944,262142,524286,1048575,2097151]
theorem privityref07_Complete.tab23 : rtab .any (opsOf Try.f23 23) = privityref07_Complete.T23 := by kernel_rfl
theorem privityref07_Complete.bits23 : waitsOk privityref07_Complete.T23.2 privityref07_Complete.B23 = true := by kernel_rfl
def privityref07_Complete.T32 : Bool × List (List Nat × List Nat) := (true,[([],[]),([],[]),([],[]),([1,2],[1,2]),([3],[3]),([],[]),([],[]),([],[]),([6,7],[6,7]),([8],[8]),([],[]),([5,9,10],[5,9,10]),([0,4,0,1,2,3,4,5,6,7,8,9,10,11],[0,4]),([12,11,11,0,1,2,3,4,5,6,7,8,9,10,11],[11,12])])
def privityref07_Complete.B32 : List Nat := [0,0,0,6,14,0,0,0,192,448,0,2016,4095,8191]
theorem privityref07_Complete.tab32 : rtab .any (opsOf Try.f23 32) = privityref07_Complete.T32 := by kernel_rfl
theorem privityref07_Complete.bits32 : waitsOk privityref07_Complete.T32.2 privityref07_Complete.B32 = true := by kernel_rfl
set_option maxHeartbeats 8000000 in
set_option maxRecDepth 100000 in
theorem privityref07_Complete.calls (k : Nat) (a0 : Int) (A1 : Option Addr) (c1 : Nat) (l1 : List (List Int)) (A2 : Option Addr) (c2 : Nat) (l2 : List (S56)) (A3 : Option Addr) (c3 : Nat) (l3 : List (S56)) (r1 : List Int) (r2 : List Int) (r3 : Int) (w : World) (hr1 : Kd.C (Kd.slice 22 (Kd.int .u64)) w A1 l1.length l1) (hc1 : l1.length ≤ c1) (hr2 : Kd.C k56 w A2 l2.length l2) (hc2 : l2.length ≤ c2) (hr3 : Kd.C k56 w A3 l3.length l3) (hc3 : l3.length ≤ c3) (h : privityref07_Complete.f k a0 l1 l2 l3 = some (r1,r2,r3)) :
  Calls Try.prog 23 #[.int .u64 a0,.slice A1 l1.length c1,.slice A2 l2.length c2,.slice A3 l3.length c3] w fun e w' => ∃ v0_ v1_ : Value,e = .returned (.tuple #[v0_,v1_,.int .i64 r3]) ∧ Kd.R (Kd.int .u64) 22 w' w.heap.size (fun k_ => some k_ ≠ (v1_ : Value).ownBlock) v0_ r1 ∧ Kd.R (Kd.int .u64) 22 w' w.heap.size (fun k_ => some k_ ≠ (v0_ : Value).ownBlock) v1_ r2 ∧ Below w.heap.size w w' := by
 have HR1 := am hr1
 have HC1 := am hc1
 clear hr1 hc1
 have HR2 := am hr2
 have HC2 := am hc2
 clear hr2 hc2
 have HR3 := am hr3
 have HC3 := am hc3
 clear hr3 hc3
 have HB := am (Below.refl w.heap.size w)
 have H : ((privityref07_Even.f k l1).bind fun t543 => (if t543 = true then (if 0 < (l1.length : Int) then ((privityref07_places.f k l2 ((rd_L2 l1 0).length : Int)).bind fun t545 => (if t545 = true then ((privityref07_places.f k l3 (l1.length : Int)).bind fun t546 => (if t546 = true then (privityref07_Complete.j0 k a0 l1 l2 l3 ((wrap64 ((l2.length : Int) + (l3.length : Int))) != ((rd_L2 l1 0).length : Int))) else (privityref07_Complete.j0 k a0 l1 l2 l3 true))) else (privityref07_Complete.j0 k a0 l1 l2 l3 true))) else (none)) else (privityref07_Complete.j0 k a0 l1 l2 l3 true))) = some (r1,r2,r3) := h
 clear h
 have HC5 := am H
 clear H
 go_enter Try.func23,Try.ntmps23
 go_upto_region 1 with (fail)
 go_cut [57] (fun v57 wc => ∃ (kq : Nat) (x57_4 : Bool),v57 = .bool x57_4 ∧ Aside0 (privityref07_Complete.j0 kq a0 l1 l2 l3 x57_4 = some (r1,r2,r3)) ∧ Aside0 (kq ≤ k) ∧ Aside0 (Below w.heap.size w wc))
 case first =>
  have H := HC5.out
  clear HC5
  replace H := Option.bind_eq_some_iff.mp H
  obtain ⟨t543,A60,H⟩ := H
  try dsimp only at H
  have A6 := am A60
  clear A60
  by_cases c7 : t543 = true
  ·subst c7
   rw [if_pos rfl] at H
   by_cases c8 : 0 < (l1.length : Int)
   ·rw [if_pos c8] at H
    have c8b0 : decide (0 < (l1.length : Int)) = true := decide_eq_true c8
    have c8b1 : decide (0 < l1.length) = true := decide_eq_true (by omega)
    clear c8
    (first|rw [c8b0]|(simp only [i64_w,i32_w];rw [c8b0])|rw [c8b1]|skip)
    replace H := Option.bind_eq_some_iff.mp H
    obtain ⟨t545,A90,H⟩ := H
    try dsimp only at H
    have A9 := am A90
    clear A90
    by_cases c10 : t545 = true
    ·subst c10
     rw [if_pos rfl] at H
     replace H := Option.bind_eq_some_iff.mp H
     obtain ⟨t546,A110,H⟩ := H
     try dsimp only at H
     have A11 := am A110
     clear A110
     by_cases c12 : t546 = true
     ·subst c12
      rw [if_pos rfl] at H
      have H' := am H
      clear H
      go_wp2_with (first|((with_reducible refine gate_callee (f := 46) rfl ?_);refine goesL_ (some 28) rfl rfl Try.func46 (by kernel_rfl) rfl #[.slice A1 l1.length c1] rfl (by (try simp only [List.map_toArray,List.map_cons,List.map_nil]);first|done|rfl|(simp only [List.length_drop,List.length_take];rfl)) ?_;(with_reducible refine (privityref07_Even.calls k _ _ l1 true _ ?side1 ?side2 A6.out).mono ?_);(case side1 => exact cb HR1 HB);(case side2 => exact HC1.out);rintro e w' ⟨rfl,⟨nd,rfl⟩⟩;refine ⟨_,rfl,?_⟩;have p544 : 0 ≤ (0 : Int) := (by omega);have q544 : 0 < (l1.length : Int) := od;obtain ⟨ad544,A544_0,c544_0,e544,hx544_0,hl544_0,hi544_0⟩ := at_L2 HR1.out 0 p544 q544;cases e544;have qi544 : (0 < l1.length) = True := eq_true (by omega);(try rw [show ((0 : Int)).toNat = 0 from rfl] at hx544_0);(try rw [Addr.add_zero'] at hx544_0);replace hx544_0 := (HB.out.cell (World.block_lt_of_cell? w _ hx544_0)).trans hx544_0;have HR544_0 := am hi544_0;have HC544_0 := am hl544_0;clear hi544_0 hl544_0;replace p544 := eq_true p544;replace q544 := eq_true q544)|(go_at_call 47;(with_reducible refine (privityref07_places.calls k _ _ l2 ((rd_L2 l1 0).length : Int) true _ ?side1 ?side2 A9.out).mono ?_);(case side1 => repeat (first|exact (Kd.C_below HR2.out (bb HB))|(with_reducible refine Kd.C_alloc ?_ _)|(with_reducible refine Kd.C_drewN ?_ _)|(with_reducible refine Kd.C_drew ?_)));(case side2 => exact HC2.out);rintro e w' ⟨rfl,⟨nd,rfl⟩⟩)|(go_at_call 47;(with_reducible refine (privityref07_places.calls k _ _ l3 (l1.length : Int) true _ ?side1 ?side2 A11.out).mono ?_);(case side1 => repeat (first|exact (Kd.C_below HR3.out (bb HB))|(with_reducible refine Kd.C_alloc ?_ _)|(with_reducible refine Kd.C_drewN ?_ _)|(with_reducible refine Kd.C_drew ?_)));(case side2 => exact HC3.out);rintro e w' ⟨rfl,⟨nd,rfl⟩⟩;have p547 : 0 ≤ (0 : Int) := (by omega);have q547 : 0 < (l1.length : Int) := od;obtain ⟨ad547,A547_0,c547_0,e547,hx547_0,hl547_0,hi547_0⟩ := at_L2 HR1.out 0 p547 q547;obtain rfl : ad544 = ad547 := (by injection e547);have qi547 : (0 < l1.length) = True := eq_true (by omega);(try rw [show ((0 : Int)).toNat = 0 from rfl] at hx547_0);(try rw [Addr.add_zero'] at hx547_0);replace hx547_0 := (HB.out.cell (World.block_lt_of_cell? w _ hx547_0)).trans hx547_0;have HR547_0 := am hi547_0;have HC547_0 := am hl547_0;clear hi547_0 hl547_0;replace p547 := eq_true p547;replace q547 := eq_true q547;have ea_ := Option.some.inj (hx544_0.symm.trans hx547_0);injection ea_ with ea_ en_ ec_;subst ea_;subst ec_;clear en_))
      go_meet
      case rel => exact ⟨_,(((wrap64 ((l2.length : Int) + (l3.length : Int))) != ((rd_L2 l1 0).length : Int))),(by first|rfl|(simp;done)|(simp [*];done)),H',⟨by first|omega|exact Nat.le_refl _⟩,⟨bb HB⟩⟩
     ·replace c12 := Bool.eq_false_iff.mpr c12
      subst c12
      rw [if_neg (show ¬ (false = true) by decide)] at H
      have H' := am H
      clear H
      go_wp2_with (first|((with_reducible refine gate_callee (f := 46) rfl ?_);refine goesL_ (some 28) rfl rfl Try.func46 (by kernel_rfl) rfl #[.slice A1 l1.length c1] rfl (by (try simp only [List.map_toArray,List.map_cons,List.map_nil]);first|done|rfl|(simp only [List.length_drop,List.length_take];rfl)) ?_;(with_reducible refine (privityref07_Even.calls k _ _ l1 true _ ?side1 ?side2 A6.out).mono ?_);(case side1 => exact cb HR1 HB);(case side2 => exact HC1.out);rintro e w' ⟨rfl,⟨nd,rfl⟩⟩;refine ⟨_,rfl,?_⟩;have p544 : 0 ≤ (0 : Int) := (by omega);have q544 : 0 < (l1.length : Int) := od;obtain ⟨ad544,A544_0,c544_0,e544,hx544_0,hl544_0,hi544_0⟩ := at_L2 HR1.out 0 p544 q544;cases e544;have qi544 : (0 < l1.length) = True := eq_true (by omega);(try rw [show ((0 : Int)).toNat = 0 from rfl] at hx544_0);(try rw [Addr.add_zero'] at hx544_0);replace hx544_0 := (HB.out.cell (World.block_lt_of_cell? w _ hx544_0)).trans hx544_0;have HR544_0 := am hi544_0;have HC544_0 := am hl544_0;clear hi544_0 hl544_0;replace p544 := eq_true p544;replace q544 := eq_true q544)|(go_at_call 47;(with_reducible refine (privityref07_places.calls k _ _ l2 ((rd_L2 l1 0).length : Int) true _ ?side1 ?side2 A9.out).mono ?_);(case side1 => repeat (first|exact (Kd.C_below HR2.out (bb HB))|(with_reducible refine Kd.C_alloc ?_ _)|(with_reducible refine Kd.C_drewN ?_ _)|(with_reducible refine Kd.C_drew ?_)));(case side2 => exact HC2.out);rintro e w' ⟨rfl,⟨nd,rfl⟩⟩)|(go_at_call 47;(with_reducible refine (privityref07_places.calls k _ _ l3 (l1.length : Int) false _ ?side1 ?side2 A11.out).mono ?_);(case side1 => repeat (first|exact (Kd.C_below HR3.out (bb HB))|(with_reducible refine Kd.C_alloc ?_ _)|(with_reducible refine Kd.C_drewN ?_ _)|(with_reducible refine Kd.C_drew ?_)));(case side2 => exact HC3.out);rintro e w' ⟨rfl,⟨nd,rfl⟩⟩))
      go_meet
      case rel => exact ⟨_,(true),(by first|rfl|(simp;done)|(simp [*];done)),H',⟨by first|omega|exact Nat.le_refl _⟩,⟨bb HB⟩⟩
    ·replace c10 := Bool.eq_false_iff.mpr c10
     subst c10
     rw [if_neg (show ¬ (false = true) by decide)] at H
     have H' := am H
     clear H
     go_wp2_with (first|((with_reducible refine gate_callee (f := 46) rfl ?_);refine goesL_ (some 28) rfl rfl Try.func46 (by kernel_rfl) rfl #[.slice A1 l1.length c1] rfl (by (try simp only [List.map_toArray,List.map_cons,List.map_nil]);first|done|rfl|(simp only [List.length_drop,List.length_take];rfl)) ?_;(with_reducible refine (privityref07_Even.calls k _ _ l1 true _ ?side1 ?side2 A6.out).mono ?_);(case side1 => exact cb HR1 HB);(case side2 => exact HC1.out);rintro e w' ⟨rfl,⟨nd,rfl⟩⟩;refine ⟨_,rfl,?_⟩;have p544 : 0 ≤ (0 : Int) := (by omega);have q544 : 0 < (l1.length : Int) := od;obtain ⟨ad544,A544_0,c544_0,e544,hx544_0,hl544_0,hi544_0⟩ := at_L2 HR1.out 0 p544 q544;cases e544;have qi544 : (0 < l1.length) = True := eq_true (by omega);(try rw [show ((0 : Int)).toNat = 0 from rfl] at hx544_0);(try rw [Addr.add_zero'] at hx544_0);replace hx544_0 := (HB.out.cell (World.block_lt_of_cell? w _ hx544_0)).trans hx544_0;have HR544_0 := am hi544_0;have HC544_0 := am hl544_0;clear hi544_0 hl544_0;replace p544 := eq_true p544;replace q544 := eq_true q544)|(go_at_call 47;(with_reducible refine (privityref07_places.calls k _ _ l2 ((rd_L2 l1 0).length : Int) false _ ?side1 ?side2 A9.out).mono ?_);(case side1 => repeat (first|exact (Kd.C_below HR2.out (bb HB))|(with_reducible refine Kd.C_alloc ?_ _)|(with_reducible refine Kd.C_drewN ?_ _)|(with_reducible refine Kd.C_drew ?_)));(case side2 => exact HC2.out);rintro e w' ⟨rfl,⟨nd,rfl⟩⟩))
     go_meet
     case rel => exact ⟨_,(true),(by first|rfl|(simp;done)|(simp [*];done)),H',⟨by first|omega|exact Nat.le_refl _⟩,⟨bb HB⟩⟩
   ·rw [if_neg c8] at H
    exact absurd H (by simp)
  ·replace c7 := Bool.eq_false_iff.mpr c7
   subst c7
   rw [if_neg (show ¬ (false = true) by decide)] at H
   have H' := am H
   clear H
   go_wp2_with (first|((with_reducible refine gate_callee (f := 46) rfl ?_);refine goesL_ (some 28) rfl rfl Try.func46 (by kernel_rfl) rfl #[.slice A1 l1.length c1] rfl (by (try simp only [List.map_toArray,List.map_cons,List.map_nil]);first|done|rfl|(simp only [List.length_drop,List.length_take];rfl)) ?_;(with_reducible refine (privityref07_Even.calls k _ _ l1 false _ ?side1 ?side2 A6.out).mono ?_);(case side1 => exact cb HR1 HB);(case side2 => exact HC1.out);rintro e w' ⟨rfl,⟨nd,rfl⟩⟩;refine ⟨_,rfl,?_⟩))
   go_meet
   case rel => exact ⟨_,(true),(by first|rfl|(simp;done)|(simp [*];done)),H',⟨by first|omega|exact Nat.le_refl _⟩,⟨bb HB⟩⟩
 case rest =>
  clear HC5
  try clear c1
  try clear c2
  try clear p2
  try clear c3
  try clear c4
  try clear c5
  try clear p5
  try clear q5
  try clear hx5
  try clear qi5
  try clear p6
  try clear c7
  try clear c8
  try clear c8b0
  try clear c8b1
  try clear c10
  try clear c12
  try clear hx544_0
  try clear hx547_0
  try clear p544
  try clear p547
  try clear q544
  try clear q547
  obtain ⟨kq,x57_4,rfl,HA,HJ4,HB⟩ := hcut
  cases kq with
  | zero => exact absurd HA.out (by simp [privityref07_Complete.j0])
  | succ kj4 =>
   have H := HA.out
   clear HA
   simp only [privityref07_Complete.j0] at H
   by_cases c13 : x57_4 = true
   ·subst c13
    rw [if_pos rfl] at H
    simp only [Option.some.injEq,Prod.mk.injEq] at H
    obtain ⟨rfl,rfl,rfl⟩ := H
    go_wp2
    go_ret3
    exact ⟨_,_,by first|rfl|(simp [errW_none,errW_some] <;> rfl)|(simp [*,errW_none,errW_some] <;> rfl),by first|exact Kd.R_nil _ _ _ _ _|exact Kd.N_nil _ _ _ _ _|exact Kd.V_nil _ _ _ _ _|exact Kd.Q_nil _ _ _ _ _|exact Kd.S_nil _ _ _ _ _,by first|exact Kd.R_nil _ _ _ _ _|exact Kd.N_nil _ _ _ _ _|exact Kd.V_nil _ _ _ _ _|exact Kd.Q_nil _ _ _ _ _|exact Kd.S_nil _ _ _ _ _,bb HB⟩
   ·replace c13 := Bool.eq_false_iff.mpr c13
    subst c13
    rw [if_neg (show ¬ (false = true) by decide)] at H
    by_cases c14 : 0 < (l1.length : Int)
    ·rw [if_pos c14] at H
     have c14b0 : decide (0 < (l1.length : Int)) = true := decide_eq_true c14
     have c14b1 : decide (0 < l1.length) = true := decide_eq_true (by omega)
     clear c14
     by_cases c15 : 0 ≤ ((rd_L2 l1 0).length : Int)
     ·rw [if_pos c15] at H
      have c15b0 := eq_true c15
      have c15b1 : decide (0 ≤ ((rd_L2 l1 0).length : Int)) = true := decide_eq_true c15
      clear c15
      by_cases c16 : (((rd_L2 l1 0).length : Int) : Int).toNat ≤ 281474976710656
      ·rw [if_pos c16] at H
       have c16b0 := eq_true c16
       have c16b1 : decide ((((rd_L2 l1 0).length : Int) : Int).toNat ≤ 281474976710656) = true := decide_eq_true c16
       clear c16
       obtain ⟨y549,hy549⟩ : ∃ y_ : List Bool,y_ = (List.replicate (((rd_L2 l1 0).length : Int) : Int).toNat false) := ⟨_,rfl⟩
       replace H : (if (((rd_L2 l1 0).length : Int) : Int).toNat ≤ 35184372088832 then (privityref07_Complete.l0 kj4 a0 l1 l2 l3 ((rd_L2 l1 0).length : Int) y549 (List.replicate (((rd_L2 l1 0).length : Int) : Int).toNat 0) 0) else (none)) = some (r1,r2,r3) := by first|(rw [hy549];with_reducible exact H)|(have H2_ := (Option.bind_some _ _).symm.trans H;rw [hy549];with_reducible exact H2_)|(have H2_ := (Option.bind_some _ _).symm.trans H;with_reducible exact H2_)|with_reducible exact H|(rw [hy549];exact H)|exact H
       have Ny549 := am hy549
       clear hy549
       by_cases c17 : (((rd_L2 l1 0).length : Int) : Int).toNat ≤ 35184372088832
       ·rw [if_pos c17] at H
        have c17b0 := eq_true c17
        have c17b1 : decide ((((rd_L2 l1 0).length : Int) : Int).toNat ≤ 35184372088832) = true := decide_eq_true c17
        clear c17
        obtain ⟨y552,hy552⟩ : ∃ y_ : List Int,y_ = (List.replicate (((rd_L2 l1 0).length : Int) : Int).toNat 0) := ⟨_,rfl⟩
        replace H : (privityref07_Complete.l0 kj4 a0 l1 l2 l3 ((rd_L2 l1 0).length : Int) y549 y552 0) = some (r1,r2,r3) := by first|(rw [hy552];with_reducible exact H)|(have H2_ := (Option.bind_some _ _).symm.trans H;rw [hy552];with_reducible exact H2_)|(have H2_ := (Option.bind_some _ _).symm.trans H;with_reducible exact H2_)|with_reducible exact H|(rw [hy552];exact H)|exact H
        have Ny552 := am hy552
        clear hy552
        have H' := am H
        clear H
        have p548 : 0 ≤ (0 : Int) := (by omega)
        have q548 : 0 < (l1.length : Int) := od
        obtain ⟨ad548,A548_0,c548_0,e548,hx548_0,hl548_0,hi548_0⟩ := at_L2 HR1.out 0 p548 q548
        cases e548
        have qi548 : (0 < l1.length) = True := eq_true (by omega)
        (try rw [show ((0 : Int)).toNat = 0 from rfl] at hx548_0)
        (try rw [Addr.add_zero'] at hx548_0)
        replace hx548_0 := (HB.out.cell (World.block_lt_of_cell? w _ hx548_0)).trans hx548_0
        have HR548_0 := am hi548_0
        have HC548_0 := am hl548_0
        clear hi548_0 hl548_0
        replace p548 := eq_true p548
        replace q548 := eq_true q548
        go_wp2_with (first|((with_reducible refine gate_dst (N := 63) rfl ?_);(try (refine gate_guard (by rfl) ?_;dsimp only));refine Kd.R_make Kd.bool _ 4 rfl (N := 63) rfl 78 _ _ rfl ((rd_L2 l1 0).length : Int) rfl rfl Try.underlying78 (.bool false) 1 info4 rfl (by decide) (by omega) false (ok := fun _ => True) (okp := fun _ => True) rfl (fun _ hk => hk) trivial (od) (Nat.le_trans (Nat.mul_le_mul_right _ (od : ((rd_L2 l1 0).length : Int).toNat ≤ 281474976710656)) (by omega)) (Below.refl _ _) (Nat.le_refl _) ?_;intro v550 w18 ho19 hb hg_ hnew_;clear hg_ hnew_;(first|rw [← Ny549.out] at ho19|(simp only [Int.reduceToNat] at ho19;rw [← Ny549.out] at ho19));have n0_ := am (Kd.R_lower ho19 (below_size (bb HB)));have n1_ := am (below_step (bb HB) hb);clear HB;have HO551 := n0_;have HB := n1_;clear n0_ n1_;clear hb ho19)|((with_reducible refine gate_dst (N := 65) rfl ?_);(try (refine gate_guard (by rfl) ?_;dsimp only));refine Kd.R_make (Kd.int .u64) _ 22 rfl (N := 65) rfl 40 _ _ rfl ((rd_L2 l1 0).length : Int) rfl rfl Try.underlying40 (.int .u64 0) 8 info22 rfl (by decide) (by omega) 0 (ok := fun _ => True) (okp := fun _ => True) rfl (fun _ hk => hk) trivial (od) (Nat.le_trans (Nat.mul_le_mul_right _ (od : ((rd_L2 l1 0).length : Int).toNat ≤ 35184372088832)) (by omega)) (Below.refl _ _) (Nat.le_refl _) ?_;intro v553 w20 ho21 hb hg_ hnew_;clear hg_ hnew_;(first|rw [← Ny552.out] at ho21|(simp only [Int.reduceToNat] at ho21;rw [← Ny552.out] at ho21));have n0_ := am (Kd.R_below (rr HO551) hb);have n1_ := am (Kd.R_lower ho21 (below_size (bb HB)));have n2_ := am (below_step (bb HB) hb);clear HO551 HB;have HO551 := n0_;have HO554 := n1_;have HB := n2_;clear n0_ n1_ n2_;clear hb ho21))
        go_loopg [14] kj4 (fun kq v14 w' => ∃ (x12_2 : List Bool) (x13_2 : List Int) (x14_2 : Int),v14 = .int .i64 x14_2 ∧ Aside0 (privityref07_Complete.l0 kq a0 l1 l2 l3 ((rd_L2 l1 0).length : Int) x12_2 x13_2 x14_2 = some (r1,r2,r3)) ∧ Aside0 (kq ≤ kj4) ∧ Aside0 (Kd.R Kd.bool 4 w' w.heap.size (fun _ => True) v550 x12_2) ∧ Aside0 (Kd.R (Kd.int .u64) 22 w' w.heap.size (fun _ => True) v553 x13_2) ∧ Aside0 (Below w.heap.size w w'))
        case atStart => exact ⟨(y549),(y552),(0),(by first|rfl|(simp;done)|(simp [*];done)),H',⟨Nat.le_refl _⟩,⟨by (with_reducible repeat (first|apply Kd.R_alloc|apply Kd.R_drewN|apply Kd.R_drew));exact HO551.out⟩,⟨by (with_reducible repeat (first|apply Kd.R_alloc|apply Kd.R_drewN|apply Kd.R_drew));exact HO554.out⟩,⟨bb HB⟩⟩
        case round =>
         clear H'
         try clear c1
         try clear c2
         try clear p2
         try clear c3
         try clear c4
         try clear c5
         try clear p5
         try clear q5
         try clear hx5
         try clear qi5
         try clear p6
         try clear c7
         try clear c8
         try clear c8b0
         try clear c8b1
         try clear c10
         try clear c12
         try clear c13
         try clear c14
         try clear c14b0
         try clear c14b1
         try clear c15
         try clear c15b0
         try clear c15b1
         try clear c16
         try clear c16b0
         try clear c16b1
         try clear c17
         try clear c17b0
         try clear c17b1
         try clear hx544_0
         try clear hx547_0
         try clear hx548_0
         try clear p2
         try clear p5
         try clear p544
         try clear p547
         try clear p548
         try clear p6
         try clear q5
         try clear q544
         try clear q547
         try clear q548
         obtain ⟨x12_2,x13_2,x14_2,rfl,HA,HK2,HO_12,HO_13,HB⟩ := hrel
         cases gk with
         | zero => exact absurd HA.out (by simp [privityref07_Complete.l0])
         | succ k2 =>
          have H := HA.out
          clear HA
          simp only [privityref07_Complete.l0] at H
          by_cases c22 : x14_2 < (l2.length : Int)
          ·rw [if_pos c22] at H
           have c22b0 : decide (x14_2 < (l2.length : Int)) = true := decide_eq_true c22
           clear c22
           by_cases c23 : 0 ≤ x14_2
           ·rw [if_pos c23] at H
            have c23b0 : decide (0 ≤ x14_2) = true := decide_eq_true c23
            clear c23
            by_cases c24 : 0 ≤ ((rd_T56 l2 x14_2).f0)
            ·rw [if_pos c24] at H
             have c24b0 : decide (0 ≤ ((rd_T56 l2 x14_2).f0)) = true := decide_eq_true c24
             clear c24
             by_cases c25 : ((rd_T56 l2 x14_2).f0) < (x12_2.length : Int)
             ·rw [if_pos c25] at H
              have c25b0 : decide (((rd_T56 l2 x14_2).f0) < (x12_2.length : Int)) = true := decide_eq_true c25
              clear c25
              obtain ⟨y556,hy556⟩ : ∃ y_ : List Bool,y_ = (x12_2.set (((rd_T56 l2 x14_2).f0) : Int).toNat true) := ⟨_,rfl⟩
              replace H : (if ((rd_T56 l2 x14_2).f0) < (x13_2.length : Int) then (privityref07_Complete.l0 k2 a0 l1 l2 l3 ((rd_L2 l1 0).length : Int) y556 (x13_2.set (((rd_T56 l2 x14_2).f0) : Int).toNat ((rd_T56 l2 x14_2).f1)) (wrap64 (x14_2 + 1))) else (none)) = some (r1,r2,r3) := by first|(rw [hy556];with_reducible exact H)|(have H2_ := (Option.bind_some _ _).symm.trans H;rw [hy556];with_reducible exact H2_)|(have H2_ := (Option.bind_some _ _).symm.trans H;with_reducible exact H2_)|with_reducible exact H|(rw [hy556];exact H)|exact H
              have Ny556 := am hy556
              clear hy556
              by_cases c27 : ((rd_T56 l2 x14_2).f0) < (x13_2.length : Int)
              ·rw [if_pos c27] at H
               have c27b0 : decide (((rd_T56 l2 x14_2).f0) < (x13_2.length : Int)) = true := decide_eq_true c27
               clear c27
               obtain ⟨y559,hy559⟩ : ∃ y_ : List Int,y_ = (x13_2.set (((rd_T56 l2 x14_2).f0) : Int).toNat ((rd_T56 l2 x14_2).f1)) := ⟨_,rfl⟩
               replace H : (privityref07_Complete.l0 k2 a0 l1 l2 l3 ((rd_L2 l1 0).length : Int) y556 y559 (wrap64 (x14_2 + 1))) = some (r1,r2,r3) := by first|(rw [hy559];with_reducible exact H)|(have H2_ := (Option.bind_some _ _).symm.trans H;rw [hy559];with_reducible exact H2_)|(have H2_ := (Option.bind_some _ _).symm.trans H;with_reducible exact H2_)|with_reducible exact H|(rw [hy559];exact H)|exact H
               have Ny559 := am hy559
               clear hy559
               have H' := am H
               clear H
               have p555 : 0 ≤ (x14_2 : Int) := od
               have q555 : x14_2 < (l2.length : Int) := od
               obtain ⟨ad555,e555,hx555_0,hx555_1⟩ := at_T56 HR2.out x14_2 p555 q555
               cases e555
               replace hx555_0 := (HB.out.cell (World.block_lt_of_cell? w _ hx555_0)).trans hx555_0
               replace hx555_1 := (HB.out.cell (World.block_lt_of_cell? w _ hx555_1)).trans hx555_1
               replace p555 := eq_true p555
               replace q555 := eq_true q555
               have p26 : 0 ≤ (((rd_T56 l2 x14_2).f0) : Int) := od
               have q26 : (((rd_T56 l2 x14_2).f0) : Int) < ((x12_2.length : Int) : Int) := od
               obtain ⟨go26,co26,eo26,gb26,gl26,cl26,HG26⟩ := Kd.R_form HO_12.out (by omega)
               (first|cases eo26|(injection eo26 with ea_ en_ ec_;(first|subst ea_|(injection ea_ with ea_;subst ea_));subst ec_;clear en_))
               have GB26 := am gb26
               have GG26 := am HG26
               clear gb26 gl26 HG26
               obtain ⟨hx26_0,hf26_0⟩ := Kd.R_celln false HO_12.out (((rd_T56 l2 x14_2).f0) : Int) p26 q26
               replace p26 := eq_true p26
               replace q26 := eq_true q26
               have HP29 := Kd.R_putg HO_12.out (((rd_T56 l2 x14_2).f0) : Int) true
               try go_wp2_with (first|((with_reducible refine gate_store (t := 4) (p := 78) rfl ?_);refine store_event (t := 4) (p := 78) (v := ?vo_w30) (w1 := (wr.setCell ⟨go26,(((rd_T56 l2 x14_2).f0) : Int).toNat,none⟩ (.bool true))) ?hg ?ho ?hn ?hr ?_;(case ho => rfl);(case hg => rfl);(case hn => rfl);(case hr => first|(go_simp;done)|(go_simp;rfl));intro w30 hw;have hg : wr.grownBy w30 (some go26) := (by rw [hw];exact HP29.2);have hp_ : Kd.R Kd.bool 4 w30 w.heap.size (fun _ => True) (.slice (some ⟨go26,0,none⟩) x12_2.length co26) y556 := (by rw [hw,Ny556.out];exact HP29.1);clear HP29;have n0_ := am (hp_);have n1_ := am (Kd.R_over' (v := (.slice (some ⟨go26,0,none⟩) x12_2.length co26)) (rr HO_13) (Kd.R_typed HO_12.out) (by decide) hg);have n2_ := am ((by rw [hw];exact below_set (HB.out) GB26.out : Below w.heap.size w w30));clear HO_12 HO_13 HB;have HO_12 := n0_;have HO_13 := n1_;have HB := n2_;clear n0_ n1_ n2_;clear hg hw hp_))
               have n0_ := am (Kd.R_drew HO_12.out)
               have n1_ := am (Kd.R_drew HO_13.out)
               have n2_ := am (below_drew1 HB.out)
               clear HO_12
               clear HO_13
               clear HB
               have HO_12 := n0_
               have HO_13 := n1_
               have HB := n2_
               clear n0_ n1_ n2_
               have p557 : 0 ≤ (x14_2 : Int) := od
               have q557 : x14_2 < (l2.length : Int) := od
               obtain ⟨ad557,e557,hx557_0,hx557_1⟩ := at_T56 HR2.out x14_2 p557 q557
               have hw557_1 := hx557_1
               have hw557_0 := hx557_0
               obtain rfl : ad555 = ad557 := (by injection e557)
               replace hx557_0 := (HB.out.cell (World.block_lt_of_cell? w _ hx557_0)).trans hx557_0
               replace hx557_1 := (HB.out.cell (World.block_lt_of_cell? w _ hx557_1)).trans hx557_1
               replace p557 := eq_true p557
               replace q557 := eq_true q557
               have p558 : 0 ≤ (x14_2 : Int) := od
               have q558 : x14_2 < (l2.length : Int) := od
               obtain ⟨ad558,e558,hx558_0,hx558_1⟩ := at_T56 HR2.out x14_2 p558 q558
               have hw558_1 := hx558_1
               have hw558_0 := hx558_0
               obtain rfl : ad555 = ad558 := (by injection e558)
               replace hx558_0 := (HB.out.cell (World.block_lt_of_cell? w _ hx558_0)).trans hx558_0
               replace hx558_1 := (HB.out.cell (World.block_lt_of_cell? w _ hx558_1)).trans hx558_1
               replace p558 := eq_true p558
               replace q558 := eq_true q558
               have p28 : 0 ≤ (((rd_T56 l2 x14_2).f0) : Int) := od
               have q28 : (((rd_T56 l2 x14_2).f0) : Int) < ((x13_2.length : Int) : Int) := od
               obtain ⟨go28,co28,eo28,gb28,gl28,cl28,HG28⟩ := Kd.R_form HO_13.out (by omega)
               (first|cases eo28|(injection eo28 with ea_ en_ ec_;(first|subst ea_|(injection ea_ with ea_;subst ea_));subst ec_;clear en_))
               have GB28 := am gb28
               have GG28 := am HG28
               clear gb28 gl28 HG28
               obtain ⟨hx28_0,hf28_0⟩ := Kd.R_celln 0 HO_13.out (((rd_T56 l2 x14_2).f0) : Int) p28 q28
               replace p28 := eq_true p28
               replace q28 := eq_true q28
               have HP32 := Kd.R_putn HO_13.out (((rd_T56 l2 x14_2).f0) : Int) ((rd_T56 l2 x14_2).f1)
               rw [← Ny559.out] at HP32
               have HQ32 := am HP32
               clear HP32
               refine start_ (n := 13) (S := fun w' => w'.cell? (ad555.add ((x14_2).toNat * 2)) = some (.int .u64 ((rd_T56 l2 x14_2).f0)) ∧ w'.cell? ⟨(ad555.add ((x14_2).toNat * 2)).block,(ad555.add ((x14_2).toNat * 2)).off + 1,none⟩ = some (.int .u64 ((rd_T56 l2 x14_2).f1)) ∧ w'.cell? (ad555.add ((x14_2).toNat * 2)) = some (.int .u64 ((rd_T56 l2 x14_2).f0)) ∧ w'.cell? ⟨(ad555.add ((x14_2).toNat * 2)).block,(ad555.add ((x14_2).toNat * 2)).off + 1,none⟩ = some (.int .u64 ((rd_T56 l2 x14_2).f1))) (ds := [12]) (bz 13 0) (by kernel_rfl) rfl rfl ⟨((HB.out.cell (World.block_lt_of_cell? w _ hw557_0)).trans hw557_0),((HB.out.cell (World.block_lt_of_cell? w _ hw557_1)).trans hw557_1),((HB.out.cell (World.block_lt_of_cell? w _ hw558_0)).trans hw558_0),((HB.out.cell (World.block_lt_of_cell? w _ hw558_1)).trans hw558_1)⟩ (fun hHeld => ?_);refine with_tabW privityref07_Complete.tab10 privityref07_Complete.bits10 (fun HT_ HW_ => ?_)
               generalize w30.drew = w31 at HO_12 HO_13 HB GG28 HQ32 hf28_0 hx28_0 hx557_0 hx557_1 hx558_0 hx558_1 hHeld ⊢
               refine pk 0 79 (bz 13 1) HT_ ?_
               refine pk 1 80 (bz 13 3) HT_ ?_
               refine pk 2 81 (bz 13 7) HT_ ?_
               refine pk 3 82 (bz 13 15) HT_ ?_
               refine pk 4 83 (bz 13 31) HT_ ?_
               refine pk 6 85 (bz 13 95) HT_ ?_
               refine pk 7 86 (bz 13 223) HT_ ?_
               refine pk 8 87 (bz 13 479) HT_ ?_
               refine pk 9 88 (bz 13 991) HT_ ?_
               refine tk 5 84 (bz 13 1023) HT_ HW_ hHeld ?_
               refine tk 10 89 (bz 13 2047) HT_ HW_ hHeld ?_
               refine pk 11 90 (bz 13 4095) HT_ ?_
               refine last_ (i := 12) (N := none) (bz 13 8191) rfl rfl (one_of HT_.out (by kernel_rfl)) (by decide) (fun K hK => ?_)
               refine skip_ (w1 := ?_) (by rfl) rfl ?_ ?_
               rotate_left
               ·go_simp
                rfl
               refine hK.out _ _ ?_
               clear hK K
               refine done_ (done_of HT_.out (by kernel_rfl)) ?_
               try go_wp2
               go_roundg k2
               case measure => have := HJ4.out;have := HK2.out;omega
               case rel => exact ⟨(y556),(y559),(wrap64 (x14_2 + 1)),(by first|rfl|(simp;done)|(simp [*];done)),H',⟨by have := HJ4.out;have := HK2.out;omega⟩,⟨by (with_reducible repeat (first|apply Kd.R_alloc|apply Kd.R_drewN|apply Kd.R_drew));exact Kd.R_mono (Kd.R_far (p := ⟨go28,(((rd_T56 l2 x14_2).f0) : Int).toNat,none⟩) (Kd.R_types HO_12.out GG28.out (by decide)) (fun _ hk => hk.2) (.int .u64 ((rd_T56 l2 x14_2).f1))) (fun _ hk => trivial)⟩,⟨by (with_reducible repeat (first|apply Kd.R_alloc|apply Kd.R_drewN|apply Kd.R_drew));exact HQ32.out⟩,⟨by repeat (first|(with_reducible first|exact HB.out|apply below_alloc|apply pw_below_drewN|apply below_drew1|refine below_set ?_ GB28.out)|exact HB.out)⟩⟩
              ·rw [if_neg c27] at H
               exact absurd H (by simp)
             ·rw [if_neg c25] at H
              exact absurd H (by simp)
            ·rw [if_neg c24] at H
             exact absurd H (by simp)
           ·rw [if_neg c23] at H
            exact absurd H (by simp)
          ·rw [if_neg c22] at H
           have c22b0 : decide (x14_2 < (l2.length : Int)) = false := decide_eq_false c22
           clear c22
           have H' := am H
           clear H
           go_wp2
           go_loopg [15,16] k2 (fun kq v15 v16 w' => ∃ (x15_3 : List Int) (x16_3 : Int),v16 = .int .i64 x16_3 ∧ Aside0 (privityref07_Complete.l1 kq a0 l1 l3 ((rd_L2 l1 0).length : Int) x12_2 x13_2 x15_3 x16_3 = some (r1,r2,r3)) ∧ Aside0 (kq ≤ k2) ∧ Aside0 (Kd.R Kd.bool 4 w' w.heap.size (fun _ => True) v550 x12_2) ∧ Aside0 (Kd.R (Kd.int .u64) 22 w' w.heap.size (fun _ => True) v553 x13_2) ∧ Aside0 (Kd.R (Kd.int .i64) 3 w' w.heap.size (fun _ => True) v15 x15_3) ∧ Aside0 (Below w.heap.size w w'))
           case atStart => exact ⟨(([] : List Int)),(0),(by first|rfl|(simp;done)|(simp [*];done)),H',⟨Nat.le_refl _⟩,⟨by (with_reducible repeat (first|apply Kd.R_alloc|apply Kd.R_drewN|apply Kd.R_drew));exact HO_12.out⟩,⟨by (with_reducible repeat (first|apply Kd.R_alloc|apply Kd.R_drewN|apply Kd.R_drew));exact HO_13.out⟩,⟨by first|exact Kd.R_nil _ _ _ _ _|exact Kd.N_nil _ _ _ _ _|exact Kd.V_nil _ _ _ _ _|exact Kd.Q_nil _ _ _ _ _|exact Kd.S_nil _ _ _ _ _⟩,⟨bb HB⟩⟩
           case round =>
            clear H'
            try clear c1
            try clear c2
            try clear p2
            try clear q2
            try clear hx2
            try clear c3
            try clear c4
            try clear c5
            try clear p5
            try clear q5
            try clear hx5
            try clear qi5
            try clear p6
            try clear c7
            try clear c8
            try clear c8b0
            try clear c8b1
            try clear c10
            try clear c12
            try clear c13
            try clear c14
            try clear c14b0
            try clear c14b1
            try clear c15
            try clear c15b0
            try clear c15b1
            try clear c16
            try clear c16b0
            try clear c16b1
            try clear c17
            try clear c17b0
            try clear c17b1
            try clear c22
            try clear c22b0
            try clear c23
            try clear c23b0
            try clear c24
            try clear c24b0
            try clear c25
            try clear c25b0
            try clear p26
            try clear q26
            try clear hx26
            try clear hf26
            try clear c27
            try clear c27b0
            try clear p28
            try clear q28
            try clear hx28
            try clear hf28
            try clear hx26_0
            try clear hx28_0
            try clear hx544_0
            try clear hx547_0
            try clear hx548_0
            try clear hx555_0
            try clear hx555_1
            try clear hx557_0
            try clear hx557_1
            try clear hx558_0
            try clear hx558_1
            try clear p2
            try clear p26
            try clear p28
            try clear p5
            try clear p544
            try clear p547
            try clear p548
            try clear p555
            try clear p557
            try clear p558
            try clear p6
            try clear q26
            try clear q28
            try clear q5
            try clear q544
            try clear q547
            try clear q548
            try clear q555
            try clear q557
            try clear q558
            obtain ⟨x15_3,x16_3,rfl,HA,HK3,HO_12,HO_13,HO_15,HB⟩ := hrel
            cases gk with
            | zero => exact absurd HA.out (by simp [privityref07_Complete.l1])
            | succ k3 =>
             have H := HA.out
             clear HA
             simp only [privityref07_Complete.l1] at H
             by_cases c33 : x16_3 < ((rd_L2 l1 0).length : Int)
             ·rw [if_pos c33] at H
              have c33b0 : decide (x16_3 < ((rd_L2 l1 0).length : Int)) = true := decide_eq_true c33
              clear c33
              by_cases c34 : 0 ≤ x16_3
              ·rw [if_pos c34] at H
               have c34b0 : decide (0 ≤ x16_3) = true := decide_eq_true c34
               clear c34
               by_cases c35 : x16_3 < (x12_2.length : Int)
               ·rw [if_pos c35] at H
                have c35b0 : decide (x16_3 < (x12_2.length : Int)) = true := decide_eq_true c35
                clear c35
                obtain ⟨bq36,hbq36⟩ : ∃ b_ : Bool,b_ = (rdOf false x12_2 x16_3) := ⟨_,rfl⟩
                replace H : (if bq36 = true then (privityref07_Complete.l1 k3 a0 l1 l3 ((rd_L2 l1 0).length : Int) x12_2 x13_2 x15_3 (wrap64 (x16_3 + 1))) else (if x15_3.length < 17592186044416 then (privityref07_Complete.l1 k3 a0 l1 l3 ((rd_L2 l1 0).length : Int) x12_2 x13_2 (x15_3 ++ [x16_3]) (wrap64 (x16_3 + 1))) else (none))) = some (r1,r2,r3) := by rw [← hbq36] at H;exact H
                have Nbq36 := am hbq36
                clear hbq36
                by_cases c37 : bq36 = true
                ·subst c37
                 rw [if_pos rfl] at H
                 have H' := am H
                 clear H
                 obtain ⟨Ao38,co38,eo38⟩ := Kd.R_slice HO_12.out
                 subst eo38
                 have p560 : 0 ≤ (x16_3 : Int) := od
                 have q560 : x16_3 < (x12_2.length : Int) := od
                 obtain ⟨ad560,e560,hx560_0⟩ := Kd.at_bool (Kd.R_reads' HO_12.out).2.2 x16_3 p560 q560
                 (try rw [← Nbq36.out] at hx560_0)
                 cases e560
                 replace p560 := eq_true p560
                 replace q560 := eq_true q560
                 go_wp2
                 go_roundg k3
                 case measure => have := HJ4.out;have := HK2.out;have := HK3.out;omega
                 case rel => exact ⟨(x15_3),(wrap64 (x16_3 + 1)),(by first|rfl|(simp;done)|(simp [*];done)),H',⟨by have := HJ4.out;have := HK2.out;have := HK3.out;omega⟩,⟨by (with_reducible repeat (first|apply Kd.R_alloc|apply Kd.R_drewN|apply Kd.R_drew));exact HO_12.out⟩,⟨by (with_reducible repeat (first|apply Kd.R_alloc|apply Kd.R_drewN|apply Kd.R_drew));exact HO_13.out⟩,⟨by (with_reducible repeat (first|apply Kd.R_alloc|apply Kd.R_drewN|apply Kd.R_drew));exact HO_15.out⟩,⟨bb HB⟩⟩
                ·replace c37 := Bool.eq_false_iff.mpr c37
                 subst c37
                 rw [if_neg (show ¬ (false = true) by decide)] at H
                 by_cases c39 : x15_3.length < 17592186044416
                 ·rw [if_pos c39] at H
                  have LMc39 := am c39
                  clear c39
                  obtain ⟨y561,hy561⟩ : ∃ y_ : List Int,y_ = (x15_3 ++ [x16_3]) := ⟨_,rfl⟩
                  replace H : (privityref07_Complete.l1 k3 a0 l1 l3 ((rd_L2 l1 0).length : Int) x12_2 x13_2 y561 (wrap64 (x16_3 + 1))) = some (r1,r2,r3) := by first|(rw [hy561];with_reducible exact H)|(have H2_ := (Option.bind_some _ _).symm.trans H;rw [hy561];with_reducible exact H2_)|(have H2_ := (Option.bind_some _ _).symm.trans H;with_reducible exact H2_)|with_reducible exact H|(rw [hy561];exact H)|exact H
                  have Ny561 := am hy561
                  clear hy561
                  have H' := am H
                  clear H
                  obtain ⟨Ao40,co40,eo40⟩ := Kd.R_slice HO_12.out
                  subst eo40
                  have p560 : 0 ≤ (x16_3 : Int) := od
                  have q560 : x16_3 < (x12_2.length : Int) := od
                  obtain ⟨ad560,e560,hx560_0⟩ := Kd.at_bool (Kd.R_reads' HO_12.out).2.2 x16_3 p560 q560
                  (try rw [← Nbq36.out] at hx560_0)
                  cases e560
                  replace p560 := eq_true p560
                  replace q560 := eq_true q560
                  go_wp2_with (first|((with_reducible refine gate_builtin (b := .append) (xs := #[.tmp 101,.tmp 103]) rfl ?_);(try (refine gate_guard (by rfl) ?_;dsimp only));at_builtin;refine Kd.R_append (Kd.int .i64) (w0 := w) w.heap.size rfl (.tmp 101) (.tmp 103) 31 3 (.int .i64 0) 8 rfl Try.underlying31 info3 rfl (by decide) (by omega) u15 x15_3 x16_3 [.int .i64 x16_3] (fun _ => True) (fun _ => False) rfl rfl ?aP (fun _ hk => hk.elim) ?aF ?aO ?aB ?aS ?aL ?_;(case aP => exact rfl);(case aB => exact (bb HB));(case aF => exact (fun _ _ => trivial));(case aO => exact (rr HO_15));(case aS => exact (below_size (bb HB)));(case aL => have := LMc39.out;omega);intro v562 w41 ho hb hg hat;rw [← Ny561.out] at ho;have n0_ := am (Kd.R_over' (rr HO_12) (Kd.R_typed (rr HO_15)) (by decide) hg);have n1_ := am (Kd.R_over' (rr HO_13) (Kd.R_typed (rr HO_15)) (by decide) hg);have n2_ := am (hb);have n3_ := am (ho);clear HO_12 HO_13 HB HO_15;have HO_12 := n0_;have HO_13 := n1_;have HB := n2_;have HO563 := n3_;clear n0_ n1_ n2_ n3_;clear ho hb hg hat))
                  go_roundg k3
                  case measure => have := HJ4.out;have := HK2.out;have := HK3.out;omega
                  case rel => exact ⟨(y561),(wrap64 (x16_3 + 1)),(by first|rfl|(simp;done)|(simp [*];done)),H',⟨by have := HJ4.out;have := HK2.out;have := HK3.out;omega⟩,⟨by (with_reducible repeat (first|apply Kd.R_alloc|apply Kd.R_drewN|apply Kd.R_drew));exact HO_12.out⟩,⟨by (with_reducible repeat (first|apply Kd.R_alloc|apply Kd.R_drewN|apply Kd.R_drew));exact HO_13.out⟩,⟨by (with_reducible repeat (first|apply Kd.R_alloc|apply Kd.R_drewN|apply Kd.R_drew));exact HO563.out⟩,⟨bb HB⟩⟩
                 ·rw [if_neg c39] at H
                  exact absurd H (by simp)
               ·rw [if_neg c35] at H
                exact absurd H (by simp)
              ·rw [if_neg c34] at H
               exact absurd H (by simp)
             ·rw [if_neg c33] at H
              have c33b0 : decide (x16_3 < ((rd_L2 l1 0).length : Int)) = false := decide_eq_false c33
              clear c33
              have H' := am H
              clear H
              go_wp2
              go_loopg [17,18,19] k3 (fun kq v17 v18 v19 w' => ∃ (x17_4 : List Int) (x18_4 : List Int) (x19_4 : Int),v19 = .int .i64 x19_4 ∧ Aside0 (privityref07_Complete.l2 kq a0 l1 l3 x13_2 x15_3 x17_4 x18_4 x19_4 = some (r1,r2,r3)) ∧ Aside0 (kq ≤ k3) ∧ Aside0 (Kd.R (Kd.int .u64) 22 w' w.heap.size (fun k_ => some k_ ≠ (v18 : Value).ownBlock) v553 x13_2) ∧ Aside0 (Kd.R (Kd.int .i64) 3 w' w.heap.size (fun k_ => some k_ ≠ (v17 : Value).ownBlock) u15 x15_3) ∧ Aside0 (Kd.R (Kd.int .i64) 3 w' w.heap.size (fun k_ => some k_ ≠ (u15 : Value).ownBlock) v17 x17_4) ∧ Aside0 (Kd.R (Kd.int .u64) 22 w' w.heap.size (fun k_ => some k_ ≠ (v553 : Value).ownBlock) v18 x18_4) ∧ Aside0 (Below w.heap.size w w'))
              case atStart => exact ⟨(([] : List Int)),(([] : List Int)),(0),(by first|rfl|(simp;done)|(simp [*];done)),H',⟨Nat.le_refl _⟩,⟨by (with_reducible repeat (first|apply Kd.R_alloc|apply Kd.R_drewN|apply Kd.R_drew));exact Kd.R_mono HO_13.out (fun _ hk => (by simp [Value.ownBlock]))⟩,⟨by (with_reducible repeat (first|apply Kd.R_alloc|apply Kd.R_drewN|apply Kd.R_drew));exact Kd.R_mono HO_15.out (fun _ hk => (by simp [Value.ownBlock]))⟩,⟨by first|exact Kd.R_nil _ _ _ _ _|exact Kd.N_nil _ _ _ _ _|exact Kd.V_nil _ _ _ _ _|exact Kd.Q_nil _ _ _ _ _|exact Kd.S_nil _ _ _ _ _⟩,⟨by first|exact Kd.R_nil _ _ _ _ _|exact Kd.N_nil _ _ _ _ _|exact Kd.V_nil _ _ _ _ _|exact Kd.Q_nil _ _ _ _ _|exact Kd.S_nil _ _ _ _ _⟩,⟨bb HB⟩⟩
              case round =>
               clear H'
               try clear c1
               try clear c2
               try clear p2
               try clear q2
               try clear hx2
               try clear c3
               try clear q3
               try clear c4
               try clear c5
               try clear p5
               try clear q5
               try clear hx5
               try clear qi5
               try clear p6
               try clear c7
               try clear c8
               try clear c8b0
               try clear c8b1
               try clear c10
               try clear c12
               try clear c13
               try clear c14
               try clear c14b0
               try clear c14b1
               try clear c15
               try clear c15b0
               try clear c15b1
               try clear c16
               try clear c16b0
               try clear c16b1
               try clear c17
               try clear c17b0
               try clear c17b1
               try clear c22
               try clear c22b0
               try clear c23
               try clear c23b0
               try clear c24
               try clear c24b0
               try clear c25
               try clear c25b0
               try clear p26
               try clear q26
               try clear hx26
               try clear hf26
               try clear c27
               try clear c27b0
               try clear p28
               try clear q28
               try clear hx28
               try clear hf28
               try clear c33
               try clear c33b0
               try clear c34
               try clear c34b0
               try clear c35
               try clear c35b0
               try clear q36
               try clear c37
               try clear c39
               try clear hx26_0
               try clear hx28_0
               try clear hx544_0
               try clear hx547_0
               try clear hx548_0
               try clear hx555_0
               try clear hx555_1
               try clear hx557_0
               try clear hx557_1
               try clear hx558_0
               try clear hx558_1
               try clear hx560_0
               try clear p2
               try clear p26
               try clear p28
               try clear p5
               try clear p544
               try clear p547
               try clear p548
               try clear p555
               try clear p557
               try clear p558
               try clear p560
               try clear p6
               try clear q2
               try clear q26
               try clear q28
               try clear q5
               try clear q544
               try clear q547
               try clear q548
               try clear q555
               try clear q557
               try clear q558
               try clear q560
               obtain ⟨x17_4,x18_4,x19_4,rfl,HA,HK4,HO_13,HO_15,HO_17,HO_18,HB⟩ := hrel
               cases gk with
               | zero => exact absurd HA.out (by simp [privityref07_Complete.l2])
               | succ k4 =>
                have H := HA.out
                clear HA
                simp only [privityref07_Complete.l2] at H
                by_cases c42 : x19_4 < (l3.length : Int)
                ·rw [if_pos c42] at H
                 have c42b0 : decide (x19_4 < (l3.length : Int)) = true := decide_eq_true c42
                 clear c42
                 by_cases c43 : 0 ≤ x19_4
                 ·rw [if_pos c43] at H
                  have c43b0 : decide (0 ≤ x19_4) = true := decide_eq_true c43
                  clear c43
                  by_cases c44 : x17_4.length < 17592186044416
                  ·rw [if_pos c44] at H
                   have LMc44 := am c44
                   clear c44
                   obtain ⟨y565,hy565⟩ : ∃ y_ : List Int,y_ = (x17_4 ++ [wrap64 ((rd_T56 l3 x19_4).f0)]) := ⟨_,rfl⟩
                   replace H : (if 0 ≤ ((rd_T56 l3 x19_4).f0) then (if ((rd_T56 l3 x19_4).f0) < (l1.length : Int) then ((privityref07_dot.f k4 a0 (rd_L2 l1 ((rd_T56 l3 x19_4).f0)) x13_2).bind fun t571 => ((privityref01_Sub.f a0 ((rd_T56 l3 x19_4).f1) t571).bind fun t572 => (if x18_4.length < 17592186044416 then (privityref07_Complete.l2 k4 a0 l1 l3 x13_2 x15_3 y565 (x18_4 ++ [t572]) (wrap64 (x19_4 + 1))) else (none)))) else (none)) else (none)) = some (r1,r2,r3) := by first|(rw [hy565];with_reducible exact H)|(have H2_ := (Option.bind_some _ _).symm.trans H;rw [hy565];with_reducible exact H2_)|(have H2_ := (Option.bind_some _ _).symm.trans H;with_reducible exact H2_)|with_reducible exact H|(rw [hy565];exact H)|exact H
                   have Ny565 := am hy565
                   clear hy565
                   by_cases c45 : 0 ≤ ((rd_T56 l3 x19_4).f0)
                   ·rw [if_pos c45] at H
                    have c45b0 : decide (0 ≤ ((rd_T56 l3 x19_4).f0)) = true := decide_eq_true c45
                    clear c45
                    by_cases c46 : ((rd_T56 l3 x19_4).f0) < (l1.length : Int)
                    ·rw [if_pos c46] at H
                     have c46b0 : decide (((rd_T56 l3 x19_4).f0) < (l1.length : Int)) = true := decide_eq_true c46
                     clear c46
                     replace H := Option.bind_eq_some_iff.mp H
                     obtain ⟨t571,A470,H⟩ := H
                     try dsimp only at H
                     have A47 := am A470
                     clear A470
                     replace H := Option.bind_eq_some_iff.mp H
                     obtain ⟨t572,A480,H⟩ := H
                     try dsimp only at H
                     have A48 := am A480
                     clear A480
                     by_cases c49 : x18_4.length < 17592186044416
                     ·rw [if_pos c49] at H
                      have LMc49 := am c49
                      clear c49
                      obtain ⟨y573,hy573⟩ : ∃ y_ : List Int,y_ = (x18_4 ++ [t572]) := ⟨_,rfl⟩
                      replace H : (privityref07_Complete.l2 k4 a0 l1 l3 x13_2 x15_3 y565 y573 (wrap64 (x19_4 + 1))) = some (r1,r2,r3) := by first|(rw [hy573];with_reducible exact H)|(have H2_ := (Option.bind_some _ _).symm.trans H;rw [hy573];with_reducible exact H2_)|(have H2_ := (Option.bind_some _ _).symm.trans H;with_reducible exact H2_)|with_reducible exact H|(rw [hy573];exact H)|exact H
                      have Ny573 := am hy573
                      clear hy573
                      have H' := am H
                      clear H
                      have p564 : 0 ≤ (x19_4 : Int) := od
                      have q564 : x19_4 < (l3.length : Int) := od
                      obtain ⟨ad564,e564,hx564_0,hx564_1⟩ := at_T56 HR3.out x19_4 p564 q564
                      cases e564
                      replace hx564_0 := (HB.out.cell (World.block_lt_of_cell? w _ hx564_0)).trans hx564_0
                      replace hx564_1 := (HB.out.cell (World.block_lt_of_cell? w _ hx564_1)).trans hx564_1
                      replace p564 := eq_true p564
                      replace q564 := eq_true q564
                      try go_wp2_with (first|((with_reducible refine gate_builtin (b := .append) (xs := #[.tmp 111,.tmp 118]) rfl ?_);(try (refine gate_guard (by rfl) ?_;dsimp only));at_builtin;refine Kd.R_append (Kd.int .i64) (w0 := w) w.heap.size rfl (.tmp 111) (.tmp 118) 31 3 (.int .i64 0) 8 rfl Try.underlying31 info3 rfl (by decide) (by omega) u17 x17_4 (wrap64 ((rd_T56 l3 x19_4).f0)) [.int .i64 (wrap64 ((rd_T56 l3 x19_4).f0))] (fun k_ => some k_ ≠ (u15 : Value).ownBlock) (fun _ => False) rfl rfl ?aP (fun _ hk => hk.elim) ?aF ?aO ?aB ?aS ?aL ?_;(case aP => exact rfl);(case aB => exact (bb HB));(case aF => exact (fun k_ hk => Kd.fresh' (Kd.R_lt (rr HO_15)) k_ hk));(case aO => exact (rr HO_17));(case aS => exact (below_size (bb HB)));(case aL => have := LMc44.out;omega);intro v566 w50 ho hb hg hat;rw [← Ny565.out] at ho;have n0_ := am (Kd.R_over' (rr HO_13) (Kd.R_typed (rr HO_17)) (by decide) hg);have n1_ := am (Kd.R_after (ok := (fun _ => True)) (by (with_reducible repeat (first|apply Kd.R_alloc|apply Kd.R_drewN|apply Kd.R_drew));exact Kd.R_mono HO_15.out (fun _ hk => ⟨trivial,hk⟩)) hg hat);have n2_ := am (Kd.R_over' (rr HO_18) (Kd.R_typed (rr HO_17)) (by decide) hg);have n3_ := am (hb);have n4_ := am (ho);clear HO_13 HO_15 HO_18 HB HO_17;have HO_13 := n0_;have HO_15 := n1_;have HO_18 := n2_;have HB := n3_;have HO567 := n4_;clear n0_ n1_ n2_ n3_ n4_;clear ho hb hg hat))
                      have n0_ := am (Kd.R_drew HO_13.out)
                      have n1_ := am (Kd.R_drew HO_15.out)
                      have n2_ := am (Kd.R_drew HO_18.out)
                      have n3_ := am (Kd.R_drew HO567.out)
                      have n4_ := am (below_drew1 HB.out)
                      clear HO_13
                      clear HO_15
                      clear HO_18
                      clear HO567
                      clear HB
                      have HO_13 := n0_
                      have HO_15 := n1_
                      have HO_18 := n2_
                      have HO567 := n3_
                      have HB := n4_
                      clear n0_ n1_ n2_ n3_ n4_
                      have p568 : 0 ≤ (x19_4 : Int) := od
                      have q568 : x19_4 < (l3.length : Int) := od
                      obtain ⟨ad568,e568,hx568_0,hx568_1⟩ := at_T56 HR3.out x19_4 p568 q568
                      have hw568_1 := hx568_1
                      have hw568_0 := hx568_0
                      obtain rfl : ad564 = ad568 := (by injection e568)
                      replace hx568_0 := (HB.out.cell (World.block_lt_of_cell? w _ hx568_0)).trans hx568_0
                      replace hx568_1 := (HB.out.cell (World.block_lt_of_cell? w _ hx568_1)).trans hx568_1
                      replace p568 := eq_true p568
                      replace q568 := eq_true q568
                      have p569 : 0 ≤ (x19_4 : Int) := od
                      have q569 : x19_4 < (l3.length : Int) := od
                      obtain ⟨ad569,e569,hx569_0,hx569_1⟩ := at_T56 HR3.out x19_4 p569 q569
                      have hw569_1 := hx569_1
                      have hw569_0 := hx569_0
                      obtain rfl : ad564 = ad569 := (by injection e569)
                      replace hx569_0 := (HB.out.cell (World.block_lt_of_cell? w _ hx569_0)).trans hx569_0
                      replace hx569_1 := (HB.out.cell (World.block_lt_of_cell? w _ hx569_1)).trans hx569_1
                      replace p569 := eq_true p569
                      replace q569 := eq_true q569
                      have p570 : 0 ≤ (((rd_T56 l3 x19_4).f0) : Int) := od
                      have q570 : ((rd_T56 l3 x19_4).f0) < (l1.length : Int) := od
                      obtain ⟨ad570,A570_0,c570_0,e570,hx570_0,hl570_0,hi570_0⟩ := at_L2 HR1.out ((rd_T56 l3 x19_4).f0) p570 q570
                      have hw570_0 := hx570_0
                      obtain rfl : ad548 = ad570 := (by injection e570)
                      replace hx570_0 := (HB.out.cell (World.block_lt_of_cell? w _ hx570_0)).trans hx570_0
                      have HR570_0 := am hi570_0
                      have HC570_0 := am hl570_0
                      clear hi570_0 hl570_0
                      replace p570 := eq_true p570
                      replace q570 := eq_true q570
                      obtain ⟨Ao52,co52,eo52⟩ := Kd.R_slice HO_13.out
                      (first|subst eo52|(injection eo52 with f1_ f2_ f3_;have f4_ := f1_.symm;have f5_ := f3_.symm;clear f1_ f2_ f3_;subst f4_;subst f5_))
                      refine start_ (n := 22) (S := fun w' => w'.cell? (ad564.add ((x19_4).toNat * 2)) = some (.int .u64 ((rd_T56 l3 x19_4).f0)) ∧ w'.cell? ⟨(ad564.add ((x19_4).toNat * 2)).block,(ad564.add ((x19_4).toNat * 2)).off + 1,none⟩ = some (.int .u64 ((rd_T56 l3 x19_4).f1)) ∧ w'.cell? (ad564.add ((x19_4).toNat * 2)) = some (.int .u64 ((rd_T56 l3 x19_4).f0)) ∧ w'.cell? ⟨(ad564.add ((x19_4).toNat * 2)).block,(ad564.add ((x19_4).toNat * 2)).off + 1,none⟩ = some (.int .u64 ((rd_T56 l3 x19_4).f1)) ∧ w'.cell? (ad548.add (((rd_T56 l3 x19_4).f0)).toNat) = some (.slice A570_0 (rd_L2 l1 ((rd_T56 l3 x19_4).f0)).length c570_0)) (ds := []) (bz 22 0) (by kernel_rfl) rfl rfl ⟨((HB.out.cell (World.block_lt_of_cell? w _ hw568_0)).trans hw568_0),((HB.out.cell (World.block_lt_of_cell? w _ hw568_1)).trans hw568_1),((HB.out.cell (World.block_lt_of_cell? w _ hw569_0)).trans hw569_0),((HB.out.cell (World.block_lt_of_cell? w _ hw569_1)).trans hw569_1),((HB.out.cell (World.block_lt_of_cell? w _ hw570_0)).trans hw570_0)⟩ (fun hHeld => ?_);refine with_tabW privityref07_Complete.tab23 privityref07_Complete.bits23 (fun HT_ HW_ => ?_)
                      generalize w50.drew = w51 at HO_13 HO_15 HO_18 HO567 HB HR570_0 hx568_0 hx568_1 hx569_0 hx569_1 hx570_0 hHeld ⊢
                      refine pk 0 120 (bz 22 1) HT_ ?_
                      refine pk 1 121 (bz 22 3) HT_ ?_
                      refine pk 2 122 (bz 22 7) HT_ ?_
                      refine pk 3 123 (bz 22 15) HT_ ?_
                      refine pk 4 124 (bz 22 31) HT_ ?_
                      refine pk 5 125 (bz 22 63) HT_ ?_
                      refine pk 7 127 (bz 22 191) HT_ ?_
                      refine pk 8 128 (bz 22 447) HT_ ?_
                      refine pk 9 129 (bz 22 959) HT_ ?_
                      refine pk 10 130 (bz 22 1983) HT_ ?_
                      refine pk 11 131 (bz 22 4031) HT_ ?_
                      refine pk 12 132 (bz 22 8127) HT_ ?_
                      refine pk 16 136 (bz 22 73663) HT_ ?_
                      refine tk 6 126 (bz 22 73727) HT_ HW_ hHeld ?_
                      refine tk 13 133 (bz 22 81919) HT_ HW_ hHeld ?_
                      refine pk 14 134 (bz 22 98303) HT_ ?_
                      refine tk 15 135 (bz 22 131071) HT_ HW_ hHeld ?_
                      refine on 17 137 (bz 22 262143) HT_ (fun K hK => ?_)
                      refine goes_ Try.func49 (by kernel_rfl) rfl #[.int .u64 a0,.slice A570_0 (rd_L2 l1 ((rd_T56 l3 x19_4).f0)).length c570_0,.slice Ao52 x13_2.length co52] (by rfl) rfl rfl (by (try simp only [List.map_toArray,List.map_cons,List.map_nil]);first|done|rfl|(simp only [List.length_drop,List.length_take];rfl)) ?_
                      with_reducible refine (privityref07_dot.calls k4 a0 _ _ (rd_L2 l1 ((rd_T56 l3 x19_4).f0)) _ _ x13_2 t571 _ ?side1 ?side2 ?side3 ?side4 A47.out).mono ?_
                      (case side1 => exact cb HR570_0 HB)
                      (case side2 => exact HC570_0.out)
                      (case side3 => exact cr HO_13)
                      (case side4 => exact (Kd.R_reads' HO_13.out).2.1)
                      rintro e w' ⟨rfl,⟨nd,rfl⟩⟩
                      refine ⟨_,rfl,?_⟩
                      refine hK.out _ _ ⟨((HB.out.cell (World.block_lt_of_cell? w _ hw568_0)).trans hw568_0),((HB.out.cell (World.block_lt_of_cell? w _ hw568_1)).trans hw568_1),((HB.out.cell (World.block_lt_of_cell? w _ hw569_0)).trans hw569_0),((HB.out.cell (World.block_lt_of_cell? w _ hw569_1)).trans hw569_1),((HB.out.cell (World.block_lt_of_cell? w _ hw570_0)).trans hw570_0)⟩ (fun hHeld => ?_)
                      clear hK K
                      refine nm 137 ?_
                      refine on 18 138 (bz 22 524287) HT_ (fun K hK => ?_)
                      refine goes_ Try.func48 (by kernel_rfl) rfl #[.int .u64 a0,.int .u64 ((rd_T56 l3 x19_4).f1),.int .u64 t571] (by rfl) rfl rfl (by (try simp only [List.map_toArray,List.map_cons,List.map_nil]);first|done|rfl|(simp only [List.length_drop,List.length_take];rfl)) ?_
                      with_reducible refine (privityref01_Sub.calls a0 ((rd_T56 l3 x19_4).f1) t571 t572 _ A48.out).mono ?_
                      rintro e w' ⟨rfl,⟨nd,rfl⟩⟩
                      refine ⟨_,rfl,?_⟩
                      refine hK.out _ _ ⟨((HB.out.cell (World.block_lt_of_cell? w _ hw568_0)).trans hw568_0),((HB.out.cell (World.block_lt_of_cell? w _ hw568_1)).trans hw568_1),((HB.out.cell (World.block_lt_of_cell? w _ hw569_0)).trans hw569_0),((HB.out.cell (World.block_lt_of_cell? w _ hw569_1)).trans hw569_1),((HB.out.cell (World.block_lt_of_cell? w _ hw570_0)).trans hw570_0)⟩ (fun hHeld => ?_)
                      clear hK K
                      refine nm 138 ?_
                      refine on 19 139 (bz 22 1048575) HT_ (fun K hK => ?_)
                      refine value_ (w1 := ?_) (v := ?_) (by rfl) rfl ?_ ?_
                      rotate_left 2
                      ·go_simp
                       constructor
                       ·rfl
                       ·rfl
                      refine hK.out _ _ ⟨(World.cell?_alloc_lt _ _ _ (World.block_lt_of_cell? _ _ (((HB.out.cell (World.block_lt_of_cell? w _ hw568_0)).trans hw568_0)))).trans (((HB.out.cell (World.block_lt_of_cell? w _ hw568_0)).trans hw568_0)),(World.cell?_alloc_lt _ _ _ (World.block_lt_of_cell? _ _ (((HB.out.cell (World.block_lt_of_cell? w _ hw568_1)).trans hw568_1)))).trans (((HB.out.cell (World.block_lt_of_cell? w _ hw568_1)).trans hw568_1)),(World.cell?_alloc_lt _ _ _ (World.block_lt_of_cell? _ _ (((HB.out.cell (World.block_lt_of_cell? w _ hw569_0)).trans hw569_0)))).trans (((HB.out.cell (World.block_lt_of_cell? w _ hw569_0)).trans hw569_0)),(World.cell?_alloc_lt _ _ _ (World.block_lt_of_cell? _ _ (((HB.out.cell (World.block_lt_of_cell? w _ hw569_1)).trans hw569_1)))).trans (((HB.out.cell (World.block_lt_of_cell? w _ hw569_1)).trans hw569_1)),(World.cell?_alloc_lt _ _ _ (World.block_lt_of_cell? _ _ (((HB.out.cell (World.block_lt_of_cell? w _ hw570_0)).trans hw570_0)))).trans (((HB.out.cell (World.block_lt_of_cell? w _ hw570_0)).trans hw570_0))⟩ (fun hHeld => ?_)
                      clear hK K
                      refine nm 139 ?_
                      refine on 20 140 (bz 22 2097151) HT_ (fun K hK => ?_)
                      refine Kd.R_append_step (Kd.int .u64) (w0 := w) w.heap.size (by rfl) (.tmp 120) (.tmp 139) 40 22 (.int .u64 0) 8 rfl Try.underlying40 info22 rfl (by decide) (by omega) u18 x18_4 t572 [.int .u64 t572] (fun k_ => some k_ ≠ (.slice Ao52 x13_2.length co52 : Value).ownBlock) (fun _ => False) rfl rfl ?aP (fun _ hk => hk.elim) ?aF ?aO ?aB ?aS ?aL ?_
                      (case aP => exact rfl)
                      (case aB => exact (bb HB))
                      (case aF => exact (fun k_ hk => Kd.fresh' (Kd.R_lt (rr HO_13)) k_ hk))
                      (case aO => exact (rr HO_18))
                      (case aS => exact (below_size (bb HB)))
                      (case aL => have := LMc49.out;omega)
                      intro v574 w53 ho hb hg hat
                      rw [← Ny573.out] at ho
                      have n0_ := am (Kd.R_after (ok := (fun _ => True)) (by (with_reducible repeat (first|apply Kd.R_alloc|apply Kd.R_drewN|apply Kd.R_drew));exact Kd.R_mono HO_13.out (fun _ hk => ⟨trivial,hk⟩)) hg hat)
                      have n1_ := am (Kd.R_over' (rr HO_15) (Kd.R_typed (rr HO_18)) (by decide) hg)
                      have n2_ := am (Kd.R_over' (rr HO567) (Kd.R_typed (rr HO_18)) (by decide) hg)
                      have n3_ := am (hb)
                      have n4_ := am (ho)
                      clear HO_13
                      clear HO_15
                      clear HO567
                      clear HB
                      clear HO_18
                      have HO_13 := n0_
                      have HO_15 := n1_
                      have HO567 := n2_
                      have HB := n3_
                      have HO575 := n4_
                      clear n0_ n1_ n2_ n3_ n4_
                      clear ho hb hg hat
                      refine hK.out _ _ ⟨((HB.out.cell (World.block_lt_of_cell? w _ hw568_0)).trans hw568_0),((HB.out.cell (World.block_lt_of_cell? w _ hw568_1)).trans hw568_1),((HB.out.cell (World.block_lt_of_cell? w _ hw569_0)).trans hw569_0),((HB.out.cell (World.block_lt_of_cell? w _ hw569_1)).trans hw569_1),((HB.out.cell (World.block_lt_of_cell? w _ hw570_0)).trans hw570_0)⟩ (fun hHeld => ?_)
                      clear hK K
                      refine nm 140 ?_
                      refine pk 21 18 (bz 22 4194303) HT_ ?_
                      refine done_ (done_of HT_.out (by kernel_rfl)) ?_
                      try go_wp2
                      go_roundg k4
                      case measure => have := HJ4.out;have := HK2.out;have := HK3.out;have := HK4.out;omega
                      case rel => exact ⟨(y565),(y573),(wrap64 (x19_4 + 1)),(by first|rfl|(simp;done)|(simp [*];done)),H',⟨by have := HJ4.out;have := HK2.out;have := HK3.out;have := HK4.out;omega⟩,⟨by (with_reducible repeat (first|apply Kd.R_alloc|apply Kd.R_drewN|apply Kd.R_drew));exact Kd.R_mono HO_13.out (fun _ hk => hk.2)⟩,⟨by (with_reducible repeat (first|apply Kd.R_alloc|apply Kd.R_drewN|apply Kd.R_drew));exact Kd.R_mono HO_15.out (fun _ hk => hk.2)⟩,⟨by (with_reducible repeat (first|apply Kd.R_alloc|apply Kd.R_drewN|apply Kd.R_drew));exact HO567.out⟩,⟨by (with_reducible repeat (first|apply Kd.R_alloc|apply Kd.R_drewN|apply Kd.R_drew));exact HO575.out⟩,⟨bb HB⟩⟩
                     ·rw [if_neg c49] at H
                      exact absurd H (by simp)
                    ·rw [if_neg c46] at H
                     exact absurd H (by simp)
                   ·rw [if_neg c45] at H
                    exact absurd H (by simp)
                  ·rw [if_neg c44] at H
                   exact absurd H (by simp)
                 ·rw [if_neg c43] at H
                  exact absurd H (by simp)
                ·rw [if_neg c42] at H
                 have c42b0 : decide (x19_4 < (l3.length : Int)) = false := decide_eq_false c42
                 clear c42
                 have HC54 := am H
                 clear H
                 obtain ⟨Ao55,co55,eo55⟩ := Kd.R_slice HO_17.out
                 subst eo55
                 go_upto_if 143 with (fail)
                 go_cut [] (fun wc => ∃ (kq : Nat) (x13_53 : List Int),Aside0 (privityref07_Complete.j5 kq a0 l1 x13_53 = some (r1,r2,r3)) ∧ Aside0 (kq ≤ k4) ∧ Aside0 (Kd.R (Kd.int .u64) 22 wc w.heap.size (fun _ => True) v553 x13_53) ∧ Aside0 (Below w.heap.size w wc))
                 case first =>
                  have H := HC54.out
                  clear HC54
                  by_cases c56 : (x17_4.length : Int) > 0
                  ·rw [if_pos c56] at H
                   have c56b0 : decide (0 < (x17_4.length : Int)) = true := decide_eq_true c56
                   have c56b1 : decide (0 < x17_4.length) = true := decide_eq_true (by omega)
                   clear c56
                   (first|rw [c56b0]|(simp only [i64_w,i32_w];rw [c56b0])|rw [c56b1]|skip)
                   replace H := Option.bind_eq_some_iff.mp H
                   obtain ⟨⟨t576,t577⟩,A570,H⟩ := H
                   try dsimp only at H
                   have A57 := am A570
                   clear A570
                   replace H := Option.bind_eq_some_iff.mp H
                   obtain ⟨⟨t580,t583⟩,A580,H⟩ := H
                   try dsimp only at H
                   have A58 := am A580
                   clear A580
                   by_cases c59 : t583 = 0
                   ·rw [if_pos c59] at H
                    have c59b0 : (t583 == 0) = true := beq_iff_eq.mpr c59
                    have c59b1 : (t583 != 0) = false := bne_eq_false_iff_eq.mpr c59
                    clear c59
                    have H' := am H
                    clear H
                    obtain ⟨Ao60,co60,eo60⟩ := Kd.R_slice HO_15.out
                    subst eo60
                    go_wp2_with (first|((with_reducible refine gate_callee (f := 19) rfl ?_);refine goesL_ (some 148) rfl rfl Try.func19 (by kernel_rfl) rfl #[.slice (some ad548) l1.length c1,.slice Ao55 x17_4.length co55,.slice Ao60 x15_3.length co60] rfl (by (try simp only [List.map_toArray,List.map_cons,List.map_nil]);first|done|rfl|(simp only [List.length_drop,List.length_take];rfl)) ?_;(with_reducible refine (privityref07_Submatrix.calls k4 _ _ l1 _ _ x17_4 _ _ x15_3 t576 t577 _ ?side1 ?side2 ?side3 ?side4 ?side5 ?side6 A57.out).mono ?_);(case side1 => exact cb HR1 HB);(case side2 => exact HC1.out);(case side3 => exact cr HO_17);(case side4 => exact (Kd.R_reads' HO_17.out).2.1);(case side5 => exact cr HO_15);(case side6 => exact (Kd.R_reads' HO_15.out).2.1);rintro e w61 ⟨v578,rfl,ho0,hb⟩;refine ⟨_,rfl,?_⟩;have n0_ := am (Kd.R_below (rr HO_13) hb);have n1_ := am (Kd.R_below (rr HO_15) hb);have n2_ := am (Kd.R_below (rr HO_17) hb);have n3_ := am (Kd.R_below (rr HO_18) hb);have n4_ := am (Kd.N_lower (Kd.N_mono (ok' := fun k_ => some k_ ≠ (v553 : Value).ownBlock ∧ some k_ ≠ (.slice Ao60 x15_3.length co60 : Value).ownBlock ∧ some k_ ≠ (.slice Ao55 x17_4.length co55 : Value).ownBlock ∧ some k_ ≠ (u18 : Value).ownBlock) (Kd.S_N (Kd.S_bound ho0)) (fun k_ hk_ => ⟨(Kd.fresh' (Kd.R_lt (rr HO_13)) k_ hk_.2.1),(Kd.fresh' (Kd.R_lt (rr HO_15)) k_ hk_.2.1),(Kd.fresh' (Kd.R_lt (rr HO_17)) k_ hk_.2.1),(Kd.fresh' (Kd.R_lt (rr HO_18)) k_ hk_.2.1)⟩)) (below_size (bb HB)));have n5_ := am (below_step (bb HB) hb);clear HO_13 HO_15 HO_17 HO_18 HB;have HO_13 := n0_;have HO_15 := n1_;have HO_17 := n2_;have HO_18 := n3_;have HO579 := n4_;have HB := n5_;clear n0_ n1_ n2_ n3_ n4_ n5_;(try clear hb);(try clear hb2);(try clear hk);(try clear hi);(try clear ho0);obtain ⟨Ao62,co62,eo62⟩ := Kd.N_slice HO579.out;subst eo62)|((with_reducible refine gate_callee (f := 50) rfl ?_);refine goesL_ (some 154) rfl rfl Try.func50 (by kernel_rfl) rfl #[.int .u64 a0,.slice Ao62 t576.length co62] rfl (by (try simp only [List.map_toArray,List.map_cons,List.map_nil]);first|done|rfl|(simp only [List.length_drop,List.length_take];rfl)) ?_;(with_reducible refine (privityref06_Inverse.calls k4 a0 _ _ t576 t580 t583 _ ?side1 ?side2 A58.out).mono ?_);(case side1 => repeat (first|exact (Kd.N_reads' HO579.out).2.2|(with_reducible refine Kd.C_alloc ?_ _)|(with_reducible refine Kd.C_drewN ?_ _)|(with_reducible refine Kd.C_drew ?_)));(case side2 => exact (Kd.N_reads' HO579.out).2.1);rintro e w63 ⟨v581,rfl,ho0,hb⟩;refine ⟨_,rfl,?_⟩;have n0_ := am (Kd.R_below (rr HO_13) hb);have n1_ := am (Kd.R_below (rr HO_15) hb);have n2_ := am (Kd.R_below (rr HO_17) hb);have n3_ := am (Kd.R_below (rr HO_18) hb);have n4_ := am (Kd.N_elder' (rn HO579) (by first|exact Kd.N_base ho0|exact Kd.S_base ho0) hb);have n5_ := am (Kd.N_lower (Kd.N_mono (ok' := fun k_ => some k_ ≠ (v553 : Value).ownBlock ∧ some k_ ≠ (.slice Ao60 x15_3.length co60 : Value).ownBlock ∧ some k_ ≠ (.slice Ao55 x17_4.length co55 : Value).ownBlock ∧ some k_ ≠ (u18 : Value).ownBlock ∧ some k_ ≠ (.slice Ao62 t576.length co62 : Value).ownBlock) ho0 (fun k_ hk_ => ⟨(Kd.fresh' (Kd.R_lt (rr HO_13)) k_ hk_),(Kd.fresh' (Kd.R_lt (rr HO_15)) k_ hk_),(Kd.fresh' (Kd.R_lt (rr HO_17)) k_ hk_),(Kd.fresh' (Kd.R_lt (rr HO_18)) k_ hk_),(Kd.fresh' (Kd.N_lt (rn HO579)) k_ hk_)⟩)) (below_size (bb HB)));have n6_ := am (below_step (bb HB) hb);clear HO_13 HO_15 HO_17 HO_18 HO579 HB;have HO_13 := n0_;have HO_15 := n1_;have HO_17 := n2_;have HO_18 := n3_;have HO579 := n4_;have HO582 := n5_;have HB := n6_;clear n0_ n1_ n2_ n3_ n4_ n5_ n6_;(try clear hb);(try clear hb2);(try clear hk);(try clear hi);(try clear ho0)))
                    go_loopg [24] k4 (fun kq v24 w' => ∃ (x13_5 : List Int) (x24_5 : Int),v24 = .int .i64 x24_5 ∧ Aside0 (privityref07_Complete.l3 kq a0 l1 x13_5 x15_3 x18_4 t580 x24_5 = some (r1,r2,r3)) ∧ Aside0 (kq ≤ k4) ∧ Aside0 (Kd.R (Kd.int .u64) 22 w' w.heap.size (fun k_ => some k_ ≠ (u18 : Value).ownBlock) v553 x13_5) ∧ Aside0 (Kd.R (Kd.int .i64) 3 w' w.heap.size (fun _ => True) (.slice Ao60 x15_3.length co60) x15_3) ∧ Aside0 (Kd.R (Kd.int .u64) 22 w' w.heap.size (fun k_ => some k_ ≠ (v553 : Value).ownBlock) u18 x18_4) ∧ Aside0 (Kd.N (Kd.slice 22 (Kd.int .u64)) 40 w' w.heap.size (fun k_ => some k_ ≠ (v553 : Value).ownBlock ∧ some k_ ≠ ((.slice Ao60 x15_3.length co60) : Value).ownBlock ∧ some k_ ≠ (u18 : Value).ownBlock) v581 t580) ∧ Aside0 (Below w.heap.size w w'))
                    case atStart => exact ⟨(x13_2),(0),(by first|rfl|(simp;done)|(simp [*];done)),H',⟨Nat.le_refl _⟩,⟨by (with_reducible repeat (first|apply Kd.R_alloc|apply Kd.R_drewN|apply Kd.R_drew));exact HO_13.out⟩,⟨by (with_reducible repeat (first|apply Kd.R_alloc|apply Kd.R_drewN|apply Kd.R_drew));exact Kd.R_mono HO_15.out (fun _ hk => trivial)⟩,⟨by (with_reducible repeat (first|apply Kd.R_alloc|apply Kd.R_drewN|apply Kd.R_drew));exact HO_18.out⟩,⟨by (with_reducible repeat (first|apply Kd.N_alloc|apply Kd.N_drewN|apply Kd.N_drew));exact Kd.N_mono HO582.out (fun _ hk => ⟨hk.1,⟨hk.2.1,hk.2.2.2.1⟩⟩)⟩,⟨bb HB⟩⟩
                    case round =>
                     clear H'
                     try clear c1
                     try clear c2
                     try clear p2
                     try clear q2
                     try clear hx2
                     try clear c3
                     try clear q3
                     try clear c4
                     try clear c5
                     try clear p5
                     try clear q5
                     try clear hx5
                     try clear qi5
                     try clear p6
                     try clear c7
                     try clear c8
                     try clear c8b0
                     try clear c8b1
                     try clear c10
                     try clear c12
                     try clear c13
                     try clear c14
                     try clear c14b0
                     try clear c14b1
                     try clear c15
                     try clear c15b0
                     try clear c15b1
                     try clear c16
                     try clear c16b0
                     try clear c16b1
                     try clear c17
                     try clear c17b0
                     try clear c17b1
                     try clear c19
                     try clear c22
                     try clear c22b0
                     try clear c23
                     try clear c23b0
                     try clear c24
                     try clear c24b0
                     try clear c25
                     try clear c25b0
                     try clear p26
                     try clear q26
                     try clear hx26
                     try clear hf26
                     try clear c27
                     try clear c27b0
                     try clear p28
                     try clear q28
                     try clear hx28
                     try clear hf28
                     try clear c33
                     try clear c33b0
                     try clear c34
                     try clear c34b0
                     try clear c35
                     try clear c35b0
                     try clear q36
                     try clear c37
                     try clear c39
                     try clear c42
                     try clear c42b0
                     try clear c43
                     try clear c43b0
                     try clear c44
                     try clear c45
                     try clear c45b0
                     try clear c46
                     try clear c46b0
                     try clear c48
                     try clear c49
                     try clear c50
                     try clear p54
                     try clear q54
                     try clear hx54
                     try clear p55
                     try clear q55
                     try clear hx55
                     try clear c56
                     try clear c56b0
                     try clear c56b1
                     try clear p56
                     try clear q56
                     try clear hx56
                     try clear c57
                     try clear p57
                     try clear q57
                     try clear hx57
                     try clear c59
                     try clear c59b0
                     try clear c59b1
                     try clear hx26_0
                     try clear hx28_0
                     try clear hx544_0
                     try clear hx547_0
                     try clear hx548_0
                     try clear hx555_0
                     try clear hx555_1
                     try clear hx557_0
                     try clear hx557_1
                     try clear hx558_0
                     try clear hx558_1
                     try clear hx560_0
                     try clear hx564_0
                     try clear hx564_1
                     try clear hx568_0
                     try clear hx568_1
                     try clear hx569_0
                     try clear hx569_1
                     try clear hx570_0
                     try clear p2
                     try clear p26
                     try clear p28
                     try clear p5
                     try clear p544
                     try clear p547
                     try clear p548
                     try clear p555
                     try clear p557
                     try clear p558
                     try clear p560
                     try clear p564
                     try clear p568
                     try clear p569
                     try clear p570
                     try clear p6
                     try clear q2
                     try clear q26
                     try clear q28
                     try clear q3
                     try clear q36
                     try clear q5
                     try clear q544
                     try clear q547
                     try clear q548
                     try clear q555
                     try clear q557
                     try clear q558
                     try clear q560
                     try clear q564
                     try clear q568
                     try clear q569
                     try clear q570
                     obtain ⟨x13_5,x24_5,rfl,HA,HK5,HO_13,HO_15,HO_18,HO_22,HB⟩ := hrel
                     cases gk with
                     | zero => exact absurd HA.out (by simp [privityref07_Complete.l3])
                     | succ k5 =>
                      have H := HA.out
                      clear HA
                      simp only [privityref07_Complete.l3] at H
                      by_cases c64 : x24_5 < (x15_3.length : Int)
                      ·rw [if_pos c64] at H
                       have c64b0 : decide (x24_5 < (x15_3.length : Int)) = true := decide_eq_true c64
                       clear c64
                       by_cases c65 : 0 ≤ x24_5
                       ·rw [if_pos c65] at H
                        have c65b0 : decide (0 ≤ x24_5) = true := decide_eq_true c65
                        clear c65
                        by_cases c66 : x24_5 < (t580.length : Int)
                        ·rw [if_pos c66] at H
                         have c66b0 : decide (x24_5 < (t580.length : Int)) = true := decide_eq_true c66
                         clear c66
                         replace H := Option.bind_eq_some_iff.mp H
                         obtain ⟨t586,A670,H⟩ := H
                         try dsimp only at H
                         have A67 := am A670
                         clear A670
                         by_cases c68 : 0 ≤ (rd x15_3 x24_5)
                         ·rw [if_pos c68] at H
                          have c68b0 : decide (0 ≤ (rd x15_3 x24_5)) = true := decide_eq_true c68
                          clear c68
                          by_cases c69 : (rd x15_3 x24_5) < (x13_5.length : Int)
                          ·rw [if_pos c69] at H
                           have c69b0 : decide ((rd x15_3 x24_5) < (x13_5.length : Int)) = true := decide_eq_true c69
                           clear c69
                           obtain ⟨y587,hy587⟩ : ∃ y_ : List Int,y_ = (x13_5.set ((rd x15_3 x24_5) : Int).toNat t586) := ⟨_,rfl⟩
                           replace H : (privityref07_Complete.l3 k5 a0 l1 y587 x15_3 x18_4 t580 (wrap64 (x24_5 + 1))) = some (r1,r2,r3) := by first|(rw [hy587];with_reducible exact H)|(have H2_ := (Option.bind_some _ _).symm.trans H;rw [hy587];with_reducible exact H2_)|(have H2_ := (Option.bind_some _ _).symm.trans H;with_reducible exact H2_)|with_reducible exact H|(rw [hy587];exact H)|exact H
                           have Ny587 := am hy587
                           clear hy587
                           have H' := am H
                           clear H
                           try go_wp2
                           have n0_ := am (Kd.R_drew HO_13.out)
                           have n1_ := am (Kd.R_drew HO_15.out)
                           have n2_ := am (Kd.R_drew HO_18.out)
                           have n3_ := am (Kd.N_drew HO_22.out)
                           have n4_ := am (below_drew1 HB.out)
                           clear HO_13
                           clear HO_15
                           clear HO_18
                           clear HO_22
                           clear HB
                           have HO_13 := n0_
                           have HO_15 := n1_
                           have HO_18 := n2_
                           have HO_22 := n3_
                           have HB := n4_
                           clear n0_ n1_ n2_ n3_ n4_
                           have p584 : 0 ≤ (x24_5 : Int) := od
                           have q584 : x24_5 < (x15_3.length : Int) := od
                           obtain ⟨ad584,e584,hx584_0⟩ := Kd.at_int (Kd.R_reads' HO_15.out).2.2 x24_5 p584 q584
                           cases e584
                           replace p584 := eq_true p584
                           replace q584 := eq_true q584
                           obtain ⟨Ao72,co72,eo72⟩ := Kd.N_slice HO_22.out
                           (first|subst eo72|(injection eo72 with f1_ f2_ f3_;have f4_ := f1_.symm;have f5_ := f3_.symm;clear f1_ f2_ f3_;subst f4_;subst f5_))
                           have p585 : 0 ≤ (x24_5 : Int) := od
                           have q585 : x24_5 < (t580.length : Int) := od
                           obtain ⟨ad585,A585_0,c585_0,e585,hx585_0,hl585_0,hi585_0⟩ := at_L2 (Kd.N_reads' HO_22.out).2.2 x24_5 p585 q585
                           cases e585
                           obtain ⟨ce585,hce585,hMe585,hcc585⟩ := Kd.N_get HO_22.out [] x24_5 p585 (by first|exact q585|exact od|(have e_ := (Kd.N_reads' HO_22.out).1;omega))
                           obtain ⟨ua585_0,uc585_0,rfl,ul585_0,ge585_0⟩ := Kd.FK_slice_open hMe585
                           have hv585_0 := hcc585 0 _ rfl
                           rw [Nat.add_zero,show ((Kd.slice 22 (Kd.int .u64))).sz = 1 from rfl,Nat.mul_one] at hv585_0
                           replace hv585_0 := Option.some.inj (hv585_0.symm.trans hx585_0)
                           injection hv585_0 with hva_ hvn_ hvc_
                           rw [hva_] at ge585_0
                           rw [hvc_] at ul585_0
                           have HL585_0 := am (show Kd.V (Kd.int .u64) 22 _ w.heap.size _ _ (rd_L2 t580 x24_5) from Kd.V_mk ul585_0 ge585_0)
                           clear hva_ hvn_ hvc_ ge585_0 ul585_0
                           clear hcc585 hce585
                           have HR585_0 := am hi585_0
                           have HC585_0 := am hl585_0
                           clear hi585_0 hl585_0
                           replace p585 := eq_true p585
                           replace q585 := eq_true q585
                           obtain ⟨Ao73,co73,eo73⟩ := Kd.R_slice HO_18.out
                           (first|subst eo73|(injection eo73 with f1_ f2_ f3_;have f4_ := f1_.symm;have f5_ := f3_.symm;clear f1_ f2_ f3_;subst f4_;subst f5_))
                           refine start_ (n := 14) (S := fun w' => w'.cell? (ad584.add (x24_5).toNat) = some (.int .i64 (rd x15_3 x24_5)) ∧ w'.cell? (ad585.add (x24_5).toNat) = some (.slice A585_0 (rd_L2 t580 x24_5).length c585_0)) (ds := [13]) (bz 14 0) (by kernel_rfl) rfl rfl ⟨hx584_0,hx585_0⟩ (fun hHeld => ?_);refine with_tabW privityref07_Complete.tab32 privityref07_Complete.bits32 (fun HT_ HW_ => ?_)
                           generalize wr.drew = w71 at HO_13 HO_15 HO_18 HO_22 HB HL585_0 HR585_0 hx584_0 hx585_0 hHeld ⊢
                           refine pk 0 165 (bz 14 1) HT_ ?_
                           refine pk 1 166 (bz 14 3) HT_ ?_
                           refine pk 2 167 (bz 14 7) HT_ ?_
                           refine pk 3 168 (bz 14 15) HT_ ?_
                           refine pk 5 170 (bz 14 47) HT_ ?_
                           refine pk 6 171 (bz 14 111) HT_ ?_
                           refine pk 7 172 (bz 14 239) HT_ ?_
                           refine pk 8 173 (bz 14 495) HT_ ?_
                           refine pk 10 175 (bz 14 1519) HT_ ?_
                           refine tk 4 169 (bz 14 1535) HT_ HW_ hHeld ?_
                           refine tk 9 174 (bz 14 2047) HT_ HW_ hHeld ?_
                           refine on 11 176 (bz 14 4095) HT_ (fun K hK => ?_)
                           refine goes_ Try.func49 (by kernel_rfl) rfl #[.int .u64 a0,.slice A585_0 (rd_L2 t580 x24_5).length c585_0,.slice Ao73 x18_4.length co73] (by rfl) rfl rfl (by (try simp only [List.map_toArray,List.map_cons,List.map_nil]);first|done|rfl|(simp only [List.length_drop,List.length_take];rfl)) ?_
                           with_reducible refine (privityref07_dot.calls k5 a0 _ _ (rd_L2 t580 x24_5) _ _ x18_4 t586 _ ?side1 ?side2 ?side3 ?side4 A67.out).mono ?_
                           (case side1 => repeat (first|exact (cx HR585_0)|(with_reducible refine Kd.C_alloc ?_ _)|(with_reducible refine Kd.C_drewN ?_ _)|(with_reducible refine Kd.C_drew ?_)))
                           (case side2 => exact HC585_0.out)
                           (case side3 => exact cr HO_18)
                           (case side4 => exact (Kd.R_reads' HO_18.out).2.1)
                           rintro e w' ⟨rfl,⟨nd,rfl⟩⟩
                           refine ⟨_,rfl,?_⟩
                           have p70 : 0 ≤ ((rd x15_3 x24_5) : Int) := od
                           have q70 : ((rd x15_3 x24_5) : Int) < ((x13_5.length : Int) : Int) := od
                           obtain ⟨go70,co70,eo70,gb70,gl70,cl70,HG70⟩ := Kd.R_form HO_13.out (by omega)
                           (first|cases eo70|(injection eo70 with ea_ en_ ec_;(first|subst ea_|(injection ea_ with ea_;subst ea_));subst ec_;clear en_))
                           have GB70 := am gb70
                           have GG70 := am HG70
                           clear gb70 gl70 HG70
                           obtain ⟨hx70_0,hf70_0⟩ := Kd.R_celln 0 HO_13.out ((rd x15_3 x24_5) : Int) p70 q70
                           replace p70 := eq_true p70
                           replace q70 := eq_true q70
                           have HP74 := Kd.R_putn HO_13.out ((rd x15_3 x24_5) : Int) t586
                           rw [← Ny587.out] at HP74
                           have HQ74 := am HP74
                           clear HP74
                           refine hK.out _ _ ⟨hHeld.1,hHeld.2⟩ (fun hHeld => ?_)
                           clear hK K
                           refine nm 176 ?_
                           refine pk 12 177 (bz 14 8191) HT_ ?_
                           refine last_ (i := 13) (N := none) (bz 14 16383) rfl rfl (one_of HT_.out (by kernel_rfl)) (by decide) (fun K hK => ?_)
                           refine skip_ (w1 := ?_) (by rfl) rfl ?_ ?_
                           rotate_left
                           ·go_simp
                            rfl
                           refine hK.out _ _ ?_
                           clear hK K
                           refine done_ (done_of HT_.out (by kernel_rfl)) ?_
                           try go_wp2
                           go_roundg k5
                           case measure => have := HJ4.out;have := HK2.out;have := HK3.out;have := HK4.out;have := HK5.out;omega
                           case rel => exact ⟨(y587),(wrap64 (x24_5 + 1)),(by first|rfl|(simp;done)|(simp [*];done)),H',⟨by have := HJ4.out;have := HK2.out;have := HK3.out;have := HK4.out;have := HK5.out;omega⟩,⟨by (with_reducible repeat (first|apply Kd.R_alloc|apply Kd.R_drewN|apply Kd.R_drew));exact HQ74.out⟩,⟨by (with_reducible repeat (first|apply Kd.R_alloc|apply Kd.R_drewN|apply Kd.R_drew));exact Kd.R_mono (Kd.R_far (p := ⟨go70,((rd x15_3 x24_5) : Int).toNat,none⟩) (Kd.R_types HO_15.out GG70.out (by decide)) (fun _ hk => hk.2) (.int .u64 t586)) (fun _ hk => trivial)⟩,⟨by (with_reducible repeat (first|apply Kd.R_alloc|apply Kd.R_drewN|apply Kd.R_drew));exact Kd.R_mono (Kd.R_far (p := ⟨go70,((rd x15_3 x24_5) : Int).toNat,none⟩) (Kd.R_mono HO_18.out (fun k_ hk => (⟨hk,fun e_ => hk (by rw [e_];rfl)⟩ : _ ∧ k_ ≠ go70))) (fun _ hk => hk.2) (.int .u64 t586)) (fun _ hk => hk.1)⟩,⟨by (with_reducible repeat (first|apply Kd.N_alloc|apply Kd.N_drewN|apply Kd.N_drew));exact Kd.N_mono (Kd.N_far (p := ⟨go70,((rd x15_3 x24_5) : Int).toNat,none⟩) (Kd.N_mono HO_22.out (fun k_ hk => (⟨hk,fun e_ => hk.1 (by rw [e_];rfl)⟩ : _ ∧ k_ ≠ go70))) (fun _ hk => hk.2) (.int .u64 t586)) (fun _ hk => ⟨hk.1.1,⟨hk.1.2.1,hk.1.2.2⟩⟩)⟩,⟨by repeat (first|(with_reducible first|exact HB.out|apply below_alloc|apply pw_below_drewN|apply below_drew1|refine below_set ?_ GB70.out)|exact HB.out)⟩⟩
                          ·rw [if_neg c69] at H
                           exact absurd H (by simp)
                         ·rw [if_neg c68] at H
                          exact absurd H (by simp)
                        ·rw [if_neg c66] at H
                         exact absurd H (by simp)
                       ·rw [if_neg c65] at H
                        exact absurd H (by simp)
                      ·rw [if_neg c64] at H
                       have c64b0 : decide (x24_5 < (x15_3.length : Int)) = false := decide_eq_false c64
                       clear c64
                       have H' := am H
                       clear H
                       go_wp2
                       go_meet
                       case rel => exact ⟨_,(x13_5),H',⟨by have := HJ4.out;have := HK2.out;have := HK3.out;have := HK4.out;have := HK5.out;first|omega|exact Nat.le_refl _⟩,⟨by (with_reducible repeat (first|apply Kd.R_alloc|apply Kd.R_drewN|apply Kd.R_drew));exact Kd.R_mono HO_13.out (fun _ hk => trivial)⟩,⟨bb HB⟩⟩
                   ·rw [if_neg c59] at H
                    have c59b0 : (t583 == 0) = false := beq_eq_false_iff_ne.mpr c59
                    have c59b1 : (t583 != 0) = true := bne_iff_ne.mpr c59
                    simp only [Option.some.injEq,Prod.mk.injEq] at H
                    obtain ⟨rfl,rfl,rfl⟩ := H
                    obtain ⟨Ao75,co75,eo75⟩ := Kd.R_slice HO_15.out
                    subst eo75
                    go_wp2_with (first|((with_reducible refine gate_callee (f := 19) rfl ?_);refine goesL_ (some 148) rfl rfl Try.func19 (by kernel_rfl) rfl #[.slice (some ad548) l1.length c1,.slice Ao55 x17_4.length co55,.slice Ao75 x15_3.length co75] rfl (by (try simp only [List.map_toArray,List.map_cons,List.map_nil]);first|done|rfl|(simp only [List.length_drop,List.length_take];rfl)) ?_;(with_reducible refine (privityref07_Submatrix.calls k4 _ _ l1 _ _ x17_4 _ _ x15_3 t576 t577 _ ?side1 ?side2 ?side3 ?side4 ?side5 ?side6 A57.out).mono ?_);(case side1 => exact cb HR1 HB);(case side2 => exact HC1.out);(case side3 => exact cr HO_17);(case side4 => exact (Kd.R_reads' HO_17.out).2.1);(case side5 => exact cr HO_15);(case side6 => exact (Kd.R_reads' HO_15.out).2.1);rintro e w76 ⟨v578,rfl,ho0,hb⟩;refine ⟨_,rfl,?_⟩;have n0_ := am (Kd.R_below (rr HO_13) hb);have n1_ := am (Kd.R_below (rr HO_15) hb);have n2_ := am (Kd.R_below (rr HO_17) hb);have n3_ := am (Kd.R_below (rr HO_18) hb);have n4_ := am (Kd.N_lower (Kd.N_mono (ok' := fun k_ => some k_ ≠ (v553 : Value).ownBlock ∧ some k_ ≠ (.slice Ao75 x15_3.length co75 : Value).ownBlock ∧ some k_ ≠ (.slice Ao55 x17_4.length co55 : Value).ownBlock ∧ some k_ ≠ (u18 : Value).ownBlock) (Kd.S_N (Kd.S_bound ho0)) (fun k_ hk_ => ⟨(Kd.fresh' (Kd.R_lt (rr HO_13)) k_ hk_.2.1),(Kd.fresh' (Kd.R_lt (rr HO_15)) k_ hk_.2.1),(Kd.fresh' (Kd.R_lt (rr HO_17)) k_ hk_.2.1),(Kd.fresh' (Kd.R_lt (rr HO_18)) k_ hk_.2.1)⟩)) (below_size (bb HB)));have n5_ := am (below_step (bb HB) hb);clear HO_13 HO_15 HO_17 HO_18 HB;have HO_13 := n0_;have HO_15 := n1_;have HO_17 := n2_;have HO_18 := n3_;have HO579 := n4_;have HB := n5_;clear n0_ n1_ n2_ n3_ n4_ n5_;(try clear hb);(try clear hb2);(try clear hk);(try clear hi);(try clear ho0);obtain ⟨Ao77,co77,eo77⟩ := Kd.N_slice HO579.out;subst eo77)|((with_reducible refine gate_callee (f := 50) rfl ?_);refine goesL_ (some 154) rfl rfl Try.func50 (by kernel_rfl) rfl #[.int .u64 a0,.slice Ao77 t576.length co77] rfl (by (try simp only [List.map_toArray,List.map_cons,List.map_nil]);first|done|rfl|(simp only [List.length_drop,List.length_take];rfl)) ?_;(with_reducible refine (privityref06_Inverse.calls k4 a0 _ _ t576 t580 t583 _ ?side1 ?side2 A58.out).mono ?_);(case side1 => repeat (first|exact (Kd.N_reads' HO579.out).2.2|(with_reducible refine Kd.C_alloc ?_ _)|(with_reducible refine Kd.C_drewN ?_ _)|(with_reducible refine Kd.C_drew ?_)));(case side2 => exact (Kd.N_reads' HO579.out).2.1);rintro e w78 ⟨v581,rfl,ho0,hb⟩;refine ⟨_,rfl,?_⟩;have n0_ := am (Kd.R_below (rr HO_13) hb);have n1_ := am (Kd.R_below (rr HO_15) hb);have n2_ := am (Kd.R_below (rr HO_17) hb);have n3_ := am (Kd.R_below (rr HO_18) hb);have n4_ := am (Kd.N_elder' (rn HO579) (by first|exact Kd.N_base ho0|exact Kd.S_base ho0) hb);have n5_ := am (Kd.N_lower (Kd.N_mono (ok' := fun k_ => some k_ ≠ (v553 : Value).ownBlock ∧ some k_ ≠ (.slice Ao75 x15_3.length co75 : Value).ownBlock ∧ some k_ ≠ (.slice Ao55 x17_4.length co55 : Value).ownBlock ∧ some k_ ≠ (u18 : Value).ownBlock ∧ some k_ ≠ (.slice Ao77 t576.length co77 : Value).ownBlock) ho0 (fun k_ hk_ => ⟨(Kd.fresh' (Kd.R_lt (rr HO_13)) k_ hk_),(Kd.fresh' (Kd.R_lt (rr HO_15)) k_ hk_),(Kd.fresh' (Kd.R_lt (rr HO_17)) k_ hk_),(Kd.fresh' (Kd.R_lt (rr HO_18)) k_ hk_),(Kd.fresh' (Kd.N_lt (rn HO579)) k_ hk_)⟩)) (below_size (bb HB)));have n6_ := am (below_step (bb HB) hb);clear HO_13 HO_15 HO_17 HO_18 HO579 HB;have HO_13 := n0_;have HO_15 := n1_;have HO_17 := n2_;have HO_18 := n3_;have HO579 := n4_;have HO582 := n5_;have HB := n6_;clear n0_ n1_ n2_ n3_ n4_ n5_ n6_;(try clear hb);(try clear hb2);(try clear hk);(try clear hi);(try clear ho0)))
                    go_ret3
                    exact ⟨_,_,by first|rfl|(simp [errW_none,errW_some] <;> rfl)|(simp [*,errW_none,errW_some] <;> rfl),by first|exact Kd.R_nil _ _ _ _ _|exact Kd.N_nil _ _ _ _ _|exact Kd.V_nil _ _ _ _ _|exact Kd.Q_nil _ _ _ _ _|exact Kd.S_nil _ _ _ _ _,by first|exact Kd.R_nil _ _ _ _ _|exact Kd.N_nil _ _ _ _ _|exact Kd.V_nil _ _ _ _ _|exact Kd.Q_nil _ _ _ _ _|exact Kd.S_nil _ _ _ _ _,bb HB⟩
                  ·rw [if_neg c56] at H
                   have c56b0 : decide (0 < (x17_4.length : Int)) = false := decide_eq_false c56
                   have c56b1 : decide (0 < x17_4.length) = false := decide_eq_false (by omega)
                   clear c56
                   (first|rw [c56b0]|(simp only [i64_w,i32_w];rw [c56b0])|rw [c56b1]|skip)
                   have H' := am H
                   clear H
                   go_wp2
                   go_meet
                   case rel => exact ⟨_,(x13_2),H',⟨by have := HJ4.out;have := HK2.out;have := HK3.out;have := HK4.out;first|omega|exact Nat.le_refl _⟩,⟨by (with_reducible repeat (first|apply Kd.R_alloc|apply Kd.R_drewN|apply Kd.R_drew));exact Kd.R_mono HO_13.out (fun _ hk => trivial)⟩,⟨bb HB⟩⟩
                 case rest =>
                  clear HC54
                  try clear c1
                  try clear c2
                  try clear p2
                  try clear q2
                  try clear hx2
                  try clear c3
                  try clear q3
                  try clear c4
                  try clear c5
                  try clear p5
                  try clear q5
                  try clear hx5
                  try clear qi5
                  try clear c6
                  try clear p6
                  try clear c7
                  try clear p7
                  try clear q7
                  try clear hx7
                  try clear hf7
                  try clear c8
                  try clear c8b0
                  try clear c8b1
                  try clear c10
                  try clear c12
                  try clear c13
                  try clear c14
                  try clear c14b0
                  try clear c14b1
                  try clear c15
                  try clear c15b0
                  try clear c15b1
                  try clear c16
                  try clear c16b0
                  try clear c16b1
                  try clear c17
                  try clear c17b0
                  try clear c17b1
                  try clear c19
                  try clear c22
                  try clear c22b0
                  try clear c23
                  try clear c23b0
                  try clear c24
                  try clear c24b0
                  try clear c25
                  try clear c25b0
                  try clear p26
                  try clear q26
                  try clear hx26
                  try clear hf26
                  try clear c27
                  try clear c27b0
                  try clear p28
                  try clear q28
                  try clear hx28
                  try clear hf28
                  try clear c33
                  try clear c33b0
                  try clear c34
                  try clear c34b0
                  try clear c35
                  try clear c35b0
                  try clear q36
                  try clear c37
                  try clear c39
                  try clear c42
                  try clear c42b0
                  try clear c43
                  try clear c43b0
                  try clear c44
                  try clear c45
                  try clear c45b0
                  try clear c46
                  try clear c46b0
                  try clear c48
                  try clear c49
                  try clear c50
                  try clear p54
                  try clear q54
                  try clear hx54
                  try clear p55
                  try clear q55
                  try clear hx55
                  try clear c56
                  try clear c56b0
                  try clear c56b1
                  try clear p56
                  try clear q56
                  try clear hx56
                  try clear c57
                  try clear p57
                  try clear q57
                  try clear hx57
                  try clear c58
                  try clear p58
                  try clear q58
                  try clear hx58
                  try clear c59
                  try clear c59b0
                  try clear c59b1
                  try clear c64
                  try clear c64b0
                  try clear p64
                  try clear c65
                  try clear c65b0
                  try clear c66
                  try clear c66b0
                  try clear c68
                  try clear c68b0
                  try clear c69
                  try clear c69b0
                  try clear p70
                  try clear q70
                  try clear hx70
                  try clear hf70
                  try clear hx26_0
                  try clear hx28_0
                  try clear hx544_0
                  try clear hx547_0
                  try clear hx548_0
                  try clear hx555_0
                  try clear hx555_1
                  try clear hx557_0
                  try clear hx557_1
                  try clear hx558_0
                  try clear hx558_1
                  try clear hx560_0
                  try clear hx564_0
                  try clear hx564_1
                  try clear hx568_0
                  try clear hx568_1
                  try clear hx569_0
                  try clear hx569_1
                  try clear hx570_0
                  try clear hx584_0
                  try clear hx585_0
                  try clear hx70_0
                  try clear p2
                  try clear p26
                  try clear p28
                  try clear p5
                  try clear p54
                  try clear p544
                  try clear p547
                  try clear p548
                  try clear p55
                  try clear p555
                  try clear p557
                  try clear p558
                  try clear p56
                  try clear p560
                  try clear p564
                  try clear p568
                  try clear p569
                  try clear p57
                  try clear p570
                  try clear p584
                  try clear p585
                  try clear p6
                  try clear p70
                  try clear q2
                  try clear q26
                  try clear q28
                  try clear q3
                  try clear q36
                  try clear q5
                  try clear q54
                  try clear q544
                  try clear q547
                  try clear q548
                  try clear q55
                  try clear q555
                  try clear q557
                  try clear q558
                  try clear q56
                  try clear q560
                  try clear q564
                  try clear q568
                  try clear q569
                  try clear q57
                  try clear q570
                  try clear q584
                  try clear q585
                  try clear q70
                  obtain ⟨kq,x13_53,HA,HJ53,HO_13,HB⟩ := hcut
                  cases kq with
                  | zero => exact absurd HA.out (by simp [privityref07_Complete.j5])
                  | succ kj53 =>
                   have H := HA.out
                   clear HA
                   simp only [privityref07_Complete.j5] at H
                   have H' := am H
                   clear H
                   go_wp2
                   go_loopg [25,26] kj53 (fun kq v25 v26 w' => ∃ (x25_6 : List Int) (x26_6 : Int),v26 = .int .i64 x26_6 ∧ Aside0 (privityref07_Complete.l4 kq a0 l1 x13_53 x25_6 x26_6 = some (r1,r2,r3)) ∧ Aside0 (kq ≤ kj53) ∧ Aside0 (Kd.R (Kd.int .u64) 22 w' w.heap.size (fun k_ => some k_ ≠ (v25 : Value).ownBlock) v553 x13_53) ∧ Aside0 (Kd.R (Kd.int .u64) 22 w' w.heap.size (fun k_ => some k_ ≠ (v553 : Value).ownBlock) v25 x25_6) ∧ Aside0 (Below w.heap.size w w'))
                   case atStart => exact ⟨(([] : List Int)),(0),(by first|rfl|(simp;done)|(simp [*];done)),H',⟨Nat.le_refl _⟩,⟨by (with_reducible repeat (first|apply Kd.R_alloc|apply Kd.R_drewN|apply Kd.R_drew));exact Kd.R_mono HO_13.out (fun _ hk => (by simp [Value.ownBlock]))⟩,⟨by first|exact Kd.R_nil _ _ _ _ _|exact Kd.N_nil _ _ _ _ _|exact Kd.V_nil _ _ _ _ _|exact Kd.Q_nil _ _ _ _ _|exact Kd.S_nil _ _ _ _ _⟩,⟨bb HB⟩⟩
                   case round =>
                    clear H'
                    try clear c1
                    try clear c2
                    try clear p2
                    try clear q2
                    try clear hx2
                    try clear c3
                    try clear q3
                    try clear c4
                    try clear c5
                    try clear p5
                    try clear q5
                    try clear hx5
                    try clear qi5
                    try clear c6
                    try clear p6
                    try clear c7
                    try clear p7
                    try clear q7
                    try clear hx7
                    try clear hf7
                    try clear c8
                    try clear c8b0
                    try clear c8b1
                    try clear c10
                    try clear c12
                    try clear c13
                    try clear c14
                    try clear c14b0
                    try clear c14b1
                    try clear c15
                    try clear c15b0
                    try clear c15b1
                    try clear c16
                    try clear c16b0
                    try clear c16b1
                    try clear c17
                    try clear c17b0
                    try clear c17b1
                    try clear c19
                    try clear c22
                    try clear c22b0
                    try clear c23
                    try clear c23b0
                    try clear c24
                    try clear c24b0
                    try clear c25
                    try clear c25b0
                    try clear p26
                    try clear q26
                    try clear hx26
                    try clear hf26
                    try clear c27
                    try clear c27b0
                    try clear p28
                    try clear q28
                    try clear hx28
                    try clear hf28
                    try clear c33
                    try clear c33b0
                    try clear c34
                    try clear c34b0
                    try clear c35
                    try clear c35b0
                    try clear q36
                    try clear c37
                    try clear c39
                    try clear c42
                    try clear c42b0
                    try clear c43
                    try clear c43b0
                    try clear c44
                    try clear c45
                    try clear c45b0
                    try clear c46
                    try clear c46b0
                    try clear c48
                    try clear c49
                    try clear c50
                    try clear p54
                    try clear q54
                    try clear hx54
                    try clear p55
                    try clear q55
                    try clear hx55
                    try clear c56
                    try clear c56b0
                    try clear c56b1
                    try clear p56
                    try clear q56
                    try clear hx56
                    try clear c57
                    try clear p57
                    try clear q57
                    try clear hx57
                    try clear c58
                    try clear p58
                    try clear q58
                    try clear hx58
                    try clear c59
                    try clear c59b0
                    try clear c59b1
                    try clear c64
                    try clear c64b0
                    try clear p64
                    try clear c65
                    try clear c65b0
                    try clear c66
                    try clear c66b0
                    try clear c68
                    try clear c68b0
                    try clear c69
                    try clear c69b0
                    try clear p70
                    try clear q70
                    try clear hx70
                    try clear hf70
                    try clear hx26_0
                    try clear hx28_0
                    try clear hx544_0
                    try clear hx547_0
                    try clear hx548_0
                    try clear hx555_0
                    try clear hx555_1
                    try clear hx557_0
                    try clear hx557_1
                    try clear hx558_0
                    try clear hx558_1
                    try clear hx560_0
                    try clear hx564_0
                    try clear hx564_1
                    try clear hx568_0
                    try clear hx568_1
                    try clear hx569_0
                    try clear hx569_1
                    try clear hx570_0
                    try clear hx584_0
                    try clear hx585_0
                    try clear hx70_0
                    try clear p2
                    try clear p26
                    try clear p28
                    try clear p5
                    try clear p54
                    try clear p544
                    try clear p547
                    try clear p548
                    try clear p55
                    try clear p555
                    try clear p557
                    try clear p558
                    try clear p56
                    try clear p560
                    try clear p564
                    try clear p568
                    try clear p569
                    try clear p57
                    try clear p570
                    try clear p58
                    try clear p584
                    try clear p585
                    try clear p6
                    try clear p64
                    try clear p7
                    try clear p70
                    try clear q2
                    try clear q26
                    try clear q28
                    try clear q3
                    try clear q36
                    try clear q5
                    try clear q54
                    try clear q544
                    try clear q547
                    try clear q548
                    try clear q55
                    try clear q555
                    try clear q557
                    try clear q558
                    try clear q56
                    try clear q560
                    try clear q564
                    try clear q568
                    try clear q569
                    try clear q57
                    try clear q570
                    try clear q58
                    try clear q584
                    try clear q585
                    try clear q7
                    try clear q70
                    obtain ⟨x25_6,x26_6,rfl,HA,HK6,HO_13,HO_25,HB⟩ := hrel
                    cases gk with
                    | zero => exact absurd HA.out (by simp [privityref07_Complete.l4])
                    | succ k6 =>
                     have H := HA.out
                     clear HA
                     simp only [privityref07_Complete.l4] at H
                     by_cases c79 : x26_6 < (l1.length : Int)
                     ·rw [if_pos c79] at H
                      have c79b0 : decide (x26_6 < (l1.length : Int)) = true := decide_eq_true c79
                      clear c79
                      by_cases c80 : 0 ≤ x26_6
                      ·rw [if_pos c80] at H
                       have c80b0 : decide (0 ≤ x26_6) = true := decide_eq_true c80
                       clear c80
                       replace H := Option.bind_eq_some_iff.mp H
                       obtain ⟨t589,A810,H⟩ := H
                       try dsimp only at H
                       have A81 := am A810
                       clear A810
                       by_cases c82 : x25_6.length < 17592186044416
                       ·rw [if_pos c82] at H
                        have LMc82 := am c82
                        clear c82
                        obtain ⟨y590,hy590⟩ : ∃ y_ : List Int,y_ = (x25_6 ++ [t589]) := ⟨_,rfl⟩
                        replace H : (privityref07_Complete.l4 k6 a0 l1 x13_53 y590 (wrap64 (x26_6 + 1))) = some (r1,r2,r3) := by first|(rw [hy590];with_reducible exact H)|(have H2_ := (Option.bind_some _ _).symm.trans H;rw [hy590];with_reducible exact H2_)|(have H2_ := (Option.bind_some _ _).symm.trans H;with_reducible exact H2_)|with_reducible exact H|(rw [hy590];exact H)|exact H
                        have Ny590 := am hy590
                        clear hy590
                        have H' := am H
                        clear H
                        have p588 : 0 ≤ (x26_6 : Int) := od
                        have q588 : x26_6 < (l1.length : Int) := od
                        obtain ⟨ad588,A588_0,c588_0,e588,hx588_0,hl588_0,hi588_0⟩ := at_L2 HR1.out x26_6 p588 q588
                        obtain rfl : ad548 = ad588 := (by injection e588)
                        replace hx588_0 := (HB.out.cell (World.block_lt_of_cell? w _ hx588_0)).trans hx588_0
                        have HR588_0 := am hi588_0
                        have HC588_0 := am hl588_0
                        clear hi588_0 hl588_0
                        replace p588 := eq_true p588
                        replace q588 := eq_true q588
                        obtain ⟨Ao83,co83,eo83⟩ := Kd.R_slice HO_13.out
                        subst eo83
                        go_wp2_with (first|((with_reducible refine gate_callee (f := 49) rfl ?_);refine goesL_ (some 191) rfl rfl Try.func49 (by kernel_rfl) rfl #[.int .u64 a0,.slice A588_0 (rd_L2 l1 x26_6).length c588_0,.slice Ao83 x13_53.length co83] rfl (by (try simp only [List.map_toArray,List.map_cons,List.map_nil]);first|done|rfl|(simp only [List.length_drop,List.length_take];rfl)) ?_;(with_reducible refine (privityref07_dot.calls k6 a0 _ _ (rd_L2 l1 x26_6) _ _ x13_53 t589 _ ?side1 ?side2 ?side3 ?side4 A81.out).mono ?_);(case side1 => exact cb HR588_0 HB);(case side2 => exact HC588_0.out);(case side3 => exact cr HO_13);(case side4 => exact (Kd.R_reads' HO_13.out).2.1);rintro e w' ⟨rfl,⟨nd,rfl⟩⟩;refine ⟨_,rfl,?_⟩)|((with_reducible refine gate_builtin (b := .append) (xs := #[.tmp 184,.tmp 192]) rfl ?_);(try (refine gate_guard (by rfl) ?_;dsimp only));at_builtin;refine Kd.R_append (Kd.int .u64) (w0 := w) w.heap.size rfl (.tmp 184) (.tmp 192) 40 22 (.int .u64 0) 8 rfl Try.underlying40 info22 rfl (by decide) (by omega) u25 x25_6 t589 [.int .u64 t589] (fun k_ => some k_ ≠ (.slice Ao83 x13_53.length co83 : Value).ownBlock) (fun _ => False) rfl rfl ?aP (fun _ hk => hk.elim) ?aF ?aO ?aB ?aS ?aL ?_;(case aP => exact rfl);(case aB => exact (bb HB));(case aF => exact (fun k_ hk => Kd.fresh' (Kd.R_lt (rr HO_13)) k_ hk));(case aO => exact (rr HO_25));(case aS => exact (below_size (bb HB)));(case aL => have := LMc82.out;omega);intro v591 w84 ho hb hg hat;rw [← Ny590.out] at ho;have n0_ := am (Kd.R_after (ok := (fun _ => True)) (by (with_reducible repeat (first|apply Kd.R_alloc|apply Kd.R_drewN|apply Kd.R_drew));exact Kd.R_mono HO_13.out (fun _ hk => ⟨trivial,hk⟩)) hg hat);have n1_ := am (hb);have n2_ := am (ho);clear HO_13 HB HO_25;have HO_13 := n0_;have HB := n1_;have HO592 := n2_;clear n0_ n1_ n2_;clear ho hb hg hat))
                        go_roundg k6
                        case measure => have := HJ4.out;have := HK2.out;have := HK3.out;have := HK4.out;have := HJ53.out;have := HK6.out;omega
                        case rel => exact ⟨(y590),(wrap64 (x26_6 + 1)),(by first|rfl|(simp;done)|(simp [*];done)),H',⟨by have := HJ4.out;have := HK2.out;have := HK3.out;have := HK4.out;have := HJ53.out;have := HK6.out;omega⟩,⟨by (with_reducible repeat (first|apply Kd.R_alloc|apply Kd.R_drewN|apply Kd.R_drew));exact Kd.R_mono HO_13.out (fun _ hk => hk.2)⟩,⟨by (with_reducible repeat (first|apply Kd.R_alloc|apply Kd.R_drewN|apply Kd.R_drew));exact HO592.out⟩,⟨bb HB⟩⟩
                       ·rw [if_neg c82] at H
                        exact absurd H (by simp)
                      ·rw [if_neg c80] at H
                       exact absurd H (by simp)
                     ·rw [if_neg c79] at H
                      have c79b0 : decide (x26_6 < (l1.length : Int)) = false := decide_eq_false c79
                      clear c79
                      simp only [Option.some.injEq,Prod.mk.injEq] at H
                      obtain ⟨rfl,rfl,rfl⟩ := H
                      go_wp2
                      go_ret3
                      exact ⟨_,_,by first|rfl|(simp [errW_none,errW_some] <;> rfl)|(simp [*,errW_none,errW_some] <;> rfl),by (with_reducible repeat (first|apply Kd.R_alloc|apply Kd.R_drewN|apply Kd.R_drew));exact HO_13.out,by (with_reducible repeat (first|apply Kd.R_alloc|apply Kd.R_drewN|apply Kd.R_drew));exact HO_25.out,bb HB⟩
       ·rw [if_neg c17] at H
        exact absurd H (by simp)
      ·rw [if_neg c16] at H
       exact absurd H (by simp)
     ·rw [if_neg c15] at H
      exact absurd H (by simp)
    ·rw [if_neg c14] at H
     exact absurd H (by simp)
end Go.Proofs.Ytmdoaijkaaaglaa.Pr
end
