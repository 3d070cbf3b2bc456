/- Part 5 of the proof's texts, joined in build order. -/
import Derived.Test.YtejeelpnmdfibaaZTP2
import Derived.Test.YtejeelpnmdfibaaZTP3
import Derived.Test.YtejeelpnmdfibaaZTP4
import Derived.Laws.Rows
import Derived.Laws.CopyOwn
set_option linter.unusedVariables false
set_option linter.unusedSimpArgs false
section
namespace Go.Proofs.Ytejeelpnmdfibaa.Pr
open Go.RowKit Go.Proofs.YtejeelpnmdfibaaW.PrintWords Go.Proofs.YtejeelpnmdfibaaW.PrintLast Go.Proofs.YtejeelpnmdfibaaW.PrintMore
attribute [local go_sem] max2_int min2_int max_two min_two max_three min_three max_four min_four
open Go.Proofs.Ytejeelpnmdfibaa.Hw
mutual
def privityref14_Below.l0 : Nat → Int → List (List Int) → Int → Int → Option (Bool)
 | 0,_,_,_,_ => none
 | k + 1,x0,x1,x2,x7 => if x7 < (x1.length : Int) then (if 0 ≤ x7 then (if ((rd_L4 x1 x7).length : Int) > x2 then (some false) else (privityref14_Below.l1 k x0 x1 x2 x7 0)) else (none)) else (some true)
def privityref14_Below.l1 : Nat → Int → List (List Int) → Int → Int → Int → Option (Bool)
 | 0,_,_,_,_,_ => none
 | k + 1,x0,x1,x2,x7,x8 => if 0 ≤ x7 then (if x7 < (x1.length : Int) then (if x8 < ((rd_L4 x1 x7).length : Int) then (if 0 ≤ x8 then (if (rd (rd_L4 x1 x7) x8) ≥ x0 then (some false) else (privityref14_Below.l1 k x0 x1 x2 x7 (wrap64 (x8 + 1)))) else (none)) else (privityref14_Below.l0 k x0 x1 x2 (wrap64 (x7 + 1)))) else (none)) else (none)
end
def privityref14_Below.f (k : Nat) (a0 : Int) (l1 : List (List Int)) (a2 : Int) : Option (Bool) := privityref14_Below.l0 k a0 l1 a2 0
set_option maxHeartbeats 8000000 in
set_option maxRecDepth 100000 in
theorem privityref14_Below.calls (k : Nat) (a0 : Int) (A1 : Option Addr) (c1 : Nat) (l1 : List (List Int)) (a2 : Int) (r : Bool) (w : World) (hr1 : Kd.C (Kd.slice 22 (Kd.int .u64)) w A1 l1.length l1) (hc1 : l1.length ≤ c1) (h : privityref14_Below.f k a0 l1 a2 = some r) :
  Calls Try.prog 27 #[.int .u64 a0,.slice A1 l1.length c1,.int .i64 a2] w fun e w' => e = .returned (.bool r) ∧ Drawn0 w w' := by
 have HR1 := am hr1
 have HC1 := am hc1
 clear hr1 hc1
 have H : (privityref14_Below.l0 k a0 l1 a2 0) = some r := h
 clear h
 have H' := am H
 clear H
 go_enter Try.func27,Try.ntmps27
 go_wp2
 go_loopg [7] k (fun kq v7 w' => ∃ (x7_1 : Int),v7 = .int .i64 x7_1 ∧ Aside0 (privityref14_Below.l0 kq a0 l1 a2 x7_1 = some r) ∧ Aside0 (kq ≤ k) ∧ Drawn0 w w')
 case atStart => exact ⟨(0),(by first|rfl|(simp;done)|(simp [*];done)),H',⟨Nat.le_refl _⟩,by repeat (first|exact Drawn0.refl _|apply Drawn0.step)⟩
 case round =>
  clear H'
  try clear c1
  try clear c2
  try clear p2
  obtain ⟨x7_1,rfl,HA,HK1,⟨m1,rfl⟩⟩ := hrel
  cases gk with
  | zero => exact absurd HA.out (by simp [privityref14_Below.l0])
  | succ k1 =>
   have H := HA.out
   clear HA
   simp only [privityref14_Below.l0] at H
   by_cases c4 : x7_1 < (l1.length : Int)
   ·rw [if_pos c4] at H
    have c4b0 : decide (x7_1 < (l1.length : Int)) = true := decide_eq_true c4
    clear c4
    by_cases c5 : 0 ≤ x7_1
    ·rw [if_pos c5] at H
     have c5b0 : decide (0 ≤ x7_1) = true := decide_eq_true c5
     clear c5
     by_cases c6 : ((rd_L4 l1 x7_1).length : Int) > a2
     ·rw [if_pos c6] at H
      have c6b0 : decide (a2 < ((rd_L4 l1 x7_1).length : Int)) = true := decide_eq_true c6
      clear c6
      obtain rfl := Option.some.inj H
      have p341 : 0 ≤ (x7_1 : Int) := od
      have q341 : x7_1 < (l1.length : Int) := od
      obtain ⟨ad341,A341_0,c341_0,e341,hx341_0,hl341_0,hi341_0⟩ := at_L4 HR1.out x7_1 p341 q341
      cases e341
      have HR341_0 := am hi341_0
      have HC341_0 := am hl341_0
      clear hi341_0 hl341_0
      replace p341 := eq_true p341
      replace q341 := eq_true q341
      go_wp2
      go_ret
      exact ⟨by first|rfl|(simp;done)|(simp [*];done),by repeat (first|exact Drawn0.refl _|apply Drawn0.step)⟩
     ·rw [if_neg c6] at H
      have c6b0 : decide (a2 < ((rd_L4 l1 x7_1).length : Int)) = false := decide_eq_false c6
      clear c6
      have H' := am H
      clear H
      have p341 : 0 ≤ (x7_1 : Int) := od
      have q341 : x7_1 < (l1.length : Int) := od
      obtain ⟨ad341,A341_0,c341_0,e341,hx341_0,hl341_0,hi341_0⟩ := at_L4 HR1.out x7_1 p341 q341
      cases e341
      have HR341_0 := am hi341_0
      have HC341_0 := am hl341_0
      clear hi341_0 hl341_0
      replace p341 := eq_true p341
      replace q341 := eq_true q341
      go_wp2
      go_loopg [8] k1 (fun kq v8 w' => ∃ (x8_2 : Int),v8 = .int .i64 x8_2 ∧ Aside0 (privityref14_Below.l1 kq a0 l1 a2 x7_1 x8_2 = some r) ∧ Aside0 (kq ≤ k1) ∧ Drawn0 w w')
      case atStart => exact ⟨(0),(by first|rfl|(simp;done)|(simp [*];done)),H',⟨Nat.le_refl _⟩,by repeat (first|exact Drawn0.refl _|apply Drawn0.step)⟩
      case round =>
       clear H'
       try clear c1
       try clear c2
       try clear p2
       try clear c3
       try clear p3
       try clear q3
       try clear hx3
       try clear c4
       try clear c4b0
       try clear c5
       try clear c5b0
       try clear c6
       try clear c6b0
       try clear hx341_0
       try clear p2
       try clear p341
       try clear q341
       obtain ⟨x8_2,rfl,HA,HK2,⟨m2,rfl⟩⟩ := hrel
       cases gk with
       | zero => exact absurd HA.out (by simp [privityref14_Below.l1])
       | succ k2 =>
        have H := HA.out
        clear HA
        simp only [privityref14_Below.l1] at H
        by_cases c7 : 0 ≤ x7_1
        ·rw [if_pos c7] at H
         have c7b0 : decide (0 ≤ x7_1) = true := decide_eq_true c7
         clear c7
         by_cases c8 : x7_1 < (l1.length : Int)
         ·rw [if_pos c8] at H
          have c8b0 : decide (x7_1 < (l1.length : Int)) = true := decide_eq_true c8
          clear c8
          by_cases c9 : x8_2 < ((rd_L4 l1 x7_1).length : Int)
          ·rw [if_pos c9] at H
           have c9b0 : decide (x8_2 < ((rd_L4 l1 x7_1).length : Int)) = true := decide_eq_true c9
           clear c9
           by_cases c10 : 0 ≤ x8_2
           ·rw [if_pos c10] at H
            have c10b0 : decide (0 ≤ x8_2) = true := decide_eq_true c10
            clear c10
            by_cases c11 : (rd (rd_L4 l1 x7_1) x8_2) ≥ a0
            ·rw [if_pos c11] at H
             have c11b0 : decide (a0 ≤ (rd (rd_L4 l1 x7_1) x8_2)) = true := decide_eq_true c11
             clear c11
             obtain rfl := Option.some.inj H
             have p342 : 0 ≤ (x7_1 : Int) := od
             have q342 : x7_1 < (l1.length : Int) := od
             obtain ⟨ad342,A342_0,c342_0,e342,hx342_0,hl342_0,hi342_0⟩ := at_L4 HR1.out x7_1 p342 q342
             obtain rfl : ad341 = ad342 := (by injection e342)
             have HR342_0 := am hi342_0
             have HC342_0 := am hl342_0
             clear hi342_0 hl342_0
             replace p342 := eq_true p342
             replace q342 := eq_true q342
             have p343 : 0 ≤ (x7_1 : Int) := od
             have q343 : x7_1 < (l1.length : Int) := od
             obtain ⟨ad343,A343_0,c343_0,e343,hx343_0,hl343_0,hi343_0⟩ := at_L4 HR1.out x7_1 p343 q343
             obtain rfl : ad341 = ad343 := (by injection e343)
             have HR343_0 := am hi343_0
             have HC343_0 := am hl343_0
             clear hi343_0 hl343_0
             replace p343 := eq_true p343
             replace q343 := eq_true q343
             have ea_ := Option.some.inj (hx342_0.symm.trans hx343_0)
             injection ea_ with ea_ en_ ec_
             subst ea_
             subst ec_
             clear en_
             have p344 : 0 ≤ (x8_2 : Int) := od
             have q344 : x8_2 < ((rd_L4 l1 x7_1).length : Int) := od
             obtain ⟨ad344,e344,hx344_0⟩ := Kd.at_int HR343_0.out x8_2 p344 q344
             cases e344
             replace p344 := eq_true p344
             replace q344 := eq_true q344
             go_wp2
             go_ret
             exact ⟨by first|rfl|(simp;done)|(simp [*];done),by repeat (first|exact Drawn0.refl _|apply Drawn0.step)⟩
            ·rw [if_neg c11] at H
             have c11b0 : decide (a0 ≤ (rd (rd_L4 l1 x7_1) x8_2)) = false := decide_eq_false c11
             clear c11
             have H' := am H
             clear H
             have p342 : 0 ≤ (x7_1 : Int) := od
             have q342 : x7_1 < (l1.length : Int) := od
             obtain ⟨ad342,A342_0,c342_0,e342,hx342_0,hl342_0,hi342_0⟩ := at_L4 HR1.out x7_1 p342 q342
             obtain rfl : ad341 = ad342 := (by injection e342)
             have HR342_0 := am hi342_0
             have HC342_0 := am hl342_0
             clear hi342_0 hl342_0
             replace p342 := eq_true p342
             replace q342 := eq_true q342
             have p343 : 0 ≤ (x7_1 : Int) := od
             have q343 : x7_1 < (l1.length : Int) := od
             obtain ⟨ad343,A343_0,c343_0,e343,hx343_0,hl343_0,hi343_0⟩ := at_L4 HR1.out x7_1 p343 q343
             obtain rfl : ad341 = ad343 := (by injection e343)
             have HR343_0 := am hi343_0
             have HC343_0 := am hl343_0
             clear hi343_0 hl343_0
             replace p343 := eq_true p343
             replace q343 := eq_true q343
             have ea_ := Option.some.inj (hx342_0.symm.trans hx343_0)
             injection ea_ with ea_ en_ ec_
             subst ea_
             subst ec_
             clear en_
             have p344 : 0 ≤ (x8_2 : Int) := od
             have q344 : x8_2 < ((rd_L4 l1 x7_1).length : Int) := od
             obtain ⟨ad344,e344,hx344_0⟩ := Kd.at_int HR343_0.out x8_2 p344 q344
             cases e344
             replace p344 := eq_true p344
             replace q344 := eq_true q344
             go_wp2
             go_roundg k2
             case measure => have := HK1.out;have := HK2.out;omega
             case rel => exact ⟨(wrap64 (x8_2 + 1)),(by first|rfl|(simp;done)|(simp [*];done)),H',⟨by have := HK1.out;have := HK2.out;omega⟩,by repeat (first|exact Drawn0.refl _|apply Drawn0.step)⟩
           ·rw [if_neg c10] at H
            exact absurd H (by simp)
          ·rw [if_neg c9] at H
           have c9b0 : decide (x8_2 < ((rd_L4 l1 x7_1).length : Int)) = false := decide_eq_false c9
           clear c9
           have H' := am H
           clear H
           have p342 : 0 ≤ (x7_1 : Int) := od
           have q342 : x7_1 < (l1.length : Int) := od
           obtain ⟨ad342,A342_0,c342_0,e342,hx342_0,hl342_0,hi342_0⟩ := at_L4 HR1.out x7_1 p342 q342
           obtain rfl : ad341 = ad342 := (by injection e342)
           have HR342_0 := am hi342_0
           have HC342_0 := am hl342_0
           clear hi342_0 hl342_0
           replace p342 := eq_true p342
           replace q342 := eq_true q342
           go_wp2
           go_roundg k2
           case measure => have := HK1.out;have := HK2.out;omega
           case rel => exact ⟨(wrap64 (x7_1 + 1)),(by first|rfl|(simp;done)|(simp [*];done)),H',⟨by have := HK1.out;have := HK2.out;omega⟩,by repeat (first|exact Drawn0.refl _|apply Drawn0.step)⟩
         ·rw [if_neg c8] at H
          exact absurd H (by simp)
        ·rw [if_neg c7] at H
         exact absurd H (by simp)
    ·rw [if_neg c5] at H
     exact absurd H (by simp)
   ·rw [if_neg c4] at H
    have c4b0 : decide (x7_1 < (l1.length : Int)) = false := decide_eq_false c4
    clear c4
    obtain rfl := Option.some.inj H
    go_wp2
    go_ret
    exact ⟨by first|rfl|(simp;done)|(simp [*];done),by repeat (first|exact Drawn0.refl _|apply Drawn0.step)⟩
mutual
def privityref21_Mul.l0 : Nat → Int → List Int → List Int → List Int → Int → Option (List Int)
 | 0,_,_,_,_,_ => none
 | k + 1,x0,x1,x2,x7,x8 => if x8 < (x1.length : Int) then (privityref21_Mul.l1 k x0 x1 x2 x7 x8 0) else (some x7)
def privityref21_Mul.l1 : Nat → Int → List Int → List Int → List Int → Int → Int → Option (List Int)
 | 0,_,_,_,_,_,_ => none
 | k + 1,x0,x1,x2,x7,x8,x9 => if x9 < (x2.length : Int) then (if 0 ≤ (wrap64 (x8 + x9)) then (if (wrap64 (x8 + x9)) < (x7.length : Int) then (if 0 ≤ x8 then (if x8 < (x1.length : Int) then (if 0 ≤ x9 then ((privityref01_Mul.f k x0 (rd x1 x8) (rd x2 x9)).bind fun t351 => ((privityref01_Add.f x0 (rd x7 (wrap64 (x8 + x9))) t351).bind fun t352 => (privityref21_Mul.l1 k x0 x1 x2 (x7.set ((wrap64 (x8 + x9)) : Int).toNat t352) x8 (wrap64 (x9 + 1))))) else (none)) else (none)) else (none)) else (none)) else (none)) else (privityref21_Mul.l0 k x0 x1 x2 x7 (wrap64 (x8 + 1)))
end
def privityref21_Mul.f (k : Nat) (a0 : Int) (l1 : List Int) (l2 : List Int) : Option (List Int) := if 0 ≤ (wrap64 ((wrap64 ((l1.length : Int) + (l2.length : Int))) - 1)) then (if (wrap64 ((wrap64 ((l1.length : Int) + (l2.length : Int))) - 1) : Int).toNat ≤ 35184372088832 then (privityref21_Mul.l0 k a0 l1 l2 (List.replicate (wrap64 ((wrap64 ((l1.length : Int) + (l2.length : Int))) - 1) : Int).toNat 0) 0) else (none)) else (none)
def privityref21_Mul.T8 : Bool × List (List Nat × List Nat) := (true,[([],[]),([],[]),([],[]),([1,2],[1,2]),([],[]),([],[]),([],[]),([],[]),([6,7],[6,7]),([5,8],[5,8]),([9],[9]),([],[]),([],[]),([],[]),([12,13],[12,13]),([14],[14]),([],[]),([],[]),([16,17],[16,17]),([18],[18]),([11,15,19],[11,15,19]),([4,10,20,20],[4,10,20]),([0,3,0,1,2,3,4,5,6,7,8,9,10,11,12,13,14,15,16,17,18,19,20,21],[0,3]),([22,21,21,0,1,2,3,4,5,6,7,8,9,10,11,12,13,14,15,16,17,18,19,20,21],[21,22])])
def privityref21_Mul.B8 : List Nat := [0,0,0,6,0,0,0,0,192,480,992,0,0,0,12288,28672,0,0,196608,458752,1046528,2097136,4194303,8388607]
theorem privityref21_Mul.tab8 : rtab .any (opsOf Try.f90 8) = privityref21_Mul.T8 := by kernel_rfl
theorem privityref21_Mul.bits8 : waitsOk privityref21_Mul.T8.2 privityref21_Mul.B8 = true := by kernel_rfl
set_option maxHeartbeats 8000000 in
set_option maxRecDepth 100000 in
theorem privityref21_Mul.calls (k : Nat) (a0 : Int) (A1 : Option Addr) (c1 : Nat) (l1 : List Int) (A2 : Option Addr) (c2 : Nat) (l2 : List Int) (r : List Int) (w : World) (hr1 : Kd.C (Kd.int .u64) w A1 l1.length l1) (hc1 : l1.length ≤ c1) (hr2 : Kd.C (Kd.int .u64) w A2 l2.length l2) (hc2 : l2.length ≤ c2) (h : privityref21_Mul.f k a0 l1 l2 = some r) :
  Calls Try.prog 90 #[.int .u64 a0,.slice A1 l1.length c1,.slice A2 l2.length c2] w fun e w' => ∃ v0_ : Value,e = .returned (v0_) ∧ Kd.R (Kd.int .u64) 22 w' w.heap.size (fun _ => True) v0_ r ∧ Below w.heap.size w w' := by
 have HR1 := am hr1
 have HC1 := am hc1
 clear hr1 hc1
 have HR2 := am hr2
 have HC2 := am hc2
 clear hr2 hc2
 have HB := am (Below.refl w.heap.size w)
 have H : (if 0 ≤ (wrap64 ((wrap64 ((l1.length : Int) + (l2.length : Int))) - 1)) then (if (wrap64 ((wrap64 ((l1.length : Int) + (l2.length : Int))) - 1) : Int).toNat ≤ 35184372088832 then (privityref21_Mul.l0 k a0 l1 l2 (List.replicate (wrap64 ((wrap64 ((l1.length : Int) + (l2.length : Int))) - 1) : Int).toNat 0) 0) else (none)) else (none)) = some r := h
 clear h
 obtain ⟨ji4,hji4⟩ : ∃ j_ : Int,(wrap64 ((wrap64 ((l1.length : Int) + (l2.length : Int))) - 1)) = j_ := ⟨_,rfl⟩
 first|rw [hji4] at H|simp only [hji4] at H
 have hji4w : (IntKind.i64.wrap ((wrap64 ((l1.length : Int) + (l2.length : Int))) - 1)) = ji4 := (i64_w _).trans hji4
 by_cases c5 : 0 ≤ (ji4)
 ·rw [if_pos c5] at H
  have c5b0 := eq_true c5
  have c5b1 : decide (0 ≤ (ji4)) = true := decide_eq_true c5
  clear c5
  by_cases c6 : (ji4 : Int).toNat ≤ 35184372088832
  ·rw [if_pos c6] at H
   have c6b0 := eq_true c6
   have c6b1 : decide ((ji4 : Int).toNat ≤ 35184372088832) = true := decide_eq_true c6
   clear c6
   obtain ⟨y345,hy345⟩ : ∃ y_ : List Int,y_ = (List.replicate (ji4 : Int).toNat 0) := ⟨_,rfl⟩
   replace H : (privityref21_Mul.l0 k a0 l1 l2 y345 0) = some r := by first|(rw [hy345];with_reducible exact H)|(have H2_ := (Option.bind_some _ _).symm.trans H;rw [hy345];with_reducible exact H2_)|(have H2_ := (Option.bind_some _ _).symm.trans H;with_reducible exact H2_)|with_reducible exact H|(rw [hy345];exact H)|exact H
   have Ny345 := am hy345
   clear hy345
   have H' := am H
   clear H
   go_enter Try.func90,Try.ntmps90
   go_wp2_with (first|((with_reducible refine gate_dst (N := 16) rfl ?_);refine Kd.R_make (Kd.int .u64) _ 22 rfl (N := 16) rfl 26 _ _ rfl ji4 rfl rfl Try.underlying26 (.int .u64 0) 8 info22 rfl (by decide) (by omega) 0 (ok := fun _ => True) (okp := fun _ => True) rfl (fun _ hk => hk) trivial (od) (Nat.le_trans (Nat.mul_le_mul_right _ (od : ji4.toNat ≤ 35184372088832)) (by omega)) (Below.refl _ _) (Nat.le_refl _) ?_;intro v346 w7 ho8 hb hg_ hnew_;clear hg_ hnew_;(first|rw [← Ny345.out] at ho8|(simp only [Int.reduceToNat] at ho8;rw [← Ny345.out] at ho8));have n0_ := am (Kd.R_lower ho8 (below_size (bb HB)));have n1_ := am (below_step (bb HB) hb);clear HB;have HO347 := n0_;have HB := n1_;clear n0_ n1_;clear hb ho8))
   go_loopg [8] k (fun kq v8 w' => ∃ (x7_1 : List Int) (x8_1 : Int),v8 = .int .i64 x8_1 ∧ Aside0 (privityref21_Mul.l0 kq a0 l1 l2 x7_1 x8_1 = some r) ∧ Aside0 (kq ≤ k) ∧ Aside0 (Kd.R (Kd.int .u64) 22 w' w.heap.size (fun _ => True) v346 x7_1) ∧ Aside0 (Below w.heap.size w w'))
   case atStart => exact ⟨(y345),(0),(by first|rfl|(simp;done)|(simp [*];done)),H',⟨Nat.le_refl _⟩,⟨by (with_reducible repeat (first|apply Kd.R_alloc|apply Kd.R_drewN|apply Kd.R_drew));exact HO347.out⟩,⟨bb HB⟩⟩
   case round =>
    clear H'
    try clear c1
    try clear c2
    try clear p2
    try clear c5
    try clear c5b0
    try clear c5b1
    try clear c6
    try clear c6b0
    try clear c6b1
    try clear p6
    obtain ⟨x7_1,x8_1,rfl,HA,HK1,HO_7,HB⟩ := hrel
    cases gk with
    | zero => exact absurd HA.out (by simp [privityref21_Mul.l0])
    | succ k1 =>
     have H := HA.out
     clear HA
     simp only [privityref21_Mul.l0] at H
     by_cases c9 : x8_1 < (l1.length : Int)
     ·rw [if_pos c9] at H
      have c9b0 : decide (x8_1 < (l1.length : Int)) = true := decide_eq_true c9
      clear c9
      have H' := am H
      clear H
      go_wp2
      go_loopg [9] k1 (fun kq v9 w' => ∃ (x7_2 : List Int) (x9_2 : Int),v9 = .int .i64 x9_2 ∧ Aside0 (privityref21_Mul.l1 kq a0 l1 l2 x7_2 x8_1 x9_2 = some r) ∧ Aside0 (kq ≤ k1) ∧ Aside0 (Kd.R (Kd.int .u64) 22 w' w.heap.size (fun _ => True) v346 x7_2) ∧ Aside0 (Below w.heap.size w w'))
      case atStart => exact ⟨(x7_1),(0),(by first|rfl|(simp;done)|(simp [*];done)),H',⟨Nat.le_refl _⟩,⟨by (with_reducible repeat (first|apply Kd.R_alloc|apply Kd.R_drewN|apply Kd.R_drew));exact HO_7.out⟩,⟨bb HB⟩⟩
      case round =>
       clear H'
       try clear c1
       try clear c2
       try clear p2
       try clear c5
       try clear c5b0
       try clear c5b1
       try clear c6
       try clear c6b0
       try clear c6b1
       try clear p6
       try clear c9
       try clear c9b0
       try clear p2
       try clear p6
       obtain ⟨x7_2,x9_2,rfl,HA,HK2,HO_7,HB⟩ := hrel
       cases gk with
       | zero => exact absurd HA.out (by simp [privityref21_Mul.l1])
       | succ k2 =>
        have H := HA.out
        clear HA
        simp only [privityref21_Mul.l1] at H
        by_cases c10 : x9_2 < (l2.length : Int)
        ·rw [if_pos c10] at H
         have c10b0 : decide (x9_2 < (l2.length : Int)) = true := decide_eq_true c10
         clear c10
         obtain ⟨ji11,hji11⟩ : ∃ j_ : Int,(wrap64 (x8_1 + x9_2)) = j_ := ⟨_,rfl⟩
         first|rw [hji11] at H|simp only [hji11] at H
         have hji11w : (IntKind.i64.wrap (x8_1 + x9_2)) = ji11 := (i64_w _).trans hji11
         by_cases c12 : 0 ≤ (ji11)
         ·rw [if_pos c12] at H
          have c12b0 : decide (0 ≤ (ji11)) = true := decide_eq_true c12
          clear c12
          by_cases c13 : (ji11) < (x7_2.length : Int)
          ·rw [if_pos c13] at H
           have c13b0 : decide ((ji11) < (x7_2.length : Int)) = true := decide_eq_true c13
           clear c13
           by_cases c14 : 0 ≤ x8_1
           ·rw [if_pos c14] at H
            have c14b0 : decide (0 ≤ x8_1) = true := decide_eq_true c14
            clear c14
            by_cases c15 : x8_1 < (l1.length : Int)
            ·rw [if_pos c15] at H
             have c15b0 : decide (x8_1 < (l1.length : Int)) = true := decide_eq_true c15
             clear c15
             by_cases c16 : 0 ≤ x9_2
             ·rw [if_pos c16] at H
              have c16b0 : decide (0 ≤ x9_2) = true := decide_eq_true c16
              clear c16
              replace H := Option.bind_eq_some_iff.mp H
              obtain ⟨t351,A170,H⟩ := H
              try dsimp only at H
              have A17 := am A170
              clear A170
              replace H := Option.bind_eq_some_iff.mp H
              obtain ⟨t352,A180,H⟩ := H
              try dsimp only at H
              have A18 := am A180
              clear A180
              obtain ⟨y353,hy353⟩ : ∃ y_ : List Int,y_ = (x7_2.set ((ji11) : Int).toNat t352) := ⟨_,rfl⟩
              replace H : (privityref21_Mul.l1 k2 a0 l1 l2 y353 x8_1 (wrap64 (x9_2 + 1))) = some r := by first|(rw [hy353];with_reducible exact H)|(have H2_ := (Option.bind_some _ _).symm.trans H;rw [hy353];with_reducible exact H2_)|(have H2_ := (Option.bind_some _ _).symm.trans H;with_reducible exact H2_)|with_reducible exact H|(rw [hy353];exact H)|exact H
              have Ny353 := am hy353
              clear hy353
              have H' := am H
              clear H
              try go_wp2
              have n0_ := am (Kd.R_drew HO_7.out)
              have n1_ := am (below_drew1 HB.out)
              clear HO_7
              clear HB
              have HO_7 := n0_
              have HB := n1_
              clear n0_ n1_
              obtain ⟨Ao21,co21,eo21⟩ := Kd.R_slice HO_7.out
              (first|subst eo21|(injection eo21 with f1_ f2_ f3_;have f4_ := f1_.symm;have f5_ := f3_.symm;clear f1_ f2_ f3_;subst f4_;subst f5_))
              have p348 : 0 ≤ ((ji11) : Int) := od
              have q348 : (ji11) < (x7_2.length : Int) := od
              obtain ⟨ad348,e348,hx348_0⟩ := Kd.at_int (Kd.R_reads' HO_7.out).2.2 (ji11) p348 q348
              cases e348
              replace p348 := eq_true p348
              replace q348 := eq_true q348
              have p349 : 0 ≤ (x8_1 : Int) := od
              have q349 : x8_1 < (l1.length : Int) := od
              obtain ⟨ad349,e349,hx349_0⟩ := Kd.at_int HR1.out x8_1 p349 q349
              have hw349_0 := hx349_0
              cases e349
              replace hx349_0 := (HB.out.cell (World.block_lt_of_cell? w _ hx349_0)).trans hx349_0
              replace p349 := eq_true p349
              replace q349 := eq_true q349
              have p350 : 0 ≤ (x9_2 : Int) := od
              have q350 : x9_2 < (l2.length : Int) := od
              obtain ⟨ad350,e350,hx350_0⟩ := Kd.at_int HR2.out x9_2 p350 q350
              have hw350_0 := hx350_0
              cases e350
              replace hx350_0 := (HB.out.cell (World.block_lt_of_cell? w _ hx350_0)).trans hx350_0
              replace p350 := eq_true p350
              replace q350 := eq_true q350
              refine start_ (n := 24) (S := fun w' => w'.cell? (ad348.add ((ji11)).toNat) = some (.int .u64 (rd x7_2 (ji11))) ∧ w'.cell? (ad349.add (x8_1).toNat) = some (.int .u64 (rd l1 x8_1)) ∧ w'.cell? (ad350.add (x9_2).toNat) = some (.int .u64 (rd l2 x9_2))) (ds := [23]) (bz 24 0) (by kernel_rfl) rfl rfl ⟨hx348_0,((HB.out.cell (World.block_lt_of_cell? w _ hw349_0)).trans hw349_0),((HB.out.cell (World.block_lt_of_cell? w _ hw350_0)).trans hw350_0)⟩ (fun hHeld => ?_);refine with_tabW privityref21_Mul.tab8 privityref21_Mul.bits8 (fun HT_ HW_ => ?_)
              generalize wr.drew = w20 at HO_7 HB hx348_0 hx349_0 hx350_0 hHeld ⊢
              refine pk 0 29 (bz 24 1) HT_ ?_
              refine pk 1 30 (bz 24 3) HT_ ?_
              refine pk 2 31 (bz 24 7) HT_ ?_
              refine pk 3 32 (bz 24 15) HT_ ?_
              refine pk 4 33 (bz 24 31) HT_ ?_
              refine pk 5 34 (bz 24 63) HT_ ?_
              refine pk 6 35 (bz 24 127) HT_ ?_
              refine pk 7 36 (bz 24 255) HT_ ?_
              refine pk 8 37 (bz 24 511) HT_ ?_
              refine pk 9 38 (bz 24 1023) HT_ ?_
              refine pk 11 40 (bz 24 3071) HT_ ?_
              refine pk 12 41 (bz 24 7167) HT_ ?_
              refine pk 13 42 (bz 24 15359) HT_ ?_
              refine pk 14 43 (bz 24 31743) HT_ ?_
              refine pk 16 45 (bz 24 97279) HT_ ?_
              refine pk 17 46 (bz 24 228351) HT_ ?_
              refine pk 18 47 (bz 24 490495) HT_ ?_
              refine tk 10 39 (bz 24 491519) HT_ HW_ hHeld ?_
              refine tk 15 44 (bz 24 524287) HT_ HW_ hHeld ?_
              refine tk 19 48 (bz 24 1048575) HT_ HW_ hHeld ?_
              refine on 20 49 (bz 24 2097151) HT_ (fun K hK => ?_)
              refine goes_ Try.func31 (by kernel_rfl) rfl #[.int .u64 a0,.int .u64 (rd l1 x8_1),.int .u64 (rd l2 x9_2)] (by rfl) rfl rfl (by (try simp only [List.map_toArray,List.map_cons,List.map_nil]);first|done|rfl|(simp only [List.length_drop,List.length_take];rfl)) ?_
              with_reducible refine (privityref01_Mul.calls k2 a0 (rd l1 x8_1) (rd l2 x9_2) t351 _ A17.out).mono ?_
              rintro e w' ⟨rfl,⟨nd,rfl⟩⟩
              refine ⟨_,rfl,?_⟩
              refine hK.out _ _ ⟨hHeld.1,((HB.out.cell (World.block_lt_of_cell? w _ hw349_0)).trans hw349_0),((HB.out.cell (World.block_lt_of_cell? w _ hw350_0)).trans hw350_0)⟩ (fun hHeld => ?_)
              clear hK K
              refine nm 49 ?_
              refine on 21 50 (bz 24 4194303) HT_ (fun K hK => ?_)
              refine goes_ Try.func17 (by kernel_rfl) rfl #[.int .u64 a0,.int .u64 (rd x7_2 (ji11)),.int .u64 t351] (by rfl) rfl rfl (by (try simp only [List.map_toArray,List.map_cons,List.map_nil]);first|done|(simp only [hji11];rfl)|rfl|(simp only [List.length_drop,List.length_take];rfl)) ?_
              with_reducible refine (privityref01_Add.calls a0 (rd x7_2 (ji11)) t351 t352 _ A18.out).mono ?_
              rintro e w' ⟨rfl,⟨nd,rfl⟩⟩
              refine ⟨_,rfl,?_⟩
              have p19 : 0 ≤ ((ji11) : Int) := od
              have q19 : ((ji11) : Int) < ((x7_2.length : Int) : Int) := od
              obtain ⟨go19,co19,eo19,gb19,gl19,cl19,HG19⟩ := Kd.R_form HO_7.out (by omega)
              (first|cases eo19|(injection eo19 with ea_ en_ ec_;(first|subst ea_|(injection ea_ with ea_;subst ea_));subst ec_;clear en_))
              have GB19 := am gb19
              have GG19 := am HG19
              clear gb19 gl19 HG19
              (first|simp only [add_plain] at hx348_0|skip)
              obtain ⟨hx19_0,hf19_0⟩ := Kd.R_celln 0 HO_7.out ((ji11) : Int) p19 q19
              replace p19 := eq_true p19
              replace q19 := eq_true q19
              have HP22 := Kd.R_putn HO_7.out ((ji11) : Int) t352
              rw [← Ny353.out] at HP22
              have HQ22 := am HP22
              clear HP22
              refine hK.out _ _ ⟨hHeld.1,((HB.out.cell (World.block_lt_of_cell? w _ hw349_0)).trans hw349_0),((HB.out.cell (World.block_lt_of_cell? w _ hw350_0)).trans hw350_0)⟩ (fun hHeld => ?_)
              clear hK K
              refine nm 50 ?_
              refine pk 22 51 (bz 24 8388607) HT_ ?_
              refine last_ (i := 23) (N := none) (bz 24 16777215) rfl rfl (one_of HT_.out (by kernel_rfl)) (by decide) (fun K hK => ?_)
              refine skip_ (w1 := ?_) (by rfl) rfl ?_ ?_
              rotate_left
              ·go_simp
               rfl
              refine hK.out _ _ ?_
              clear hK K
              refine done_ (done_of HT_.out (by kernel_rfl)) ?_
              try go_wp2
              go_roundg k2
              case measure => have := HK1.out;have := HK2.out;omega
              case rel => exact ⟨(y353),(wrap64 (x9_2 + 1)),(by first|rfl|(simp;done)|(simp [*];done)),H',⟨by have := HK1.out;have := HK2.out;omega⟩,⟨by (with_reducible repeat (first|apply Kd.R_alloc|apply Kd.R_drewN|apply Kd.R_drew));exact HQ22.out⟩,⟨by repeat (first|(with_reducible first|exact HB.out|apply below_alloc|apply pw_below_drewN|apply below_drew1|refine below_set ?_ GB19.out)|exact HB.out)⟩⟩
             ·rw [if_neg c16] at H
              exact absurd H (by simp)
            ·rw [if_neg c15] at H
             exact absurd H (by simp)
           ·rw [if_neg c14] at H
            exact absurd H (by simp)
          ·rw [if_neg c13] at H
           exact absurd H (by simp)
         ·rw [if_neg c12] at H
          exact absurd H (by simp)
        ·rw [if_neg c10] at H
         have c10b0 : decide (x9_2 < (l2.length : Int)) = false := decide_eq_false c10
         clear c10
         have H' := am H
         clear H
         go_wp2
         go_roundg k2
         case measure => have := HK1.out;have := HK2.out;omega
         case rel => exact ⟨(x7_2),(wrap64 (x8_1 + 1)),(by first|rfl|(simp;done)|(simp [*];done)),H',⟨by have := HK1.out;have := HK2.out;omega⟩,⟨by (with_reducible repeat (first|apply Kd.R_alloc|apply Kd.R_drewN|apply Kd.R_drew));exact HO_7.out⟩,⟨bb HB⟩⟩
     ·rw [if_neg c9] at H
      have c9b0 : decide (x8_1 < (l1.length : Int)) = false := decide_eq_false c9
      clear c9
      obtain rfl := Option.some.inj H
      go_wp2
      go_ret
      exact ⟨_,by first|rfl|(simp [errW_none,errW_some] <;> rfl)|(simp only [← hji4];first|rfl|(simp [errW_none,errW_some] <;> rfl))|(simp [*,errW_none,errW_some] <;> rfl),by (with_reducible repeat (first|apply Kd.R_alloc|apply Kd.R_drewN|apply Kd.R_drew));exact HO_7.out,bb HB⟩
  ·rw [if_neg c6] at H
   exact absurd H (by simp)
 ·rw [if_neg c5] at H
  exact absurd H (by simp)
mutual
def privityref21_Prove.l0 : Nat → Int → Int → List Int → List Int → List (List Int) → Int → Option ((List (List Int)) × List Int)
 | 0,_,_,_,_,_,_ => none
 | k + 1,x0,x1,x4,x12,x13,x14 => if x14 < x1 then ((some (([] : List Int) : List Int)).bind fun y357 => (if 0 ≤ (wrap64 (x14 * x1)) then (if (wrap64 (x14 * x1)) ≤ (wrap64 ((wrap64 (x14 + 1)) * x1)) then (if (wrap64 ((wrap64 (x14 + 1)) * x1)) ≤ (x4.length : Int) then (if y357.length + ((x4.take ((wrap64 ((wrap64 (x14 + 1)) * x1)) : Int).toNat).drop ((wrap64 (x14 * x1)) : Int).toNat).length < 17592186044416 then ((some (y357 ++ ((x4.take ((wrap64 ((wrap64 (x14 + 1)) * x1)) : Int).toNat).drop ((wrap64 (x14 * x1)) : Int).toNat) : List Int)).bind fun y361 => (if y361.length < 17592186044416 then (if x13.length < 5864062014805 then (privityref21_Prove.l0 k x0 x1 x4 x12 (x13 ++ [(y361 ++ [0])]) (wrap64 (x14 + 1))) else (none)) else (none))) else (none)) else (none)) else (none)) else (none))) else (privityref21_Prove.l1 k x0 x1 x12 x13 x1)
def privityref21_Prove.l1 : Nat → Int → Int → List Int → List (List Int) → Int → Option ((List (List Int)) × List Int)
 | 0,_,_,_,_,_ => none
 | k + 1,x0,x1,x12,x13,x16 => if x16 ≥ 1 then (if 0 ≤ (wrap64 (x16 - 1)) then (if (wrap64 (x16 - 1)) < (x13.length : Int) then (if 0 ≤ (wrap64 (x1 + x16)) then (if (wrap64 (x1 + x16)) < (x12.length : Int) then (if 0 ≤ x1 then (if x1 < ((rd_L4 x13 (wrap64 (x16 - 1))).length : Int) then (privityref21_Prove.l2 k x0 x1 x12 (x13.set ((wrap64 (x16 - 1)) : Int).toNat ((rd_L4 x13 (wrap64 (x16 - 1))).set (x1 : Int).toNat (rd x12 (wrap64 (x1 + x16))))) x16 0) else (none)) else (none)) else (none)) else (none)) else (none)) else (none)) else (if 0 ≤ (wrap64 (x1 + 1)) then (if (wrap64 (x1 + 1)) ≤ (x12.length : Int) then (some (x13,(x12.take ((wrap64 (x1 + 1)) : Int).toNat))) else (none)) else (none))
def privityref21_Prove.l2 : Nat → Int → Int → List Int → List (List Int) → Int → Int → Option ((List (List Int)) × List Int)
 | 0,_,_,_,_,_,_ => none
 | k + 1,x0,x1,x12,x13,x16,x17 => if x17 ≤ x1 then (if 0 ≤ (wrap64 (x16 + x17)) then (if (wrap64 (x16 + x17)) < (x12.length : Int) then (if 0 ≤ (wrap64 (x16 - 1)) then (if (wrap64 (x16 - 1)) < (x13.length : Int) then (if 0 ≤ x17 then (if x17 < ((rd_L4 x13 (wrap64 (x16 - 1))).length : Int) then ((privityref01_Sub.f x0 (rd x12 (wrap64 (x16 + x17))) (rd (rd_L4 x13 (wrap64 (x16 - 1))) x17)).bind fun t381 => (privityref21_Prove.l2 k x0 x1 (x12.set ((wrap64 (x16 + x17)) : Int).toNat t381) x13 x16 (wrap64 (x17 + 1)))) else (none)) else (none)) else (none)) else (none)) else (none)) else (none)) else (privityref21_Prove.l1 k x0 x1 x12 x13 (wrap64 (x16 - 1)))
end
def privityref21_Prove.f (k : Nat) (a0 : Int) (a1 : Int) (l2 : List Int) (l3 : List Int) (l4 : List Int) : Option ((List (List Int)) × List Int) := (privityref21_Mul.f k a0 l2 l3).bind fun t354 => (privityref21_Prove.l0 k a0 a1 l4 t354 ([] : List (List Int)) 0)
def privityref21_Prove.T11 : Bool × List (List Nat × List Nat) := (true,[([],[]),([],[]),([1],[1]),([0,2],[0,2]),([3],[3]),([],[]),([],[]),([],[]),([],[]),([7,8],[7,8]),([6,9],[6,9]),([10],[10]),([4,5,0,1,2,3,4,5,6,7,8,9,10,11],[4,5]),([12,11,0,1,2,3,4,5,6,7,8,9,10,11],[11,12])])
def privityref21_Prove.B11 : List Nat := [0,0,2,7,15,0,0,0,0,384,960,1984,4095,8191]
theorem privityref21_Prove.tab11 : rtab .any (opsOf Try.f61 11) = privityref21_Prove.T11 := by kernel_rfl
theorem privityref21_Prove.bits11 : waitsOk privityref21_Prove.T11.2 privityref21_Prove.B11 = true := by kernel_rfl
def privityref21_Prove.T15 : Bool × List (List Nat × List Nat) := (true,[([],[]),([],[]),([],[]),([1,2],[1,2]),([],[]),([],[]),([],[]),([],[]),([6,7],[6,7]),([5,8],[5,8]),([9],[9]),([],[]),([],[]),([12],[12]),([11,13],[11,13]),([14],[14]),([],[]),([15,16],[15,16]),([17],[17]),([4,10,18],[4,10,18]),([0,3,0,1,2,3,4,5,6,7,8,9,10,11,12,13,14,15,16,17,18,19],[0,3]),([20,19,19,0,1,2,3,4,5,6,7,8,9,10,11,12,13,14,15,16,17,18,19],[19,20])])
def privityref21_Prove.B15 : List Nat := [0,0,0,6,0,0,0,0,192,480,992,0,0,4096,14336,30720,0,129024,260096,524272,1048575,2097151]
theorem privityref21_Prove.tab15 : rtab .any (opsOf Try.f61 15) = privityref21_Prove.T15 := by kernel_rfl
theorem privityref21_Prove.bits15 : waitsOk privityref21_Prove.T15.2 privityref21_Prove.B15 = true := by kernel_rfl
set_option maxHeartbeats 8000000 in
set_option maxRecDepth 100000 in
theorem privityref21_Prove.calls (k : Nat) (a0 : Int) (a1 : Int) (A2 : Option Addr) (c2 : Nat) (l2 : List Int) (A3 : Option Addr) (c3 : Nat) (l3 : List Int) (A4 : Option Addr) (c4 : Nat) (l4 : List Int) (r1 : List (List Int)) (r2 : List Int) (w : World) (hr2 : Kd.C (Kd.int .u64) w A2 l2.length l2) (hc2 : l2.length ≤ c2) (hr3 : Kd.C (Kd.int .u64) w A3 l3.length l3) (hc3 : l3.length ≤ c3) (hr4 : Kd.C (Kd.int .u64) w A4 l4.length l4) (hc4 : l4.length ≤ c4) (h : privityref21_Prove.f k a0 a1 l2 l3 l4 = some (r1,r2)) :
  Calls Try.prog 61 #[.int .u64 a0,.int .i64 a1,.slice A2 l2.length c2,.slice A3 l3.length c3,.slice A4 l4.length c4] w fun e w' => ∃ v0_ v1_ : Value,e = .returned (.tuple #[v0_,v1_]) ∧ Kd.S (Kd.slice 22 (Kd.int .u64)) 26 w' w.heap.size (fun k_ => some k_ ≠ (v1_ : Value).ownBlock) v0_ r1 ∧ Kd.R (Kd.int .u64) 22 w' w.heap.size (fun _ => True) v1_ r2 ∧ Below w.heap.size w w' := by
 have HR2 := am hr2
 have HC2 := am hc2
 clear hr2 hc2
 have HR3 := am hr3
 have HC3 := am hc3
 clear hr3 hc3
 have HR4 := am hr4
 have HC4 := am hc4
 clear hr4 hc4
 have HB := am (Below.refl w.heap.size w)
 have H : ((privityref21_Mul.f k a0 l2 l3).bind fun t354 => (privityref21_Prove.l0 k a0 a1 l4 t354 ([] : List (List Int)) 0)) = some (r1,r2) := h
 clear h
 replace H := Option.bind_eq_some_iff.mp H
 obtain ⟨t354,A60,H⟩ := H
 try dsimp only at H
 have A6 := am A60
 clear A60
 have H' := am H
 clear H
 go_enter Try.func61,Try.ntmps61
 go_wp2_with (first|((with_reducible refine gate_callee (f := 90) rfl ?_);refine goesL_ (some 21) rfl rfl Try.func90 (by kernel_rfl) rfl #[.int .u64 a0,.slice A2 l2.length c2,.slice A3 l3.length c3] rfl (by (try simp only [List.map_toArray,List.map_cons,List.map_nil]);first|done|rfl|(simp only [List.length_drop,List.length_take];rfl)) ?_;(with_reducible refine (privityref21_Mul.calls k a0 _ _ l2 _ _ l3 t354 _ ?side1 ?side2 ?side3 ?side4 A6.out).mono ?_);(case side1 => repeat (first|exact HR2.out|(with_reducible refine Kd.C_alloc ?_ _)|(with_reducible refine Kd.C_drewN ?_ _)|(with_reducible refine Kd.C_drew ?_)));(case side2 => exact HC2.out);(case side3 => repeat (first|exact HR3.out|(with_reducible refine Kd.C_alloc ?_ _)|(with_reducible refine Kd.C_drewN ?_ _)|(with_reducible refine Kd.C_drew ?_)));(case side4 => exact HC3.out);rintro e w7 ⟨v355,rfl,ho0,hb⟩;refine ⟨_,rfl,?_⟩;have n0_ := am (Kd.R_lower ho0 (below_size (bb HB)));have n1_ := am (below_step (bb HB) hb);clear HB;have HO356 := n0_;have HB := n1_;clear n0_ n1_;(try clear hb);(try clear hb2);(try clear hk);(try clear hi);(try clear ho0)))
 go_loopg [13,14] k (fun kq v13 v14 w' => ∃ (x13_1 : List (List Int)) (x14_1 : Int),v14 = .int .i64 x14_1 ∧ Aside0 (privityref21_Prove.l0 kq a0 a1 l4 t354 x13_1 x14_1 = some (r1,r2)) ∧ Aside0 (kq ≤ k) ∧ Aside0 (Kd.R (Kd.int .u64) 22 w' w.heap.size (fun _ => True) v355 t354) ∧ Aside0 (Kd.S (Kd.slice 22 (Kd.int .u64)) 26 w' w.heap.size (fun k_ => some k_ ≠ (v355 : Value).ownBlock) v13 x13_1) ∧ Aside0 (Below w.heap.size w w'))
 case atStart => exact ⟨(([] : List (List Int))),(0),(by first|rfl|(simp;done)|(simp [*];done)),H',⟨Nat.le_refl _⟩,⟨by (with_reducible repeat (first|apply Kd.R_alloc|apply Kd.R_drewN|apply Kd.R_drew));exact HO356.out⟩,⟨by first|exact Kd.S_nil _ _ _ _ _|exact Kd.N_nil _ _ _ _ _|exact Kd.V_nil _ _ _ _ _|exact Kd.Q_nil _ _ _ _ _|exact Kd.R_nil _ _ _ _ _⟩,⟨bb HB⟩⟩
 case round =>
  clear H'
  try clear c2
  try clear p2
  try clear c3
  try clear c4
  try clear c6
  obtain ⟨x13_1,x14_1,rfl,HA,HK1,HO_12,HO_13,HB⟩ := hrel
  cases gk with
  | zero => exact absurd HA.out (by simp [privityref21_Prove.l0])
  | succ k1 =>
   have H := HA.out
   clear HA
   simp only [privityref21_Prove.l0] at H
   by_cases c8 : x14_1 < a1
   ·rw [if_pos c8] at H
    have c8b0 : decide (x14_1 < a1) = true := decide_eq_true c8
    clear c8
    obtain ⟨y357,hy357⟩ : ∃ y_ : List Int,y_ = (([] : List Int)) := ⟨_,rfl⟩
    replace H : (if 0 ≤ (wrap64 (x14_1 * a1)) then (if (wrap64 (x14_1 * a1)) ≤ (wrap64 ((wrap64 (x14_1 + 1)) * a1)) then (if (wrap64 ((wrap64 (x14_1 + 1)) * a1)) ≤ (l4.length : Int) then (if y357.length + ((l4.take ((wrap64 ((wrap64 (x14_1 + 1)) * a1)) : Int).toNat).drop ((wrap64 (x14_1 * a1)) : Int).toNat).length < 17592186044416 then ((some (y357 ++ ((l4.take ((wrap64 ((wrap64 (x14_1 + 1)) * a1)) : Int).toNat).drop ((wrap64 (x14_1 * a1)) : Int).toNat) : List Int)).bind fun y361 => (if y361.length < 17592186044416 then (if x13_1.length < 5864062014805 then (privityref21_Prove.l0 k1 a0 a1 l4 t354 (x13_1 ++ [(y361 ++ [0])]) (wrap64 (x14_1 + 1))) else (none)) else (none))) else (none)) else (none)) else (none)) else (none)) = some (r1,r2) := by first|(rw [hy357];with_reducible exact H)|(have H2_ := (Option.bind_some _ _).symm.trans H;rw [hy357];with_reducible exact H2_)|(have H2_ := (Option.bind_some _ _).symm.trans H;with_reducible exact H2_)|with_reducible exact H|(rw [hy357];exact H)|exact H
    have Ny357 := am hy357
    clear hy357
    obtain ⟨ji9,hji9⟩ : ∃ j_ : Int,(wrap64 (x14_1 * a1)) = j_ := ⟨_,rfl⟩
    first|rw [hji9] at H|simp only [hji9] at H
    have hji9w : (IntKind.i64.wrap (x14_1 * a1)) = ji9 := (i64_w _).trans hji9
    by_cases c10 : 0 ≤ (ji9)
    ·rw [if_pos c10] at H
     have c10b0 := eq_true c10
     have c10b1 : decide (0 ≤ (ji9)) = true := decide_eq_true c10
     clear c10
     by_cases c11 : (ji9) ≤ (wrap64 ((wrap64 (x14_1 + 1)) * a1))
     ·rw [if_pos c11] at H
      have c11b0 := eq_true c11
      have c11b1 : decide ((ji9) ≤ (wrap64 ((wrap64 (x14_1 + 1)) * a1))) = true := decide_eq_true c11
      by_cases c12 : (wrap64 ((wrap64 (x14_1 + 1)) * a1)) ≤ (l4.length : Int)
      ·rw [if_pos c12] at H
       have c12b0 := eq_true c12
       have c12b1 : decide ((wrap64 ((wrap64 (x14_1 + 1)) * a1)) ≤ (l4.length : Int)) = true := decide_eq_true c12
       by_cases c13 : y357.length + ((l4.take ((wrap64 ((wrap64 (x14_1 + 1)) * a1)) : Int).toNat).drop ((ji9) : Int).toNat).length < 17592186044416
       ·rw [if_pos c13] at H
        have LMc13 := am c13
        clear c13
        obtain ⟨y361,hy361⟩ : ∃ y_ : List Int,y_ = (y357 ++ ((l4.take ((wrap64 ((wrap64 (x14_1 + 1)) * a1)) : Int).toNat).drop ((ji9) : Int).toNat)) := ⟨_,rfl⟩
        replace H : (if y361.length < 17592186044416 then (if x13_1.length < 5864062014805 then (privityref21_Prove.l0 k1 a0 a1 l4 t354 (x13_1 ++ [(y361 ++ [0])]) (wrap64 (x14_1 + 1))) else (none)) else (none)) = some (r1,r2) := by first|(rw [hy361];with_reducible exact H)|(have H2_ := (Option.bind_some _ _).symm.trans H;rw [hy361];with_reducible exact H2_)|(have H2_ := (Option.bind_some _ _).symm.trans H;with_reducible exact H2_)|with_reducible exact H|(rw [hy361];exact H)|exact H
        have Ny361 := am hy361
        clear hy361
        by_cases c14 : y361.length < 17592186044416
        ·rw [if_pos c14] at H
         have LMc14 := am c14
         clear c14
         obtain ⟨y364,hy364⟩ : ∃ y_ : List Int,y_ = (y361 ++ [0]) := ⟨_,rfl⟩
         replace H : (if x13_1.length < 5864062014805 then (privityref21_Prove.l0 k1 a0 a1 l4 t354 (x13_1 ++ [y364]) (wrap64 (x14_1 + 1))) else (none)) = some (r1,r2) := by first|(rw [hy364];with_reducible exact H)|(have H2_ := (Option.bind_some _ _).symm.trans H;rw [hy364];with_reducible exact H2_)|(have H2_ := (Option.bind_some _ _).symm.trans H;with_reducible exact H2_)|with_reducible exact H|(rw [hy364];exact H)|exact H
         have Ny364 := am hy364
         clear hy364
         by_cases c15 : x13_1.length < 5864062014805
         ·rw [if_pos c15] at H
          have LMc15 := am c15
          clear c15
          obtain ⟨y367,hy367⟩ : ∃ y_ : List (List Int),y_ = (x13_1 ++ [y364]) := ⟨_,rfl⟩
          replace H : (privityref21_Prove.l0 k1 a0 a1 l4 t354 y367 (wrap64 (x14_1 + 1))) = some (r1,r2) := by first|(rw [hy367];with_reducible exact H)|(have H2_ := (Option.bind_some _ _).symm.trans H;rw [hy367];with_reducible exact H2_)|(have H2_ := (Option.bind_some _ _).symm.trans H;with_reducible exact H2_)|with_reducible exact H|(rw [hy367];exact H)|exact H
          have Ny367 := am hy367
          clear hy367
          have H' := am H
          clear H
          go_wp2_with (first|((with_reducible refine gate_dst (N := 27) rfl ?_);refine Kd.R_lit (Kd.int .u64) _ 22 ?hg (N := 27) ?hd (xs := ([] : List Int)) (inner := []) (ok := fun _ => True) (okp := fun _ => True) ?hr ?hp (fun _ hk => hk) trivial (Below.refl _ _) (Nat.le_refl _) (by simp) ?_;(case hd => rfl);(case hg => rfl);(case hr => first|(go_simp;done)|(go_simp;rfl));(case hp => exact (Reps.none _ _));intro v358 w16 ho17 hb hg_ hnew_;clear hg_ hnew_;(first|rw [← Ny357.out] at ho17|(simp only [Int.reduceToNat] at ho17;rw [← Ny357.out] at ho17));have n0_ := am (Kd.R_elder' (rr HO_12) (Kd.R_base ho17) hb);have n1_ := am (Kd.S_elder' (by (with_reducible repeat (first|apply Kd.S_alloc|apply Kd.S_drewN|apply Kd.S_drew));exact HO_13.out) (Kd.R_base ho17) hb);have n2_ := am (Kd.R_lower (Kd.R_new' ho17 (Kd.R_lt (rr HO_12))) (below_size (bb HB)));have n3_ := am (below_step (bb HB) hb);clear HO_12 HO_13 HB;have HO_12 := n0_;have HO_13 := n1_;have HO359 := n2_;have HB := n3_;clear n0_ n1_ n2_ n3_;clear hb ho17;obtain ⟨i018,hi018,_,hsz18,_⟩ := info_parts info22;obtain ⟨A18,hcut18,hA18,hC18⟩ := print_mid_of (P := Try.prog) (Value.int .u64) 0 26 22 .i64 .i64 Try.underlying26 hi018 hsz18 A4 c4 l4 (ji9) (wrap64 ((wrap64 (x14_1 + 1)) * a1)) (od) (by first|omega|exact od) (od) HC4.out;have HR360 := am (Kd.C_of_reads (h1 := fun _ => rfl) (hA18 _ (Kd.reads_of_C HR4.out)));have HC360 := am hC18;clear hA18 hC18 hi018 hsz18)|((with_reducible refine gate_builtin (b := .append) (xs := #[.tmp 27,.tmp 36]) rfl ?_);at_builtin;refine Kd.R_append_rows (Kd.int .u64) (w0 := w) w.heap.size rfl (.tmp 27) (.tmp 36) 26 22 (.int .u64 0) 8 rfl Try.underlying26 info22 rfl (by decide) (by omega) v358 y357 ((l4.take ((wrap64 ((wrap64 (x14_1 + 1)) * a1)) : Int).toNat).drop ((ji9) : Int).toNat) _ _ _ (fun k_ => some k_ ≠ (v355 : Value).ownBlock) (fun _ => False) rfl rfl ?aO ?aR (fun _ _ h => h) (fun _ h => h.elim) ?aF ?aB ?aS ?aL ?_;(case aR => first|(refine cut_cast (show ((l4.take ((wrap64 ((wrap64 (x14_1 + 1)) * a1)) : Int).toNat).drop ((ji9) : Int).toNat).length = ((wrap64 ((wrap64 (x14_1 + 1)) * a1)).toNat - (ji9).toNat) from (by rw [List.length_drop,List.length_take];have h_ : ((wrap64 ((wrap64 (x14_1 + 1)) * a1)) : Int) ≤ (l4.length : Int) := od;omega)) ?_;repeat (first|exact (Kd.C_below HR360.out HB.out)|(with_reducible refine Kd.C_alloc ?_ _)|(with_reducible refine Kd.C_drewN ?_ _)|(with_reducible refine Kd.C_drew ?_)))|(repeat (first|exact (Kd.C_below HR360.out HB.out)|(with_reducible refine Kd.C_alloc ?_ _)|(with_reducible refine Kd.C_drewN ?_ _)|(with_reducible refine Kd.C_drew ?_))));(case aB => exact (bb HB));(case aF => exact (fun k_ hk => Kd.fresh' (Kd.R_lt (rr HO_12)) k_ hk));(case aO => exact (by (with_reducible repeat (first|apply Kd.R_alloc|apply Kd.R_drewN|apply Kd.R_drew));exact Kd.R_mono HO359.out (fun _ hk => hk.2)));(case aS => exact (below_size (bb HB)));(case aL => have := LMc13.out;have hlx_ := (show ((l4.take ((wrap64 ((wrap64 (x14_1 + 1)) * a1)) : Int).toNat).drop ((ji9) : Int).toNat).length = ((wrap64 ((wrap64 (x14_1 + 1)) * a1)).toNat - (ji9).toNat) from (by rw [List.length_drop,List.length_take];have h_ : ((wrap64 ((wrap64 (x14_1 + 1)) * a1)) : Int) ≤ (l4.length : Int) := od;omega));omega);intro v362 w19 ho hb hg hat;rw [← Ny361.out] at ho;have n0_ := am (Kd.R_after (ok := (fun _ => True)) (rr HO_12) hg hat);have n1_ := am (Kd.S_after (ok := (fun k_ => some k_ ≠ (v355 : Value).ownBlock)) (by (with_reducible repeat (first|apply Kd.S_alloc|apply Kd.S_drewN|apply Kd.S_drew));exact HO_13.out) hg hat);have n2_ := am (hb);have n3_ := am (ho);clear HO_12 HO_13 HB HO359;have HO_12 := n0_;have HO_13 := n1_;have HB := n2_;have HO363 := n3_;clear n0_ n1_ n2_ n3_;clear ho hb hg hat)|((with_reducible refine gate_builtin (b := .append) (xs := #[.tmp 39,.tmp 40]) rfl ?_);at_builtin;refine Kd.R_append (Kd.int .u64) (w0 := w) w.heap.size rfl (.tmp 39) (.tmp 40) 26 22 (.int .u64 0) 8 rfl Try.underlying26 info22 rfl (by decide) (by omega) v362 y361 0 [.int .u64 0] (fun k_ => some k_ ≠ (v355 : Value).ownBlock) (fun _ => False) rfl rfl ?aP (fun _ hk => hk.elim) ?aF ?aO ?aB ?aS ?aL ?_;(case aP => exact rfl);(case aB => exact (bb HB));(case aF => exact (fun k_ hk => Kd.fresh' (Kd.R_lt (rr HO_12)) k_ hk));(case aO => exact (rr HO363));(case aS => exact (below_size (bb HB)));(case aL => have := LMc14.out;omega);intro v365 w20 ho hb hg hat;rw [← Ny364.out] at ho;have n0_ := am (Kd.R_after (ok := (fun _ => True)) (rr HO_12) hg hat);have n1_ := am (Kd.S_after (ok := (fun k_ => some k_ ≠ (v355 : Value).ownBlock)) (by (with_reducible repeat (first|apply Kd.S_alloc|apply Kd.S_drewN|apply Kd.S_drew));exact HO_13.out) hg hat);have n2_ := am (hb);have n3_ := am (ho);clear HO_12 HO_13 HB HO363;have HO_12 := n0_;have HO_13 := n1_;have HB := n2_;have HO366 := n3_;clear n0_ n1_ n2_ n3_;clear ho hb hg hat;obtain ⟨Ao22,co22,eo22⟩ := Kd.R_slice HO366.out;subst eo22)|((with_reducible refine gate_builtin (b := .append) (xs := #[.tmp 38,.tmp 42]) rfl ?_);at_builtin;refine Kd.S_append (Kd.slice 22 (Kd.int .u64)) (w0 := w) w.heap.size rfl (.tmp 38) (.tmp 42) 34 26 (.slice none 0 0) 24 rfl Try.underlying34 info26 rfl (by decide) (by omega) u13 x13_1 y364 [.slice Ao22 y364.length co22] (fun k_ => some k_ ≠ (v355 : Value).ownBlock) (fun k_ => some k_ = (.slice Ao22 y364.length co22 : Value).ownBlock) rfl rfl ?aP (fun k_ hk_ => ((Kd.R_mono (ok' := fun k_ => ((fun k_ => some k_ ≠ (v355 : Value).ownBlock)) k_ ∧ some k_ ≠ (u13 : Value).ownBlock) (Kd.R_apart' (HO366.out) (Kd.S_typed HO_13.out) (by decide)) (fun k_ hk => ⟨hk.1,hk.2⟩))).1 k_ hk_.symm) ?aF ?aO ?aB ?aS ?aL ?_;(case aP => exact Kd.M_row (Kd.R_mono (Kd.R_tight rfl (Kd.R_mono (ok' := fun k_ => ((fun k_ => some k_ ≠ (v355 : Value).ownBlock)) k_ ∧ some k_ ≠ (u13 : Value).ownBlock) (Kd.R_apart' (HO366.out) (Kd.S_typed HO_13.out) (by decide)) (fun k_ hk => ⟨hk.1,hk.2⟩))) (fun _ h_ => h_)));(case aB => exact (bb HB));(case aF => exact (fun k_ hk => Kd.fresh' (Kd.R_lt (rr HO_12)) k_ hk));(case aO => exact (by (with_reducible repeat (first|apply Kd.S_alloc|apply Kd.S_drewN|apply Kd.S_drew));exact Kd.S_mono HO_13.out (fun k_ hk => ⟨hk.1,fun e_ => hk.2 e_⟩)));(case aS => exact (below_size (bb HB)));(case aL => have := LMc15.out;omega);intro v368 w21 ho hb hg hat;rw [← Ny367.out] at ho;have n0_ := am (Kd.R_over' (rr HO_12) (Kd.S_typed (by (with_reducible repeat (first|apply Kd.S_alloc|apply Kd.S_drewN|apply Kd.S_drew));exact HO_13.out)) (by decide) hg);have n1_ := am (hb);have n2_ := am (ho);clear HO_12 HB HO_13 HO366;have HO_12 := n0_;have HB := n1_;have HO369 := n2_;clear n0_ n1_ n2_;clear ho hb hg hat))
          go_roundg k1
          case measure => have := HK1.out;omega
          case rel => exact ⟨(y367),(wrap64 (x14_1 + 1)),(by first|rfl|(simp;done)|(simp [*];done)),(by first|exact H'|(simp only [hji42];exact H')),⟨by have := HK1.out;omega⟩,⟨by (with_reducible repeat (first|apply Kd.R_alloc|apply Kd.R_drewN|apply Kd.R_drew));exact Kd.R_mono HO_12.out (fun _ hk => trivial)⟩,⟨by (with_reducible repeat (first|apply Kd.S_alloc|apply Kd.S_drewN|apply Kd.S_drew));exact HO369.out⟩,⟨bb HB⟩⟩
         ·rw [if_neg c15] at H
          exact absurd H (by simp)
        ·rw [if_neg c14] at H
         exact absurd H (by simp)
       ·rw [if_neg c13] at H
        exact absurd H (by simp)
      ·rw [if_neg c12] at H
       exact absurd H (by simp)
     ·rw [if_neg c11] at H
      exact absurd H (by simp)
    ·rw [if_neg c10] at H
     exact absurd H (by simp)
   ·rw [if_neg c8] at H
    have c8b0 : decide (x14_1 < a1) = false := decide_eq_false c8
    clear c8
    have H' := am H
    clear H
    go_wp2
    go_loopg [16] k1 (fun kq v16 w' => ∃ (x12_2 : List Int) (x13_2 : List (List Int)) (x16_2 : Int),v16 = .int .i64 x16_2 ∧ Aside0 (privityref21_Prove.l1 kq a0 a1 x12_2 x13_2 x16_2 = some (r1,r2)) ∧ Aside0 (kq ≤ k1) ∧ Aside0 (Kd.R (Kd.int .u64) 22 w' w.heap.size (fun _ => True) v355 x12_2) ∧ Aside0 (Kd.S (Kd.slice 22 (Kd.int .u64)) 26 w' w.heap.size (fun k_ => some k_ ≠ (v355 : Value).ownBlock) u13 x13_2) ∧ Aside0 (Below w.heap.size w w'))
    case atStart => exact ⟨(t354),(x13_1),(a1),(by first|rfl|(simp;done)|(simp [*];done)),H',⟨Nat.le_refl _⟩,⟨by (with_reducible repeat (first|apply Kd.R_alloc|apply Kd.R_drewN|apply Kd.R_drew));exact HO_12.out⟩,⟨by (with_reducible repeat (first|apply Kd.S_alloc|apply Kd.S_drewN|apply Kd.S_drew));exact HO_13.out⟩,⟨bb HB⟩⟩
    case round =>
     clear H'
     try clear c1
     try clear c2
     try clear p2
     try clear c3
     try clear c4
     try clear c6
     try clear p6
     try clear c8
     try clear c8b0
     try clear c9
     try clear c10
     try clear c10b0
     try clear c10b1
     try clear c11
     try clear c11b0
     try clear c11b1
     try clear c12
     try clear c12b0
     try clear c12b1
     try clear c13
     try clear c14
     try clear c15
     try clear p2
     obtain ⟨x12_2,x13_2,x16_2,rfl,HA,HK2,HO_12,HO_13,HB⟩ := hrel
     cases gk with
     | zero => exact absurd HA.out (by simp [privityref21_Prove.l1])
     | succ k2 =>
      have H := HA.out
      clear HA
      simp only [privityref21_Prove.l1] at H
      by_cases c23 : x16_2 ≥ 1
      ·rw [if_pos c23] at H
       have c23b0 : decide (1 ≤ x16_2) = true := decide_eq_true c23
       clear c23
       obtain ⟨ji24,hji24⟩ : ∃ j_ : Int,(wrap64 (x16_2 - 1)) = j_ := ⟨_,rfl⟩
       first|rw [hji24] at H|simp only [hji24] at H
       have hji24w : (IntKind.i64.wrap (x16_2 - 1)) = ji24 := (i64_w _).trans hji24
       by_cases c25 : 0 ≤ (ji24)
       ·rw [if_pos c25] at H
        have c25b0 : decide (0 ≤ (ji24)) = true := decide_eq_true c25
        clear c25
        by_cases c26 : (ji24) < (x13_2.length : Int)
        ·rw [if_pos c26] at H
         have c26b0 : decide ((ji24) < (x13_2.length : Int)) = true := decide_eq_true c26
         clear c26
         obtain ⟨ji27,hji27⟩ : ∃ j_ : Int,(wrap64 (a1 + x16_2)) = j_ := ⟨_,rfl⟩
         first|rw [hji27] at H|simp only [hji27] at H
         have hji27w : (IntKind.i64.wrap (a1 + x16_2)) = ji27 := (i64_w _).trans hji27
         by_cases c28 : 0 ≤ (ji27)
         ·rw [if_pos c28] at H
          have c28b0 : decide (0 ≤ (ji27)) = true := decide_eq_true c28
          clear c28
          by_cases c29 : (ji27) < (x12_2.length : Int)
          ·rw [if_pos c29] at H
           have c29b0 : decide ((ji27) < (x12_2.length : Int)) = true := decide_eq_true c29
           clear c29
           by_cases c30 : 0 ≤ a1
           ·rw [if_pos c30] at H
            have c30b0 : decide (0 ≤ a1) = true := decide_eq_true c30
            clear c30
            by_cases c31 : a1 < ((rd_L4 x13_2 (ji24)).length : Int)
            ·rw [if_pos c31] at H
             have c31b0 : decide (a1 < ((rd_L4 x13_2 (ji24)).length : Int)) = true := decide_eq_true c31
             clear c31
             obtain ⟨y375,hy375⟩ : ∃ y_ : List Int,y_ = ((rd_L4 x13_2 (ji24)).set (a1 : Int).toNat (rd x12_2 (ji27))) := ⟨_,rfl⟩
             replace H : (privityref21_Prove.l2 k2 a0 a1 x12_2 (x13_2.set ((ji24) : Int).toNat y375) x16_2 0) = some (r1,r2) := by first|(rw [hy375];with_reducible exact H)|(have H2_ := (Option.bind_some _ _).symm.trans H;rw [hy375];with_reducible exact H2_)|(have H2_ := (Option.bind_some _ _).symm.trans H;with_reducible exact H2_)|with_reducible exact H|(rw [hy375];exact H)|exact H
             have Ny375 := am hy375
             clear hy375
             obtain ⟨y377,hy377⟩ : ∃ y_ : List (List Int),y_ = (x13_2.set ((ji24) : Int).toNat y375) := ⟨_,rfl⟩
             replace H : (privityref21_Prove.l2 k2 a0 a1 x12_2 y377 x16_2 0) = some (r1,r2) := by first|(rw [hy377];with_reducible exact H)|(have H2_ := (Option.bind_some _ _).symm.trans H;rw [hy377];with_reducible exact H2_)|(have H2_ := (Option.bind_some _ _).symm.trans H;with_reducible exact H2_)|with_reducible exact H|(rw [hy377];exact H)|exact H
             have Ny377 := am hy377
             clear hy377
             have H' := am H
             clear H
             try go_wp2
             have n0_ := am (Kd.R_drew HO_12.out)
             have n1_ := am (Kd.S_drew HO_13.out)
             have n2_ := am (below_drew1 HB.out)
             clear HO_12
             clear HO_13
             clear HB
             have HO_12 := n0_
             have HO_13 := n1_
             have HB := n2_
             clear n0_ n1_ n2_
             obtain ⟨Ao34,co34,eo34⟩ := Kd.S_slice HO_13.out
             (first|subst eo34|(injection eo34 with f1_ f2_ f3_;have f4_ := f1_.symm;have f5_ := f3_.symm;clear f1_ f2_ f3_;subst f4_;subst f5_))
             have p373 : 0 ≤ ((ji24) : Int) := od
             have q373 : (ji24) < (x13_2.length : Int) := od
             obtain ⟨ad373,A373_0,c373_0,e373,hx373_0,hl373_0,hi373_0⟩ := at_L4 (Kd.S_reads' HO_13.out).2.2 (ji24) p373 q373
             cases e373
             obtain ⟨ce373,hce373,hMe373,hcc373⟩ := Kd.S_get HO_13.out [] (ji24) p373 (by first|exact q373|exact od|(have e_ := (Kd.S_reads' HO_13.out).1;omega))
             obtain ⟨ve373_0,rfl,ge373_0⟩ := hMe373
             have hv373_0 := hcc373 0 _ rfl
             rw [Nat.add_zero,show ((Kd.slice 22 (Kd.int .u64))).sz = 1 from rfl,Nat.mul_one] at hv373_0
             replace hv373_0 := Option.some.inj (hv373_0.symm.trans hx373_0)
             rw [hv373_0] at ge373_0
             have HL373_0 := am (show Kd.R (Kd.int .u64) 22 _ _ _ _ (rd_L4 x13_2 (ji24)) from ge373_0)
             clear hv373_0 ge373_0
             have HX373_0 := am hx373_0
             clear hcc373 hce373
             have HR373_0 := am hi373_0
             have HC373_0 := am hl373_0
             clear hi373_0 hl373_0
             replace p373 := eq_true p373
             replace q373 := eq_true q373
             obtain ⟨Ao35,co35,eo35⟩ := Kd.R_slice HO_12.out
             (first|subst eo35|(injection eo35 with f1_ f2_ f3_;have f4_ := f1_.symm;have f5_ := f3_.symm;clear f1_ f2_ f3_;subst f4_;subst f5_))
             have p374 : 0 ≤ ((ji27) : Int) := od
             have q374 : (ji27) < (x12_2.length : Int) := od
             obtain ⟨ad374,e374,hx374_0⟩ := Kd.at_int (Kd.R_reads' HO_12.out).2.2 (ji27) p374 q374
             cases e374
             replace p374 := eq_true p374
             replace q374 := eq_true q374
             have p32 : 0 ≤ (a1 : Int) := od
             have q32 : (a1 : Int) < (((rd_L4 x13_2 (ji24)).length : Int) : Int) := od
             obtain ⟨go32,co32,eo32,gb32,gl32,cl32,HG32⟩ := Kd.R_form HL373_0.out (by omega)
             (first|cases eo32|(injection eo32 with ea_ en_ ec_;(first|subst ea_|(injection ea_ with ea_;subst ea_));subst ec_;clear en_))
             have GB32 := am gb32
             have GG32 := am HG32
             clear gb32 gl32 HG32
             obtain ⟨hx32_0,hf32_0⟩ := Kd.R_celln 0 HL373_0.out (a1 : Int) p32 q32
             replace p32 := eq_true p32
             replace q32 := eq_true q32
             have hq36 : ((ji24) : Int) < (x13_2.length : Int) := (by have h_ : ((ji24) : Int) < ((x13_2.length : Int) : Int) := od;first|exact h_|(have e_ := (Kd.S_reads' HO_13.out).1;omega)|simpa only [List.length_set,List.length_set] using h_)
             obtain ⟨oki36,ce36,hcl36,hM36,hcc36,hok36,hbk36⟩ := Kd.S_borrow HO_13.out [] ((ji24) : Int) (od) hq36
             obtain ⟨ve36_0,rfl,ge36_0⟩ := hM36
             have hv36 := hcc36 0 _ rfl
             rw [Nat.add_zero,show ((Kd.slice 22 (Kd.int .u64))).sz = 1 from rfl,Nat.mul_one] at hv36
             replace hv36 := Option.some.inj (hv36.symm.trans HX373_0.out)
             subst hv36
             clear hcc36 hcl36
             replace ge36_0 := (show Kd.R (Kd.int .u64) 22 _ _ _ _ (rd_L4 x13_2 (ji24)) from ge36_0)
             have HP36 := Kd.R_putg ge36_0 (a1 : Int) (rd x12_2 (ji27))
             rw [← Ny375.out] at HP36
             have HS36 := hbk36 HP36.2 (fun k_ e_ => by injection e_ with e_;subst e_;exact ge36_0.1 _ rfl) (x' := y375) (Kd.M_row HP36.1)
             rw [← Ny377.out] at HS36
             have HQ36 := am HS36
             clear HP36 HS36 hbk36 hok36
             refine start_ (n := 14) (S := fun w' => w'.cell? (ad373.add ((ji24)).toNat) = some (.slice (some ⟨go32,0,none⟩) (rd_L4 x13_2 (ji24)).length c373_0) ∧ w'.cell? (ad374.add ((ji27)).toNat) = some (.int .u64 (rd x12_2 (ji27)))) (ds := [13]) (bz 14 0) (by kernel_rfl) rfl rfl ⟨hx373_0,hx374_0⟩ (fun hHeld => ?_);refine with_tabW privityref21_Prove.tab11 privityref21_Prove.bits11 (fun HT_ HW_ => ?_)
             generalize wr.drew = w33 at HO_12 HO_13 HB GG32 HL373_0 HQ36 HR373_0 HX373_0 hf32_0 hx32_0 hx373_0 hx374_0 hHeld ⊢
             refine pk 0 49 (bz 14 1) HT_ ?_
             refine pk 1 50 (bz 14 3) HT_ ?_
             refine pk 2 51 (bz 14 7) HT_ ?_
             refine pk 3 52 (bz 14 15) HT_ ?_
             refine pk 5 54 (bz 14 47) HT_ ?_
             refine pk 6 55 (bz 14 111) HT_ ?_
             refine pk 7 56 (bz 14 239) HT_ ?_
             refine pk 8 57 (bz 14 495) HT_ ?_
             refine pk 9 58 (bz 14 1007) HT_ ?_
             refine pk 10 59 (bz 14 2031) HT_ ?_
             refine tk 4 53 (bz 14 2047) HT_ HW_ hHeld ?_
             refine tk 11 60 (bz 14 4095) HT_ HW_ hHeld ?_
             refine pk 12 61 (bz 14 8191) HT_ ?_
             refine last_ (i := 13) (N := none) (bz 14 16383) rfl rfl (one_of HT_.out (by kernel_rfl)) (by decide) (fun K hK => ?_)
             refine skip_ (w1 := ?_) (by rfl) rfl ?_ ?_
             rotate_left
             ·go_simp
              rfl
             refine hK.out _ _ ?_
             clear hK K
             refine done_ (done_of HT_.out (by kernel_rfl)) ?_
             try go_wp2
             go_loopg [17] k2 (fun kq v17 w' => ∃ (x12_3 : List Int) (x17_3 : Int),v17 = .int .i64 x17_3 ∧ Aside0 (privityref21_Prove.l2 kq a0 a1 x12_3 y377 x16_2 x17_3 = some (r1,r2)) ∧ Aside0 (kq ≤ k2) ∧ Aside0 (Kd.R (Kd.int .u64) 22 w' w.heap.size (fun _ => True) (.slice (some ad374) x12_2.length co35) x12_3) ∧ Aside0 (Kd.S (Kd.slice 22 (Kd.int .u64)) 26 w' w.heap.size (fun k_ => some k_ ≠ ((.slice (some ad374) x12_2.length co35) : Value).ownBlock) (.slice (some ad373) x13_2.length co34) y377) ∧ Aside0 (Below w.heap.size w w'))
             case atStart => exact ⟨(x12_2),(0),(by first|rfl|(simp;done)|(simp [*];done)),H',⟨Nat.le_refl _⟩,⟨by (with_reducible repeat (first|apply Kd.R_alloc|apply Kd.R_drewN|apply Kd.R_drew));exact Kd.R_mono (Kd.R_far (p := ⟨go32,(a1 : Int).toNat,none⟩) (Kd.R_far1 HO_12.out rfl ((HL373_0.out.1 _ rfl).1)) (fun _ hk => hk.2) (.int .u64 (rd x12_2 (ji27)))) (fun _ hk => trivial)⟩,⟨by (with_reducible repeat (first|apply Kd.S_alloc|apply Kd.S_drewN|apply Kd.S_drew));exact HQ36.out⟩,⟨by repeat (first|(with_reducible first|exact HB.out|apply below_alloc|apply pw_below_drewN|apply below_drew1|refine below_set ?_ GB32.out)|exact HB.out)⟩⟩
             case round =>
              clear H'
              try clear c1
              try clear c2
              try clear p2
              try clear c3
              try clear p3
              try clear q3
              try clear hx3
              try clear c4
              try clear c6
              try clear p6
              try clear c8
              try clear c8b0
              try clear c9
              try clear c10
              try clear c10b0
              try clear c10b1
              try clear c11
              try clear c11b0
              try clear c11b1
              try clear c12
              try clear c12b0
              try clear c12b1
              try clear c13
              try clear c14
              try clear c15
              try clear c23
              try clear c23b0
              try clear c25
              try clear c25b0
              try clear c26
              try clear c26b0
              try clear c28
              try clear c28b0
              try clear c29
              try clear c29b0
              try clear c30
              try clear c30b0
              try clear c31
              try clear c31b0
              try clear p32
              try clear q32
              try clear hx32
              try clear hf32
              try clear c36
              try clear q36
              try clear c37
              try clear p37
              try clear q37
              try clear hx37
              try clear hx32_0
              try clear hx373_0
              try clear hx374_0
              try clear p2
              try clear p32
              try clear p373
              try clear p374
              try clear p6
              try clear q32
              try clear q373
              try clear q374
              obtain ⟨x12_3,x17_3,rfl,HA,HK3,HO_12,HO_13,HB⟩ := hrel
              have hl12_3 := (Kd.R_reads' HO_12.out).1
              rw [hl12_3] at HO_12
              (try simp only [hl12_3])
              (try simp only [hl12_3] at HO_13)
              have hl13_3 := (Kd.S_reads' HO_13.out).1
              rw [hl13_3] at HO_13
              (try simp only [hl13_3])
              (try simp only [hl13_3] at HO_12)
              cases gk with
              | zero => exact absurd HA.out (by simp [privityref21_Prove.l2])
              | succ k3 =>
               have H := HA.out
               clear HA
               simp only [privityref21_Prove.l2] at H
               by_cases c38 : x17_3 ≤ a1
               ·rw [if_pos c38] at H
                have c38b0 : decide (x17_3 ≤ a1) = true := decide_eq_true c38
                clear c38
                obtain ⟨ji39,hji39⟩ : ∃ j_ : Int,(wrap64 (x16_2 + x17_3)) = j_ := ⟨_,rfl⟩
                first|rw [hji39] at H|simp only [hji39] at H
                have hji39w : (IntKind.i64.wrap (x16_2 + x17_3)) = ji39 := (i64_w _).trans hji39
                by_cases c40 : 0 ≤ (ji39)
                ·rw [if_pos c40] at H
                 have c40b0 : decide (0 ≤ (ji39)) = true := decide_eq_true c40
                 clear c40
                 by_cases c41 : (ji39) < (x12_3.length : Int)
                 ·rw [if_pos c41] at H
                  have c41b0 : decide ((ji39) < (x12_3.length : Int)) = true := decide_eq_true c41
                  clear c41
                  obtain ⟨ji42,hji42⟩ : ∃ j_ : Int,(wrap64 (x16_2 - 1)) = j_ := ⟨_,rfl⟩
                  first|rw [hji42] at H|simp only [hji42] at H
                  have hji42w : (IntKind.i64.wrap (x16_2 - 1)) = ji42 := (i64_w _).trans hji42
                  try (obtain rfl : ji42 = ji24 := hji42.symm.trans hji24)
                  by_cases c43 : 0 ≤ (ji42)
                  ·rw [if_pos c43] at H
                   have c43b0 : decide (0 ≤ (ji42)) = true := decide_eq_true c43
                   clear c43
                   by_cases c44 : (ji42) < (y377.length : Int)
                   ·rw [if_pos c44] at H
                    have c44b0 : decide ((ji42) < (y377.length : Int)) = true := decide_eq_true c44
                    clear c44
                    by_cases c45 : 0 ≤ x17_3
                    ·rw [if_pos c45] at H
                     have c45b0 : decide (0 ≤ x17_3) = true := decide_eq_true c45
                     clear c45
                     by_cases c46 : x17_3 < ((rd_L4 y377 (ji42)).length : Int)
                     ·rw [if_pos c46] at H
                      have c46b0 : decide (x17_3 < ((rd_L4 y377 (ji42)).length : Int)) = true := decide_eq_true c46
                      clear c46
                      replace H := Option.bind_eq_some_iff.mp H
                      obtain ⟨t381,A470,H⟩ := H
                      try dsimp only at H
                      have A47 := am A470
                      clear A470
                      obtain ⟨y382,hy382⟩ : ∃ y_ : List Int,y_ = (x12_3.set ((ji39) : Int).toNat t381) := ⟨_,rfl⟩
                      replace H : (privityref21_Prove.l2 k3 a0 a1 y382 y377 x16_2 (wrap64 (x17_3 + 1))) = some (r1,r2) := by first|(rw [hy382];with_reducible exact H)|(have H2_ := (Option.bind_some _ _).symm.trans H;rw [hy382];with_reducible exact H2_)|(have H2_ := (Option.bind_some _ _).symm.trans H;with_reducible exact H2_)|with_reducible exact H|(rw [hy382];exact H)|exact H
                      have Ny382 := am hy382
                      clear hy382
                      have H' := am H
                      clear H
                      try go_wp2
                      have n0_ := am (Kd.R_drew HO_12.out)
                      have n1_ := am (Kd.S_drew HO_13.out)
                      have n2_ := am (below_drew1 HB.out)
                      clear HO_12
                      clear HO_13
                      clear HB
                      have HO_12 := n0_
                      have HO_13 := n1_
                      have HB := n2_
                      clear n0_ n1_ n2_
                      have p378 : 0 ≤ ((ji39) : Int) := od
                      have q378 : (ji39) < (x12_3.length : Int) := od
                      obtain ⟨ad378,e378,hx378_0⟩ := Kd.at_int (Kd.R_reads' HO_12.out).2.2 (ji39) p378 q378
                      obtain rfl : ad374 = ad378 := (by injection e378)
                      replace p378 := eq_true p378
                      replace q378 := eq_true q378
                      have p379 : 0 ≤ ((ji42) : Int) := od
                      have q379 : (ji42) < (y377.length : Int) := od
                      obtain ⟨ad379,A379_0,c379_0,e379,hx379_0,hl379_0,hi379_0⟩ := at_L4 (Kd.S_reads' HO_13.out).2.2 (ji42) p379 q379
                      obtain rfl : ad373 = ad379 := (by injection e379)
                      obtain ⟨ce379,hce379,hMe379,hcc379⟩ := Kd.S_get HO_13.out [] (ji42) p379 (by first|exact q379|exact od|(have e_ := (Kd.S_reads' HO_13.out).1;omega))
                      obtain ⟨ve379_0,rfl,ge379_0⟩ := hMe379
                      have hv379_0 := hcc379 0 _ rfl
                      rw [Nat.add_zero,show ((Kd.slice 22 (Kd.int .u64))).sz = 1 from rfl,Nat.mul_one] at hv379_0
                      replace hv379_0 := Option.some.inj (hv379_0.symm.trans hx379_0)
                      rw [hv379_0] at ge379_0
                      have HL379_0 := am (show Kd.R (Kd.int .u64) 22 _ _ _ _ (rd_L4 y377 (ji42)) from ge379_0)
                      clear hv379_0 ge379_0
                      have HX379_0 := am hx379_0
                      clear hcc379 hce379
                      have HR379_0 := am hi379_0
                      have HC379_0 := am hl379_0
                      clear hi379_0 hl379_0
                      replace p379 := eq_true p379
                      replace q379 := eq_true q379
                      have p380 : 0 ≤ (x17_3 : Int) := od
                      have q380 : x17_3 < ((rd_L4 y377 (ji42)).length : Int) := od
                      obtain ⟨ad380,e380,hx380_0⟩ := Kd.at_int (cx HR379_0) x17_3 p380 q380
                      cases e380
                      replace p380 := eq_true p380
                      replace q380 := eq_true q380
                      refine start_ (n := 22) (S := fun w' => w'.cell? (ad374.add ((ji39)).toNat) = some (.int .u64 (rd x12_3 (ji39))) ∧ w'.cell? (ad373.add ((ji42)).toNat) = some (.slice (some ad380) (rd_L4 y377 (ji42)).length c379_0) ∧ w'.cell? (ad380.add (x17_3).toNat) = some (.int .u64 (rd (rd_L4 y377 (ji42)) x17_3))) (ds := [21]) (bz 22 0) (by kernel_rfl) rfl rfl ⟨hx378_0,hx379_0,hx380_0⟩ (fun hHeld => ?_);refine with_tabW privityref21_Prove.tab15 privityref21_Prove.bits15 (fun HT_ HW_ => ?_)
                      generalize wr.drew = w49 at HO_12 HO_13 HB HL379_0 HR379_0 HX379_0 hx378_0 hx379_0 hx380_0 hHeld ⊢
                      refine pk 0 67 (bz 22 1) HT_ ?_
                      refine pk 1 68 (bz 22 3) HT_ ?_
                      refine pk 2 69 (bz 22 7) HT_ ?_
                      refine pk 3 70 (bz 22 15) HT_ ?_
                      refine pk 4 71 (bz 22 31) HT_ ?_
                      refine pk 5 72 (bz 22 63) HT_ ?_
                      refine pk 6 73 (bz 22 127) HT_ ?_
                      refine pk 7 74 (bz 22 255) HT_ ?_
                      refine pk 8 75 (bz 22 511) HT_ ?_
                      refine pk 9 76 (bz 22 1023) HT_ ?_
                      refine pk 11 78 (bz 22 3071) HT_ ?_
                      refine pk 12 79 (bz 22 7167) HT_ ?_
                      refine pk 13 80 (bz 22 15359) HT_ ?_
                      refine pk 14 81 (bz 22 31743) HT_ ?_
                      refine pk 16 83 (bz 22 97279) HT_ ?_
                      refine tk 10 77 (bz 22 98303) HT_ HW_ hHeld ?_
                      refine tk 15 82 (bz 22 131071) HT_ HW_ hHeld ?_
                      refine pk 17 84 (bz 22 262143) HT_ ?_
                      refine tk 18 85 (bz 22 524287) HT_ HW_ hHeld ?_
                      refine on 19 86 (bz 22 1048575) HT_ (fun K hK => ?_)
                      refine goes_ Try.func22 (by kernel_rfl) rfl #[.int .u64 a0,.int .u64 (rd x12_3 (ji39)),.int .u64 (rd (rd_L4 y377 (ji42)) x17_3)] (by rfl) rfl rfl (by (try simp only [List.map_toArray,List.map_cons,List.map_nil]);first|done|(simp only [hji39,hji42];rfl)|rfl|(simp only [List.length_drop,List.length_take];rfl)) ?_
                      with_reducible refine (privityref01_Sub.calls a0 (rd x12_3 (ji39)) (rd (rd_L4 y377 (ji42)) x17_3) t381 _ A47.out).mono ?_
                      rintro e w' ⟨rfl,⟨nd,rfl⟩⟩
                      refine ⟨_,rfl,?_⟩
                      have p48 : 0 ≤ ((ji39) : Int) := od
                      have q48 : ((ji39) : Int) < ((x12_3.length : Int) : Int) := od
                      obtain ⟨go48,co48,eo48,gb48,gl48,cl48,HG48⟩ := Kd.R_form HO_12.out (by omega)
                      (first|cases eo48|(injection eo48 with ea_ en_ ec_;(first|subst ea_|(injection ea_ with ea_;subst ea_));subst ec_;clear en_))
                      have GB48 := am gb48
                      have GG48 := am HG48
                      clear gb48 gl48 HG48
                      (first|simp only [add_plain] at hx374_0|skip)
                      (first|simp only [add_plain] at hx378_0|skip)
                      obtain ⟨hx48_0,hf48_0⟩ := Kd.R_celln 0 HO_12.out ((ji39) : Int) p48 q48
                      replace p48 := eq_true p48
                      replace q48 := eq_true q48
                      have HP50 := Kd.R_putn HO_12.out ((ji39) : Int) t381
                      rw [← Ny382.out] at HP50
                      have HQ50 := am HP50
                      clear HP50
                      refine hK.out _ _ ⟨hHeld.1,hHeld.2.1,hHeld.2.2⟩ (fun hHeld => ?_)
                      clear hK K
                      refine nm 86 ?_
                      refine pk 20 87 (bz 22 2097151) HT_ ?_
                      refine last_ (i := 21) (N := none) (bz 22 4194303) rfl rfl (one_of HT_.out (by kernel_rfl)) (by decide) (fun K hK => ?_)
                      refine skip_ (w1 := ?_) (by rfl) rfl ?_ ?_
                      rotate_left
                      ·go_simp
                       rfl
                      refine hK.out _ _ ?_
                      clear hK K
                      refine done_ (done_of HT_.out (by kernel_rfl)) ?_
                      try go_wp2
                      (try simp only [← hl12_3,← hl13_3])
                      (try rw [show (⟨go48,ji24.toNat,none⟩ : Addr) = (⟨go48,0,none⟩ : Addr).add ji24.toNat from by rw [Addr.add_lit,Nat.zero_add]])
                      (try rw [show (⟨go48,ji27.toNat,none⟩ : Addr) = (⟨go48,0,none⟩ : Addr).add ji27.toNat from by rw [Addr.add_lit,Nat.zero_add]])
                      (try rw [show (⟨go48,ji42.toNat,none⟩ : Addr) = (⟨go48,0,none⟩ : Addr).add ji42.toNat from by rw [Addr.add_lit,Nat.zero_add]])
                      go_roundg k3
                      case measure => have := HK1.out;have := HK2.out;have := HK3.out;omega
                      case rel => exact ⟨(y382),(wrap64 (x17_3 + 1)),(by first|rfl|(simp;done)|(simp [*];done)),(by first|exact H'|(simp only [hji42];exact H')),⟨by have := HK1.out;have := HK2.out;have := HK3.out;omega⟩,⟨by (try simp only [hl12_3]);(try simp only [hl13_3]);(with_reducible repeat (first|apply Kd.R_alloc|apply Kd.R_drewN|apply Kd.R_drew));exact HQ50.out⟩,⟨by (try simp only [hl12_3]);(try simp only [hl13_3]);(with_reducible repeat (first|apply Kd.S_alloc|apply Kd.S_drewN|apply Kd.S_drew));exact Kd.S_mono (Kd.S_far (p := ⟨go48,((ji39) : Int).toNat,none⟩) (Kd.S_mono HO_13.out (fun k_ hk => (⟨hk,fun e_ => hk (by rw [e_];rfl)⟩ : _ ∧ k_ ≠ go48))) (fun _ hk => hk.2) (.int .u64 t381)) (fun _ hk => hk.1)⟩,⟨by repeat (first|(with_reducible first|exact HB.out|apply below_alloc|apply pw_below_drewN|apply below_drew1|refine below_set ?_ GB48.out)|exact HB.out)⟩⟩
                     ·rw [if_neg c46] at H
                      exact absurd H (by simp)
                    ·rw [if_neg c45] at H
                     exact absurd H (by simp)
                   ·rw [if_neg c44] at H
                    exact absurd H (by simp)
                  ·rw [if_neg c43] at H
                   exact absurd H (by simp)
                 ·rw [if_neg c41] at H
                  exact absurd H (by simp)
                ·rw [if_neg c40] at H
                 exact absurd H (by simp)
               ·rw [if_neg c38] at H
                have c38b0 : decide (x17_3 ≤ a1) = false := decide_eq_false c38
                clear c38
                have H' := am H
                clear H
                go_wp2
                (try simp only [← hl12_3,← hl13_3])
                (try rw [show (⟨go48,ji24.toNat,none⟩ : Addr) = (⟨go48,0,none⟩ : Addr).add ji24.toNat from by rw [Addr.add_lit,Nat.zero_add]])
                (try rw [show (⟨go48,ji27.toNat,none⟩ : Addr) = (⟨go48,0,none⟩ : Addr).add ji27.toNat from by rw [Addr.add_lit,Nat.zero_add]])
                (try rw [show (⟨go48,ji42.toNat,none⟩ : Addr) = (⟨go48,0,none⟩ : Addr).add ji42.toNat from by rw [Addr.add_lit,Nat.zero_add]])
                go_roundg k3
                case measure => have := HK1.out;have := HK2.out;have := HK3.out;omega
                case rel => exact ⟨(x12_3),(y377),(wrap64 (x16_2 - 1)),(by first|rfl|(simp;done)|(simp [*];done)),(by first|exact H'|(simp only [hji42];exact H')),⟨by have := HK1.out;have := HK2.out;have := HK3.out;omega⟩,⟨by (try simp only [hl12_3]);(try simp only [hl13_3]);(with_reducible repeat (first|apply Kd.R_alloc|apply Kd.R_drewN|apply Kd.R_drew));exact HO_12.out⟩,⟨by (try simp only [hl12_3]);(try simp only [hl13_3]);(with_reducible repeat (first|apply Kd.S_alloc|apply Kd.S_drewN|apply Kd.S_drew));exact HO_13.out⟩,⟨bb HB⟩⟩
            ·rw [if_neg c31] at H
             exact absurd H (by simp)
           ·rw [if_neg c30] at H
            exact absurd H (by simp)
          ·rw [if_neg c29] at H
           exact absurd H (by simp)
         ·rw [if_neg c28] at H
          exact absurd H (by simp)
        ·rw [if_neg c26] at H
         exact absurd H (by simp)
       ·rw [if_neg c25] at H
        exact absurd H (by simp)
      ·rw [if_neg c23] at H
       have c23b0 : decide (1 ≤ x16_2) = false := decide_eq_false c23
       clear c23
       obtain ⟨ji51,hji51⟩ : ∃ j_ : Int,(wrap64 (a1 + 1)) = j_ := ⟨_,rfl⟩
       first|rw [hji51] at H|simp only [hji51] at H
       have hji51w : (IntKind.i64.wrap (a1 + 1)) = ji51 := (i64_w _).trans hji51
       by_cases c52 : 0 ≤ (ji51)
       ·rw [if_pos c52] at H
        have c52b0 := eq_true c52
        have c52b1 : decide (0 ≤ (ji51)) = true := decide_eq_true c52
        clear c52
        by_cases c53 : (ji51) ≤ (x12_2.length : Int)
        ·rw [if_pos c53] at H
         have c53b0 := eq_true c53
         have c53b1 : decide ((ji51) ≤ (x12_2.length : Int)) = true := decide_eq_true c53
         clear c53
         obtain ⟨y370,hy370⟩ : ∃ y_ : List Int,y_ = (x12_2.take ((ji51) : Int).toNat) := ⟨_,rfl⟩
         replace H : (some (x13_2,y370)) = some (r1,r2) := by first|(rw [hy370];with_reducible exact H)|(have H2_ := (Option.bind_some _ _).symm.trans H;rw [hy370];with_reducible exact H2_)|(have H2_ := (Option.bind_some _ _).symm.trans H;with_reducible exact H2_)|with_reducible exact H|(rw [hy370];exact H)|exact H
         have Ny370 := am hy370
         clear hy370
         simp only [Option.some.injEq,Prod.mk.injEq] at H
         obtain ⟨rfl,rfl⟩ := H
         try go_wp2
         have n0_ := am (Kd.R_drew HO_12.out)
         have n1_ := am (Kd.S_drew HO_13.out)
         have n2_ := am (below_drew1 HB.out)
         clear HO_12
         clear HO_13
         clear HB
         have HO_12 := n0_
         have HO_13 := n1_
         have HB := n2_
         clear n0_ n1_ n2_
         obtain ⟨Ao55,co55,eo55⟩ := Kd.R_slice HO_12.out
         (first|subst eo55|(injection eo55 with f1_ f2_ f3_;have f4_ := f1_.symm;have f5_ := f3_.symm;clear f1_ f2_ f3_;subst f4_;subst f5_))
         have q56 : ((ji51) : Int) ≤ ((x12_2.length : Int) : Int) := od
         obtain ⟨i056,hi056,_,hsz56,_⟩ := info_parts info22
         have hcut56 := cut_to (P := Try.prog) 26 22 .i64 Try.underlying26 hi056 Ao55 x12_2.length co55 (ji51) (od) q56 (Kd.R_reads' HO_12.out).2.1
         have hr56 := Kd.R_take (m := ((ji51) : Int).toNat) HO_12.out (by omega)
         have hy56 : y370.length = ((ji51) : Int).toNat := (by rw [Ny370.out,List.length_take];omega)
         rw [← Ny370.out] at hr56
         rw [← hy56] at hr56 hcut56
         clear hy56 hi056 hsz56 HO_12
         have HO372 := am hr56
         clear hr56
         replace q56 := eq_true q56
         refine start_ (n := 7) (S := fun w' => True) (ds := []) (bz 7 0) (by kernel_rfl) rfl rfl trivial (fun hHeld => ?_)
         generalize wr.drew = w54 at HO_12 HO_13 HB HO372 hHeld ⊢
         refine pu 0 88 (bz 7 1) ?_
         refine pu 1 89 (bz 7 3) ?_
         refine pu 2 90 (bz 7 7) ?_
         refine pu 3 91 (bz 7 15) ?_
         refine pu 4 92 (bz 7 31) ?_
         refine pu 5 10 (bz 7 63) ?_
         refine pu 6 11 (bz 7 127) ?_
         refine done_ (by kernel_rfl) ?_
         try go_wp2
         go_ret2
         exact ⟨_,_,by first|rfl|(simp [errW_none,errW_some] <;> rfl)|(simp only [← hji51];first|rfl|(simp [errW_none,errW_some] <;> rfl))|(simp [*,errW_none,errW_some] <;> rfl),by (with_reducible repeat (first|apply Kd.S_alloc|apply Kd.S_drewN|apply Kd.S_drew));(first|exact HO_13.out|exact Kd.S_mono HO_13.out (fun k_ h_ => by revert h_;rcases Ao55 with _|a_ <;> exact id)),by (with_reducible repeat (first|apply Kd.R_alloc|apply Kd.R_drewN|apply Kd.R_drew));exact HO372.out,bb HB⟩
        ·rw [if_neg c53] at H
         exact absurd H (by simp)
       ·rw [if_neg c52] at H
        exact absurd H (by simp)
end Go.Proofs.Ytejeelpnmdfibaa.Pr
end
section
namespace Go.Proofs.Ytejeelpnmdfibaa.Hw
open Go.RowKit Go.Proofs.Ytejeelpnmdfibaa.Pr Go.Proofs.YtejeelpnmdfibaaW.PrintWords Go.Proofs.YtejeelpnmdfibaaW.PrintLast Go.Proofs.YtejeelpnmdfibaaW.PrintMore Go.Proofs.Ytejeelpnmdfibaa.E
def rS (n : Nat) (first rest : List Int) (c i j a b : Nat) : Int := if (min a b = 0 ∧ max a b < c) ∨ (0 < min a b ∧ (min a b < i ∨ (min a b = i ∧ max a b < j))) then newG n first rest a b else 0
theorem rS_first {n : Nat} {first rest : List Int} (i : Nat) : ∀ a,a < n → ∀ b,b < n → upd (upd (rS n first rest i i i) 0 i (first.getD i 0)) i 0 (first.getD i 0) a b = rS n first rest (i + 1) i i a b := by
 intro a ha b hb
 unfold upd rS newG
 by_cases h1 : a = i ∧ b = 0
 ·obtain ⟨rfl,rfl⟩ := h1
  rw [if_pos ⟨rfl,rfl⟩,if_pos (by omega),if_pos (by omega),show max a 0 = a from by omega]
 ·rw [if_neg h1]
  by_cases h2 : a = 0 ∧ b = i
  ·obtain ⟨rfl,rfl⟩ := h2
   rw [if_pos ⟨rfl,rfl⟩,if_pos (by omega),if_pos (by omega),show max 0 b = b from by omega]
  ·rw [if_neg h2]
   by_cases h3 : (min a b = 0 ∧ max a b < i) ∨ (0 < min a b ∧ (min a b < i ∨ (min a b = i ∧ max a b < i)))
   ·rw [if_pos h3,if_pos (show (min a b = 0 ∧ max a b < i + 1) ∨ (0 < min a b ∧ (min a b < i ∨ (min a b = i ∧ max a b < i))) from by omega)]
   ·rw [if_neg h3,if_neg (show ¬ ((min a b = 0 ∧ max a b < i + 1) ∨ (0 < min a b ∧ (min a b < i ∨ (min a b = i ∧ max a b < i)))) from by omega)]
theorem rS_next {n : Nat} {first rest : List Int} {i : Nat} (h1 : 1 ≤ i) {j : Nat} (hij : i ≤ j) (c : Nat) : ∀ a,a < n → ∀ b,b < n →
  upd (upd (rS n first rest c i j) i j (rest.getD (offs n i + (j - i)) 0)) j i (rest.getD (offs n i + (j - i)) 0) a b = rS n first rest c i (j + 1) a b := by
 intro a ha b hb
 unfold upd rS newG
 by_cases h1 : a = j ∧ b = i
 ·obtain ⟨rfl,rfl⟩ := h1
  rw [if_pos ⟨rfl,rfl⟩,if_pos (by omega),if_neg (by omega),show min a b = b from by omega,show max a b = a from by omega]
 ·rw [if_neg h1]
  by_cases h2 : a = i ∧ b = j
  ·obtain ⟨rfl,rfl⟩ := h2
   rw [if_pos ⟨rfl,rfl⟩,if_pos (by omega),if_neg (by omega),show min a b = a from by omega,show max a b = b from by omega]
  ·rw [if_neg h2]
   by_cases h3 : (min a b = 0 ∧ max a b < c) ∨ (0 < min a b ∧ (min a b < i ∨ (min a b = i ∧ max a b < j)))
   ·rw [if_pos h3,if_pos (show (min a b = 0 ∧ max a b < c) ∨ (0 < min a b ∧ (min a b < i ∨ (min a b = i ∧ max a b < j + 1))) from by omega)]
   ·rw [if_neg h3,if_neg (show ¬ ((min a b = 0 ∧ max a b < c) ∨ (0 < min a b ∧ (min a b < i ∨ (min a b = i ∧ max a b < j + 1)))) from by omega)]
theorem rS_row {n : Nat} {first rest : List Int} (c i j : Nat) (h : i = 0 ∨ j = n) : ∀ a,a < n → ∀ b,b < n → rS n first rest c i j a b = rS n first rest c (i + 1) (i + 1) a b := by
 intro a ha b hb
 unfold rS
 by_cases h3 : (min a b = 0 ∧ max a b < c) ∨ (0 < min a b ∧ (min a b < i ∨ (min a b = i ∧ max a b < j)))
 ·rw [if_pos h3,if_pos (show (min a b = 0 ∧ max a b < c) ∨ (0 < min a b ∧ (min a b < i + 1 ∨ (min a b = i + 1 ∧ max a b < i + 1))) from by omega)]
 ·rw [if_neg h3,if_neg (show ¬ ((min a b = 0 ∧ max a b < c) ∨ (0 < min a b ∧ (min a b < i + 1 ∨ (min a b = i + 1 ∧ max a b < i + 1)))) from by omega)]
theorem rS_all {n : Nat} {first rest : List Int} (j : Nat) : ∀ a,a < n → ∀ b,b < n → rS n first rest n n j a b = newG n first rest a b := by
 intro a ha b hb
 unfold rS
 rw [if_pos (by omega)]
set_option maxHeartbeats 2000000 in
set_option maxRecDepth 100000 in
theorem rnew_walk (A0 : Option Addr) (c0 : Nat) (first : List Int) (A1 : Option Addr) (c1 : Nat) (rest : List Int) (w : World) (hr0 : Kd.C (Kd.int .u64) w A0 first.length first) (hc0 : first.length ≤ c0) (hr1 : Kd.C (Kd.int .u64) w A1 rest.length rest) (hc1 : rest.length ≤ c1)
  (hn : 0 < first.length) (hn2 : first.length ≤ 1000) (hl : rest.length = offs first.length first.length) :
  Calls Try.prog 16 #[.slice A0 first.length c0,.slice A1 rest.length c1] w fun e w' => ∃ v0_ : Value,e = .returned (.tuple #[v0_,.int .i64 0]) ∧ Kd.S (Kd.slice 22 (Kd.int .u64)) 26 w' w.heap.size (fun _ => True) v0_ (matL first.length (newG first.length first rest)) ∧ Below w.heap.size w w' := by
 have HR0 := am hr0
 have HR1 := am hr1
 have hol := offs_last (n := first.length) hn
 obtain ⟨t,en⟩ : ∃ t,t + 1 = first.length := ⟨first.length - 1,by omega⟩
 rw [← en] at hol hl hn hn2 ⊢
 have HEN := am en
 have HL := am hl
 have hq : ((rest.length : Int) != wrap64 ((wrap64 ((t : Int) * ((t : Int) + 1))).tdiv 2)) = false := by
  have h1 : (t : Int) * ((t : Int) + 1) = 2 * (rest.length : Int) := by rw [hl,hol];push_cast;grind
  have h2 : (t : Int) * ((t : Int) + 1) ≤ 1000 * 1000 := Int.mul_le_mul (by omega) (by omega) (by omega) (by omega)
  have h3 : wrap64 ((t : Int) * ((t : Int) + 1)) = 2 * (rest.length : Int) := by rw [h1,w64' (by omega) (by omega)]
  rw [h3,Int.mul_tdiv_cancel_left _ (by omega),w64' (by omega) (by omega)]
  simp
 have hmk := mk_run (t := 34) (e := 26) (z := .slice none 0 0) Try.underlying34 infoSl rfl (t + 1) (by omega) (by decide) w
 rw [outC_zero w.heap.size,show ((t + 1 : Nat) : Int) = (t : Int) + 1 from rfl] at hmk
 have q0 : decide ((t : Int) < 0) = false := decide_eq_false (by omega)
 clear hr0 hr1 hl hol en
 go_enter Try.func16,Try.ntmps16
 go_wp2
 obtain ⟨bo,hbo⟩ : ∃ y,y = w.heap.size := ⟨_,rfl⟩
 rw [← hbo]
 have HBO := am hbo
 clear hmk hq q0 hbo
 go_loopg [8] (t + 1) (fun kq v8 w' => ∃ i : Nat,v8 = .int .i64 (i : Int) ∧ Aside0 (kq + i = t + 1) ∧ Aside0 (Mx w' bo (t + 1) i fun _ _ => 0) ∧ Aside0 (w'.heap.size = bo + 1 + i) ∧ Aside0 (Below w.heap.size w w'))
 case atStart => exact ⟨0,rfl,⟨rfl⟩,⟨by rw [HBO.out];exact Mx.start w (t + 1)⟩,⟨by rw [HBO.out];exact Array.size_push _⟩,⟨below_alloc (Below.refl _ _) _⟩⟩
 case round =>
  obtain ⟨i,rfl,HK,HM,HS,HB⟩ := hrel
  by_cases hlt : i < t + 1
  ·have q1 : decide ((i : Int) ≤ (t : Int)) = true := decide_eq_true (by omega)
   have q2 : decide (i ≤ t) = true := decide_eq_true (by omega)
   have p1 : ((0 : Int) ≤ (i : Int)) = True := eq_true (by omega)
   have p2 : ((i : Int) < (t : Int) + 1) = True := eq_true (by omega)
   have p3 : (i < t + 1) = True := eq_true hlt
   have hmk := mk_run (t := 26) (e := 22) (z := .int .u64 0) Try.underlying26 info22 rfl (t + 1) (by omega) (by decide) wr
   rw [rowC_zero,HS.out,show ((t + 1 : Nat) : Int) = (t : Int) + 1 from rfl] at hmk
   have h1 := blk_alloc HM.out.out (Obj.cells (rowC (t + 1) fun _ => 0).toArray 22)
   have c1 := blk_cell h1 i
   have f1 := blk_frozen h1 i
   rw [List.getElem?_toArray,outC_get hlt,if_neg (Nat.lt_irrefl i)] at c1
   clear h1
   go_wp2
   go_roundg (t + 1 - (i + 1))
   case measure => have := HK.out;omega
   case rel => exact ⟨i + 1,(by first|go_num|rw [show wrap64 ((i : Int) + 1) = ((i + 1 : Nat) : Int) from by rw [w64' (by omega) (by omega)];omega]),⟨by omega⟩,⟨HM.out.more hlt HS.out fun _ => rfl⟩,⟨by rw [size_setCell',alloc_size',HS.out];omega⟩,⟨below_alloc_set HB.out _ (by rw [← HBO.out];exact Nat.le_refl _) _ _⟩⟩
  ·have q1 : decide ((i : Int) ≤ (t : Int)) = false := decide_eq_false (by omega)
   have q2 : decide (i ≤ t) = false := decide_eq_false (by omega)
   have hin : i = t + 1 := by have := HK.out;omega
   have hM := HM.out
   rw [hin] at hM
   have HM0 := am (show Mx wr bo (t + 1) (t + 1) (rS (t + 1) first rest 0 0 0) from hM.congr fun a ha b hb => by unfold rS;rw [if_neg (by omega)])
   clear HM HS hM
   go_wp2
   go_loopg [9,10] (t + 1) (fun kq v9 v10 w' => ∃ i : Nat,v10 = .int .i64 (i : Int) ∧ v9 = .int .i64 (offs (t + 1) i : Int) ∧ Aside0 (kq + i = t + 1) ∧ Aside0 (Mx w' bo (t + 1) (t + 1) (rS (t + 1) first rest i i i)) ∧ Aside0 (Below w.heap.size w w'))
   case atStart => exact ⟨0,rfl,rfl,⟨rfl⟩,HM0,HB⟩
   case round =>
    clear HM0 HB HK hin q1 q2 hlt
    obtain ⟨i,rfl,rfl,HK,HM,HB⟩ := hrel
    by_cases hlt : i < t + 1
    ·have q1 : decide ((i : Int) ≤ (t : Int)) = true := decide_eq_true (by omega)
     have q2 : decide (i ≤ t) = true := decide_eq_true (by omega)
     have p1 : ((0 : Int) ≤ (i : Int)) = True := eq_true (by omega)
     have p2 : ((i : Int) < (t : Int) + 1) = True := eq_true (by omega)
     have p3 : ((0 : Int) < (t : Int) + 1) = True := eq_true (by omega)
     have p4 : (i < t + 1) = True := eq_true hlt
     have p5 : (0 < t + 1) = True := eq_true (by omega)
     obtain ⟨ad0,e0,hx0⟩ := Kd.at_int (Kd.C_below HR0.out HB.out) (i : Int) (by omega) (by have := HEN.out;omega)
     cases e0
     rw [Int.toNat_natCast] at hx0
     have hfj : rd first (i : Int) = first.getD i 0 := rd_nat first i
     rw [hfj] at hx0
     obtain ⟨x,hx⟩ : ∃ x,x = first.getD i 0 := ⟨_,rfl⟩
     rw [← hx] at hx0
     have HX := am hx
     have c1 : wr.cell? ⟨bo,0,none⟩ = some (.slice (some ⟨bo + 1,0,none⟩) (t + 1) (t + 1)) := HM.out.cellO (i := 0) (by omega) (by omega)
     have c2 : wr.cell? ⟨bo,i,none⟩ = some (.slice (some ⟨bo + 1 + i,0,none⟩) (t + 1) (t + 1)) := HM.out.cellO hlt hlt
     have d1 : wr.cell? ⟨bo + 1,i,none⟩ = some _ := HM.out.cellR (i := 0) (by omega) hlt
     have g1 : wr.frozen? ⟨bo + 1,i,none⟩ = false := HM.out.frozR (i := 0) (by omega) i
     have hm2 := HM.out.put (i := 0) (j := i) (by omega) hlt x
     have d2 : (wr.setCell ⟨bo + 1,i,none⟩ (.int .u64 x)).cell? ⟨bo + 1 + i,0,none⟩ = some _ := hm2.cellR hlt (by omega)
     have g2 : wr.frozen? ⟨bo + 1 + i,0,none⟩ = false := HM.out.frozR hlt 0
     have HM2 := am (show Mx _ bo (t + 1) (t + 1) (rS (t + 1) first rest (i + 1) i i) from Mx.drew ((hm2.put (i := i) (j := 0) hlt (by omega) x).congr fun a ha b hb => by rw [HX.out];exact rS_first i a ha b hb))
     have hbo : w.heap.size ≤ bo := by rw [← HBO.out];exact Nat.le_refl _
     have HB2 := am (show Below w.heap.size w _ from below_drew (Below.setCell (Below.setCell HB.out (p := ⟨bo + 1,i,none⟩) (by show w.heap.size ≤ bo + 1;omega) (.int .u64 x)) (p := ⟨bo + 1 + i,0,none⟩) (by show w.heap.size ≤ bo + 1 + i;omega) (.int .u64 x)))
     clear hx hfj hm2 hbo
     go_wp2
     refine start_ (n := 20) (S := (fun w' => w'.cell? ⟨bo,0,none⟩ = some (.slice (some ⟨bo + 1,0,none⟩) (t + 1) (t + 1)) ∧ w'.cell? ⟨bo,i,none⟩ = some (.slice (some ⟨bo + 1 + i,0,none⟩) (t + 1) (t + 1)) ∧ w'.cell? (ad0.add i) = some (.int .u64 x))) (ds := [17,19]) (bz 20 0) (by kernel_rfl) rfl rfl ⟨c1,c2,hx0⟩ (fun hHeld => ?_)
     refine pu 0 46 (bz 20 1) ?_
     refine pu 1 47 (bz 20 3) ?_
     refine tu 2 48 (bz 20 7) hHeld ?_
     refine pu 3 49 (bz 20 15) ?_
     refine pu 4 50 (bz 20 31) ?_
     refine pu 5 51 (bz 20 63) ?_
     refine pu 6 52 (bz 20 127) ?_
     refine tu 7 53 (bz 20 255) hHeld ?_
     refine pu 8 54 (bz 20 511) ?_
     refine pu 9 55 (bz 20 1023) ?_
     refine pu 10 56 (bz 20 2047) ?_
     refine tu 11 57 (bz 20 4095) hHeld ?_
     refine pu 12 58 (bz 20 8191) ?_
     refine pu 13 59 (bz 20 16383) ?_
     refine pu 14 60 (bz 20 32767) ?_
     refine tu 15 61 (bz 20 65535) hHeld ?_
     refine pu 16 62 (bz 20 131071) ?_
     refine last_ (i := 17) (N := none) (bz 20 262143) rfl rfl (by kernel_rfl) (by decide) (fun K hK => ?_)
     refine skip_ (w1 := ?_) (by rfl) rfl ?_ ?_
     rotate_left
     ·go_simp
      rfl
     refine hK.out _ _ ?_
     clear hK K
     refine pu 18 63 (bz 20 524287) ?_
     refine last_ (i := 19) (N := none) (bz 20 1048575) rfl rfl (by kernel_rfl) (by decide) (fun K hK => ?_)
     refine skip_ (w1 := ?_) (by rfl) rfl ?_ ?_
     rotate_left
     ·go_simp
      rfl
     refine hK.out _ _ ?_
     clear hK K
     refine done_ (by kernel_rfl) ?_
     clear c1 c2 d1 d2 g1 g2 hx0 p2 p3 p4 p5 q1 q2
     generalize hW : ((wr.setCell { block := bo + 1,off := i } (Value.int IntKind.u64 x)).setCell { block := bo + 1 + i,off := 0 } (Value.int IntKind.u64 x)).drew = W at HM2 HB2 ⊢
     clear hW
     go_wp2
     go_loopg [9,11] (t + 1 - i) (fun kq v9 v11 w' => ∃ j : Nat,v11 = .int .i64 (j : Int) ∧ v9 = .int .i64 ((offs (t + 1) i + (j - i) : Nat) : Int) ∧ Aside0 (kq + j = t + 1 ∧ i ≤ j) ∧ Aside0 (i = 0 → j = 0) ∧ Aside0 (Mx w' bo (t + 1) (t + 1) (rS (t + 1) first rest (i + 1) i j)) ∧ Aside0 (Below w.heap.size w w'))
     case atStart => exact ⟨i,rfl,(by rw [Nat.sub_self];rfl),⟨by omega,Nat.le_refl _⟩,⟨fun h => h⟩,HM2,HB2⟩
     case round =>
      clear HM2 HB2 HM HB
      obtain ⟨j,rfl,rfl,HK2,HJ0,HM,HB⟩ := hrel
      have hkk := HK2.out.2
      by_cases hlj : j < t + 1 ∧ 0 < i
      ·obtain ⟨hlj,hi1⟩ := hlj
       have q3 : decide ((j : Int) ≤ (t : Int)) = true := decide_eq_true (by omega)
       have q4 : decide (j ≤ t) = true := decide_eq_true (by omega)
       have q5 : decide ((0 : Int) < (i : Int)) = true := decide_eq_true (by omega)
       have q6 : decide (0 < i) = true := decide_eq_true hi1
       have hqb : offs (t + 1) i + (j - i) < rest.length := by
        have h1 := offs_next (t + 1) i hi1
        have h2 := offs_mono (n := t + 1) (t + 1 - (i + 1)) (i + 1) (by omega)
        rw [show i + 1 + (t + 1 - (i + 1)) = t + 1 from by omega] at h2
        have := HL.out
        omega
       obtain ⟨q,hq⟩ : ∃ q,q = offs (t + 1) i + (j - i) := ⟨_,rfl⟩
       rw [← hq] at hqb ⊢
       have HQ := am hq
       obtain ⟨ad,e1,hx0⟩ := Kd.at_int (Kd.C_below HR1.out HB.out) (q : Int) (by omega) (by omega)
       cases e1
       rw [Int.toNat_natCast,show rd rest (q : Int) = rest.getD q 0 from rd_nat rest q] at hx0
       obtain ⟨x,hx⟩ : ∃ x,x = rest.getD q 0 := ⟨_,rfl⟩
       rw [← hx] at hx0
       have HX := am hx
       have p2 : ((i : Int) < (t : Int) + 1) = True := eq_true (by omega)
       have p3 : ((0 : Int) ≤ (j : Int)) = True := eq_true (by omega)
       have p4 : ((j : Int) < (t : Int) + 1) = True := eq_true (by omega)
       have p5 : ((0 : Int) ≤ (q : Int)) = True := eq_true (by omega)
       have p6 : ((q : Int) < (rest.length : Int)) = True := eq_true (by omega)
       have c1 : wr.cell? ⟨bo,i,none⟩ = some (.slice (some ⟨bo + 1 + i,0,none⟩) (t + 1) (t + 1)) := HM.out.cellO hlt hlt
       have c2 : wr.cell? ⟨bo,j,none⟩ = some (.slice (some ⟨bo + 1 + j,0,none⟩) (t + 1) (t + 1)) := HM.out.cellO hlj hlj
       have d1 : wr.cell? ⟨bo + 1 + i,j,none⟩ = some _ := HM.out.cellR hlt hlj
       have g1 : wr.frozen? ⟨bo + 1 + i,j,none⟩ = false := HM.out.frozR hlt j
       have hm2 := HM.out.put (i := i) (j := j) hlt hlj x
       have d2 : (wr.setCell ⟨bo + 1 + i,j,none⟩ (.int .u64 x)).cell? ⟨bo + 1 + j,i,none⟩ = some _ := hm2.cellR hlj hlt
       have g2 : wr.frozen? ⟨bo + 1 + j,i,none⟩ = false := HM.out.frozR hlj i
       have HM2 := am (show Mx _ bo (t + 1) (t + 1) (rS (t + 1) first rest (i + 1) i (j + 1)) from Mx.drew ((hm2.put (i := j) (j := i) hlj hlt x).congr fun a ha b hb => by rw [HX.out,HQ.out];exact rS_next hi1 hkk (i + 1) a ha b hb))
       have hbo : w.heap.size ≤ bo := by rw [← HBO.out];exact Nat.le_refl _
       have HB2 := am (show Below w.heap.size w _ from below_drew (Below.setCell (Below.setCell HB.out (p := ⟨bo + 1 + i,j,none⟩) (by show w.heap.size ≤ bo + 1 + i;omega) (.int .u64 x)) (p := ⟨bo + 1 + j,i,none⟩) (by show w.heap.size ≤ bo + 1 + j;omega) (.int .u64 x)))
       have HQB := am hqb
       have HLJ := am hlj
       clear hm2 hx hq hbo
       go_wp2
       refine start_ (n := 22) (S := (fun w' => w'.cell? ⟨bo,i,none⟩ = some (.slice (some ⟨bo + 1 + i,0,none⟩) (t + 1) (t + 1)) ∧ w'.cell? ⟨bo,j,none⟩ = some (.slice (some ⟨bo + 1 + j,0,none⟩) (t + 1) (t + 1)) ∧ w'.cell? (ad.add q) = some (.int .u64 x))) (ds := [19,21]) (bz 22 0) (by kernel_rfl) rfl rfl ⟨c1,c2,hx0⟩ (fun hHeld => ?_)
       refine pu 0 74 (bz 22 1) ?_
       refine pu 1 75 (bz 22 3) ?_
       refine pu 2 76 (bz 22 7) ?_
       refine tu 3 77 (bz 22 15) hHeld ?_
       refine pu 4 78 (bz 22 31) ?_
       refine pu 5 79 (bz 22 63) ?_
       refine pu 6 80 (bz 22 127) ?_
       refine pu 7 81 (bz 22 255) ?_
       refine tu 8 82 (bz 22 511) hHeld ?_
       refine pu 9 83 (bz 22 1023) ?_
       refine pu 10 84 (bz 22 2047) ?_
       refine pu 11 85 (bz 22 4095) ?_
       refine pu 12 86 (bz 22 8191) ?_
       refine tu 13 87 (bz 22 16383) hHeld ?_
       refine pu 14 88 (bz 22 32767) ?_
       refine pu 15 89 (bz 22 65535) ?_
       refine pu 16 90 (bz 22 131071) ?_
       refine tu 17 91 (bz 22 262143) hHeld ?_
       refine pu 18 92 (bz 22 524287) ?_
       refine last_ (i := 19) (N := none) (bz 22 1048575) rfl rfl (by kernel_rfl) (by decide) (fun K hK => ?_)
       refine skip_ (w1 := ?_) (by rfl) rfl ?_ ?_
       rotate_left
       ·go_simp
        rfl
       refine hK.out _ _ ?_
       clear hK K
       refine pu 20 93 (bz 22 2097151) ?_
       refine last_ (i := 21) (N := none) (bz 22 4194303) rfl rfl (by kernel_rfl) (by decide) (fun K hK => ?_)
       refine skip_ (w1 := ?_) (by rfl) rfl ?_ ?_
       rotate_left
       ·go_simp
        rfl
       refine hK.out _ _ ?_
       clear hK K
       refine done_ (by kernel_rfl) ?_
       go_wp2
       go_roundg (t + 1 - (j + 1))
       case measure => have := HK2.out;have := HLJ.out;omega
       case rel =>
        have hqb := HQB.out
        have hlj := HLJ.out
        refine ⟨j + 1,(by first|rfl|rw [show wrap64 ((j : Int) + 1) = ((j + 1 : Nat) : Int) from by rw [w64' (by omega) (by omega)];omega]),?_,⟨by omega,by omega⟩,⟨fun h => by omega⟩,HM2,HB2⟩
        have h9 := HL.out
        have h10 := offs_last (n := t + 1) (by omega)
        have h11 : ((t + 1 : Nat) : Int) * (((t + 1 : Nat) : Int) - 1) ≤ 1000 * 1000 := Int.mul_le_mul (by omega) (by omega) (by omega) (by omega)
        rw [show wrap64 ((q : Int) + 1) = ((q + 1 : Nat) : Int) from by rw [w64' (by omega) (by omega)];omega,HQ.out,show offs (t + 1) i + (j - i) + 1 = offs (t + 1) i + (j + 1 - i) from by omega]
      ·by_cases hjt : j < t + 1
       ·have q3 : decide ((j : Int) ≤ (t : Int)) = true := decide_eq_true (by omega)
        have q4 : decide (j ≤ t) = true := decide_eq_true (by omega)
        have q5 : decide ((0 : Int) < (i : Int)) = false := decide_eq_false (by omega)
        have q6 : decide (0 < i) = false := decide_eq_false (by omega)
        have HM3 := am (HM.out.congr (rS_row (n := t + 1) (first := first) (rest := rest) (i + 1) i j (by have := HK2.out;omega)))
        have hoff : offs (t + 1) i + (j - i) = offs (t + 1) (i + 1) := by
         by_cases hi0 : i = 0
         ·have := HJ0.out hi0
          rw [hi0,this];rfl
         ·rw [offs_next (t + 1) i (by omega)]
          have := HK2.out;omega
        rw [hoff]
        clear hoff
        go_wp2
        go_roundg (t + 1 - (i + 1))
        case measure => have := HK.out;omega
        case rel => exact ⟨i + 1,(by first|rfl|rw [show wrap64 ((i : Int) + 1) = ((i + 1 : Nat) : Int) from by rw [w64' (by omega) (by omega)];omega]),rfl,⟨by have := HK.out;omega⟩,HM3,HB⟩
       ·have q3 : decide ((j : Int) ≤ (t : Int)) = false := decide_eq_false (by omega)
        have q4 : decide (j ≤ t) = false := decide_eq_false (by omega)
        have HM3 := am (HM.out.congr (rS_row (n := t + 1) (first := first) (rest := rest) (i + 1) i j (by have := HK2.out;omega)))
        have hoff : offs (t + 1) i + (j - i) = offs (t + 1) (i + 1) := by
         by_cases hi0 : i = 0
         ·have := HJ0.out hi0
          rw [hi0,this];rfl
         ·rw [offs_next (t + 1) i (by omega)]
          have := HK2.out;omega
        rw [hoff]
        clear hoff
        go_wp2
        go_roundg (t + 1 - (i + 1))
        case measure => have := HK.out;omega
        case rel => exact ⟨i + 1,(by first|rfl|rw [show wrap64 ((i : Int) + 1) = ((i + 1 : Nat) : Int) from by rw [w64' (by omega) (by omega)];omega]),rfl,⟨by have := HK.out;omega⟩,HM3,HB⟩
    ·have q1 : decide ((i : Int) ≤ (t : Int)) = false := decide_eq_false (by omega)
     have q2 : decide (i ≤ t) = false := decide_eq_false (by omega)
     have hij : i = t + 1 := by have := HK.out;omega
     go_wp2
     first|go_ret2|((try simp only [Exit.inBlock,Exit.then]);refine bodyPost_ret (results_tmp2 rfl _ _ _) rfl ?_)
     have hM := HM.out
     rw [hij] at hM
     exact ⟨_,rfl,(hM.congr (rS_all (t + 1))).own (by rw [← HBO.out];exact Nat.le_refl _) (by omega),HB.out⟩
set_option maxHeartbeats 2000000 in
set_option maxRecDepth 100000 in
theorem rnew_err (A0 : Option Addr) (c0 : Nat) (first : List Int) (A1 : Option Addr) (c1 : Nat) (rest : List Int) (w : World) (hn2 : first.length ≤ 1000) (hlr : rest.length ≤ 1000000000) (hbad : first.length = 0 ∨ rest.length ≠ offs first.length first.length) :
  Calls Try.prog 16 #[.slice A0 first.length c0,.slice A1 rest.length c1] w fun e w' => ∃ v0_ : Value,e = .returned (.tuple #[v0_,.int .i64 1]) ∧ Kd.S (Kd.slice 22 (Kd.int .u64)) 26 w' w.heap.size (fun _ => True) v0_ [] ∧ Below w.heap.size w w' := by
 by_cases hn : first.length = 0
 ·have q0 : decide ((first.length : Int) - 1 < 0) = true := decide_eq_true (by omega)
  rw [hn] at q0 ⊢
  clear hbad hn
  go_enter Try.func16,Try.ntmps16
  go_wp2
  first|go_ret2|((try simp only [Exit.inBlock,Exit.then]);refine bodyPost_ret (results_tmp2 rfl _ _ _) rfl ?_)
  exact ⟨_,rfl,Kd.S_nil _ _ _ _ _,Below.refl _ _⟩
 ·have hl : rest.length ≠ offs first.length first.length := hbad.resolve_left hn
  have hol := offs_last (n := first.length) (by omega)
  obtain ⟨t,en⟩ : ∃ t,t + 1 = first.length := ⟨first.length - 1,by omega⟩
  rw [← en] at hol hl hn2 ⊢
  have hq : ((rest.length : Int) != wrap64 ((wrap64 ((t : Int) * ((t : Int) + 1))).tdiv 2)) = true := by
   have h1 : (t : Int) * ((t : Int) + 1) = 2 * (offs (t + 1) (t + 1) : Int) := by rw [hol];push_cast;grind
   have h2 : (t : Int) * ((t : Int) + 1) ≤ 1000 * 1000 := Int.mul_le_mul (by omega) (by omega) (by omega) (by omega)
   have h3 : wrap64 ((t : Int) * ((t : Int) + 1)) = 2 * (offs (t + 1) (t + 1) : Int) := by rw [h1,w64' (by omega) (by omega)]
   rw [h3,Int.mul_tdiv_cancel_left _ (by omega),w64' (by omega) (by omega)]
   exact bne_iff_ne.mpr (by omega)
  have q0 : decide ((t : Int) < 0) = false := decide_eq_false (by omega)
  clear hbad hl hol hn en
  go_enter Try.func16,Try.ntmps16
  go_wp2
  first|go_ret2|((try simp only [Exit.inBlock,Exit.then]);refine bodyPost_ret (results_tmp2 rfl _ _ _) rfl ?_)
  exact ⟨_,rfl,Kd.S_nil _ _ _ _ _,Below.refl _ _⟩
def privityref10_New.f (l0 l1 : List Int) : Option (List (List Int) × Int) :=
 if l0.length ≤ 1000 then (if l1.length ≤ 1000000000 then (if newBad l0 l1 = true then some ([],1) else some (matL l0.length (newG l0.length l0 l1),0)) else none) else none
theorem privityref10_New.calls (A0 : Option Addr) (c0 : Nat) (l0 : List Int) (A1 : Option Addr) (c1 : Nat) (l1 : List Int) (r1 : List (List Int)) (r2 : Int) (w : World) (hr0 : Kd.C (Kd.int .u64) w A0 l0.length l0) (hc0 : l0.length ≤ c0) (hr1 : Kd.C (Kd.int .u64) w A1 l1.length l1) (hc1 : l1.length ≤ c1) (h : privityref10_New.f l0 l1 = some (r1,r2)) :
  Calls Try.prog 16 #[.slice A0 l0.length c0,.slice A1 l1.length c1] w fun e w' => ∃ v0_ : Value,e = .returned (.tuple #[v0_,.int .i64 r2]) ∧ Kd.S (Kd.slice 22 (Kd.int .u64)) 26 w' w.heap.size (fun _ => True) v0_ r1 ∧ Below w.heap.size w w' := by
 unfold privityref10_New.f at h
 obtain ⟨h1,h⟩ := ifs h
 obtain ⟨h2,h⟩ := ifs h
 by_cases hb : newBad l0 l1 = true
 ·rw [if_pos hb] at h
  have h := Option.some.inj h
  rw [← (Prod.mk.inj h).1,← (Prod.mk.inj h).2]
  exact rnew_err A0 c0 l0 A1 c1 l1 w h1 h2 (newBad_iff.1 hb)
 ·rw [if_neg hb] at h
  have h := Option.some.inj h
  rw [← (Prod.mk.inj h).1,← (Prod.mk.inj h).2]
  have hg : ¬ (l0.length = 0 ∨ l1.length ≠ offs l0.length l0.length) := fun hx => hb (newBad_iff.2 hx)
  exact rnew_walk A0 c0 l0 A1 c1 l1 w hr0 hc0 hr1 hc1 (by omega) h1 (Classical.byContradiction fun hx => hg (Or.inr hx))
end Go.Proofs.Ytejeelpnmdfibaa.Hw
end
section
namespace Go.Proofs.Ytejeelpnmdfibaa.Pr
open Go.RowKit Go.Proofs.YtejeelpnmdfibaaW.PrintWords Go.Proofs.YtejeelpnmdfibaaW.PrintLast Go.Proofs.YtejeelpnmdfibaaW.PrintMore
attribute [local go_sem] max2_int min2_int max_two min_two max_three min_three max_four min_four
open Go.Proofs.Ytejeelpnmdfibaa.Hw
def privityref43_Polys.l0 : Nat → List Int → List (List Int) → Int → List (List (List Int)) → Int → Option ((List (List (List Int))))
 | 0,_,_,_,_,_ => none
 | k + 1,x2,x12,x13,x14,x15 => if x15 < (x12.length : Int) then (if 0 ≤ x15 then (if 0 ≤ (wrap64 (x15 * x13)) then (if (wrap64 (x15 * x13)) ≤ (wrap64 ((wrap64 (x15 + 1)) * x13)) then (if (wrap64 ((wrap64 (x15 + 1)) * x13)) ≤ (x2.length : Int) then ((privityref10_New.f (rd_L4 x12 x15) ((x2.take ((wrap64 ((wrap64 (x15 + 1)) * x13)) : Int).toNat).drop ((wrap64 (x15 * x13)) : Int).toNat)).bind fun bt416 => (if x14.length < 5864062014805 then (privityref43_Polys.l0 k x2 x12 x13 (x14 ++ [bt416.1]) (wrap64 (x15 + 1))) else (none))) else (none)) else (none)) else (none)) else (none)) else (some x14)
def privityref43_Polys.f (k : Nat) (a0_0 : Int) (a0_1 : Int) (a0_2 : Int) (l1 : List Int) (l2 : List Int) : Option ((List (List (List Int)))) := if 0 ≤ (wrap64 (a0_2 + 1)) then (if (wrap64 (a0_2 + 1)) ≤ (l1.length : Int) then ((some (l1.take ((wrap64 (a0_2 + 1)) : Int).toNat : List Int)).bind fun y384 => (if (wrap64 (a0_2 + 1)) ≤ (wrap64 ((wrap64 (2 * a0_2)) + 2)) then (if (wrap64 ((wrap64 (2 * a0_2)) + 2)) ≤ (l1.length : Int) then ((some ((l1.take ((wrap64 ((wrap64 (2 * a0_2)) + 2)) : Int).toNat).drop ((wrap64 (a0_2 + 1)) : Int).toNat : List Int)).bind fun y389 => (if 0 ≤ (wrap64 ((wrap64 (2 * a0_2)) + 2)) then ((privityref21_Prove.f k a0_0 a0_2 y384 y389 (l1.drop ((wrap64 ((wrap64 (2 * a0_2)) + 2)) : Int).toNat)).bind fun bt399 => ((some (([y384,y389] : List (List Int)) : List (List Int))).bind fun y405 => (if y405.length + bt399.1.length < 5864062014805 then ((some (y405 ++ bt399.1 : List (List Int))).bind fun y408 => (if y408.length < 5864062014805 then (privityref43_Polys.l0 k l2 (y408 ++ [bt399.2]) (wrap64 (Int.tdiv (wrap64 (a0_2 * (wrap64 (a0_2 + 1)))) 2)) ([] : List (List (List Int))) 0) else (none))) else (none)))) else (none))) else (none)) else (none))) else (none)) else (none)
def privityref43_Polys.T2 : Bool × List (List Nat × List Nat) := (true,[([],[]),([],[]),([1],[1]),([0,2],[0,2]),([],[]),([],[]),([5],[5]),([],[]),([7],[7]),([8],[8]),([4,6,9],[4,6,9]),([3,0,1,2,3],[3]),([10,11,0,1,2,3,4,5,6,7,8,9,10,11],[10])])
def privityref43_Polys.B2 : List Nat := [0,0,2,7,0,0,32,0,128,384,1008,15,4095]
theorem privityref43_Polys.tab2 : rtab .any (opsOf Try.f28 2) = privityref43_Polys.T2 := by kernel_rfl
theorem privityref43_Polys.bits2 : waitsOk privityref43_Polys.T2.2 privityref43_Polys.B2 = true := by kernel_rfl
def privityref43_Polys.T3 : Bool × List (List Nat × List Nat) := (true,[([],[]),([0],[0]),([],[]),([],[]),([],[]),([],[]),([],[]),([6],[6]),([7],[7]),([5,8],[5,8]),([1,2,3,4,9],[1,2,3,4,9]),([10],[10]),([11],[11]),([11],[11]),([12,10,0,1,2,3,4,5,6,7,8,9,10,11,12],[12]),([13,14,0,1,2,3,4,5,6,7,8,9,10,11,12,13,14],[13])])
def privityref43_Polys.B3 : List Nat := [0,1,0,0,0,0,0,64,192,480,1023,2047,4095,4095,8191,32767]
theorem privityref43_Polys.tab3 : rtab .any (opsOf Try.f28 3) = privityref43_Polys.T3 := by kernel_rfl
theorem privityref43_Polys.bits3 : waitsOk privityref43_Polys.T3.2 privityref43_Polys.B3 = true := by kernel_rfl
def privityref43_Polys.T10 : Bool × List (List Nat × List Nat) := (true,[([],[]),([],[]),([0,1],[0,1]),([2],[2]),([],[]),([],[]),([],[]),([5,6],[5,6]),([],[]),([8],[8]),([],[]),([9,10],[9,10]),([4,7,11],[4,7,11]),([3,12],[3,12]),([13],[13]),([14],[14]),([14],[14]),([15,13,0,1,2,3,4,5,6,7,8,9,10,11,12,13,14,15],[15]),([16,17,0,1,2,3,4,5,6,7,8,9,10,11,12,13,14,15,16,17],[16])])
def privityref43_Polys.B10 : List Nat := [0,0,3,7,0,0,0,96,0,256,0,1792,4080,8191,16383,32767,32767,65535,262143]
theorem privityref43_Polys.tab10 : rtab .any (opsOf Try.f28 10) = privityref43_Polys.T10 := by kernel_rfl
theorem privityref43_Polys.bits10 : waitsOk privityref43_Polys.T10.2 privityref43_Polys.B10 = true := by kernel_rfl
set_option maxHeartbeats 8000000 in
set_option maxRecDepth 100000 in
theorem privityref43_Polys.calls (k : Nat) (a0_0 : Int) (a0_1 : Int) (a0_2 : Int) (P1_ : Nat → Prop) (A1 : Option Addr) (c1 : Nat) (l1 : List Int) (A2 : Option Addr) (c2 : Nat) (l2 : List Int) (r : List (List (List Int))) (w : World) (hs1 : Kd.V (Kd.int .u64) 22 w w.heap.size (fun k_ => P1_ k_) (.slice A1 l1.length c1) l1) (hr2 : Kd.C (Kd.int .u64) w A2 l2.length l2) (hc2 : l2.length ≤ c2) (h : privityref43_Polys.f k a0_0 a0_1 a0_2 l1 l2 = some r) :
  Calls Try.prog 28 #[.agg #[.int .u64 a0_0,.int .i64 a0_1,.int .i64 a0_2],.slice A1 l1.length c1,.slice A2 l2.length c2] w fun e w' => ∃ v0_ : Value,e = .returned (v0_) ∧ Kd.N (Kd.slice 26 (Kd.slice 22 (Kd.int .u64))) 34 w' w.heap.size (fun k_ => (P1_ k_ ∨ w.heap.size ≤ k_)) v0_ r ∧ Below w.heap.size w w' := by
 have hu24 := Try.underlying24
 have HO1 := am (show Kd.V (Kd.int .u64) 22 w w.heap.size (fun k_ => (P1_ k_ ∨ w.heap.size ≤ k_)) (.slice A1 l1.length c1) l1 from Kd.V_mono hs1 (fun k_ hk => .inl hk))
 have HR2 := am hr2
 have HC2 := am hc2
 clear hr2 hc2
 have HB := am (Below.refl w.heap.size w)
 have H : (if 0 ≤ (wrap64 (a0_2 + 1)) then (if (wrap64 (a0_2 + 1)) ≤ (l1.length : Int) then ((some (l1.take ((wrap64 (a0_2 + 1)) : Int).toNat : List Int)).bind fun y384 => (if (wrap64 (a0_2 + 1)) ≤ (wrap64 ((wrap64 (2 * a0_2)) + 2)) then (if (wrap64 ((wrap64 (2 * a0_2)) + 2)) ≤ (l1.length : Int) then ((some ((l1.take ((wrap64 ((wrap64 (2 * a0_2)) + 2)) : Int).toNat).drop ((wrap64 (a0_2 + 1)) : Int).toNat : List Int)).bind fun y389 => (if 0 ≤ (wrap64 ((wrap64 (2 * a0_2)) + 2)) then ((privityref21_Prove.f k a0_0 a0_2 y384 y389 (l1.drop ((wrap64 ((wrap64 (2 * a0_2)) + 2)) : Int).toNat)).bind fun bt399 => ((some (([y384,y389] : List (List Int)) : List (List Int))).bind fun y405 => (if y405.length + bt399.1.length < 5864062014805 then ((some (y405 ++ bt399.1 : List (List Int))).bind fun y408 => (if y408.length < 5864062014805 then (privityref43_Polys.l0 k l2 (y408 ++ [bt399.2]) (wrap64 (Int.tdiv (wrap64 (a0_2 * (wrap64 (a0_2 + 1)))) 2)) ([] : List (List (List Int))) 0) else (none))) else (none)))) else (none))) else (none)) else (none))) else (none)) else (none)) = some r := h
 clear h
 obtain ⟨ji4,hji4⟩ : ∃ j_ : Int,(wrap64 (a0_2 + 1)) = j_ := ⟨_,rfl⟩
 first|rw [hji4] at H|simp only [hji4] at H
 have hji4w : (IntKind.i64.wrap (a0_2 + 1)) = ji4 := (i64_w _).trans hji4
 by_cases c5 : 0 ≤ (ji4)
 ·rw [if_pos c5] at H
  have c5b0 := eq_true c5
  have c5b1 : decide (0 ≤ (ji4)) = true := decide_eq_true c5
  clear c5
  by_cases c6 : (ji4) ≤ (l1.length : Int)
  ·rw [if_pos c6] at H
   have c6b0 := eq_true c6
   have c6b1 : decide ((ji4) ≤ (l1.length : Int)) = true := decide_eq_true c6
   clear c6
   obtain ⟨y384,hy384⟩ : ∃ y_ : List Int,y_ = (l1.take ((ji4) : Int).toNat) := ⟨_,rfl⟩
   replace H : (if (ji4) ≤ (wrap64 ((wrap64 (2 * a0_2)) + 2)) then (if (wrap64 ((wrap64 (2 * a0_2)) + 2)) ≤ (l1.length : Int) then ((some ((l1.take ((wrap64 ((wrap64 (2 * a0_2)) + 2)) : Int).toNat).drop ((ji4) : Int).toNat : List Int)).bind fun y389 => (if 0 ≤ (wrap64 ((wrap64 (2 * a0_2)) + 2)) then ((privityref21_Prove.f k a0_0 a0_2 y384 y389 (l1.drop ((wrap64 ((wrap64 (2 * a0_2)) + 2)) : Int).toNat)).bind fun bt399 => ((some (([y384,y389] : List (List Int)) : List (List Int))).bind fun y405 => (if y405.length + bt399.1.length < 5864062014805 then ((some (y405 ++ bt399.1 : List (List Int))).bind fun y408 => (if y408.length < 5864062014805 then (privityref43_Polys.l0 k l2 (y408 ++ [bt399.2]) (wrap64 (Int.tdiv (wrap64 (a0_2 * (ji4))) 2)) ([] : List (List (List Int))) 0) else (none))) else (none)))) else (none))) else (none)) else (none)) = some r := by first|(rw [hy384];with_reducible exact H)|(have H2_ := (Option.bind_some _ _).symm.trans H;rw [hy384];with_reducible exact H2_)|(have H2_ := (Option.bind_some _ _).symm.trans H;with_reducible exact H2_)|with_reducible exact H|(rw [hy384];exact H)|exact H
   have Ny384 := am hy384
   clear hy384
   have c7b0 := eq_true (od : 0 ≤ (ji4))
   by_cases c8 : (ji4) ≤ (wrap64 ((wrap64 (2 * a0_2)) + 2))
   ·rw [if_pos c8] at H
    have c8b0 := eq_true c8
    have c8b1 : decide ((ji4) ≤ (wrap64 ((wrap64 (2 * a0_2)) + 2))) = true := decide_eq_true c8
    by_cases c9 : (wrap64 ((wrap64 (2 * a0_2)) + 2)) ≤ (l1.length : Int)
    ·rw [if_pos c9] at H
     have c9b0 := eq_true c9
     have c9b1 : decide ((wrap64 ((wrap64 (2 * a0_2)) + 2)) ≤ (l1.length : Int)) = true := decide_eq_true c9
     obtain ⟨y389,hy389⟩ : ∃ y_ : List Int,y_ = ((l1.take ((wrap64 ((wrap64 (2 * a0_2)) + 2)) : Int).toNat).drop ((ji4) : Int).toNat) := ⟨_,rfl⟩
     replace H : (if 0 ≤ (wrap64 ((wrap64 (2 * a0_2)) + 2)) then ((privityref21_Prove.f k a0_0 a0_2 y384 y389 (l1.drop ((wrap64 ((wrap64 (2 * a0_2)) + 2)) : Int).toNat)).bind fun bt399 => ((some (([y384,y389] : List (List Int)) : List (List Int))).bind fun y405 => (if y405.length + bt399.1.length < 5864062014805 then ((some (y405 ++ bt399.1 : List (List Int))).bind fun y408 => (if y408.length < 5864062014805 then (privityref43_Polys.l0 k l2 (y408 ++ [bt399.2]) (wrap64 (Int.tdiv (wrap64 (a0_2 * (ji4))) 2)) ([] : List (List (List Int))) 0) else (none))) else (none)))) else (none)) = some r := by first|(rw [hy389];with_reducible exact H)|(have H2_ := (Option.bind_some _ _).symm.trans H;rw [hy389];with_reducible exact H2_)|(have H2_ := (Option.bind_some _ _).symm.trans H;with_reducible exact H2_)|with_reducible exact H|(rw [hy389];exact H)|exact H
     have Ny389 := am hy389
     clear hy389
     obtain ⟨ji10,hji10⟩ : ∃ j_ : Int,(wrap64 ((wrap64 (2 * a0_2)) + 2)) = j_ := ⟨_,rfl⟩
     first|rw [hji10] at H|simp only [hji10] at H
     (try rw [hji10] at c8b0)
     (try rw [hji10] at c8b1)
     (try rw [hji10] at c8)
     (try rw [hji10] at c9b0)
     (try rw [hji10] at c9b1)
     (try rw [hji10] at c9)
     (try rw [hji10] at Ny389)
     have hji10w : (IntKind.i64.wrap ((wrap64 (2 * a0_2)) + 2)) = ji10 := (i64_w _).trans hji10
     by_cases c11 : 0 ≤ (ji10)
     ·rw [if_pos c11] at H
      have c11b0 := eq_true c11
      have c11b1 : decide (0 ≤ (ji10)) = true := decide_eq_true c11
      clear c11
      have c12b0 := eq_true (od : (ji10) ≤ (l1.length : Int))
      obtain ⟨y394,hy394⟩ : ∃ y_ : List Int,y_ = (l1.drop ((ji10) : Int).toNat) := ⟨_,rfl⟩
      replace H : ((privityref21_Prove.f k a0_0 a0_2 y384 y389 y394).bind fun bt399 => ((some (([y384,y389] : List (List Int)) : List (List Int))).bind fun y405 => (if y405.length + bt399.1.length < 5864062014805 then ((some (y405 ++ bt399.1 : List (List Int))).bind fun y408 => (if y408.length < 5864062014805 then (privityref43_Polys.l0 k l2 (y408 ++ [bt399.2]) (wrap64 (Int.tdiv (wrap64 (a0_2 * (ji4))) 2)) ([] : List (List (List Int))) 0) else (none))) else (none)))) = some r := by first|(rw [hy394];with_reducible exact H)|(have H2_ := (Option.bind_some _ _).symm.trans H;rw [hy394];with_reducible exact H2_)|(have H2_ := (Option.bind_some _ _).symm.trans H;with_reducible exact H2_)|with_reducible exact H|(rw [hy394];exact H)|exact H
      have Ny394 := am hy394
      clear hy394
      replace H := Option.bind_eq_some_iff.mp H
      obtain ⟨⟨t399,t400⟩,A130,H⟩ := H
      try dsimp only at H
      have A13 := am A130
      clear A130
      obtain ⟨y405,hy405⟩ : ∃ y_ : List (List Int),y_ = (([y384,y389] : List (List Int))) := ⟨_,rfl⟩
      replace H : (if y405.length + t399.length < 5864062014805 then ((some (y405 ++ t399 : List (List Int))).bind fun y408 => (if y408.length < 5864062014805 then (privityref43_Polys.l0 k l2 (y408 ++ [t400]) (wrap64 (Int.tdiv (wrap64 (a0_2 * (ji4))) 2)) ([] : List (List (List Int))) 0) else (none))) else (none)) = some r := by first|(rw [hy405];with_reducible exact H)|(have H2_ := (Option.bind_some _ _).symm.trans H;rw [hy405];with_reducible exact H2_)|(have H2_ := (Option.bind_some _ _).symm.trans H;with_reducible exact H2_)|with_reducible exact H|(rw [hy405];exact H)|exact H
      have Ny405 := am hy405
      clear hy405
      by_cases c14 : y405.length + t399.length < 5864062014805
      ·rw [if_pos c14] at H
       have LMc14 := am c14
       clear c14
       obtain ⟨y408,hy408⟩ : ∃ y_ : List (List Int),y_ = (y405 ++ t399) := ⟨_,rfl⟩
       replace H : (if y408.length < 5864062014805 then (privityref43_Polys.l0 k l2 (y408 ++ [t400]) (wrap64 (Int.tdiv (wrap64 (a0_2 * (ji4))) 2)) ([] : List (List (List Int))) 0) else (none)) = some r := by first|(rw [hy408];with_reducible exact H)|(have H2_ := (Option.bind_some _ _).symm.trans H;rw [hy408];with_reducible exact H2_)|(have H2_ := (Option.bind_some _ _).symm.trans H;with_reducible exact H2_)|with_reducible exact H|(rw [hy408];exact H)|exact H
       have Ny408 := am hy408
       clear hy408
       by_cases c15 : y408.length < 5864062014805
       ·rw [if_pos c15] at H
        have LMc15 := am c15
        clear c15
        obtain ⟨y411,hy411⟩ : ∃ y_ : List (List Int),y_ = (y408 ++ [t400]) := ⟨_,rfl⟩
        replace H : (privityref43_Polys.l0 k l2 y411 (wrap64 (Int.tdiv (wrap64 (a0_2 * (ji4))) 2)) ([] : List (List (List Int))) 0) = some r := by first|(rw [hy411];with_reducible exact H)|(have H2_ := (Option.bind_some _ _).symm.trans H;rw [hy411];with_reducible exact H2_)|(have H2_ := (Option.bind_some _ _).symm.trans H;with_reducible exact H2_)|with_reducible exact H|(rw [hy411];exact H)|exact H
        have Ny411 := am hy411
        clear hy411
        have H' := am H
        clear H
        go_enter Try.func28,Try.ntmps28
        try go_wp2_with (first|((with_reducible refine gate_dst (N := 3) rfl ?_);refine box_event ?hg (N := 3) ?hd (cs := #[.int .u64 a0_0,.int .i64 a0_1,.int .i64 a0_2]) (t := 24) ?hr ?_;(case hd => rfl);(case hg => rfl);(case hr => first|(go_simp;done)|(go_simp;rfl));intro gb383 hg w16 hbox hb;have n0_ := am (Kd.V_below (Kd.V_elderB (rv HO1) gb383 (Nat.le_of_eq hg.symm)) hb);have n1_ := am (below_step (bb HB) hb);have n2_ := am (hbox);have n3_ := am ((by rw [hg];exact (below_size (bb HB)) : w.heap.size ≤ gb383));have n4_ := am ((by rw [hg];exact (below_size (bb HB)) : w.heap.size ≤ gb383));clear HO1 HB;have HO1 := n0_;have HB := n1_;have BK383 := n2_;have GW383 := n3_;have GE383 := n4_;clear n0_ n1_ n2_ n3_ n4_;clear hb hbox hg;have hcz17_0 := bc BK383 0;have hcz17_1 := bc BK383 1;have hcz17_2 := bc BK383 2;have hfz17_0 := bf BK383 0;have hfz17_1 := bf BK383 1;have hfz17_2 := bf BK383 2))
        have n0_ := am (Kd.V_drew HO1.out)
        have n1_ := am (blk_drew BK383.out)
        have n2_ := am (below_drew1 HB.out)
        clear HO1
        clear BK383
        clear HB
        have HO1 := n0_
        have BK383 := n1_
        have HB := n2_
        clear n0_ n1_ n2_
        have q19 : ((ji4) : Int) ≤ ((l1.length : Int) : Int) := od
        obtain ⟨i019,hi019,_,hsz19,_⟩ := info_parts info22
        have hroom19 : l1.length ≤ c1 := (Kd.V_reads' HO1.out).2.1
        have hC19 : Kd.F (Kd.int .u64) _ _ A1 l1.length l1 := (Kd.V_at (base := w.heap.size) HO1.out).2.2
        have hcut19 := cut_to (P := Try.prog) 26 22 .i64 Try.underlying26 hi019 A1 l1.length c1 (ji4) (od) q19 hroom19
        have hr19 := Kd.F_take (m := ((ji4) : Int).toNat) hC19 (by omega)
        have hy19 : y384.length = ((ji4) : Int).toNat := (by rw [Ny384.out,List.length_take];omega)
        rw [← Ny384.out] at hr19
        rw [← hy19] at hcut19
        have HO388 := am (show Kd.V (Kd.int .u64) 22 _ w.heap.size _ (.slice A1 y384.length c1) y384 from Kd.V_mk (by omega) hr19)
        have HC388 := am (show y384.length ≤ c1 from by omega)
        clear hr19 hC19 hroom19 hi019 hsz19
        have KY19 := am hy19
        clear hy19
        replace q19 := eq_true q19
        have q20 : ((ji10) : Int) ≤ ((l1.length : Int) : Int) := od
        obtain ⟨i020,hi020,_,hsz20,_⟩ := info_parts info22
        have hroom20 : l1.length ≤ c1 := (Kd.V_reads' HO1.out).2.1
        have hC20 : Kd.F (Kd.int .u64) _ _ A1 l1.length l1 := (Kd.V_at (base := w.heap.size) HO1.out).2.2
        have ql20 : ((ji4) : Int) ≤ ((ji10) : Int) := od
        have q020 : (0 : Int) ≤ ((ji4) : Int) := od
        have hcut20 := cut_mid (P := Try.prog) 26 22 .i64 .i64 Try.underlying26 hi020 1 hsz20 A1 l1.length c1 (ji4) (ji10) q020 ql20 q20 hroom20
        have hr20 := Kd.F_mid (lo := ((ji4) : Int).toNat) (hi := ((ji10) : Int).toNat) (c := c1) hC20 (by omega) (by omega) hroom20
        obtain ⟨A20,hA20⟩ : ∃ A1_,A1_ = (if c1 = ((ji4) : Int).toNat then A1 else (A1 : Option Addr).map (·.add (((ji4) : Int).toNat * 1))) := ⟨_,rfl⟩
        obtain ⟨c20,hc20⟩ : ∃ c1_,c1_ = c1 - ((ji4) : Int).toNat := ⟨_,rfl⟩
        have hy20 : y389.length = ((ji10) : Int).toNat - ((ji4) : Int).toNat := (by rw [Ny389.out,List.length_drop,List.length_take] <;> omega)
        rw [show ((l1).take ((ji10) : Int).toNat).drop ((ji4) : Int).toNat = y389 from Ny389.out.symm] at hr20
        replace hr20 : Kd.F (Kd.int .u64) _ _ A20 y389.length y389 := (by rw [hA20];exact hr20)
        rw [← hy20,← hA20,← hc20] at hcut20
        have HO393 := am (show Kd.V (Kd.int .u64) 22 _ w.heap.size _ (.slice A20 y389.length c20) y389 from Kd.V_mk (by rw [hy20,hc20];exact Nat.sub_le_sub_right (Nat.le_trans (by omega) hroom20) _) hr20)
        have HC393 := am (show y389.length ≤ c20 from by rw [hy20,hc20];exact Nat.sub_le_sub_right (Nat.le_trans (by omega) hroom20) _)
        clear hr20 hC20 hroom20 hi020 hsz20 hc20
        have KY20 := am hy20
        have KA20 := am hA20
        clear hy20 hA20
        replace q20 := eq_true q20
        refine start_ (n := 13) (S := fun w' => True) (ds := []) (bz 13 0) (by kernel_rfl) rfl rfl trivial (fun hHeld => ?_);refine with_tabW privityref43_Polys.tab2 privityref43_Polys.bits2 (fun HT_ HW_ => ?_)
        generalize w16.drew = w18 at HO1 BK383 HB HO388 HO393 hHeld ⊢
        refine pk 0 20 (bz 13 1) HT_ ?_
        refine pk 1 21 (bz 13 3) HT_ ?_
        refine pk 2 22 (bz 13 7) HT_ ?_
        refine pk 3 23 (bz 13 15) HT_ ?_
        refine pk 4 24 (bz 13 31) HT_ ?_
        refine pk 5 25 (bz 13 63) HT_ ?_
        refine pk 6 26 (bz 13 127) HT_ ?_
        refine pk 7 27 (bz 13 255) HT_ ?_
        refine pk 8 28 (bz 13 511) HT_ ?_
        refine pk 9 29 (bz 13 1023) HT_ ?_
        refine pk 10 30 (bz 13 2047) HT_ ?_
        refine pk 11 8 (bz 13 4095) HT_ ?_
        refine pk 12 9 (bz 13 8191) HT_ ?_
        refine done_ (done_of HT_.out (by kernel_rfl)) ?_
        try go_wp2
        have n0_ := am (Kd.V_drew HO1.out)
        have n1_ := am (Kd.V_drew HO388.out)
        have n2_ := am (Kd.V_drew HO393.out)
        have n3_ := am (blk_drew BK383.out)
        have n4_ := am (below_drew1 HB.out)
        clear HO1
        clear HO388
        clear HO393
        clear BK383
        clear HB
        have HO1 := n0_
        have HO388 := n1_
        have HO393 := n2_
        have BK383 := n3_
        have HB := n4_
        clear n0_ n1_ n2_ n3_ n4_
        have q22 : ((ji10) : Int) ≤ ((l1.length : Int) : Int) := od
        obtain ⟨i022,hi022,_,hsz22,_⟩ := info_parts info22
        have hroom22 : l1.length ≤ c1 := (Kd.V_reads' HO1.out).2.1
        have hC22 : Kd.F (Kd.int .u64) _ _ A1 l1.length l1 := (Kd.V_at (base := w.heap.size) HO1.out).2.2
        have q022 : (0 : Int) ≤ ((ji10) : Int) := od
        have hcut22 := cut_from (P := Try.prog) 26 22 .i64 Try.underlying26 hi022 1 hsz22 A1 l1.length c1 (ji10) q022 q22
        have hr22 := Kd.F_cut (m := ((ji10) : Int).toNat) (c := c1) hC22 (by omega) hroom22
        obtain ⟨A22,hA22⟩ : ∃ A1_,A1_ = (if c1 = ((ji10) : Int).toNat then A1 else (A1 : Option Addr).map (·.add (((ji10) : Int).toNat * 1))) := ⟨_,rfl⟩
        obtain ⟨c22,hc22⟩ : ∃ c1_,c1_ = c1 - ((ji10) : Int).toNat := ⟨_,rfl⟩
        have hy22 : y394.length = l1.length - ((ji10) : Int).toNat := (by rw [Ny394.out,List.length_drop] <;> omega)
        rw [show (l1).drop ((ji10) : Int).toNat = y394 from Ny394.out.symm] at hr22
        replace hr22 : Kd.F (Kd.int .u64) _ _ A22 y394.length y394 := (by rw [hA22];exact hr22)
        rw [← hy22,← hA22,← hc22] at hcut22
        have HO398 := am (show Kd.V (Kd.int .u64) 22 _ w.heap.size _ (.slice A22 y394.length c22) y394 from Kd.V_mk (by rw [hy22,hc22];exact Nat.sub_le_sub_right hroom22 _) hr22)
        have HC398 := am (show y394.length ≤ c22 from by rw [hy22,hc22];exact Nat.sub_le_sub_right hroom22 _)
        clear hr22 hC22 hroom22 hi022 hsz22 hc22
        have KY22 := am hy22
        have KA22 := am hA22
        clear hy22 hA22
        replace q22 := eq_true q22
        refine start_ (n := 16) (S := fun w' => w'.cell? ⟨gb383,0,none⟩ = some (.int .u64 a0_0) ∧ w'.cell? ⟨gb383,1,none⟩ = some (.int .i64 a0_1) ∧ w'.cell? ⟨gb383,2,none⟩ = some (.int .i64 a0_2)) (ds := []) (bz 16 0) (by kernel_rfl) rfl rfl ⟨(blk_cell BK383.out 0).trans rfl,(blk_cell BK383.out 1).trans rfl,(blk_cell BK383.out 2).trans rfl⟩ (fun hHeld => ?_);refine with_tabW privityref43_Polys.tab3 privityref43_Polys.bits3 (fun HT_ HW_ => ?_)
        generalize w18.drew = w21 at HO1 HO388 HO393 BK383 HB HO398 hHeld ⊢
        refine pk 0 32 (bz 16 1) HT_ ?_
        refine pk 2 34 (bz 16 5) HT_ ?_
        refine pk 3 35 (bz 16 13) HT_ ?_
        refine pk 4 36 (bz 16 29) HT_ ?_
        refine pk 5 37 (bz 16 61) HT_ ?_
        refine pk 6 38 (bz 16 125) HT_ ?_
        refine pk 7 39 (bz 16 253) HT_ ?_
        refine pk 8 40 (bz 16 509) HT_ ?_
        refine pk 9 41 (bz 16 1021) HT_ ?_
        refine tk 1 33 (bz 16 1023) HT_ HW_ hHeld ?_
        refine on 10 42 (bz 16 2047) HT_ (fun K hK => ?_)
        refine goes_ Try.func61 (by kernel_rfl) rfl #[.int .u64 a0_0,.int .i64 a0_2,.slice A1 y384.length c1,.slice A20 y389.length c20,.slice A22 y394.length c22] (by rfl) rfl rfl (by (try simp only [List.map_toArray,List.map_cons,List.map_nil]);first|done|rfl|(simp only [List.length_drop,List.length_take];rfl)) ?_
        with_reducible refine (privityref21_Prove.calls k a0_0 a0_2 _ _ y384 _ _ y389 _ _ y394 t399 t400 _ ?side1 ?side2 ?side3 ?side4 ?side5 ?side6 A13.out).mono ?_
        (case side1 => repeat (first|exact (Kd.V_reads' HO388.out).2.2|(with_reducible refine Kd.C_alloc ?_ _)|(with_reducible refine Kd.C_drewN ?_ _)|(with_reducible refine Kd.C_drew ?_)))
        (case side2 => exact (Kd.V_reads' HO388.out).2.1)
        (case side3 => repeat (first|exact (Kd.V_reads' HO393.out).2.2|(with_reducible refine Kd.C_alloc ?_ _)|(with_reducible refine Kd.C_drewN ?_ _)|(with_reducible refine Kd.C_drew ?_)))
        (case side4 => exact (Kd.V_reads' HO393.out).2.1)
        (case side5 => repeat (first|exact (Kd.V_reads' HO398.out).2.2|(with_reducible refine Kd.C_alloc ?_ _)|(with_reducible refine Kd.C_drewN ?_ _)|(with_reducible refine Kd.C_drew ?_)))
        (case side6 => exact (Kd.V_reads' HO398.out).2.1)
        rintro e w23 ⟨v401,v403,rfl,ho0,ho1,hb⟩
        refine ⟨_,rfl,?_⟩
        have n0_ := am (Kd.V_mono (Kd.V_told (Kd.V_told (Kd.V_old (rv HO1) hb) (by first|exact Kd.N_base ho0|exact Kd.S_base ho0)) (Kd.R_base ho1)) (fun _ h_ => h_.1))
        have n1_ := am (Kd.V_mono (Kd.V_told (Kd.V_told (Kd.V_old (rv HO388) hb) (by first|exact Kd.N_base ho0|exact Kd.S_base ho0)) (Kd.R_base ho1)) (fun _ h_ => h_.1))
        have n2_ := am (Kd.V_mono (Kd.V_told (Kd.V_told (Kd.V_old (rv HO393) hb) (by first|exact Kd.N_base ho0|exact Kd.S_base ho0)) (Kd.R_base ho1)) (fun _ h_ => h_.1))
        have n3_ := am (Kd.V_mono (Kd.V_told (Kd.V_told (Kd.V_old (rv HO398) hb) (by first|exact Kd.N_base ho0|exact Kd.S_base ho0)) (Kd.R_base ho1)) (fun _ h_ => h_.1))
        have n4_ := am (Kd.N_lower (Kd.N_mono (ok' := fun k_ => (P1_ k_ ∨ w.heap.size ≤ k_) ∧ some k_ ≠ (v403 : Value).ownBlock ∧ k_ ≠ gb383) (Kd.S_N (Kd.S_bound ho0)) (fun k_ hk_ => ⟨(.inr (Nat.le_trans (below_size (bg HB GE383)) hk_.2.1)),hk_.1,(Kd.freshB (g := gb383) (o := .cells #[.int .u64 a0_0,.int .i64 a0_1,.int .i64 a0_2] 24 (0,0)) (by (with_reducible repeat (first|refine blk_drewN ?_ _|refine blk_drew ?_|refine blk_alloc ?_ _));exact BK383.out) k_ hk_.2.1)⟩)) (below_size (bg HB GE383)))
        have n5_ := am (Kd.R_lower (Kd.R_newM (M := fun k_ => (w.heap.size ≤ k_)) ho1 (below_size (bg HB GE383)) (fun k_ h_ => h_)) (below_size (bg HB GE383)))
        have n6_ := am (kb BK383 hb)
        have n7_ := am (below_step (bg HB GE383) hb)
        clear HO1
        clear HO388
        clear HO393
        clear HO398
        clear BK383
        clear HB
        have HO1 := n0_
        have HO388 := n1_
        have HO393 := n2_
        have HO398 := n3_
        have HO402 := n4_
        have HO404 := n5_
        have BK383 := n6_
        have HB := n7_
        clear n0_ n1_ n2_ n3_ n4_ n5_ n6_ n7_
        (try clear hb)
        (try clear hb2)
        (try clear hk)
        (try clear hi)
        (try clear ho0)
        (try clear ho1)
        refine hK.out _ _ ⟨(blk_cell BK383.out 0).trans rfl,(blk_cell BK383.out 1).trans rfl,(blk_cell BK383.out 2).trans rfl⟩ (fun hHeld => ?_)
        clear hK K
        refine nm 42 ?_
        refine pk 11 31 (bz 16 4095) HT_ ?_
        refine pk 12 43 (bz 16 8191) HT_ ?_
        refine pk 13 44 (bz 16 16383) HT_ ?_
        refine pk 14 10 (bz 16 32767) HT_ ?_
        refine pk 15 11 (bz 16 65535) HT_ ?_
        refine done_ (done_of HT_.out (by kernel_rfl)) ?_
        try go_wp2_with (first|((with_reducible refine gate_dst (N := 47) rfl ?_);refine Kd.N_lit (Kd.slice 22 (Kd.int .u64)) _ 26 ?hg (N' := 47) ?hd (xs := ([y384,y389] : List (List Int))) (inner := [.slice A1 y384.length c1,.slice A20 y389.length c20]) (ok := (fun k_ => (P1_ k_ ∨ w.heap.size ≤ k_) ∧ some k_ ≠ (v401 : Value).ownBlock ∧ some k_ ≠ (v403 : Value).ownBlock ∧ k_ ≠ gb383)) (okp := (fun k_ => (P1_ k_ ∨ w.heap.size ≤ k_) ∧ some k_ ≠ (v401 : Value).ownBlock ∧ some k_ ≠ (v403 : Value).ownBlock ∧ k_ ≠ gb383)) ?hr ?hp (fun _ hk => hk) ((show ∀ k_,w23.heap.size ≤ k_ → (fun k_ => (P1_ k_ ∨ w.heap.size ≤ k_) ∧ some k_ ≠ (v401 : Value).ownBlock ∧ some k_ ≠ (v403 : Value).ownBlock ∧ k_ ≠ gb383) k_ from fun k_ hk => ⟨(.inr (Nat.le_trans (below_size (bg HB GE383)) hk)),Kd.fresh' (Kd.N_lt (rn HO402)) k_ hk,Kd.fresh' (Kd.R_lt (rr HO404)) k_ hk,Kd.freshB (g := gb383) (o := .cells #[.int .u64 a0_0,.int .i64 a0_1,.int .i64 a0_2] 24 (0,0)) (by (with_reducible repeat (first|refine blk_drewN ?_ _|refine blk_drew ?_|refine blk_alloc ?_ _));exact BK383.out) k_ hk⟩) _ (Nat.le_refl _)) (Below.refl _ _) (Nat.le_refl _) (by simp) ?_;(case hd => rfl);(case hg => rfl);(case hr => first|(go_simp;done)|(go_simp;rfl));(case hp => exact (Reps.one (show Kd.FK (Kd.slice 22 (Kd.int .u64)) _ _ y384 [.slice A1 y384.length c1] from (Kd.FK_slice_mk (Kd.V_reads' (Kd.V_mono (ok' := (fun k_ => (P1_ k_ ∨ w.heap.size ≤ k_) ∧ some k_ ≠ (v401 : Value).ownBlock ∧ some k_ ≠ (v403 : Value).ownBlock ∧ k_ ≠ gb383)) (HO388.out) (fun k_ hk => ⟨hk.1.1.1,⟨hk.1.2,⟨hk.2,hk.1.1.2⟩⟩⟩))).2.1 (Kd.V_F (Kd.V_mono (ok' := (fun k_ => (P1_ k_ ∨ w.heap.size ≤ k_) ∧ some k_ ≠ (v401 : Value).ownBlock ∧ some k_ ≠ (v403 : Value).ownBlock ∧ k_ ≠ gb383)) (HO388.out) (fun k_ hk => ⟨hk.1.1.1,⟨hk.1.2,⟨hk.2,hk.1.1.2⟩⟩⟩))))) (Reps.one (show Kd.FK (Kd.slice 22 (Kd.int .u64)) _ _ y389 [.slice A20 y389.length c20] from (Kd.FK_slice_mk (Kd.V_reads' (Kd.V_mono (ok' := (fun k_ => (P1_ k_ ∨ w.heap.size ≤ k_) ∧ some k_ ≠ (v401 : Value).ownBlock ∧ some k_ ≠ (v403 : Value).ownBlock ∧ k_ ≠ gb383)) (HO393.out) (fun k_ hk => ⟨hk.1.1.1,⟨hk.1.2,⟨hk.2,hk.1.1.2⟩⟩⟩))).2.1 (Kd.V_F (Kd.V_mono (ok' := (fun k_ => (P1_ k_ ∨ w.heap.size ≤ k_) ∧ some k_ ≠ (v401 : Value).ownBlock ∧ some k_ ≠ (v403 : Value).ownBlock ∧ k_ ≠ gb383)) (HO393.out) (fun k_ hk => ⟨hk.1.1.1,⟨hk.1.2,⟨hk.2,hk.1.1.2⟩⟩⟩))))) (Reps.none _ _))));intro v406 w24 ho25 hb hg_ hnew_;clear hg_ hnew_;(first|rw [← Ny405.out] at ho25|(simp only [Int.reduceToNat] at ho25;rw [← Ny405.out] at ho25));have n0_ := am (Kd.V_elder' (rv HO1) (Kd.N_base ho25) hb);have n1_ := am (Kd.V_elder' (rv HO388) (Kd.N_base ho25) hb);have n2_ := am (Kd.V_elder' (rv HO393) (Kd.N_base ho25) hb);have n3_ := am (Kd.V_elder' (rv HO398) (Kd.N_base ho25) hb);have n4_ := am (Kd.N_elder' (rn HO402) (Kd.N_base ho25) hb);have n5_ := am (Kd.R_below (rr HO404) hb);have n6_ := am (Kd.N_lower ho25 (below_size (bg HB GE383)));have n7_ := am (kb BK383 hb);have n8_ := am (below_step (bg HB GE383) hb);clear HO1 HO388 HO393 HO398 HO402 HO404 BK383 HB;have HO1 := n0_;have HO388 := n1_;have HO393 := n2_;have HO398 := n3_;have HO402 := n4_;have HO404 := n5_;have HO407 := n6_;have BK383 := n7_;have HB := n8_;clear n0_ n1_ n2_ n3_ n4_ n5_ n6_ n7_ n8_;clear hb ho25;obtain ⟨Ao27,co27,eo27⟩ := Kd.N_slice HO402.out;subst eo27)|((with_reducible refine gate_builtin (b := .append) (xs := #[.tmp 47,.tmp 48]) rfl ?_);at_builtin;refine Kd.N_append_rows (Kd.slice 22 (Kd.int .u64)) (w0 := w) w.heap.size rfl (.tmp 47) (.tmp 48) 34 26 (.slice none 0 0) 24 rfl Try.underlying34 info26 rfl (by decide) (by omega) v406 y405 t399 _ _ _ (fun k_ => (P1_ k_ ∨ w.heap.size ≤ k_) ∧ some k_ ≠ (v403 : Value).ownBlock ∧ k_ ≠ gb383) (fun k_ => ((fun k_ => (P1_ k_ ∨ w.heap.size ≤ k_) ∧ some k_ ≠ (v403 : Value).ownBlock ∧ k_ ≠ gb383)) k_ ∧ some k_ ≠ (v406 : Value).ownBlock) rfl rfl ?aO ?aR (fun _ hk => hk) ?aF ?aB ?aS ?aL ?_;(case aR => exact (by skip;exact Kd.N_F (Kd.N_mono (ok' := (fun k_ => ((fun k_ => (P1_ k_ ∨ w.heap.size ≤ k_) ∧ some k_ ≠ (v403 : Value).ownBlock ∧ k_ ≠ gb383)) k_ ∧ some k_ ≠ (v406 : Value).ownBlock)) (HO402.out) (fun k_ hk => ⟨⟨hk.1.1,⟨hk.1.2.1,hk.1.2.2⟩⟩,hk.2⟩))));(case aB => exact (bg HB GE383));(case aF => exact (fun k_ hk => ⟨(.inr (Nat.le_trans (below_size (bg HB GE383)) hk)),Kd.fresh' (Kd.R_lt (rr HO404)) k_ hk,Kd.freshB (g := gb383) (o := .cells #[.int .u64 a0_0,.int .i64 a0_1,.int .i64 a0_2] 24 (0,0)) (by (with_reducible repeat (first|refine blk_drewN ?_ _|refine blk_drew ?_|refine blk_alloc ?_ _));exact BK383.out) k_ hk⟩));(case aO => exact (by (with_reducible repeat (first|apply Kd.N_alloc|apply Kd.N_drewN|apply Kd.N_drew));exact Kd.N_mono HO407.out (fun _ hk => ⟨hk.1,⟨hk.2.2.1,hk.2.2.2⟩⟩)));(case aS => exact (below_size (bg HB GE383)));(case aL => have := LMc14.out;omega);intro v409 w26 ho hb hg hat;rw [← Ny408.out] at ho;have n0_ := am (Kd.V_afterv (ok := (fun k_ => (P1_ k_ ∨ w.heap.size ≤ k_) ∧ some k_ ≠ (.slice Ao27 t399.length co27 : Value).ownBlock ∧ some k_ ≠ (v403 : Value).ownBlock ∧ k_ ≠ gb383)) (by (with_reducible repeat (first|apply Kd.V_alloc|apply Kd.V_drewN|apply Kd.V_drew));exact Kd.V_mono HO1.out (fun _ hk => ⟨⟨hk.1.1.1.1,⟨hk.1.1.2,⟨hk.1.2,hk.1.1.1.2⟩⟩⟩,hk.2⟩)) hg hat);have n1_ := am (blk_grown (g := gb383) (o := .cells #[.int .u64 a0_0,.int .i64 a0_1,.int .i64 a0_2] 24 (0,0)) (by (with_reducible repeat (first|refine blk_drewN ?_ _|refine blk_drew ?_|refine blk_alloc ?_ _));exact BK383.out) hg (Kd.N_ne HO407.out BK383.out (by decide)));have n2_ := am (Kd.V_afterv (ok := (fun k_ => (P1_ k_ ∨ w.heap.size ≤ k_) ∧ some k_ ≠ (.slice Ao27 t399.length co27 : Value).ownBlock ∧ some k_ ≠ (v403 : Value).ownBlock ∧ k_ ≠ gb383)) (by (with_reducible repeat (first|apply Kd.V_alloc|apply Kd.V_drewN|apply Kd.V_drew));exact Kd.V_mono HO388.out (fun _ hk => ⟨⟨hk.1.1.1.1,⟨hk.1.1.2,⟨hk.1.2,hk.1.1.1.2⟩⟩⟩,hk.2⟩)) hg hat);have n3_ := am (Kd.V_afterv (ok := (fun k_ => (P1_ k_ ∨ w.heap.size ≤ k_) ∧ some k_ ≠ (.slice Ao27 t399.length co27 : Value).ownBlock ∧ some k_ ≠ (v403 : Value).ownBlock ∧ k_ ≠ gb383)) (by (with_reducible repeat (first|apply Kd.V_alloc|apply Kd.V_drewN|apply Kd.V_drew));exact Kd.V_mono HO393.out (fun _ hk => ⟨⟨hk.1.1.1.1,⟨hk.1.1.2,⟨hk.1.2,hk.1.1.1.2⟩⟩⟩,hk.2⟩)) hg hat);have n4_ := am (Kd.V_afterv (ok := (fun k_ => (P1_ k_ ∨ w.heap.size ≤ k_) ∧ some k_ ≠ (.slice Ao27 t399.length co27 : Value).ownBlock ∧ some k_ ≠ (v403 : Value).ownBlock ∧ k_ ≠ gb383)) (by (with_reducible repeat (first|apply Kd.V_alloc|apply Kd.V_drewN|apply Kd.V_drew));exact Kd.V_mono HO398.out (fun _ hk => ⟨⟨hk.1.1.1.1,⟨hk.1.1.2,⟨hk.1.2,hk.1.1.1.2⟩⟩⟩,hk.2⟩)) hg hat);have n5_ := am (Kd.N_afterv (ok := (fun k_ => (P1_ k_ ∨ w.heap.size ≤ k_) ∧ some k_ ≠ (v403 : Value).ownBlock ∧ k_ ≠ gb383)) (rn HO402) hg hat);have n6_ := am (Kd.R_over' (rr HO404) (Kd.N_typed (rn HO407)) (by decide) hg);have n7_ := am (hb);have n8_ := am (ho);clear HO1 BK383 HO388 HO393 HO398 HO402 HO404 HB HO407;have HO1 := n0_;have BK383 := n1_;have HO388 := n2_;have HO393 := n3_;have HO398 := n4_;have HO402 := n5_;have HO404 := n6_;have HB := n7_;have HO410 := n8_;clear n0_ n1_ n2_ n3_ n4_ n5_ n6_ n7_ n8_;clear ho hb hg hat;obtain ⟨Ao29,co29,eo29⟩ := Kd.R_slice HO404.out;subst eo29)|((with_reducible refine gate_builtin (b := .append) (xs := #[.tmp 49,.tmp 51]) rfl ?_);at_builtin;refine Kd.N_append (Kd.slice 22 (Kd.int .u64)) (w0 := w) w.heap.size rfl (.tmp 49) (.tmp 51) 34 26 (.slice none 0 0) 24 rfl Try.underlying34 info26 rfl (by decide) (by omega) v409 y408 t400 [.slice Ao29 t400.length co29] (fun k_ => (P1_ k_ ∨ w.heap.size ≤ k_) ∧ k_ ≠ gb383) (fun k_ => ((fun k_ => (P1_ k_ ∨ w.heap.size ≤ k_) ∧ k_ ≠ gb383)) k_ ∧ some k_ ≠ (v409 : Value).ownBlock) rfl rfl ?aP (fun _ hk => hk) ?aF ?aO ?aB ?aS ?aL ?_;(case aP => exact (Kd.FK_slice_mk (Kd.R_reads' (Kd.R_mono (ok' := (fun k_ => ((fun k_ => (P1_ k_ ∨ w.heap.size ≤ k_) ∧ k_ ≠ gb383)) k_ ∧ some k_ ≠ (v409 : Value).ownBlock)) (Kd.R_types (Kd.R_apart' (HO404.out) (Kd.N_typed HO410.out) (by decide)) BK383.out (by decide)) (fun k_ hk => ⟨⟨(.inr (hk.1.1.1)),hk.2⟩,hk.1.2⟩))).2.1 (Kd.R_F (Kd.R_mono (ok' := (fun k_ => ((fun k_ => (P1_ k_ ∨ w.heap.size ≤ k_) ∧ k_ ≠ gb383)) k_ ∧ some k_ ≠ (v409 : Value).ownBlock)) (Kd.R_types (Kd.R_apart' (HO404.out) (Kd.N_typed HO410.out) (by decide)) BK383.out (by decide)) (fun k_ hk => ⟨⟨(.inr (hk.1.1.1)),hk.2⟩,hk.1.2⟩)))));(case aB => exact (bg HB GE383));(case aF => exact (fun k_ hk => ⟨(.inr (Nat.le_trans (below_size (bg HB GE383)) hk)),Kd.freshB (g := gb383) (o := .cells #[.int .u64 a0_0,.int .i64 a0_1,.int .i64 a0_2] 24 (0,0)) (by (with_reducible repeat (first|refine blk_drewN ?_ _|refine blk_drew ?_|refine blk_alloc ?_ _));exact BK383.out) k_ hk⟩));(case aO => exact (by (with_reducible repeat (first|apply Kd.N_alloc|apply Kd.N_drewN|apply Kd.N_drew));exact Kd.N_mono HO410.out (fun _ hk => ⟨hk.1,hk.2.2⟩)));(case aS => exact (below_size (bg HB GE383)));(case aL => have := LMc15.out;omega);intro v412 w28 ho hb hg hat;rw [← Ny411.out] at ho;have n0_ := am (Kd.V_afterv (ok := (fun k_ => (P1_ k_ ∨ w.heap.size ≤ k_) ∧ some k_ ≠ (.slice Ao27 t399.length co27 : Value).ownBlock ∧ some k_ ≠ (.slice Ao29 t400.length co29 : Value).ownBlock ∧ k_ ≠ gb383)) (rv HO1) hg hat);have n1_ := am (blk_grown (g := gb383) (o := .cells #[.int .u64 a0_0,.int .i64 a0_1,.int .i64 a0_2] 24 (0,0)) (by (with_reducible repeat (first|refine blk_drewN ?_ _|refine blk_drew ?_|refine blk_alloc ?_ _));exact BK383.out) hg (Kd.N_ne HO410.out BK383.out (by decide)));have n2_ := am (Kd.V_afterv (ok := (fun k_ => (P1_ k_ ∨ w.heap.size ≤ k_) ∧ some k_ ≠ (.slice Ao27 t399.length co27 : Value).ownBlock ∧ some k_ ≠ (.slice Ao29 t400.length co29 : Value).ownBlock ∧ k_ ≠ gb383)) (rv HO388) hg hat);have n3_ := am (Kd.V_afterv (ok := (fun k_ => (P1_ k_ ∨ w.heap.size ≤ k_) ∧ some k_ ≠ (.slice Ao27 t399.length co27 : Value).ownBlock ∧ some k_ ≠ (.slice Ao29 t400.length co29 : Value).ownBlock ∧ k_ ≠ gb383)) (rv HO393) hg hat);have n4_ := am (Kd.V_afterv (ok := (fun k_ => (P1_ k_ ∨ w.heap.size ≤ k_) ∧ some k_ ≠ (.slice Ao27 t399.length co27 : Value).ownBlock ∧ some k_ ≠ (.slice Ao29 t400.length co29 : Value).ownBlock ∧ k_ ≠ gb383)) (rv HO398) hg hat);have n5_ := am (Kd.N_afterv (ok := (fun k_ => (P1_ k_ ∨ w.heap.size ≤ k_) ∧ some k_ ≠ (.slice Ao29 t400.length co29 : Value).ownBlock ∧ k_ ≠ gb383)) (rn HO402) hg hat);have n6_ := am (hb);have n7_ := am (ho);clear HO1 BK383 HO388 HO393 HO398 HO402 HB HO410 HO404;have HO1 := n0_;have BK383 := n1_;have HO388 := n2_;have HO393 := n3_;have HO398 := n4_;have HO402 := n5_;have HB := n6_;have HO413 := n7_;clear n0_ n1_ n2_ n3_ n4_ n5_ n6_ n7_;clear ho hb hg hat))
        go_loopg [14,15] k (fun kq v14 v15 w' => ∃ (x14_1 : List (List (List Int))) (x15_1 : Int),v15 = .int .i64 x15_1 ∧ Aside0 (privityref43_Polys.l0 kq l2 y411 (wrap64 (Int.tdiv (wrap64 (a0_2 * (ji4))) 2)) x14_1 x15_1 = some r) ∧ Aside0 (kq ≤ k) ∧ Aside0 (Kd.N (Kd.slice 22 (Kd.int .u64)) 26 w' w.heap.size (fun k_ => (P1_ k_ ∨ w.heap.size ≤ k_) ∧ some k_ ≠ (v14 : Value).ownBlock ∧ k_ ≠ gb383) v412 y411) ∧ Aside0 (Kd.N (Kd.slice 26 (Kd.slice 22 (Kd.int .u64))) 34 w' w.heap.size (fun k_ => (P1_ k_ ∨ w.heap.size ≤ k_) ∧ some k_ ≠ (v412 : Value).ownBlock ∧ k_ ≠ gb383) v14 x14_1) ∧ Aside0 (w'.heap[gb383]? = some (.cells #[.int .u64 a0_0,.int .i64 a0_1,.int .i64 a0_2] 24 (0,0))) ∧ Aside0 (Below w.heap.size w w'))
        case atStart => exact ⟨(([] : List (List (List Int)))),(0),(by first|rfl|(simp;done)|(simp [*];done)),H',⟨Nat.le_refl _⟩,⟨by (with_reducible repeat (first|apply Kd.N_alloc|apply Kd.N_drewN|apply Kd.N_drew));exact Kd.N_mono HO413.out (fun _ hk => ⟨hk.1,⟨(by simp [Value.ownBlock]),hk.2⟩⟩)⟩,⟨by first|exact Kd.R_nil _ _ _ _ _|exact Kd.N_nil _ _ _ _ _|exact Kd.V_nil _ _ _ _ _|exact Kd.Q_nil _ _ _ _ _|exact Kd.S_nil _ _ _ _ _⟩,⟨kx BK383⟩,⟨bg HB GE383⟩⟩
        case round =>
         clear H'
         try clear c1
         try clear q1
         try clear c2
         try clear p2
         try clear q2
         try clear c5
         try clear c5b0
         try clear c5b1
         try clear c6
         try clear c6b0
         try clear c6b1
         try clear p6
         try clear c7
         try clear c7b0
         try clear c8
         try clear c8b0
         try clear c8b1
         try clear c9
         try clear c9b0
         try clear c9b1
         try clear c11
         try clear c11b0
         try clear c11b1
         try clear c12
         try clear c12b0
         try clear c14
         try clear c15
         try clear q19
         try clear c20
         try clear q20
         try clear c22
         try clear q22
         try clear c28
         try clear hcz17_0
         try clear hcz17_1
         try clear hcz17_2
         try clear hfz17_0
         try clear hfz17_1
         try clear hfz17_2
         try clear q020
         try clear q022
         try clear q19
         try clear q20
         try clear q22
         obtain ⟨x14_1,x15_1,rfl,HA,HK1,HO_12,HO_14,BK383,HB⟩ := hrel
         cases gk with
         | zero => exact absurd HA.out (by simp [privityref43_Polys.l0])
         | succ k1 =>
          have H := HA.out
          clear HA
          simp only [privityref43_Polys.l0] at H
          by_cases c30 : x15_1 < (y411.length : Int)
          ·rw [if_pos c30] at H
           have c30b0 : decide (x15_1 < (y411.length : Int)) = true := decide_eq_true c30
           clear c30
           by_cases c31 : 0 ≤ x15_1
           ·rw [if_pos c31] at H
            have c31b0 : decide (0 ≤ x15_1) = true := decide_eq_true c31
            clear c31
            obtain ⟨ji32,hji32⟩ : ∃ j_ : Int,(wrap64 (x15_1 * (wrap64 (Int.tdiv (wrap64 (a0_2 * (ji4))) 2)))) = j_ := ⟨_,rfl⟩
            first|rw [hji32] at H|simp only [hji32] at H
            have hji32w : (IntKind.i64.wrap (x15_1 * (wrap64 (Int.tdiv (wrap64 (a0_2 * (ji4))) 2)))) = ji32 := (i64_w _).trans hji32
            by_cases c33 : 0 ≤ (ji32)
            ·rw [if_pos c33] at H
             have c33b0 := eq_true c33
             have c33b1 : decide (0 ≤ (ji32)) = true := decide_eq_true c33
             clear c33
             by_cases c34 : (ji32) ≤ (wrap64 ((wrap64 (x15_1 + 1)) * (wrap64 (Int.tdiv (wrap64 (a0_2 * (ji4))) 2))))
             ·rw [if_pos c34] at H
              have c34b0 := eq_true c34
              have c34b1 : decide ((ji32) ≤ (wrap64 ((wrap64 (x15_1 + 1)) * (wrap64 (Int.tdiv (wrap64 (a0_2 * (ji4))) 2))))) = true := decide_eq_true c34
              by_cases c35 : (wrap64 ((wrap64 (x15_1 + 1)) * (wrap64 (Int.tdiv (wrap64 (a0_2 * (ji4))) 2)))) ≤ (l2.length : Int)
              ·rw [if_pos c35] at H
               have c35b0 := eq_true c35
               have c35b1 : decide ((wrap64 ((wrap64 (x15_1 + 1)) * (wrap64 (Int.tdiv (wrap64 (a0_2 * (ji4))) 2)))) ≤ (l2.length : Int)) = true := decide_eq_true c35
               replace H := Option.bind_eq_some_iff.mp H
               obtain ⟨⟨t416,t417⟩,A360,H⟩ := H
               try dsimp only at H
               have A36 := am A360
               clear A360
               by_cases c37 : x14_1.length < 5864062014805
               ·rw [if_pos c37] at H
                have LMc37 := am c37
                clear c37
                obtain ⟨y420,hy420⟩ : ∃ y_ : List (List (List Int)),y_ = (x14_1 ++ [t416]) := ⟨_,rfl⟩
                replace H : (privityref43_Polys.l0 k1 l2 y411 (wrap64 (Int.tdiv (wrap64 (a0_2 * (ji4))) 2)) y420 (wrap64 (x15_1 + 1))) = some r := by first|(rw [hy420];with_reducible exact H)|(have H2_ := (Option.bind_some _ _).symm.trans H;rw [hy420];with_reducible exact H2_)|(have H2_ := (Option.bind_some _ _).symm.trans H;with_reducible exact H2_)|with_reducible exact H|(rw [hy420];exact H)|exact H
                have Ny420 := am hy420
                clear hy420
                have H' := am H
                clear H
                obtain ⟨Ao38,co38,eo38⟩ := Kd.N_slice HO_12.out
                subst eo38
                try go_wp2
                have n0_ := am (Kd.N_drew HO_12.out)
                have n1_ := am (Kd.N_drew HO_14.out)
                have n2_ := am (blk_drew BK383.out)
                have n3_ := am (below_drew1 HB.out)
                clear HO_12
                clear HO_14
                clear BK383
                clear HB
                have HO_12 := n0_
                have HO_14 := n1_
                have BK383 := n2_
                have HB := n3_
                clear n0_ n1_ n2_ n3_
                have p414 : 0 ≤ (x15_1 : Int) := od
                have q414 : x15_1 < (y411.length : Int) := od
                obtain ⟨ad414,A414_0,c414_0,e414,hx414_0,hl414_0,hi414_0⟩ := at_L4 (Kd.N_reads' HO_12.out).2.2 x15_1 p414 q414
                cases e414
                obtain ⟨ce414,hce414,hMe414,hcc414⟩ := Kd.N_get HO_12.out [] x15_1 p414 (by first|exact q414|exact od|(have e_ := (Kd.N_reads' HO_12.out).1;omega))
                obtain ⟨ua414_0,uc414_0,rfl,ul414_0,ge414_0⟩ := Kd.FK_slice_open hMe414
                have hv414_0 := hcc414 0 _ rfl
                rw [Nat.add_zero,show ((Kd.slice 22 (Kd.int .u64))).sz = 1 from rfl,Nat.mul_one] at hv414_0
                replace hv414_0 := Option.some.inj (hv414_0.symm.trans hx414_0)
                injection hv414_0 with hva_ hvn_ hvc_
                rw [hva_] at ge414_0
                rw [hvc_] at ul414_0
                have HL414_0 := am (show Kd.V (Kd.int .u64) 22 _ w.heap.size _ _ (rd_L4 y411 x15_1) from Kd.V_mk ul414_0 ge414_0)
                clear hva_ hvn_ hvc_ ge414_0 ul414_0
                clear hcc414 hce414
                have HR414_0 := am hi414_0
                have HC414_0 := am hl414_0
                clear hi414_0 hl414_0
                replace p414 := eq_true p414
                replace q414 := eq_true q414
                obtain ⟨i040,hi040,_,hsz40,_⟩ := info_parts info22
                obtain ⟨A40,hcut40,hA40,hC40⟩ := print_mid_of (P := Try.prog) (Value.int .u64) 0 26 22 .i64 .i64 Try.underlying26 hi040 hsz40 A2 c2 l2 (ji32) (wrap64 ((wrap64 (x15_1 + 1)) * (wrap64 (Int.tdiv (wrap64 (a0_2 * (ji4))) 2)))) (od) (by first|omega|exact od) (od) HC2.out
                have HR415 := am (Kd.C_of_reads (h1 := fun _ => rfl) (hA40 _ (Kd.reads_of_C HR2.out)))
                have HC415 := am hC40
                clear hA40 hC40 hi040 hsz40
                refine start_ (n := 19) (S := fun w' => w'.cell? (ad414.add (x15_1).toNat) = some (.slice A414_0 (rd_L4 y411 x15_1).length c414_0)) (ds := []) (bz 19 0) (by kernel_rfl) rfl rfl (hx414_0) (fun hHeld => ?_);refine with_tabW privityref43_Polys.tab10 privityref43_Polys.bits10 (fun HT_ HW_ => ?_)
                generalize wr.drew = w39 at HO_12 HO_14 BK383 HB HL414_0 HR414_0 HR415 hx414_0 hHeld ⊢
                refine pk 0 65 (bz 19 1) HT_ ?_
                refine pk 1 66 (bz 19 3) HT_ ?_
                refine pk 2 67 (bz 19 7) HT_ ?_
                refine pk 4 69 (bz 19 23) HT_ ?_
                refine pk 5 70 (bz 19 55) HT_ ?_
                refine pk 6 71 (bz 19 119) HT_ ?_
                refine pk 7 72 (bz 19 247) HT_ ?_
                refine pk 8 73 (bz 19 503) HT_ ?_
                refine pk 9 74 (bz 19 1015) HT_ ?_
                refine pk 10 75 (bz 19 2039) HT_ ?_
                refine pk 11 76 (bz 19 4087) HT_ ?_
                refine pk 12 77 (bz 19 8183) HT_ ?_
                refine tk 3 68 (bz 19 8191) HT_ HW_ hHeld ?_
                refine on 13 78 (bz 19 16383) HT_ (fun K hK => ?_)
                refine goes_ Try.func16 (by kernel_rfl) rfl #[.slice A414_0 (rd_L4 y411 x15_1).length c414_0,.slice A40 ((l2.take ((wrap64 ((wrap64 (x15_1 + 1)) * (wrap64 (Int.tdiv (wrap64 (a0_2 * (ji4))) 2)))) : Int).toNat).drop ((ji32) : Int).toNat).length (c2 - (ji32).toNat)] (by rfl) rfl rfl (by (try simp only [List.map_toArray,List.map_cons,List.map_nil]);first|done|(rw [show ((l2.take ((wrap64 ((wrap64 (x15_1 + 1)) * (wrap64 (Int.tdiv (wrap64 (a0_2 * (ji4))) 2)))) : Int).toNat).drop ((ji32) : Int).toNat).length = ((wrap64 ((wrap64 (x15_1 + 1)) * (wrap64 (Int.tdiv (wrap64 (a0_2 * (ji4))) 2)))).toNat - (ji32).toNat) from (by rw [List.length_drop,List.length_take];have h_ : ((wrap64 ((wrap64 (x15_1 + 1)) * (wrap64 (Int.tdiv (wrap64 (a0_2 * (ji4))) 2)))) : Int) ≤ (l2.length : Int) := od;omega)] <;> rfl)|(simp only [hji32,hji4];rfl)|rfl|(simp only [List.length_drop,List.length_take];rfl)) ?_
                with_reducible refine (privityref10_New.calls _ _ (rd_L4 y411 x15_1) _ _ ((l2.take ((wrap64 ((wrap64 (x15_1 + 1)) * (wrap64 (Int.tdiv (wrap64 (a0_2 * (ji4))) 2)))) : Int).toNat).drop ((ji32) : Int).toNat) t416 t417 _ ?side1 ?side2 ?side3 ?side4 A36.out).mono ?_
                (case side1 => repeat (first|exact (cx HR414_0)|(with_reducible refine Kd.C_alloc ?_ _)|(with_reducible refine Kd.C_drewN ?_ _)|(with_reducible refine Kd.C_drew ?_)))
                (case side2 => exact HC414_0.out)
                (case side3 => exact cb HR415 HB)
                (case side4 => exact HC415.out)
                rintro e w41 ⟨v418,rfl,ho0,hb⟩
                have HS0_ := (hb.cell (World.block_lt_of_cell? _ _ (hHeld))).trans (hHeld)
                refine ⟨_,rfl,?_⟩
                have n0_ := am (Kd.N_elder' (rn HO_12) (by first|exact Kd.N_base ho0|exact Kd.S_base ho0) hb)
                have n1_ := am (Kd.N_elder' (rn HO_14) (by first|exact Kd.N_base ho0|exact Kd.S_base ho0) hb)
                have n2_ := am (Kd.V_elder' (rv HL414_0) (by first|exact Kd.N_base ho0|exact Kd.S_base ho0) hb)
                have n3_ := am (Kd.N_lower (Kd.N_mono (ok' := fun k_ => (P1_ k_ ∨ w.heap.size ≤ k_) ∧ some k_ ≠ (.slice (some ad414) y411.length co38 : Value).ownBlock ∧ some k_ ≠ (u14 : Value).ownBlock ∧ k_ ≠ gb383) (Kd.S_N (Kd.S_bound ho0)) (fun k_ hk_ => ⟨(.inr (Nat.le_trans (below_size (bg HB GE383)) hk_.2.1)),(Kd.fresh' (Kd.N_lt (rn HO_12)) k_ hk_.2.1),(Kd.fresh' (Kd.N_lt (rn HO_14)) k_ hk_.2.1),(Kd.freshB (g := gb383) (o := .cells #[.int .u64 a0_0,.int .i64 a0_1,.int .i64 a0_2] 24 (0,0)) (by (with_reducible repeat (first|refine blk_drewN ?_ _|refine blk_drew ?_|refine blk_alloc ?_ _));exact BK383.out) k_ hk_.2.1)⟩)) (below_size (bg HB GE383)))
                have n4_ := am (kb BK383 hb)
                have n5_ := am (Kd.C_below (cx HR414_0) hb)
                have n6_ := am (below_step (bg HB GE383) hb)
                clear HO_12
                clear HO_14
                clear HL414_0
                clear BK383
                clear HR414_0
                clear HB
                have HO_12 := n0_
                have HO_14 := n1_
                have HL414_0 := n2_
                have HO419 := n3_
                have BK383 := n4_
                have HR414_0 := n5_
                have HB := n6_
                clear n0_ n1_ n2_ n3_ n4_ n5_ n6_
                (try clear hb)
                (try clear hb2)
                (try clear hk)
                (try clear hi)
                (try clear ho0)
                refine hK.out _ _ (HS0_) (fun hHeld => ?_)
                clear hK K
                refine nm 78 ?_
                refine pk 14 64 (bz 19 32767) HT_ ?_
                refine pk 15 79 (bz 19 65535) HT_ ?_
                refine pk 16 80 (bz 19 131071) HT_ ?_
                refine pk 17 16 (bz 19 262143) HT_ ?_
                refine pk 18 17 (bz 19 524287) HT_ ?_
                refine done_ (done_of HT_.out (by kernel_rfl)) ?_
                obtain ⟨Ao43,co43,eo43⟩ := Kd.N_slice HO419.out
                subst eo43
                try go_wp2_with (first|((with_reducible refine gate_builtin (b := .append) (xs := #[.tmp 81,.tmp 83]) rfl ?_);at_builtin;refine Kd.N_append (Kd.slice 26 (Kd.slice 22 (Kd.int .u64))) (w0 := w) w.heap.size rfl (.tmp 81) (.tmp 83) 46 34 (.slice none 0 0) 24 rfl Try.underlying46 info34 rfl (by decide) (by omega) u14 x14_1 t416 [.slice Ao43 t416.length co43] (fun k_ => (P1_ k_ ∨ w.heap.size ≤ k_) ∧ some k_ ≠ (.slice (some ad414) y411.length co38 : Value).ownBlock ∧ k_ ≠ gb383) (fun k_ => ((fun k_ => (P1_ k_ ∨ w.heap.size ≤ k_) ∧ some k_ ≠ (.slice (some ad414) y411.length co38 : Value).ownBlock ∧ k_ ≠ gb383)) k_ ∧ some k_ ≠ (u14 : Value).ownBlock) rfl rfl ?aP (fun _ hk => hk) ?aF ?aO ?aB ?aS ?aL ?_;(case aP => exact (Kd.FK_slice_mk (Kd.N_reads' (Kd.N_mono (ok' := (fun k_ => ((fun k_ => (P1_ k_ ∨ w.heap.size ≤ k_) ∧ some k_ ≠ (.slice (some ad414) y411.length co38 : Value).ownBlock ∧ k_ ≠ gb383)) k_ ∧ some k_ ≠ (u14 : Value).ownBlock)) (HO419.out) (fun k_ hk => ⟨⟨hk.1,⟨hk.2.1,hk.2.2.2⟩⟩,hk.2.2.1⟩))).2.1 (Kd.N_F (Kd.N_mono (ok' := (fun k_ => ((fun k_ => (P1_ k_ ∨ w.heap.size ≤ k_) ∧ some k_ ≠ (.slice (some ad414) y411.length co38 : Value).ownBlock ∧ k_ ≠ gb383)) k_ ∧ some k_ ≠ (u14 : Value).ownBlock)) (HO419.out) (fun k_ hk => ⟨⟨hk.1,⟨hk.2.1,hk.2.2.2⟩⟩,hk.2.2.1⟩)))));(case aB => exact (bg HB GE383));(case aF => exact (fun k_ hk => ⟨(.inr (Nat.le_trans (below_size (bg HB GE383)) hk)),Kd.fresh' (Kd.N_lt (rn HO_12)) k_ hk,Kd.freshB (g := gb383) (o := .cells #[.int .u64 a0_0,.int .i64 a0_1,.int .i64 a0_2] 24 (0,0)) (by (with_reducible repeat (first|refine blk_drewN ?_ _|refine blk_drew ?_|refine blk_alloc ?_ _));exact BK383.out) k_ hk⟩));(case aO => exact (by (with_reducible repeat (first|apply Kd.N_alloc|apply Kd.N_drewN|apply Kd.N_drew));exact Kd.N_mono HO_14.out (fun _ hk => ⟨hk.1.1,⟨hk.1.2.1,hk.1.2.2⟩⟩)));(case aS => exact (below_size (bg HB GE383)));(case aL => have := LMc37.out;omega);intro v421 w42 ho hb hg hat;rw [← Ny420.out] at ho;have n0_ := am (Kd.N_afterv (ok := (fun k_ => (P1_ k_ ∨ w.heap.size ≤ k_) ∧ some k_ ≠ (.slice Ao43 t416.length co43 : Value).ownBlock ∧ k_ ≠ gb383)) (by (with_reducible repeat (first|apply Kd.N_alloc|apply Kd.N_drewN|apply Kd.N_drew));exact Kd.N_mono HO_12.out (fun _ hk => ⟨⟨hk.1.1,⟨hk.2,hk.1.2.2⟩⟩,hk.1.2.1⟩)) hg hat);have n1_ := am (blk_grown (g := gb383) (o := .cells #[.int .u64 a0_0,.int .i64 a0_1,.int .i64 a0_2] 24 (0,0)) (by (with_reducible repeat (first|refine blk_drewN ?_ _|refine blk_drew ?_|refine blk_alloc ?_ _));exact BK383.out) hg (Kd.N_ne HO_14.out BK383.out (by decide)));have n2_ := am (Kd.V_afterv (ok := (fun k_ => (P1_ k_ ∨ w.heap.size ≤ k_) ∧ some k_ ≠ (.slice (some ad414) y411.length co38 : Value).ownBlock ∧ some k_ ≠ (.slice Ao43 t416.length co43 : Value).ownBlock ∧ k_ ≠ gb383)) (by (with_reducible repeat (first|apply Kd.V_alloc|apply Kd.V_drewN|apply Kd.V_drew));exact Kd.V_mono HL414_0.out (fun _ hk => ⟨⟨hk.1.1.1,⟨hk.1.2,⟨hk.2,hk.1.1.2.2⟩⟩⟩,hk.1.1.2.1⟩)) hg hat);have n3_ := am (hb);have n4_ := am (ho);clear HO_12 BK383 HL414_0 HB HO_14 HO419;have HO_12 := n0_;have BK383 := n1_;have HL414_0 := n2_;have HB := n3_;have HO422 := n4_;clear n0_ n1_ n2_ n3_ n4_;clear ho hb hg hat))
                go_roundg k1
                case measure => have := HK1.out;omega
                case rel => exact ⟨(y420),(wrap64 (x15_1 + 1)),(by first|rfl|(simp;done)|(simp [*];done)),H',⟨by have := HK1.out;omega⟩,⟨by (with_reducible repeat (first|apply Kd.N_alloc|apply Kd.N_drewN|apply Kd.N_drew));exact Kd.N_mono HO_12.out (fun _ hk => ⟨hk.1.1,⟨hk.2,hk.1.2.2⟩⟩)⟩,⟨by (with_reducible repeat (first|apply Kd.N_alloc|apply Kd.N_drewN|apply Kd.N_drew));exact HO422.out⟩,⟨kx BK383⟩,⟨bg HB GE383⟩⟩
               ·rw [if_neg c37] at H
                exact absurd H (by simp)
              ·rw [if_neg c35] at H
               exact absurd H (by simp)
             ·rw [if_neg c34] at H
              exact absurd H (by simp)
            ·rw [if_neg c33] at H
             exact absurd H (by simp)
           ·rw [if_neg c31] at H
            exact absurd H (by simp)
          ·rw [if_neg c30] at H
           have c30b0 : decide (x15_1 < (y411.length : Int)) = false := decide_eq_false c30
           clear c30
           obtain rfl := Option.some.inj H
           obtain ⟨Ao44,co44,eo44⟩ := Kd.N_slice HO_12.out
           subst eo44
           go_wp2
           go_ret
           exact ⟨_,by first|rfl|(simp [errW_none,errW_some] <;> rfl)|(simp only [← hji4,← hji10];first|rfl|(simp [errW_none,errW_some] <;> rfl))|(simp [*,errW_none,errW_some] <;> rfl),by (with_reducible repeat (first|apply Kd.N_alloc|apply Kd.N_drewN|apply Kd.N_drew));exact Kd.N_mono HO_14.out (fun _ hk => hk.1),bg HB GE383⟩
       ·rw [if_neg c15] at H
        exact absurd H (by simp)
      ·rw [if_neg c14] at H
       exact absurd H (by simp)
     ·rw [if_neg c11] at H
      exact absurd H (by simp)
    ·rw [if_neg c9] at H
     exact absurd H (by simp)
   ·rw [if_neg c8] at H
    exact absurd H (by simp)
  ·rw [if_neg c6] at H
   exact absurd H (by simp)
 ·rw [if_neg c5] at H
  exact absurd H (by simp)
def privityref10_Eval.f (k : Nat) (a0 : Int) (l1 : List (List Int)) (a2 : Int) (a3 : Int) : Option (Int) := (privityref10_Row.f k a0 l1 a2).bind fun t423 => ((privityref10_Value.f k a0 t423 a3).bind fun t426 => (some t426))
set_option maxHeartbeats 8000000 in
set_option maxRecDepth 100000 in
theorem privityref10_Eval.calls (k : Nat) (a0 : Int) (A1 : Option Addr) (c1 : Nat) (l1 : List (List Int)) (a2 : Int) (a3 : Int) (r : Int) (w : World) (hr1 : Kd.C (Kd.slice 22 (Kd.int .u64)) w A1 l1.length l1) (hc1 : l1.length ≤ c1) (h : privityref10_Eval.f k a0 l1 a2 a3 = some r) :
  Calls Try.prog 29 #[.int .u64 a0,.slice A1 l1.length c1,.int .u64 a2,.int .u64 a3] w fun e w' => e = .returned (.int .u64 r) ∧ Below w.heap.size w w' := by
 have HR1 := am hr1
 have HC1 := am hc1
 clear hr1 hc1
 have HB := am (Below.refl w.heap.size w)
 have H : ((privityref10_Row.f k a0 l1 a2).bind fun t423 => ((privityref10_Value.f k a0 t423 a3).bind fun t426 => (some t426))) = some r := h
 clear h
 replace H := Option.bind_eq_some_iff.mp H
 obtain ⟨t423,A50,H⟩ := H
 try dsimp only at H
 have A5 := am A50
 clear A50
 replace H := Option.bind_eq_some_iff.mp H
 obtain ⟨t426,A60,H⟩ := H
 try dsimp only at H
 have A6 := am A60
 clear A60
 obtain rfl := Option.some.inj H
 go_enter Try.func29,Try.ntmps29
 go_wp2_with (first|((with_reducible refine gate_callee (f := 19) rfl ?_);refine goesL_ (some 13) rfl rfl Try.func19 (by kernel_rfl) rfl #[.int .u64 a0,.slice A1 l1.length c1,.int .u64 a2] rfl (by (try simp only [List.map_toArray,List.map_cons,List.map_nil]);first|done|rfl|(simp only [List.length_drop,List.length_take];rfl)) ?_;(with_reducible refine (privityref10_Row.calls k a0 _ _ l1 a2 t423 _ ?side1 ?side2 A5.out).mono ?_);(case side1 => repeat (first|exact HR1.out|(with_reducible refine Kd.C_alloc ?_ _)|(with_reducible refine Kd.C_drewN ?_ _)|(with_reducible refine Kd.C_drew ?_)));(case side2 => exact HC1.out);rintro e w7 ⟨v424,rfl,ho0,hb⟩;refine ⟨_,rfl,?_⟩;have n0_ := am (Kd.R_lower ho0 (below_size (bb HB)));have n1_ := am (below_step (bb HB) hb);clear HB;have HO425 := n0_;have HB := n1_;clear n0_ n1_;(try clear hb);(try clear hb2);(try clear hk);(try clear hi);(try clear ho0);obtain ⟨Ao8,co8,eo8⟩ := Kd.R_slice HO425.out;subst eo8)|((with_reducible refine gate_callee (f := 46) rfl ?_);refine goesL_ (some 15) rfl rfl Try.func46 (by kernel_rfl) rfl #[.int .u64 a0,.slice Ao8 t423.length co8,.int .u64 a3] rfl (by (try simp only [List.map_toArray,List.map_cons,List.map_nil]);first|done|rfl|(simp only [List.length_drop,List.length_take];rfl)) ?_;(with_reducible refine (privityref10_Value.calls k a0 _ _ t423 a3 t426 _ ?side1 ?side2 A6.out).mono ?_);(case side1 => exact cr HO425);(case side2 => exact (Kd.R_reads' HO425.out).2.1);rintro e w' ⟨rfl,⟨nd,rfl⟩⟩;refine ⟨_,rfl,?_⟩))
 go_ret
 exact ⟨by first|rfl|(simp [errW_none,errW_some] <;> rfl)|(simp [*,errW_none,errW_some] <;> rfl),bb HB⟩
def privityref21_Verify.l0 : Nat → Int → Int → List Int → Int → Int → Int → Int → Option (Bool)
 | 0,_,_,_,_,_,_,_ => none
 | k + 1,x0,x1,x4,x5,x13,x14,x15 => if x15 < (x4.length : Int) then ((privityref01_Mul.f k x0 x14 x1).bind fun t428 => (if 0 ≤ x15 then ((privityref01_Mul.f k x0 t428 (rd x4 x15)).bind fun t430 => ((privityref01_Sub.f x0 x13 t430).bind fun t431 => (privityref21_Verify.l0 k x0 x1 x4 x5 t431 t428 (wrap64 (x15 + 1))))) else (none))) else (some (x13 == x5))
def privityref21_Verify.f (k : Nat) (a0 : Int) (a1 : Int) (a2 : Int) (a3 : Int) (l4 : List Int) (a5 : Int) : Option (Bool) := (privityref01_Mul.f k a0 a2 a3).bind fun t427 => (privityref21_Verify.l0 k a0 a1 l4 a5 t427 1 0)
set_option maxHeartbeats 8000000 in
set_option maxRecDepth 100000 in
theorem privityref21_Verify.calls (k : Nat) (a0 : Int) (a1 : Int) (a2 : Int) (a3 : Int) (A4 : Option Addr) (c4 : Nat) (l4 : List Int) (a5 : Int) (r : Bool) (w : World) (hr4 : Kd.C (Kd.int .u64) w A4 l4.length l4) (hc4 : l4.length ≤ c4) (h : privityref21_Verify.f k a0 a1 a2 a3 l4 a5 = some r) :
  Calls Try.prog 30 #[.int .u64 a0,.int .u64 a1,.int .u64 a2,.int .u64 a3,.slice A4 l4.length c4,.int .u64 a5] w fun e w' => e = .returned (.bool r) ∧ Drawn0 w w' := by
 have HR4 := am hr4
 have HC4 := am hc4
 clear hr4 hc4
 have H : ((privityref01_Mul.f k a0 a2 a3).bind fun t427 => (privityref21_Verify.l0 k a0 a1 l4 a5 t427 1 0)) = some r := h
 clear h
 replace H := Option.bind_eq_some_iff.mp H
 obtain ⟨t427,A70,H⟩ := H
 try dsimp only at H
 have A7 := am A70
 clear A70
 have H' := am H
 clear H
 go_enter Try.func30,Try.ntmps30
 go_wp2_with (first|((with_reducible refine gate_callee (f := 31) rfl ?_);refine goesL_ (some 19) rfl rfl Try.func31 (by kernel_rfl) rfl #[.int .u64 a0,.int .u64 a2,.int .u64 a3] rfl (by (try simp only [List.map_toArray,List.map_cons,List.map_nil]);first|done|rfl|(simp only [List.length_drop,List.length_take];rfl)) ?_;(with_reducible refine (privityref01_Mul.calls k a0 a2 a3 t427 _ A7.out).mono ?_);rintro e w' ⟨rfl,⟨nd,rfl⟩⟩;refine ⟨_,rfl,?_⟩))
 go_loopg [13,14,15] k (fun kq v13 v14 v15 w' => ∃ (x13_1 : Int) (x14_1 : Int) (x15_1 : Int),v13 = .int .u64 x13_1 ∧ v14 = .int .u64 x14_1 ∧ v15 = .int .i64 x15_1 ∧ Aside0 (privityref21_Verify.l0 kq a0 a1 l4 a5 x13_1 x14_1 x15_1 = some r) ∧ Aside0 (kq ≤ k) ∧ Drawn0 w w')
 case atStart => exact ⟨(t427),(1),(0),(by first|rfl|(simp;done)|(simp [*];done)),(by first|rfl|(simp;done)|(simp [*];done)),(by first|rfl|(simp;done)|(simp [*];done)),H',⟨Nat.le_refl _⟩,by repeat (first|exact Drawn0.refl _|apply Drawn0.step)⟩
 case round =>
  clear H'
  try clear p2
  try clear c3
  try clear c4
  obtain ⟨x13_1,x14_1,x15_1,rfl,rfl,rfl,HA,HK1,⟨m1,rfl⟩⟩ := hrel
  cases gk with
  | zero => exact absurd HA.out (by simp [privityref21_Verify.l0])
  | succ k1 =>
   have H := HA.out
   clear HA
   simp only [privityref21_Verify.l0] at H
   by_cases c8 : x15_1 < (l4.length : Int)
   ·rw [if_pos c8] at H
    have c8b0 : decide (x15_1 < (l4.length : Int)) = true := decide_eq_true c8
    clear c8
    replace H := Option.bind_eq_some_iff.mp H
    obtain ⟨t428,A90,H⟩ := H
    try dsimp only at H
    have A9 := am A90
    clear A90
    by_cases c10 : 0 ≤ x15_1
    ·rw [if_pos c10] at H
     have c10b0 : decide (0 ≤ x15_1) = true := decide_eq_true c10
     clear c10
     replace H := Option.bind_eq_some_iff.mp H
     obtain ⟨t430,A110,H⟩ := H
     try dsimp only at H
     have A11 := am A110
     clear A110
     replace H := Option.bind_eq_some_iff.mp H
     obtain ⟨t431,A120,H⟩ := H
     try dsimp only at H
     have A12 := am A120
     clear A120
     have H' := am H
     clear H
     go_wp2_with (first|((with_reducible refine gate_callee (f := 31) rfl ?_);refine goesL_ (some 29) rfl rfl Try.func31 (by kernel_rfl) rfl #[.int .u64 a0,.int .u64 x14_1,.int .u64 a1] rfl (by (try simp only [List.map_toArray,List.map_cons,List.map_nil]);first|done|rfl|(simp only [List.length_drop,List.length_take];rfl)) ?_;(with_reducible refine (privityref01_Mul.calls k1 a0 x14_1 a1 t428 _ A9.out).mono ?_);rintro e w' ⟨rfl,⟨nd,rfl⟩⟩;refine ⟨_,rfl,?_⟩;have p429 : 0 ≤ (x15_1 : Int) := od;have q429 : x15_1 < (l4.length : Int) := od;obtain ⟨ad429,e429,hx429_0⟩ := Kd.at_int HR4.out x15_1 p429 q429;cases e429;replace p429 := eq_true p429;replace q429 := eq_true q429)|((with_reducible refine gate_callee (f := 31) rfl ?_);refine goesL_ (some 38) rfl rfl Try.func31 (by kernel_rfl) rfl #[.int .u64 a0,.int .u64 t428,.int .u64 (rd l4 x15_1)] rfl (by (try simp only [List.map_toArray,List.map_cons,List.map_nil]);first|done|rfl|(simp only [List.length_drop,List.length_take];rfl)) ?_;(with_reducible refine (privityref01_Mul.calls k1 a0 t428 (rd l4 x15_1) t430 _ A11.out).mono ?_);rintro e w' ⟨rfl,⟨nd,rfl⟩⟩;refine ⟨_,rfl,?_⟩)|((with_reducible refine gate_callee (f := 22) rfl ?_);refine goesL_ (some 39) rfl rfl Try.func22 (by kernel_rfl) rfl #[.int .u64 a0,.int .u64 x13_1,.int .u64 t430] rfl (by (try simp only [List.map_toArray,List.map_cons,List.map_nil]);first|done|rfl|(simp only [List.length_drop,List.length_take];rfl)) ?_;(with_reducible refine (privityref01_Sub.calls a0 x13_1 t430 t431 _ A12.out).mono ?_);rintro e w' ⟨rfl,⟨nd,rfl⟩⟩;refine ⟨_,rfl,?_⟩))
     go_roundg k1
     case measure => have := HK1.out;omega
     case rel => exact ⟨(t431),(t428),(wrap64 (x15_1 + 1)),(by first|rfl|(simp;done)|(simp [*];done)),(by first|rfl|(simp;done)|(simp [*];done)),(by first|rfl|(simp;done)|(simp [*];done)),H',⟨by have := HK1.out;omega⟩,by repeat (first|exact Drawn0.refl _|apply Drawn0.step)⟩
    ·rw [if_neg c10] at H
     exact absurd H (by simp)
   ·rw [if_neg c8] at H
    have c8b0 : decide (x15_1 < (l4.length : Int)) = false := decide_eq_false c8
    clear c8
    obtain rfl := Option.some.inj H
    go_wp2
    go_ret
    exact ⟨by first|rfl|(simp;done)|(simp [*];done),by repeat (first|exact Drawn0.refl _|apply Drawn0.step)⟩
end Go.Proofs.Ytejeelpnmdfibaa.Pr
end
section
namespace Go.Proofs.Ytejeelpnmdfibaa.Hw
open Go.RowKit Go.Proofs.YtejeelpnmdfibaaW.PrintWords Go.Proofs.YtejeelpnmdfibaaW.PrintLast Go.Proofs.YtejeelpnmdfibaaW.PrintMore
theorem R_litx {P : Program} {ops : Array Oper} {Q : Exit → Act → World → Prop} {rest : List Oper} {o : Oper} {a : Act} {W : World} {α : Type} (d : Kd α) {w0 : World} (base e : Nat) (hgd : o.guard = none) {N : Tmp} (hd : o.dst = some N) {xs : List α} {inner : List Value}
  (hrun : (execOp a.eval o).run P W = .ok (.value (.slice (some ⟨W.heap.size,0,none⟩) xs.length xs.length)) (W.alloc (.cells inner.toArray e)))
  (hrep : Reps (d.M W base (fun _ => True)) d.sz xs inner) (HB : Below base w0 W) (hbase : base ≤ W.heap.size) (hm : xs.length ≤ 9223372036854775807)
  (h : ∀ v1 w1,d.R e w1 base (fun _ => True) v1 xs → Below W.heap.size W w1 → wpList P ops Q rest (a.put o.dst v1) w1) : wpList P ops Q (o :: rest) a W :=
 Kd.R_lit d base e hgd hd (ok := fun _ => True) (okp := fun _ => True) hrun hrep (fun _ hk => hk) trivial HB hbase hm (fun v1 w1 hr _ hg _ => h v1 w1 hr ⟨hg.os,hg.tape,hg.output,hg.size,fun k hk => hg.block k hk (by simp)⟩)
end Go.Proofs.Ytejeelpnmdfibaa.Hw
end
section
namespace Go.Proofs.Ytejeelpnmdfibaa.Hw
open Go.RowKit Go.Proofs.Ytejeelpnmdfibaa.Pr Go.Proofs.YtejeelpnmdfibaaW.PrintWords Go.Proofs.YtejeelpnmdfibaaW.PrintLast Go.Proofs.YtejeelpnmdfibaaW.PrintMore Go.Proofs.Ytejeelpnmdfibaa.E
def LeftAt (w : World) (g : Nat) (A : Option Addr) (n c : Nat) : Prop := w.heap[g]? = some (.cells #[.slice A n c] 26 (0,0))
set_option maxHeartbeats 2000000 in
set_option maxRecDepth 100000 in
theorem cutter_walk (A : Option Addr) (n c : Nat) (w : World) : Calls Try.prog 50 #[.slice A n c] w fun e w' => ∃ g : Nat,e = .returned (.func (.func 79) #[] #[.pointer (some ⟨g,0,none⟩)]) ∧ w.heap.size ≤ g ∧ LeftAt w' g A n c ∧ Below w.heap.size w w' := by
 go_enter Try.func50,Try.ntmps50
 go_wp2
 first|go_ret|((try simp only [Exit.inBlock,Exit.then]);refine bodyPost_ret (results_tmp rfl _ _ _) rfl ?_)
 exact ⟨w.heap.size,rfl,Nat.le_refl _,blk_new w _,below_alloc (Below.refl _ _) _⟩
theorem info_u64 : ∃ i,Try.prog.info? 22 = some i ∧ i.size = 1 := by
 have h := info22
 cases hi : Try.prog.info? 22 with
 | none => rw [hi] at h;cases h
 | some i =>
  rw [hi] at h
  simp only [Option.map_some,Option.some.injEq,Prod.mk.injEq] at h
  exact ⟨i,rfl,h.2.1⟩
def dropA (A : Option Addr) (c m : Nat) : Option Addr := if c = m then A else A.map (·.add m)
theorem cut_drop (A : Option Addr) (n c m : Nat) (hm : m ≤ n) (W : World) : (Instr.slice 26 (.slice A n c) (some (.int .i64 (m : Int))) none none).run Try.prog W = .ok (.slice (dropA A c m) (n - m) (c - m)) W := by
 obtain ⟨i,hi,hsz⟩ := info_u64
 have hel : Try.prog.elem 26 = 22 := by simp [Program.elem,Try.underlying26]
 have hu : Try.prog.underlying 26 = some (.slice (Try.prog.elem 26)) := by rw [hel];exact Try.underlying26
 unfold dropA
 rw [run_slice_l W 26 A n c hu .i64 (m : Int) (Int.natCast_nonneg _) (by omega),hel]
 simp [sizeOf,typeInfo,hi,hsz,sliced,Result.andThen]
theorem cut_take (A : Option Addr) (n c m : Nat) (hm : m ≤ c) (W : World) : (Instr.slice 26 (.slice A n c) none (some (.int .i64 (m : Int))) none).run Try.prog W = .ok (.slice A m c) W := by
 obtain ⟨i,hi,hsz⟩ := info_u64
 have hel : Try.prog.elem 26 = 22 := by simp [Program.elem,Try.underlying26]
 have hu : Try.prog.underlying 26 = some (.slice (Try.prog.elem 26)) := by rw [hel];exact Try.underlying26
 have ha : (A.map fun x => x.add 0) = A := by cases A <;> simp [Addr.add]
 rw [run_slice_h W 26 A n c hu .i64 (m : Int) (Int.natCast_nonneg _) (by omega),hel]
 simp [sizeOf,typeInfo,hi,hsz,sliced,Result.andThen,ha]
set_option maxHeartbeats 2000000 in
set_option maxRecDepth 100000 in
theorem take_walk (g : Nat) (A : Option Addr) (n c m : Nat) (w : World) (hg : LeftAt w g A n c) (hc : n ≤ c) (hm : m ≤ n) :
  Calls Try.prog 79 #[.int .i64 (m : Int),.pointer (some ⟨g,0,none⟩)] w fun e w' => e = .returned (.slice A m c) ∧ LeftAt w' g (dropA A c m) (n - m) (c - m) ∧
   (∀ b,b ≠ g → w'.heap[b]? = w.heap[b]?) ∧ (∀ B w0,B ≤ g → Below B w0 w → Below B w0 w') := by
 have c0 := blk_cell hg 0
 simp only [List.getElem?_toArray,List.getElem?_cons_zero] at c0
 have f0 := blk_frozen hg 0
 have h1 := cut_take A n c m (by omega)
 have h2 := cut_drop A n c m hm
 have HG := am hg
 clear hg
 go_enter Try.func79,Try.ntmps79
 go_wp2
 first|go_ret|((try simp only [Exit.inBlock,Exit.then]);refine bodyPost_ret (results_tmp rfl _ _ _) rfl ?_)
 refine ⟨rfl,?_,fun b hb => heap_setCell_other _ ⟨g,0,none⟩ b _ hb,fun B w0 hB h => Below.setCell h (p := ⟨g,0,none⟩) hB _⟩
 exact blk_put HG.out 0 _ rfl
set_option maxHeartbeats 2000000 in
set_option maxRecDepth 100000 in
theorem grow_walk (n : Nat) (hn : n ≤ 1000000) (w : World) : Calls Try.prog 86 #[.slice none 0 0,.int .i64 (n : Int)] w fun e w' => ∃ v : Value,e = .returned v ∧ Kd.R (Kd.int .u64) 22 w' w.heap.size (fun _ => True) v [] ∧ Below w.heap.size w w' := by
 have h0 := cut_take none 0 0 0 (Nat.le_refl _)
 have q0 : decide ((n : Int) < 0) = false := decide_eq_false (by omega)
 by_cases hz : n = 0
 ·subst hz
  go_enter Try.func86,Try.ntmps86
  go_wp2
  first|go_ret|((try simp only [Exit.inBlock,Exit.then]);refine bodyPost_ret (results_tmp rfl _ _ _) rfl ?_)
  exact ⟨_,rfl,Kd.R_nil _ _ _ _ _,Below.refl _ _⟩
 ·have q1 : decide ((n : Int) > 0) = true := decide_eq_true (by omega)
  have q2 : decide ((0 : Int) < (n : Int)) = true := decide_eq_true (by omega)
  have q3 : decide (0 < n) = true := decide_eq_true (by omega)
  go_enter Try.func86,Try.ntmps86
  go_wp2_with (first
   | ((with_reducible refine gate_builtin (b := .append) (xs := #[.tmp 20,.tmp 21]) rfl ?_);at_builtin;refine Kd.R_append_zeros (Kd.int .u64) (w0 := w) w.heap.size rfl (.tmp 20) (.tmp 21) 26 3 22 (.int .u64 0) 8 rfl Try.underlying26 (k := .i64) Try.underlying3 info22 rfl (by decide) (by omega) (.slice none 0 0) ([] : List Int) (0 : Int) (kx := .i64) (n : Int) (fun _ => True) rfl rfl rfl (fun _ _ => trivial) (Kd.R_nil _ _ _ _ _) (by omega) (by first|exact Below.refl _ _|exact below_drew (Below.refl _ _)) (by first|exact Nat.le_refl _|exact below_size (below_drew (Below.refl _ _))) (by simp;omega) ?_;intro v6 w6 ho6 hb6 hg6 ha6;have HO6 := am ho6;have HB6 := am hb6;obtain ⟨A6,c6,e6⟩ := Kd.R_slice ho6;subst e6;clear ho6 hb6 hg6 ha6;have h6 := cut_take A6 (([] : List Int) ++ List.replicate (n : Int).toNat 0).length c6 0 (Nat.zero_le _)))
  first|go_ret|((try simp only [Exit.inBlock,Exit.then]);refine bodyPost_ret (results_tmp rfl _ _ _) rfl ?_)
  refine ⟨_,rfl,?_,HB6.out⟩
  have := Kd.R_take (m := 0) HO6.out (Nat.zero_le _)
  rwa [List.take_zero] at this
def catL (l : List (List Int)) (i : Nat) : List Int := (l.take i).flatten
theorem catL_next (l : List (List Int)) (i : Nat) (h : i < l.length) : catL l (i + 1) = catL l i ++ rd_L4 l (i : Int) := by
 have hr : rd_L4 l (i : Int) = l[i] := by unfold rd_L4;rw [Int.toNat_natCast,List.getD_eq_getElem?_getD,List.getElem?_eq_getElem h];rfl
 unfold catL
 rw [hr,List.take_succ_eq_append_getElem h,List.flatten_append];simp
theorem catL_len (l : List (List Int)) (hx : ∀ x ∈ l,x.length ≤ 1000) : ∀ i,i ≤ l.length → (catL l i).length ≤ 1000 * i
 | 0,_ => by simp [catL]
 | i + 1,h => by
  have ih := catL_len l hx i (by omega)
  rw [catL_next l i (by omega),List.length_append]
  have hr : rd_L4 l (i : Int) = l[i] := by unfold rd_L4;rw [Int.toNat_natCast,List.getD_eq_getElem?_getD,List.getElem?_eq_getElem (by omega)];rfl
  have := hx _ (List.getElem_mem (show i < l.length by omega))
  rw [hr];omega
set_option maxHeartbeats 4000000 in
set_option maxRecDepth 100000 in
theorem concat_walk (A : Option Addr) (c : Nat) (l : List (List Int)) (w : World) (hr : Kd.C (Kd.slice 22 (Kd.int .u64)) w A l.length l) (hc : l.length ≤ c) (hl : l.length ≤ 10) (hx : ∀ x ∈ l,x.length ≤ 1000) :
  Calls Try.prog 54 #[.slice A l.length c] w fun e w' => ∃ v : Value,e = .returned v ∧ Kd.R (Kd.int .u64) 22 w' w.heap.size (fun _ => True) v l.flatten ∧ Below w.heap.size w w' := by
 have HR := am hr
 have HLen := am (catL_len l hx)
 have HNext := am (catL_next l)
 clear hr
 go_enter Try.func54,Try.ntmps54
 go_wp2
 go_loopg [3,5,11] l.length (fun kq v3 v5 v11 w' => ∃ n : Nat,v3 = .int .i64 ((catL l n).length : Int) ∧ v11 = .int .i64 (n : Int) ∧ Aside0 (kq + n = l.length) ∧ w' = w)
 case atStart => exact ⟨0,by simp [catL],rfl,⟨rfl⟩,rfl⟩
 case round =>
  obtain ⟨n,rfl,rfl,HK,hww⟩ := hrel
  cases hww
  by_cases hlt : n < l.length
  ·have p1 : ((0 : Int) ≤ (n : Int)) = True := eq_true (by omega)
   have q1 : ((n : Int) < (l.length : Int)) = True := eq_true (by omega)
   have q2 : decide (n < l.length) = true := decide_eq_true hlt
   obtain ⟨ad,A4,c4,e1,hy,hc4,hC4⟩ := at_L4 HR.out (n : Int) (by omega) (by omega)
   cases e1
   rw [Int.toNat_natCast] at hy
   have hnx := HNext.out n hlt
   have hb1 := HLen.out (n + 1) (by omega)
   rw [hnx,List.length_append] at hb1
   obtain ⟨y,hyy⟩ : ∃ y,y = rd_L4 l (n : Int) := ⟨_,rfl⟩
   obtain ⟨t,ht⟩ : ∃ y,y = (catL l n).length := ⟨_,rfl⟩
   rw [← hyy] at hy hnx hb1 hc4 hC4
   rw [← ht] at hb1
   rw [← ht]
   have HNX := am (show (catL l (n + 1)).length = t + y.length by rw [hnx,List.length_append,← ht])
   have hw1 : wrap64 ((t : Int) + (y.length : Int)) = ((t + y.length : Nat) : Int) := by rw [wrap64];omega
   have q3 : decide (((t + y.length : Nat) : Int) < 0) = false := decide_eq_false (by omega)
   have q4 : decide ((t : Int) + (y.length : Int) < 0) = false := decide_eq_false (by omega)
   have HW := am hw1
   clear hnx hyy ht hC4 hc4 hw1
   go_wp2
   go_roundg (l.length - (n + 1))
   case measure => have := HK.out;omega
   case rel => exact ⟨n + 1,by rw [HNX.out];first|rfl|go_num,by go_num,⟨by omega⟩,rfl⟩
  ·have hd : decide ((n : Int) < (l.length : Int)) = false := decide_eq_false (by omega)
   have hd2 : decide (n < l.length) = false := decide_eq_false hlt
   have hn : n = l.length := by have := HK.out;omega
   subst hn
   have hb1 := HLen.out l.length (Nat.le_refl _)
   have hg := am (grow_walk (catL l l.length).length (by omega) w)
   clear hb1
   go_wp2_with (first
    | (go_at_call 86;(with_reducible refine hg.out.mono ?_);rintro e w1 ⟨v1,rfl,ho1,hb1⟩;have HO1 := am ho1;have HB1 := am hb1;clear ho1 hb1))
   go_loopg [6,8,27] l.length (fun kq v6 v8 v27 w' => ∃ m : Nat,v27 = .int .i64 (m : Int) ∧ Aside0 (kq + m = l.length) ∧ Aside0 (Kd.R (Kd.int .u64) 22 w' w.heap.size (fun _ => True) v6 (catL l m)) ∧ Aside0 (Below w.heap.size w w'))
   case atStart => exact ⟨0,rfl,⟨rfl⟩,HO1,HB1⟩
   case round =>
    clear HO1 HB1 hg
    obtain ⟨m,rfl,HK2,HO,HB⟩ := hrel
    by_cases hlt2 : m < l.length
    ·have p1 : ((0 : Int) ≤ (m : Int)) = True := eq_true (by omega)
     have q1 : ((m : Int) < (l.length : Int)) = True := eq_true (by omega)
     have q2 : decide (m < l.length) = true := decide_eq_true hlt2
     obtain ⟨ad,A4,c4,e1,hy,hc4,hC4⟩ := at_L4 HR.out (m : Int) (by omega) (by omega)
     cases e1
     replace hy := pw_cell_below HB.out hy
     rw [Int.toNat_natCast] at hy
     have hnx := HNext.out m hlt2
     have hb1 := HLen.out (m + 1) (by omega)
     rw [hnx,List.length_append] at hb1
     obtain ⟨y,hyy⟩ : ∃ y,y = rd_L4 l (m : Int) := ⟨_,rfl⟩
     rw [← hyy] at hy hnx hb1 hc4 hC4
     have HNX := am hnx
     have HBd := am hb1
     have HC4 := am (Kd.C_below hC4 HB.out)
     obtain ⟨A7,c7,e7⟩ := Kd.R_slice HO.out
     subst e7
     clear hnx hyy hC4 hc4 hb1
     go_wp2_with (first
      | ((with_reducible refine gate_builtin (b := .append) (xs := #[.tmp 31,.tmp 32]) rfl ?_);at_builtin;refine Kd.R_append_rows (Kd.int .u64) (w0 := w) w.heap.size rfl (.tmp 31) (.tmp 32) 26 22 (.int .u64 0) 8 rfl Try.underlying26 info22 rfl (by decide) (by omega) (.slice A7 (catL l m).length c7) (catL l m) y A4 y.length c4 (fun _ => True) (fun _ => False) rfl rfl HO.out HC4.out (fun _ _ h => h) (fun _ hk => hk.elim) (fun _ _ => trivial) HB.out (below_size HB.out) (by have := HBd.out;omega) ?_;intro v1 w1 ho hb hg hat;rw [← HNX.out] at ho;have HO1 := am ho;have HB1 := am hb;clear ho hb hg hat))
     go_roundg (l.length - (m + 1))
     case measure => have := HK2.out;omega
     case rel => exact ⟨m + 1,by go_num,⟨by omega⟩,HO1,HB1⟩
    ·have hd : decide ((m : Int) < (l.length : Int)) = false := decide_eq_false (by omega)
     have hd2 : decide (m < l.length) = false := decide_eq_false hlt2
     have hm : m = l.length := by have := HK2.out;omega
     have hfull : catL l m = l.flatten := by unfold catL;rw [hm,List.take_length]
     have HFull := am hfull
     clear hfull hm
     go_wp2
     first|go_ret|((try simp only [Exit.inBlock,Exit.then]);refine bodyPost_ret (results_tmp rfl _ _ _) rfl ?_)
     exact ⟨_,rfl,by rw [← HFull.out];exact HO.out,HB.out⟩
end Go.Proofs.Ytejeelpnmdfibaa.Hw
end
