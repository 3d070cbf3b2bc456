/- Printed by a program of this seat (the kit's printer, with the functions that were proved by hand given to it). What stands here: the functions that the statements reach, as plain functions, and that the Go code computes them. -/
import Derived.Test.YtmdoaijkaaaglaaZB71
import Derived.Test.YtmdoaijkaaaglaaZB710
import Derived.Test.YtmdoaijkaaaglaaZB77
import Derived.Test.YtmdoaijkaaaglaaZB78
import Derived.Test.YtmdoaijkaaaglaaZB712
import Derived.Test.YtmdoaijkaaaglaaRows
import Derived.WalkKit
import Derived.ProofKit
import Derived.OpenShut
import Derived.ShutString
import Derived.ChangeOld
import Derived.Below
import Derived.SizedLaws
import Derived.Test.YtmdoaijkaaaglaaZB70
set_option linter.unusedVariables false
set_option linter.unusedSimpArgs false
section
namespace Go.Proofs.Ytmdoaijkaaaglaa.Pr
open Go.RowKit Go.Proofs.YtmdoaijkaaaglaaW.PrintWords Go.Proofs.YtmdoaijkaaaglaaW.PrintLast Go.Proofs.YtmdoaijkaaaglaaW.PrintMore
attribute [local go_sem] max2_int min2_int max_two min_two max_three min_three max_four min_four
open Go.Proofs.Ytmdoaijkaaaglaa.Hw
mutual
def matrix_Apply.j0 : Nat → Int → List (List Int) → List Int → Bool → Option (List Int × Int)
 | 0,_,_,_,_ => none
 | k + 1,x0,x1,x2,x20 => if x20 = true then (some (([] : List Int),1)) else (matrix_Apply.l0 k x0 x2 ([] : List Int) x1 (x1.length : Int) 0)
def matrix_Apply.l0 : Nat → Int → List Int → List Int → List (List Int) → Int → Int → Option (List Int × Int)
 | 0,_,_,_,_,_,_ => none
 | k + 1,x0,x2,x8,x21,x22,x23 => if x23 < x22 then (if 0 ≤ x23 then (if x23 < (x21.length : Int) then ((matrix_dot.f k x0 (rd_L2 x21 x23) x2).bind fun t679 => (if x8.length < 17592186044416 then (matrix_Apply.l0 k x0 x2 (x8 ++ [t679]) x21 x22 (wrap64 (x23 + 1))) else (none))) else (none)) else (none)) else (some (x8,0))
end
def matrix_Apply.f (k : Nat) (a0 : Int) (l1 : List (List Int)) (l2 : List Int) : Option (List Int × Int) := (matrix_rect.f l1).bind fun t676 => (if t676 = true then ((matrix_cols.f l1).bind fun t677 => (matrix_Apply.j0 k a0 l1 l2 (t677 != (l2.length : Int)))) else (matrix_Apply.j0 k a0 l1 l2 true))
set_option maxHeartbeats 8000000 in
set_option maxRecDepth 100000 in
theorem matrix_Apply.calls (k : Nat) (a0 : Int) (A1 : Option Addr) (c1 : Nat) (l1 : List (List Int)) (A2 : Option Addr) (c2 : Nat) (l2 : List Int) (r1 : List Int) (r2 : Int) (w : World) (hr1 : Kd.C (Kd.slice 22 (Kd.int .u64)) w A1 l1.length l1) (hc1 : l1.length ≤ c1) (hr2 : Kd.C (Kd.int .u64) w A2 l2.length l2) (hc2 : l2.length ≤ c2) (h : matrix_Apply.f k a0 l1 l2 = some (r1,r2)) :
  Calls Try.prog 31 #[.int .u64 a0,.slice A1 l1.length c1,.slice A2 l2.length c2] w fun e w' => ∃ v0_ : Value,e = .returned (.tuple #[v0_,.int .i64 r2]) ∧ Kd.R (Kd.int .u64) 22 w' w.heap.size (fun _ => True) v0_ r1 ∧ Below w.heap.size w w' := by
 have HR1 := am hr1
 have HC1 := am hc1
 clear hr1 hc1
 have HR2 := am hr2
 have HC2 := am hc2
 clear hr2 hc2
 have HB := am (Below.refl w.heap.size w)
 have H : ((matrix_rect.f l1).bind fun t676 => (if t676 = true then ((matrix_cols.f l1).bind fun t677 => (matrix_Apply.j0 k a0 l1 l2 (t677 != (l2.length : Int)))) else (matrix_Apply.j0 k a0 l1 l2 true))) = some (r1,r2) := h
 clear h
 have HC4 := am H
 clear H
 go_enter Try.func31,Try.ntmps31
 go_upto_region 1 with (fail)
 go_cut [20] (fun v20 wc => ∃ (kq : Nat) (x20_3 : Bool),v20 = .bool x20_3 ∧ Aside0 (matrix_Apply.j0 kq a0 l1 l2 x20_3 = some (r1,r2)) ∧ Aside0 (kq ≤ k) ∧ Aside0 (Below w.heap.size w wc))
 case first =>
  have H := HC4.out
  clear HC4
  replace H := Option.bind_eq_some_iff.mp H
  obtain ⟨t676,A50,H⟩ := H
  try dsimp only at H
  have A5 := am A50
  clear A50
  by_cases c6 : t676 = true
  ·subst c6
   rw [if_pos rfl] at H
   replace H := Option.bind_eq_some_iff.mp H
   obtain ⟨t677,A70,H⟩ := H
   try dsimp only at H
   have A7 := am A70
   clear A70
   have H' := am H
   clear H
   go_wp2_with (first|((with_reducible refine gate_callee (f := 55) rfl ?_);refine goesL_ (some 12) rfl rfl Try.func55 (by kernel_rfl) rfl #[.slice A1 l1.length c1] rfl (by (try simp only [List.map_toArray,List.map_cons,List.map_nil]);first|done|rfl|(simp only [List.length_drop,List.length_take];rfl)) ?_;(with_reducible refine (matrix_rect.calls _ _ l1 true _ ?side1 ?side2 A5.out).mono ?_);(case side1 => exact cb HR1 HB);(case side2 => exact HC1.out);rintro e w8 ⟨rfl,hb⟩;refine ⟨_,rfl,?_⟩;have n0_ := am (below_step (bb HB) hb);clear HB;have HB := n0_;clear n0_;(try clear hb);(try clear hb2);(try clear hk);(try clear hi))|(go_at_call 56;(with_reducible refine (matrix_cols.calls _ _ l1 t677 _ ?side1 ?side2 A7.out).mono ?_);(case side1 => exact cb HR1 HB);(case side2 => exact HC1.out);rintro e w' ⟨rfl,⟨nd,rfl⟩⟩))
   go_meet
   case rel => exact ⟨_,((t677 != (l2.length : Int))),(by first|rfl|(simp;done)|(simp [*];done)),H',⟨by first|omega|exact Nat.le_refl _⟩,⟨bb HB⟩⟩
  ·replace c6 := Bool.eq_false_iff.mpr c6
   subst c6
   rw [if_neg (show ¬ (false = true) by decide)] at H
   have H' := am H
   clear H
   go_wp2_with (first|((with_reducible refine gate_callee (f := 55) rfl ?_);refine goesL_ (some 12) rfl rfl Try.func55 (by kernel_rfl) rfl #[.slice A1 l1.length c1] rfl (by (try simp only [List.map_toArray,List.map_cons,List.map_nil]);first|done|rfl|(simp only [List.length_drop,List.length_take];rfl)) ?_;(with_reducible refine (matrix_rect.calls _ _ l1 false _ ?side1 ?side2 A5.out).mono ?_);(case side1 => exact cb HR1 HB);(case side2 => exact HC1.out);rintro e w9 ⟨rfl,hb⟩;refine ⟨_,rfl,?_⟩;have n0_ := am (below_step (bb HB) hb);clear HB;have HB := n0_;clear n0_;(try clear hb);(try clear hb2);(try clear hk);(try clear hi)))
   go_meet
   case rel => exact ⟨_,(true),(by first|rfl|(simp;done)|(simp [*];done)),H',⟨by first|omega|exact Nat.le_refl _⟩,⟨bb HB⟩⟩
 case rest =>
  clear HC4
  try clear c1
  try clear c2
  try clear p2
  try clear c3
  try clear c5
  try clear c6
  obtain ⟨kq,x20_3,rfl,HA,HJ3,HB⟩ := hcut
  cases kq with
  | zero => exact absurd HA.out (by simp [matrix_Apply.j0])
  | succ kj3 =>
   have H := HA.out
   clear HA
   simp only [matrix_Apply.j0] at H
   by_cases c10 : x20_3 = true
   ·subst c10
    rw [if_pos rfl] at H
    simp only [Option.some.injEq,Prod.mk.injEq] at H
    obtain ⟨rfl,rfl⟩ := H
    go_wp2
    go_ret2
    exact ⟨_,by first|rfl|(simp [errW_none,errW_some] <;> rfl)|(simp [*,errW_none,errW_some] <;> rfl),by first|exact Kd.R_nil _ _ _ _ _|exact Kd.N_nil _ _ _ _ _|exact Kd.V_nil _ _ _ _ _|exact Kd.Q_nil _ _ _ _ _|exact Kd.S_nil _ _ _ _ _,bb HB⟩
   ·replace c10 := Bool.eq_false_iff.mpr c10
    subst c10
    rw [if_neg (show ¬ (false = true) by decide)] at H
    have H' := am H
    clear H
    go_wp2
    go_loopg [8,23] kj3 (fun kq v8 v23 w' => ∃ (x8_2 : List Int) (x23_2 : Int),v23 = .int .i64 x23_2 ∧ Aside0 (matrix_Apply.l0 kq a0 l2 x8_2 l1 (l1.length : Int) x23_2 = some (r1,r2)) ∧ Aside0 (kq ≤ kj3) ∧ Aside0 (Kd.R (Kd.int .u64) 22 w' w.heap.size (fun _ => True) v8 x8_2) ∧ Aside0 (Below w.heap.size w w'))
    case atStart => exact ⟨(([] : List Int)),(0),(by first|rfl|(simp;done)|(simp [*];done)),H',⟨Nat.le_refl _⟩,⟨by first|exact Kd.R_nil _ _ _ _ _|exact Kd.N_nil _ _ _ _ _|exact Kd.V_nil _ _ _ _ _|exact Kd.Q_nil _ _ _ _ _|exact Kd.S_nil _ _ _ _ _⟩,⟨bb HB⟩⟩
    case round =>
     clear H'
     try clear c1
     try clear c2
     try clear p2
     try clear c3
     try clear c5
     try clear c6
     try clear c10
     try clear p2
     obtain ⟨x8_2,x23_2,rfl,HA,HK2,HO_8,HB⟩ := hrel
     cases gk with
     | zero => exact absurd HA.out (by simp [matrix_Apply.l0])
     | succ k2 =>
      have H := HA.out
      clear HA
      simp only [matrix_Apply.l0] at H
      by_cases c11 : x23_2 < (l1.length : Int)
      ·rw [if_pos c11] at H
       have c11b0 : decide (x23_2 < (l1.length : Int)) = true := decide_eq_true c11
       clear c11
       by_cases c12 : 0 ≤ x23_2
       ·rw [if_pos c12] at H
        have c12b0 : decide (0 ≤ x23_2) = true := decide_eq_true c12
        clear c12
        by_cases c13 : x23_2 < (l1.length : Int)
        ·rw [if_pos c13] at H
         have c13b0 : decide (x23_2 < (l1.length : Int)) = true := decide_eq_true c13
         clear c13
         replace H := Option.bind_eq_some_iff.mp H
         obtain ⟨t679,A140,H⟩ := H
         try dsimp only at H
         have A14 := am A140
         clear A140
         by_cases c15 : x8_2.length < 17592186044416
         ·rw [if_pos c15] at H
          have LMc15 := am c15
          clear c15
          obtain ⟨y680,hy680⟩ : ∃ y_ : List Int,y_ = (x8_2 ++ [t679]) := ⟨_,rfl⟩
          replace H : (matrix_Apply.l0 k2 a0 l2 y680 l1 (l1.length : Int) (wrap64 (x23_2 + 1))) = some (r1,r2) := by first|(rw [hy680];with_reducible exact H)|(have H2_ := (Option.bind_some _ _).symm.trans H;rw [hy680];with_reducible exact H2_)|(have H2_ := (Option.bind_some _ _).symm.trans H;with_reducible exact H2_)|with_reducible exact H|(rw [hy680];exact H)|exact H
          have Ny680 := am hy680
          clear hy680
          have H' := am H
          clear H
          have p678 : 0 ≤ (x23_2 : Int) := od
          have q678 : x23_2 < (l1.length : Int) := od
          obtain ⟨ad678,A678_0,c678_0,e678,hx678_0,hl678_0,hi678_0⟩ := at_L2 HR1.out x23_2 p678 q678
          cases e678
          replace hx678_0 := (HB.out.cell (World.block_lt_of_cell? w _ hx678_0)).trans hx678_0
          have HR678_0 := am hi678_0
          have HC678_0 := am hl678_0
          clear hi678_0 hl678_0
          replace p678 := eq_true p678
          replace q678 := eq_true q678
          go_wp2_with (first|((with_reducible refine gate_callee (f := 57) rfl ?_);refine goesL_ (some 31) rfl rfl Try.func57 (by kernel_rfl) rfl #[.int .u64 a0,.slice A678_0 (rd_L2 l1 x23_2).length c678_0,.slice A2 l2.length c2] rfl (by (try simp only [List.map_toArray,List.map_cons,List.map_nil]);first|done|rfl|(simp only [List.length_drop,List.length_take];rfl)) ?_;(with_reducible refine (matrix_dot.calls k2 a0 _ _ (rd_L2 l1 x23_2) _ _ l2 t679 _ ?side1 ?side2 ?side3 ?side4 A14.out).mono ?_);(case side1 => exact cb HR678_0 HB);(case side2 => exact HC678_0.out);(case side3 => exact cb HR2 HB);(case side4 => exact HC2.out);rintro e w' ⟨rfl,⟨nd,rfl⟩⟩;refine ⟨_,rfl,?_⟩)|((with_reducible refine gate_builtin (b := .append) (xs := #[.tmp 27,.tmp 32]) rfl ?_);(try (refine gate_guard (by rfl) ?_;dsimp only));at_builtin;refine Kd.R_append (Kd.int .u64) (w0 := w) w.heap.size rfl (.tmp 27) (.tmp 32) 40 22 (.int .u64 0) 8 rfl Try.underlying40 info22 rfl (by decide) (by omega) u8 x8_2 t679 [.int .u64 t679] (fun _ => True) (fun _ => False) rfl rfl ?aP (fun _ hk => hk.elim) ?aF ?aO ?aB ?aS ?aL ?_;(case aP => exact rfl);(case aB => exact (bb HB));(case aF => exact (fun _ _ => trivial));(case aO => exact (rr HO_8));(case aS => exact (below_size (bb HB)));(case aL => have := LMc15.out;omega);intro v681 w16 ho hb hg hat;rw [← Ny680.out] at ho;have n0_ := am (hb);have n1_ := am (ho);clear HB HO_8;have HB := n0_;have HO682 := n1_;clear n0_ n1_;clear ho hb hg hat))
          go_roundg k2
          case measure => have := HJ3.out;have := HK2.out;omega
          case rel => exact ⟨(y680),(wrap64 (x23_2 + 1)),(by first|rfl|(simp;done)|(simp [*];done)),H',⟨by have := HJ3.out;have := HK2.out;omega⟩,⟨by (with_reducible repeat (first|apply Kd.R_alloc|apply Kd.R_drewN|apply Kd.R_drew));exact HO682.out⟩,⟨bb HB⟩⟩
         ·rw [if_neg c15] at H
          exact absurd H (by simp)
        ·rw [if_neg c13] at H
         exact absurd H (by simp)
       ·rw [if_neg c12] at H
        exact absurd H (by simp)
      ·rw [if_neg c11] at H
       have c11b0 : decide (x23_2 < (l1.length : Int)) = false := decide_eq_false c11
       clear c11
       simp only [Option.some.injEq,Prod.mk.injEq] at H
       obtain ⟨rfl,rfl⟩ := H
       go_wp2
       go_ret2
       exact ⟨_,by first|rfl|(simp [errW_none,errW_some] <;> rfl)|(simp [*,errW_none,errW_some] <;> rfl),by (with_reducible repeat (first|apply Kd.R_alloc|apply Kd.R_drewN|apply Kd.R_drew));exact HO_8.out,bb HB⟩
mutual
def privitylaw07_HyperinvertibleMinimumDistance.j0 : Nat → Int → List Int → List Int → Bool → Option (Bool)
 | 0,_,_,_,_ => none
 | k + 1,x0,x1,x2,x54 => if x54 = true then (some true) else ((hyperinvertible_New.f k x0 6 (x1.length : Int)).bind fun bt723 => ((matrix_Apply.f k x0 bt723.1 x1).bind fun bt727 => ((matrix_Apply.f k x0 bt723.1 x2).bind fun bt731 => (if bt723.2 = 0 then (if bt727.2 = 0 then (if bt731.2 = 0 then (if (bt727.1.length : Int) = 6 then (privitylaw07_HyperinvertibleMinimumDistance.j1 k x1 x2 bt727.1 bt731.1 ((bt731.1.length : Int) != 6)) else (privitylaw07_HyperinvertibleMinimumDistance.j1 k x1 x2 bt727.1 bt731.1 true)) else (privitylaw07_HyperinvertibleMinimumDistance.j1 k x1 x2 bt727.1 bt731.1 true)) else (privitylaw07_HyperinvertibleMinimumDistance.j1 k x1 x2 bt727.1 bt731.1 true)) else (privitylaw07_HyperinvertibleMinimumDistance.j1 k x1 x2 bt727.1 bt731.1 true)))))
def privitylaw07_HyperinvertibleMinimumDistance.j1 : Nat → List Int → List Int → List Int → List Int → Bool → Option (Bool)
 | 0,_,_,_,_,_ => none
 | k + 1,x1,x2,x9,x11,x95 => if x95 = true then (some false) else (privitylaw07_HyperinvertibleMinimumDistance.l0 k x1 x2 x9 x11 0 0)
def privitylaw07_HyperinvertibleMinimumDistance.l0 : Nat → List Int → List Int → List Int → List Int → Int → Int → Option (Bool)
 | 0,_,_,_,_,_,_ => none
 | k + 1,x1,x2,x9,x11,x13,x14 => if x14 < (x1.length : Int) then (if 0 ≤ x14 then (if x14 < (x2.length : Int) then (if (rd x1 x14) = (rd x2 x14) then (privitylaw07_HyperinvertibleMinimumDistance.l0 k x1 x2 x9 x11 x13 (wrap64 (x14 + 1))) else (privitylaw07_HyperinvertibleMinimumDistance.l0 k x1 x2 x9 x11 (wrap64 (x13 + 1)) (wrap64 (x14 + 1)))) else (none)) else (none)) else (privitylaw07_HyperinvertibleMinimumDistance.l1 k x9 x11 x13 0)
def privitylaw07_HyperinvertibleMinimumDistance.l1 : Nat → List Int → List Int → Int → Int → Option (Bool)
 | 0,_,_,_,_ => none
 | k + 1,x9,x11,x13,x15 => if x15 < 6 then (if 0 ≤ x15 then (if x15 < (x9.length : Int) then (if x15 < (x11.length : Int) then (if (rd x9 x15) = (rd x11 x15) then (privitylaw07_HyperinvertibleMinimumDistance.l1 k x9 x11 x13 (wrap64 (x15 + 1))) else (privitylaw07_HyperinvertibleMinimumDistance.l1 k x9 x11 (wrap64 (x13 + 1)) (wrap64 (x15 + 1)))) else (none)) else (none)) else (none)) else (some (decide (x13 > 6)))
end
def privitylaw07_HyperinvertibleMinimumDistance.f (k : Nat) (a0 : Int) (l1 : List Int) (l2 : List Int) : Option (Bool) := (privitylaw07_awake.f k).bind fun t718 => (if t718 = true then ((privityref01_Supported.f k a0).bind fun t719 => (if t719 = true then (if (l1.length : Int) < 1 then (privitylaw07_HyperinvertibleMinimumDistance.j0 k a0 l1 l2 true) else (if (l1.length : Int) > 7 then (privitylaw07_HyperinvertibleMinimumDistance.j0 k a0 l1 l2 true) else (if (l2.length : Int) = (l1.length : Int) then ((privityref05_Below.f k a0 l1).bind fun t720 => (if t720 = true then ((privityref05_Below.f k a0 l2).bind fun t721 => (if t721 = true then ((privityref05_Same.f k l1 l2).bind fun t722 => (privitylaw07_HyperinvertibleMinimumDistance.j0 k a0 l1 l2 t722)) else (privitylaw07_HyperinvertibleMinimumDistance.j0 k a0 l1 l2 true))) else (privitylaw07_HyperinvertibleMinimumDistance.j0 k a0 l1 l2 true))) else (privitylaw07_HyperinvertibleMinimumDistance.j0 k a0 l1 l2 true)))) else (privitylaw07_HyperinvertibleMinimumDistance.j0 k a0 l1 l2 true))) else (some false))
set_option maxHeartbeats 8000000 in
set_option maxRecDepth 100000 in
theorem privitylaw07_HyperinvertibleMinimumDistance.calls (k : Nat) (a0 : Int) (A1 : Option Addr) (c1 : Nat) (l1 : List Int) (A2 : Option Addr) (c2 : Nat) (l2 : List Int) (r : Bool) (w : World) (hr1 : Kd.C (Kd.int .u64) w A1 l1.length l1) (hc1 : l1.length ≤ c1) (hr2 : Kd.C (Kd.int .u64) w A2 l2.length l2) (hc2 : l2.length ≤ c2) (hr1_ : r = true) (h : privitylaw07_HyperinvertibleMinimumDistance.f k a0 l1 l2 = some r) :
  Calls Try.prog 9 #[.int .u64 a0,.slice A1 l1.length c1,.slice A2 l2.length c2] w fun e w' => e = .returned (.bool r) ∧ Below w.heap.size w w' := by
 have HRT_ := am hr1_
 clear hr1_
 have HR1 := am hr1
 have HC1 := am hc1
 clear hr1 hc1
 have HR2 := am hr2
 have HC2 := am hc2
 clear hr2 hc2
 have HB := am (Below.refl w.heap.size w)
 have H : ((privitylaw07_awake.f k).bind fun t718 => (if t718 = true then ((privityref01_Supported.f k a0).bind fun t719 => (if t719 = true then (if (l1.length : Int) < 1 then (privitylaw07_HyperinvertibleMinimumDistance.j0 k a0 l1 l2 true) else (if (l1.length : Int) > 7 then (privitylaw07_HyperinvertibleMinimumDistance.j0 k a0 l1 l2 true) else (if (l2.length : Int) = (l1.length : Int) then ((privityref05_Below.f k a0 l1).bind fun t720 => (if t720 = true then ((privityref05_Below.f k a0 l2).bind fun t721 => (if t721 = true then ((privityref05_Same.f k l1 l2).bind fun t722 => (privitylaw07_HyperinvertibleMinimumDistance.j0 k a0 l1 l2 t722)) else (privitylaw07_HyperinvertibleMinimumDistance.j0 k a0 l1 l2 true))) else (privitylaw07_HyperinvertibleMinimumDistance.j0 k a0 l1 l2 true))) else (privitylaw07_HyperinvertibleMinimumDistance.j0 k a0 l1 l2 true)))) else (privitylaw07_HyperinvertibleMinimumDistance.j0 k a0 l1 l2 true))) else (some false))) = some r := h
 clear h
 replace H := Option.bind_eq_some_iff.mp H
 obtain ⟨t718,A40,H⟩ := H
 try dsimp only at H
 have A4 := am A40
 clear A40
 by_cases c5 : t718 = true
 ·subst c5
  rw [if_pos rfl] at H
  have HC6 := am H
  clear H
  go_enter Try.func9,Try.ntmps9
  go_upto_region 3 with (first|(go_at_call 12;(with_reducible refine (privitylaw07_awake.calls k  true _ A4.out).mono ?_);rintro e w7 ⟨rfl,hb⟩;have n0_ := am (below_step (bb HB) hb);clear HB;have HB := n0_;clear n0_;(try clear hb);(try clear hb2);(try clear hk);(try clear hi)))
  repeat (go_quiet (first|(go_at_call 12;(with_reducible refine (privitylaw07_awake.calls k  true _ A4.out).mono ?_);rintro e w7 ⟨rfl,hb⟩;have n0_ := am (below_step (bb HB) hb);clear HB;have HB := n0_;clear n0_;(try clear hb);(try clear hb2);(try clear hk);(try clear hi)));go_upto_region 3 with (first|(go_at_call 12;(with_reducible refine (privitylaw07_awake.calls k  true _ A4.out).mono ?_);rintro e w7 ⟨rfl,hb⟩;have n0_ := am (below_step (bb HB) hb);clear HB;have HB := n0_;clear n0_;(try clear hb);(try clear hb2);(try clear hk);(try clear hi))))
  (try simp only [Act.put,List.setIfInBounds_toArray,List.set_cons_zero,List.set_cons_succ])
  go_cut [54] (fun v54 wc => ∃ (kq : Nat) (x54_5 : Bool),v54 = .bool x54_5 ∧ Aside0 (privitylaw07_HyperinvertibleMinimumDistance.j0 kq a0 l1 l2 x54_5 = some r) ∧ Aside0 (kq ≤ k) ∧ Aside0 (Below w.heap.size w wc))
  case first =>
   have H := HC6.out
   clear HC6
   replace H := Option.bind_eq_some_iff.mp H
   obtain ⟨t719,A80,H⟩ := H
   try dsimp only at H
   have A8 := am A80
   clear A80
   by_cases c9 : t719 = true
   ·subst c9
    rw [if_pos rfl] at H
    by_cases c10 : (l1.length : Int) < 1
    ·rw [if_pos c10] at H
     have c10b0 : decide ((l1.length : Int) < 1) = true := decide_eq_true c10
     have c10b1 : decide (l1.length < 1) = true := decide_eq_true (by omega)
     clear c10
     (first|rw [c10b0]|(simp only [i64_w,i32_w];rw [c10b0])|skip)
     have H' := am H
     clear H
     go_wp2_with (first|(go_at_call 13;(with_reducible refine (privityref01_Supported.calls k a0 true _ A8.out).mono ?_);rintro e w11 ⟨rfl,hb⟩;have n0_ := am (below_step (bb HB) hb);clear HB;have HB := n0_;clear n0_;(try clear hb);(try clear hb2);(try clear hk);(try clear hi)))
     repeat (go_quiet (first|(go_at_call 13;(with_reducible refine (privityref01_Supported.calls k a0 true _ A8.out).mono ?_);rintro e w11 ⟨rfl,hb⟩;have n0_ := am (below_step (bb HB) hb);clear HB;have HB := n0_;clear n0_;(try clear hb);(try clear hb2);(try clear hk);(try clear hi)));try go_wp2_with (first|(go_at_call 13;(with_reducible refine (privityref01_Supported.calls k a0 true _ A8.out).mono ?_);rintro e w11 ⟨rfl,hb⟩;have n0_ := am (below_step (bb HB) hb);clear HB;have HB := n0_;clear n0_;(try clear hb);(try clear hb2);(try clear hk);(try clear hi))))
     go_meet
     case rel => exact ⟨_,(true),(by first|rfl|(simp;done)|(simp [*];done)),H',⟨by first|omega|exact Nat.le_refl _⟩,⟨bb HB⟩⟩
    ·rw [if_neg c10] at H
     have c10b0 : decide ((l1.length : Int) < 1) = false := decide_eq_false c10
     have c10b1 : decide (l1.length < 1) = false := decide_eq_false (by omega)
     clear c10
     (first|rw [c10b0]|(simp only [i64_w,i32_w];rw [c10b0])|skip)
     by_cases c12 : (l1.length : Int) > 7
     ·rw [if_pos c12] at H
      have c12b0 : decide (7 < (l1.length : Int)) = true := decide_eq_true c12
      have c12b1 : decide (7 < l1.length) = true := decide_eq_true (by omega)
      clear c12
      have H' := am H
      clear H
      go_wp2_with (first|(go_at_call 13;(with_reducible refine (privityref01_Supported.calls k a0 true _ A8.out).mono ?_);rintro e w13 ⟨rfl,hb⟩;have n0_ := am (below_step (bb HB) hb);clear HB;have HB := n0_;clear n0_;(try clear hb);(try clear hb2);(try clear hk);(try clear hi)))
      repeat (go_quiet (first|(go_at_call 13;(with_reducible refine (privityref01_Supported.calls k a0 true _ A8.out).mono ?_);rintro e w13 ⟨rfl,hb⟩;have n0_ := am (below_step (bb HB) hb);clear HB;have HB := n0_;clear n0_;(try clear hb);(try clear hb2);(try clear hk);(try clear hi)));try go_wp2_with (first|(go_at_call 13;(with_reducible refine (privityref01_Supported.calls k a0 true _ A8.out).mono ?_);rintro e w13 ⟨rfl,hb⟩;have n0_ := am (below_step (bb HB) hb);clear HB;have HB := n0_;clear n0_;(try clear hb);(try clear hb2);(try clear hk);(try clear hi))))
      go_meet
      case rel => exact ⟨_,(true),(by first|rfl|(simp;done)|(simp [*];done)),H',⟨by first|omega|exact Nat.le_refl _⟩,⟨bb HB⟩⟩
     ·rw [if_neg c12] at H
      have c12b0 : decide (7 < (l1.length : Int)) = false := decide_eq_false c12
      have c12b1 : decide (7 < l1.length) = false := decide_eq_false (by omega)
      clear c12
      by_cases c14 : (l2.length : Int) = (l1.length : Int)
      ·rw [if_pos c14] at H
       have c14b0 : ((l2.length : Int) == (l1.length : Int)) = true := beq_iff_eq.mpr c14
       have c14b1 : ((l2.length : Int) != (l1.length : Int)) = false := bne_eq_false_iff_eq.mpr c14
       have c14b2 : (l2.length == l1.length) = true := by first|simpa using c14|(simp at c14 ⊢;omega)
       clear c14
       replace H := Option.bind_eq_some_iff.mp H
       obtain ⟨t720,A150,H⟩ := H
       try dsimp only at H
       have A15 := am A150
       clear A150
       by_cases c16 : t720 = true
       ·subst c16
        rw [if_pos rfl] at H
        replace H := Option.bind_eq_some_iff.mp H
        obtain ⟨t721,A170,H⟩ := H
        try dsimp only at H
        have A17 := am A170
        clear A170
        by_cases c18 : t721 = true
        ·subst c18
         rw [if_pos rfl] at H
         replace H := Option.bind_eq_some_iff.mp H
         obtain ⟨t722,A190,H⟩ := H
         try dsimp only at H
         have A19 := am A190
         clear A190
         have H' := am H
         clear H
         go_wp2_with (first|(go_at_call 13;(with_reducible refine (privityref01_Supported.calls k a0 true _ A8.out).mono ?_);rintro e w20 ⟨rfl,hb⟩;have n0_ := am (below_step (bb HB) hb);clear HB;have HB := n0_;clear n0_;(try clear hb);(try clear hb2);(try clear hk);(try clear hi))|(go_at_call 25;(with_reducible refine (privityref05_Below.calls k a0 _ _ l1 true _ ?side1 ?side2 A15.out).mono ?_);(case side1 => exact cb HR1 HB);(case side2 => exact HC1.out);rintro e w' ⟨rfl,⟨nd,rfl⟩⟩;(try first|exact ⟨rfl,_,World.drewN_drewN _ _ _⟩|exact ⟨rfl,_,Eq.trans (World.drewN_drewN _ _ _) (congrArg (World.drewN _) (Nat.add_assoc _ _ _))⟩))|(go_at_call 25;(with_reducible refine (privityref05_Below.calls k a0 _ _ l2 true _ ?side1 ?side2 A17.out).mono ?_);(case side1 => repeat (first|exact (Kd.C_below HR2.out (bb HB))|(with_reducible refine Kd.C_alloc ?_ _)|(with_reducible refine Kd.C_drewN ?_ _)|(with_reducible refine Kd.C_drew ?_)));(case side2 => exact HC2.out);rintro e w' ⟨rfl,⟨nd,rfl⟩⟩;(try first|exact ⟨rfl,_,World.drewN_drewN _ _ _⟩|exact ⟨rfl,_,Eq.trans (World.drewN_drewN _ _ _) (congrArg (World.drewN _) (Nat.add_assoc _ _ _))⟩))|(go_at_call 24;(with_reducible refine (privityref05_Same.calls k _ _ l1 _ _ l2 t722 _ ?side1 ?side2 ?side3 ?side4 A19.out).mono ?_);(case side1 => repeat (first|exact (Kd.C_below HR1.out (bb HB))|(with_reducible refine Kd.C_alloc ?_ _)|(with_reducible refine Kd.C_drewN ?_ _)|(with_reducible refine Kd.C_drew ?_)));(case side2 => exact HC1.out);(case side3 => repeat (first|exact (Kd.C_below HR2.out (bb HB))|(with_reducible refine Kd.C_alloc ?_ _)|(with_reducible refine Kd.C_drewN ?_ _)|(with_reducible refine Kd.C_drew ?_)));(case side4 => exact HC2.out);rintro e w' ⟨rfl,⟨nd,rfl⟩⟩;(try first|exact ⟨rfl,_,World.drewN_drewN _ _ _⟩|exact ⟨rfl,_,Eq.trans (World.drewN_drewN _ _ _) (congrArg (World.drewN _) (Nat.add_assoc _ _ _))⟩)))
         repeat (go_quiet (first|(go_at_call 13;(with_reducible refine (privityref01_Supported.calls k a0 true _ A8.out).mono ?_);rintro e w20 ⟨rfl,hb⟩;have n0_ := am (below_step (bb HB) hb);clear HB;have HB := n0_;clear n0_;(try clear hb);(try clear hb2);(try clear hk);(try clear hi))|(go_at_call 25;(with_reducible refine (privityref05_Below.calls k a0 _ _ l1 true _ ?side1 ?side2 A15.out).mono ?_);(case side1 => exact cb HR1 HB);(case side2 => exact HC1.out);rintro e w' ⟨rfl,⟨nd,rfl⟩⟩;(try first|exact ⟨rfl,_,World.drewN_drewN _ _ _⟩|exact ⟨rfl,_,Eq.trans (World.drewN_drewN _ _ _) (congrArg (World.drewN _) (Nat.add_assoc _ _ _))⟩))|(go_at_call 25;(with_reducible refine (privityref05_Below.calls k a0 _ _ l2 true _ ?side1 ?side2 A17.out).mono ?_);(case side1 => repeat (first|exact (Kd.C_below HR2.out (bb HB))|(with_reducible refine Kd.C_alloc ?_ _)|(with_reducible refine Kd.C_drewN ?_ _)|(with_reducible refine Kd.C_drew ?_)));(case side2 => exact HC2.out);rintro e w' ⟨rfl,⟨nd,rfl⟩⟩;(try first|exact ⟨rfl,_,World.drewN_drewN _ _ _⟩|exact ⟨rfl,_,Eq.trans (World.drewN_drewN _ _ _) (congrArg (World.drewN _) (Nat.add_assoc _ _ _))⟩))|(go_at_call 24;(with_reducible refine (privityref05_Same.calls k _ _ l1 _ _ l2 t722 _ ?side1 ?side2 ?side3 ?side4 A19.out).mono ?_);(case side1 => repeat (first|exact (Kd.C_below HR1.out (bb HB))|(with_reducible refine Kd.C_alloc ?_ _)|(with_reducible refine Kd.C_drewN ?_ _)|(with_reducible refine Kd.C_drew ?_)));(case side2 => exact HC1.out);(case side3 => repeat (first|exact (Kd.C_below HR2.out (bb HB))|(with_reducible refine Kd.C_alloc ?_ _)|(with_reducible refine Kd.C_drewN ?_ _)|(with_reducible refine Kd.C_drew ?_)));(case side4 => exact HC2.out);rintro e w' ⟨rfl,⟨nd,rfl⟩⟩;(try first|exact ⟨rfl,_,World.drewN_drewN _ _ _⟩|exact ⟨rfl,_,Eq.trans (World.drewN_drewN _ _ _) (congrArg (World.drewN _) (Nat.add_assoc _ _ _))⟩)));try go_wp2_with (first|(go_at_call 13;(with_reducible refine (privityref01_Supported.calls k a0 true _ A8.out).mono ?_);rintro e w20 ⟨rfl,hb⟩;have n0_ := am (below_step (bb HB) hb);clear HB;have HB := n0_;clear n0_;(try clear hb);(try clear hb2);(try clear hk);(try clear hi))|(go_at_call 25;(with_reducible refine (privityref05_Below.calls k a0 _ _ l1 true _ ?side1 ?side2 A15.out).mono ?_);(case side1 => exact cb HR1 HB);(case side2 => exact HC1.out);rintro e w' ⟨rfl,⟨nd,rfl⟩⟩;(try first|exact ⟨rfl,_,World.drewN_drewN _ _ _⟩|exact ⟨rfl,_,Eq.trans (World.drewN_drewN _ _ _) (congrArg (World.drewN _) (Nat.add_assoc _ _ _))⟩))|(go_at_call 25;(with_reducible refine (privityref05_Below.calls k a0 _ _ l2 true _ ?side1 ?side2 A17.out).mono ?_);(case side1 => repeat (first|exact (Kd.C_below HR2.out (bb HB))|(with_reducible refine Kd.C_alloc ?_ _)|(with_reducible refine Kd.C_drewN ?_ _)|(with_reducible refine Kd.C_drew ?_)));(case side2 => exact HC2.out);rintro e w' ⟨rfl,⟨nd,rfl⟩⟩;(try first|exact ⟨rfl,_,World.drewN_drewN _ _ _⟩|exact ⟨rfl,_,Eq.trans (World.drewN_drewN _ _ _) (congrArg (World.drewN _) (Nat.add_assoc _ _ _))⟩))|(go_at_call 24;(with_reducible refine (privityref05_Same.calls k _ _ l1 _ _ l2 t722 _ ?side1 ?side2 ?side3 ?side4 A19.out).mono ?_);(case side1 => repeat (first|exact (Kd.C_below HR1.out (bb HB))|(with_reducible refine Kd.C_alloc ?_ _)|(with_reducible refine Kd.C_drewN ?_ _)|(with_reducible refine Kd.C_drew ?_)));(case side2 => exact HC1.out);(case side3 => repeat (first|exact (Kd.C_below HR2.out (bb HB))|(with_reducible refine Kd.C_alloc ?_ _)|(with_reducible refine Kd.C_drewN ?_ _)|(with_reducible refine Kd.C_drew ?_)));(case side4 => exact HC2.out);rintro e w' ⟨rfl,⟨nd,rfl⟩⟩;(try first|exact ⟨rfl,_,World.drewN_drewN _ _ _⟩|exact ⟨rfl,_,Eq.trans (World.drewN_drewN _ _ _) (congrArg (World.drewN _) (Nat.add_assoc _ _ _))⟩))))
         go_meet
         case rel => exact ⟨_,(t722),(by first|rfl|(simp;done)|(simp [*];done)),H',⟨by first|omega|exact Nat.le_refl _⟩,⟨bb HB⟩⟩
        ·replace c18 := Bool.eq_false_iff.mpr c18
         subst c18
         rw [if_neg (show ¬ (false = true) by decide)] at H
         have H' := am H
         clear H
         go_wp2_with (first|(go_at_call 13;(with_reducible refine (privityref01_Supported.calls k a0 true _ A8.out).mono ?_);rintro e w21 ⟨rfl,hb⟩;have n0_ := am (below_step (bb HB) hb);clear HB;have HB := n0_;clear n0_;(try clear hb);(try clear hb2);(try clear hk);(try clear hi))|(go_at_call 25;(with_reducible refine (privityref05_Below.calls k a0 _ _ l1 true _ ?side1 ?side2 A15.out).mono ?_);(case side1 => exact cb HR1 HB);(case side2 => exact HC1.out);rintro e w' ⟨rfl,⟨nd,rfl⟩⟩;(try first|exact ⟨rfl,_,World.drewN_drewN _ _ _⟩|exact ⟨rfl,_,Eq.trans (World.drewN_drewN _ _ _) (congrArg (World.drewN _) (Nat.add_assoc _ _ _))⟩))|(go_at_call 25;(with_reducible refine (privityref05_Below.calls k a0 _ _ l2 false _ ?side1 ?side2 A17.out).mono ?_);(case side1 => repeat (first|exact (Kd.C_below HR2.out (bb HB))|(with_reducible refine Kd.C_alloc ?_ _)|(with_reducible refine Kd.C_drewN ?_ _)|(with_reducible refine Kd.C_drew ?_)));(case side2 => exact HC2.out);rintro e w' ⟨rfl,⟨nd,rfl⟩⟩;(try first|exact ⟨rfl,_,World.drewN_drewN _ _ _⟩|exact ⟨rfl,_,Eq.trans (World.drewN_drewN _ _ _) (congrArg (World.drewN _) (Nat.add_assoc _ _ _))⟩)))
         repeat (go_quiet (first|(go_at_call 13;(with_reducible refine (privityref01_Supported.calls k a0 true _ A8.out).mono ?_);rintro e w21 ⟨rfl,hb⟩;have n0_ := am (below_step (bb HB) hb);clear HB;have HB := n0_;clear n0_;(try clear hb);(try clear hb2);(try clear hk);(try clear hi))|(go_at_call 25;(with_reducible refine (privityref05_Below.calls k a0 _ _ l1 true _ ?side1 ?side2 A15.out).mono ?_);(case side1 => exact cb HR1 HB);(case side2 => exact HC1.out);rintro e w' ⟨rfl,⟨nd,rfl⟩⟩;(try first|exact ⟨rfl,_,World.drewN_drewN _ _ _⟩|exact ⟨rfl,_,Eq.trans (World.drewN_drewN _ _ _) (congrArg (World.drewN _) (Nat.add_assoc _ _ _))⟩))|(go_at_call 25;(with_reducible refine (privityref05_Below.calls k a0 _ _ l2 false _ ?side1 ?side2 A17.out).mono ?_);(case side1 => repeat (first|exact (Kd.C_below HR2.out (bb HB))|(with_reducible refine Kd.C_alloc ?_ _)|(with_reducible refine Kd.C_drewN ?_ _)|(with_reducible refine Kd.C_drew ?_)));(case side2 => exact HC2.out);rintro e w' ⟨rfl,⟨nd,rfl⟩⟩;(try first|exact ⟨rfl,_,World.drewN_drewN _ _ _⟩|exact ⟨rfl,_,Eq.trans (World.drewN_drewN _ _ _) (congrArg (World.drewN _) (Nat.add_assoc _ _ _))⟩)));try go_wp2_with (first|(go_at_call 13;(with_reducible refine (privityref01_Supported.calls k a0 true _ A8.out).mono ?_);rintro e w21 ⟨rfl,hb⟩;have n0_ := am (below_step (bb HB) hb);clear HB;have HB := n0_;clear n0_;(try clear hb);(try clear hb2);(try clear hk);(try clear hi))|(go_at_call 25;(with_reducible refine (privityref05_Below.calls k a0 _ _ l1 true _ ?side1 ?side2 A15.out).mono ?_);(case side1 => exact cb HR1 HB);(case side2 => exact HC1.out);rintro e w' ⟨rfl,⟨nd,rfl⟩⟩;(try first|exact ⟨rfl,_,World.drewN_drewN _ _ _⟩|exact ⟨rfl,_,Eq.trans (World.drewN_drewN _ _ _) (congrArg (World.drewN _) (Nat.add_assoc _ _ _))⟩))|(go_at_call 25;(with_reducible refine (privityref05_Below.calls k a0 _ _ l2 false _ ?side1 ?side2 A17.out).mono ?_);(case side1 => repeat (first|exact (Kd.C_below HR2.out (bb HB))|(with_reducible refine Kd.C_alloc ?_ _)|(with_reducible refine Kd.C_drewN ?_ _)|(with_reducible refine Kd.C_drew ?_)));(case side2 => exact HC2.out);rintro e w' ⟨rfl,⟨nd,rfl⟩⟩;(try first|exact ⟨rfl,_,World.drewN_drewN _ _ _⟩|exact ⟨rfl,_,Eq.trans (World.drewN_drewN _ _ _) (congrArg (World.drewN _) (Nat.add_assoc _ _ _))⟩))))
         go_meet
         case rel => exact ⟨_,(true),(by first|rfl|(simp;done)|(simp [*];done)),H',⟨by first|omega|exact Nat.le_refl _⟩,⟨bb HB⟩⟩
       ·replace c16 := Bool.eq_false_iff.mpr c16
        subst c16
        rw [if_neg (show ¬ (false = true) by decide)] at H
        have H' := am H
        clear H
        go_wp2_with (first|(go_at_call 13;(with_reducible refine (privityref01_Supported.calls k a0 true _ A8.out).mono ?_);rintro e w22 ⟨rfl,hb⟩;have n0_ := am (below_step (bb HB) hb);clear HB;have HB := n0_;clear n0_;(try clear hb);(try clear hb2);(try clear hk);(try clear hi))|(go_at_call 25;(with_reducible refine (privityref05_Below.calls k a0 _ _ l1 false _ ?side1 ?side2 A15.out).mono ?_);(case side1 => exact cb HR1 HB);(case side2 => exact HC1.out);rintro e w' ⟨rfl,⟨nd,rfl⟩⟩;(try first|exact ⟨rfl,_,World.drewN_drewN _ _ _⟩|exact ⟨rfl,_,Eq.trans (World.drewN_drewN _ _ _) (congrArg (World.drewN _) (Nat.add_assoc _ _ _))⟩)))
        repeat (go_quiet (first|(go_at_call 13;(with_reducible refine (privityref01_Supported.calls k a0 true _ A8.out).mono ?_);rintro e w22 ⟨rfl,hb⟩;have n0_ := am (below_step (bb HB) hb);clear HB;have HB := n0_;clear n0_;(try clear hb);(try clear hb2);(try clear hk);(try clear hi))|(go_at_call 25;(with_reducible refine (privityref05_Below.calls k a0 _ _ l1 false _ ?side1 ?side2 A15.out).mono ?_);(case side1 => exact cb HR1 HB);(case side2 => exact HC1.out);rintro e w' ⟨rfl,⟨nd,rfl⟩⟩;(try first|exact ⟨rfl,_,World.drewN_drewN _ _ _⟩|exact ⟨rfl,_,Eq.trans (World.drewN_drewN _ _ _) (congrArg (World.drewN _) (Nat.add_assoc _ _ _))⟩)));try go_wp2_with (first|(go_at_call 13;(with_reducible refine (privityref01_Supported.calls k a0 true _ A8.out).mono ?_);rintro e w22 ⟨rfl,hb⟩;have n0_ := am (below_step (bb HB) hb);clear HB;have HB := n0_;clear n0_;(try clear hb);(try clear hb2);(try clear hk);(try clear hi))|(go_at_call 25;(with_reducible refine (privityref05_Below.calls k a0 _ _ l1 false _ ?side1 ?side2 A15.out).mono ?_);(case side1 => exact cb HR1 HB);(case side2 => exact HC1.out);rintro e w' ⟨rfl,⟨nd,rfl⟩⟩;(try first|exact ⟨rfl,_,World.drewN_drewN _ _ _⟩|exact ⟨rfl,_,Eq.trans (World.drewN_drewN _ _ _) (congrArg (World.drewN _) (Nat.add_assoc _ _ _))⟩))))
        go_meet
        case rel => exact ⟨_,(true),(by first|rfl|(simp;done)|(simp [*];done)),H',⟨by first|omega|exact Nat.le_refl _⟩,⟨bb HB⟩⟩
      ·rw [if_neg c14] at H
       have c14b0 : ((l2.length : Int) == (l1.length : Int)) = false := beq_eq_false_iff_ne.mpr c14
       have c14b1 : ((l2.length : Int) != (l1.length : Int)) = true := bne_iff_ne.mpr c14
       have c14b2 : (l2.length == l1.length) = false := by first|simpa using c14|(simp at c14 ⊢;omega)
       have H' := am H
       clear H
       go_wp2_with (first|(go_at_call 13;(with_reducible refine (privityref01_Supported.calls k a0 true _ A8.out).mono ?_);rintro e w23 ⟨rfl,hb⟩;have n0_ := am (below_step (bb HB) hb);clear HB;have HB := n0_;clear n0_;(try clear hb);(try clear hb2);(try clear hk);(try clear hi)))
       repeat (go_quiet (first|(go_at_call 13;(with_reducible refine (privityref01_Supported.calls k a0 true _ A8.out).mono ?_);rintro e w23 ⟨rfl,hb⟩;have n0_ := am (below_step (bb HB) hb);clear HB;have HB := n0_;clear n0_;(try clear hb);(try clear hb2);(try clear hk);(try clear hi)));try go_wp2_with (first|(go_at_call 13;(with_reducible refine (privityref01_Supported.calls k a0 true _ A8.out).mono ?_);rintro e w23 ⟨rfl,hb⟩;have n0_ := am (below_step (bb HB) hb);clear HB;have HB := n0_;clear n0_;(try clear hb);(try clear hb2);(try clear hk);(try clear hi))))
       go_meet
       case rel => exact ⟨_,(true),(by first|rfl|(simp;done)|(simp [*];done)),H',⟨by first|omega|exact Nat.le_refl _⟩,⟨bb HB⟩⟩
   ·replace c9 := Bool.eq_false_iff.mpr c9
    subst c9
    rw [if_neg (show ¬ (false = true) by decide)] at H
    have H' := am H
    clear H
    go_wp2_with (first|(go_at_call 13;(with_reducible refine (privityref01_Supported.calls k a0 false _ A8.out).mono ?_);rintro e w24 ⟨rfl,hb⟩;have n0_ := am (below_step (bb HB) hb);clear HB;have HB := n0_;clear n0_;(try clear hb);(try clear hb2);(try clear hk);(try clear hi)))
    repeat (go_quiet (first|(go_at_call 13;(with_reducible refine (privityref01_Supported.calls k a0 false _ A8.out).mono ?_);rintro e w24 ⟨rfl,hb⟩;have n0_ := am (below_step (bb HB) hb);clear HB;have HB := n0_;clear n0_;(try clear hb);(try clear hb2);(try clear hk);(try clear hi)));try go_wp2_with (first|(go_at_call 13;(with_reducible refine (privityref01_Supported.calls k a0 false _ A8.out).mono ?_);rintro e w24 ⟨rfl,hb⟩;have n0_ := am (below_step (bb HB) hb);clear HB;have HB := n0_;clear n0_;(try clear hb);(try clear hb2);(try clear hk);(try clear hi))))
    go_meet
    case rel => exact ⟨_,(true),(by first|rfl|(simp;done)|(simp [*];done)),H',⟨by first|omega|exact Nat.le_refl _⟩,⟨bb HB⟩⟩
  case rest =>
   clear HC6
   try clear c1
   try clear c2
   try clear p2
   try clear c5
   try clear c9
   try clear c10
   try clear c10b0
   try clear c10b1
   try clear c12
   try clear c12b0
   try clear c12b1
   try clear c14
   try clear c14b0
   try clear c14b1
   try clear c14b2
   try clear c16
   try clear c18
   obtain ⟨kq,x54_5,rfl,HA,HJ5,HB⟩ := hcut
   cases kq with
   | zero => exact absurd HA.out (by simp [privitylaw07_HyperinvertibleMinimumDistance.j0])
   | succ kj5 =>
    have H := HA.out
    clear HA
    simp only [privitylaw07_HyperinvertibleMinimumDistance.j0] at H
    by_cases c25 : x54_5 = true
    ·subst c25
     rw [if_pos rfl] at H
     obtain rfl := Option.some.inj H
     go_wp2
     repeat (go_quiet (fail);try go_wp2)
     go_ret
     exact ⟨by first|rfl|(simp [errW_none,errW_some] <;> rfl)|(simp [*,errW_none,errW_some] <;> rfl),bb HB⟩
    ·replace c25 := Bool.eq_false_iff.mpr c25
     subst c25
     rw [if_neg (show ¬ (false = true) by decide)] at H
     replace H := Option.bind_eq_some_iff.mp H
     obtain ⟨⟨t723,t724⟩,A260,H⟩ := H
     try dsimp only at H
     have A26 := am A260
     clear A260
     replace H := Option.bind_eq_some_iff.mp H
     obtain ⟨⟨t727,t728⟩,A270,H⟩ := H
     try dsimp only at H
     have A27 := am A270
     clear A270
     replace H := Option.bind_eq_some_iff.mp H
     obtain ⟨⟨t731,t732⟩,A280,H⟩ := H
     try dsimp only at H
     have A28 := am A280
     clear A280
     have HC29 := am H
     clear H
     go_upto_region 8 with (first|(go_at_call 14;(with_reducible refine (hyperinvertible_New.calls kj5 a0 6 (l1.length : Int) t723 t724 _ A26.out).mono ?_);rintro e w30 ⟨v725,rfl,ho0,hb⟩;have n0_ := am (Kd.S_lower ho0 (below_size (bb HB)));have n1_ := am (below_step (bb HB) hb);clear HB;have HO726 := n0_;have HB := n1_;clear n0_ n1_;(try clear hb);(try clear hb2);(try clear hk);(try clear hi);(try clear ho0);obtain ⟨Ao31,co31,eo31⟩ := Kd.S_slice HO726.out;subst eo31)|(go_at_call 31;(with_reducible refine (matrix_Apply.calls kj5 a0 _ _ t723 _ _ l1 t727 t728 _ ?side1 ?side2 ?side3 ?side4 A27.out).mono ?_);(case side1 => repeat (first|exact (Kd.S_reads' HO726.out).2.2|(with_reducible refine Kd.C_alloc ?_ _)|(with_reducible refine Kd.C_drewN ?_ _)|(with_reducible refine Kd.C_drew ?_)));(case side2 => exact (Kd.S_reads' HO726.out).2.1);(case side3 => exact cb HR1 HB);(case side4 => exact HC1.out);rintro e w32 ⟨v729,rfl,ho0,hb⟩;have n0_ := am (Kd.S_elder' (by (with_reducible repeat (first|apply Kd.S_alloc|apply Kd.S_drewN|apply Kd.S_drew));exact HO726.out) (Kd.R_base ho0) hb);have n1_ := am (Kd.R_lower ho0 (below_size (bb HB)));have n2_ := am (below_step (bb HB) hb);clear HO726 HB;have HO726 := n0_;have HO730 := n1_;have HB := n2_;clear n0_ n1_ n2_;(try clear hb);(try clear hb2);(try clear hk);(try clear hi);(try clear ho0))|(go_at_call 31;(with_reducible refine (matrix_Apply.calls kj5 a0 _ _ t723 _ _ l2 t731 t732 _ ?side1 ?side2 ?side3 ?side4 A28.out).mono ?_);(case side1 => repeat (first|exact (Kd.S_reads' HO726.out).2.2|(with_reducible refine Kd.C_alloc ?_ _)|(with_reducible refine Kd.C_drewN ?_ _)|(with_reducible refine Kd.C_drew ?_)));(case side2 => exact (Kd.S_reads' HO726.out).2.1);(case side3 => exact cb HR2 HB);(case side4 => exact HC2.out);rintro e w33 ⟨v733,rfl,ho0,hb⟩;have n0_ := am (Kd.S_elder' (by (with_reducible repeat (first|apply Kd.S_alloc|apply Kd.S_drewN|apply Kd.S_drew));exact HO726.out) (Kd.R_base ho0) hb);have n1_ := am (Kd.R_elder' (rr HO730) (Kd.R_base ho0) hb);have n2_ := am (Kd.R_lower (Kd.R_new' ho0 (Kd.R_lt (rr HO730))) (below_size (bb HB)));have n3_ := am (below_step (bb HB) hb);clear HO726 HO730 HB;have HO726 := n0_;have HO730 := n1_;have HO734 := n2_;have HB := n3_;clear n0_ n1_ n2_ n3_;(try clear hb);(try clear hb2);(try clear hk);(try clear hi);(try clear ho0)))
     repeat (go_quiet (first|(go_at_call 14;(with_reducible refine (hyperinvertible_New.calls kj5 a0 6 (l1.length : Int) t723 t724 _ A26.out).mono ?_);rintro e w30 ⟨v725,rfl,ho0,hb⟩;have n0_ := am (Kd.S_lower ho0 (below_size (bb HB)));have n1_ := am (below_step (bb HB) hb);clear HB;have HO726 := n0_;have HB := n1_;clear n0_ n1_;(try clear hb);(try clear hb2);(try clear hk);(try clear hi);(try clear ho0);obtain ⟨Ao31,co31,eo31⟩ := Kd.S_slice HO726.out;subst eo31)|(go_at_call 31;(with_reducible refine (matrix_Apply.calls kj5 a0 _ _ t723 _ _ l1 t727 t728 _ ?side1 ?side2 ?side3 ?side4 A27.out).mono ?_);(case side1 => repeat (first|exact (Kd.S_reads' HO726.out).2.2|(with_reducible refine Kd.C_alloc ?_ _)|(with_reducible refine Kd.C_drewN ?_ _)|(with_reducible refine Kd.C_drew ?_)));(case side2 => exact (Kd.S_reads' HO726.out).2.1);(case side3 => exact cb HR1 HB);(case side4 => exact HC1.out);rintro e w32 ⟨v729,rfl,ho0,hb⟩;have n0_ := am (Kd.S_elder' (by (with_reducible repeat (first|apply Kd.S_alloc|apply Kd.S_drewN|apply Kd.S_drew));exact HO726.out) (Kd.R_base ho0) hb);have n1_ := am (Kd.R_lower ho0 (below_size (bb HB)));have n2_ := am (below_step (bb HB) hb);clear HO726 HB;have HO726 := n0_;have HO730 := n1_;have HB := n2_;clear n0_ n1_ n2_;(try clear hb);(try clear hb2);(try clear hk);(try clear hi);(try clear ho0))|(go_at_call 31;(with_reducible refine (matrix_Apply.calls kj5 a0 _ _ t723 _ _ l2 t731 t732 _ ?side1 ?side2 ?side3 ?side4 A28.out).mono ?_);(case side1 => repeat (first|exact (Kd.S_reads' HO726.out).2.2|(with_reducible refine Kd.C_alloc ?_ _)|(with_reducible refine Kd.C_drewN ?_ _)|(with_reducible refine Kd.C_drew ?_)));(case side2 => exact (Kd.S_reads' HO726.out).2.1);(case side3 => exact cb HR2 HB);(case side4 => exact HC2.out);rintro e w33 ⟨v733,rfl,ho0,hb⟩;have n0_ := am (Kd.S_elder' (by (with_reducible repeat (first|apply Kd.S_alloc|apply Kd.S_drewN|apply Kd.S_drew));exact HO726.out) (Kd.R_base ho0) hb);have n1_ := am (Kd.R_elder' (rr HO730) (Kd.R_base ho0) hb);have n2_ := am (Kd.R_lower (Kd.R_new' ho0 (Kd.R_lt (rr HO730))) (below_size (bb HB)));have n3_ := am (below_step (bb HB) hb);clear HO726 HO730 HB;have HO726 := n0_;have HO730 := n1_;have HO734 := n2_;have HB := n3_;clear n0_ n1_ n2_ n3_;(try clear hb);(try clear hb2);(try clear hk);(try clear hi);(try clear ho0)));go_upto_region 8 with (first|(go_at_call 14;(with_reducible refine (hyperinvertible_New.calls kj5 a0 6 (l1.length : Int) t723 t724 _ A26.out).mono ?_);rintro e w30 ⟨v725,rfl,ho0,hb⟩;have n0_ := am (Kd.S_lower ho0 (below_size (bb HB)));have n1_ := am (below_step (bb HB) hb);clear HB;have HO726 := n0_;have HB := n1_;clear n0_ n1_;(try clear hb);(try clear hb2);(try clear hk);(try clear hi);(try clear ho0);obtain ⟨Ao31,co31,eo31⟩ := Kd.S_slice HO726.out;subst eo31)|(go_at_call 31;(with_reducible refine (matrix_Apply.calls kj5 a0 _ _ t723 _ _ l1 t727 t728 _ ?side1 ?side2 ?side3 ?side4 A27.out).mono ?_);(case side1 => repeat (first|exact (Kd.S_reads' HO726.out).2.2|(with_reducible refine Kd.C_alloc ?_ _)|(with_reducible refine Kd.C_drewN ?_ _)|(with_reducible refine Kd.C_drew ?_)));(case side2 => exact (Kd.S_reads' HO726.out).2.1);(case side3 => exact cb HR1 HB);(case side4 => exact HC1.out);rintro e w32 ⟨v729,rfl,ho0,hb⟩;have n0_ := am (Kd.S_elder' (by (with_reducible repeat (first|apply Kd.S_alloc|apply Kd.S_drewN|apply Kd.S_drew));exact HO726.out) (Kd.R_base ho0) hb);have n1_ := am (Kd.R_lower ho0 (below_size (bb HB)));have n2_ := am (below_step (bb HB) hb);clear HO726 HB;have HO726 := n0_;have HO730 := n1_;have HB := n2_;clear n0_ n1_ n2_;(try clear hb);(try clear hb2);(try clear hk);(try clear hi);(try clear ho0))|(go_at_call 31;(with_reducible refine (matrix_Apply.calls kj5 a0 _ _ t723 _ _ l2 t731 t732 _ ?side1 ?side2 ?side3 ?side4 A28.out).mono ?_);(case side1 => repeat (first|exact (Kd.S_reads' HO726.out).2.2|(with_reducible refine Kd.C_alloc ?_ _)|(with_reducible refine Kd.C_drewN ?_ _)|(with_reducible refine Kd.C_drew ?_)));(case side2 => exact (Kd.S_reads' HO726.out).2.1);(case side3 => exact cb HR2 HB);(case side4 => exact HC2.out);rintro e w33 ⟨v733,rfl,ho0,hb⟩;have n0_ := am (Kd.S_elder' (by (with_reducible repeat (first|apply Kd.S_alloc|apply Kd.S_drewN|apply Kd.S_drew));exact HO726.out) (Kd.R_base ho0) hb);have n1_ := am (Kd.R_elder' (rr HO730) (Kd.R_base ho0) hb);have n2_ := am (Kd.R_lower (Kd.R_new' ho0 (Kd.R_lt (rr HO730))) (below_size (bb HB)));have n3_ := am (below_step (bb HB) hb);clear HO726 HO730 HB;have HO726 := n0_;have HO730 := n1_;have HO734 := n2_;have HB := n3_;clear n0_ n1_ n2_ n3_;(try clear hb);(try clear hb2);(try clear hk);(try clear hi);(try clear ho0))))
     (try simp only [Act.put,List.setIfInBounds_toArray,List.set_cons_zero,List.set_cons_succ])
     go_cut [95] (fun v95 wc => ∃ (kq : Nat) (x95_28 : Bool),v95 = .bool x95_28 ∧ Aside0 (privitylaw07_HyperinvertibleMinimumDistance.j1 kq l1 l2 t727 t731 x95_28 = some r) ∧ Aside0 (kq ≤ kj5) ∧ Aside0 (Kd.R (Kd.int .u64) 22 wc w.heap.size (fun k_ => some k_ ≠ (v733 : Value).ownBlock) v729 t727) ∧ Aside0 (Kd.R (Kd.int .u64) 22 wc w.heap.size (fun k_ => some k_ ≠ (v729 : Value).ownBlock) v733 t731) ∧ Aside0 (Below w.heap.size w wc))
     case first =>
      have H := HC29.out
      clear HC29
      by_cases c34 : t724 = 0
      ·rw [if_pos c34] at H
       have c34b0 : (t724 == 0) = true := beq_iff_eq.mpr c34
       have c34b1 : (t724 != 0) = false := bne_eq_false_iff_eq.mpr c34
       clear c34
       (first|rw [c34b0]|(simp only [i64_w,i32_w];rw [c34b0])|skip)
       by_cases c35 : t728 = 0
       ·rw [if_pos c35] at H
        have c35b0 : (t728 == 0) = true := beq_iff_eq.mpr c35
        have c35b1 : (t728 != 0) = false := bne_eq_false_iff_eq.mpr c35
        clear c35
        by_cases c36 : t732 = 0
        ·rw [if_pos c36] at H
         have c36b0 : (t732 == 0) = true := beq_iff_eq.mpr c36
         have c36b1 : (t732 != 0) = false := bne_eq_false_iff_eq.mpr c36
         clear c36
         by_cases c37 : (t727.length : Int) = 6
         ·rw [if_pos c37] at H
          have c37b0 : ((t727.length : Int) == 6) = true := beq_iff_eq.mpr c37
          have c37b1 : ((t727.length : Int) != 6) = false := bne_eq_false_iff_eq.mpr c37
          clear c37
          have H' := am H
          clear H
          obtain ⟨Ao38,co38,eo38⟩ := Kd.R_slice HO730.out
          subst eo38
          obtain ⟨Ao39,co39,eo39⟩ := Kd.R_slice HO734.out
          subst eo39
          go_wp2
          repeat (go_quiet (fail);try go_wp2)
          go_meet
          case rel => exact ⟨_,(((t731.length : Int) != 6)),(by first|rfl|(simp;done)|(simp [*];done)),H',⟨by have := HJ5.out;first|omega|exact Nat.le_refl _⟩,⟨by (with_reducible repeat (first|apply Kd.R_alloc|apply Kd.R_drewN|apply Kd.R_drew));exact Kd.R_mono HO730.out (fun _ hk => hk.2)⟩,⟨by (with_reducible repeat (first|apply Kd.R_alloc|apply Kd.R_drewN|apply Kd.R_drew));exact Kd.R_mono HO734.out (fun _ hk => hk.2)⟩,⟨bb HB⟩⟩
         ·rw [if_neg c37] at H
          have c37b0 : ((t727.length : Int) == 6) = false := beq_eq_false_iff_ne.mpr c37
          have c37b1 : ((t727.length : Int) != 6) = true := bne_iff_ne.mpr c37
          have H' := am H
          clear H
          obtain ⟨Ao40,co40,eo40⟩ := Kd.R_slice HO730.out
          subst eo40
          go_wp2
          repeat (go_quiet (fail);try go_wp2)
          go_meet
          case rel => exact ⟨_,(true),(by first|rfl|(simp;done)|(simp [*];done)),H',⟨by have := HJ5.out;first|omega|exact Nat.le_refl _⟩,⟨by (with_reducible repeat (first|apply Kd.R_alloc|apply Kd.R_drewN|apply Kd.R_drew));exact Kd.R_mono HO730.out (fun _ hk => hk.2)⟩,⟨by (with_reducible repeat (first|apply Kd.R_alloc|apply Kd.R_drewN|apply Kd.R_drew));exact Kd.R_mono HO734.out (fun _ hk => hk.2)⟩,⟨bb HB⟩⟩
        ·rw [if_neg c36] at H
         have c36b0 : (t732 == 0) = false := beq_eq_false_iff_ne.mpr c36
         have c36b1 : (t732 != 0) = true := bne_iff_ne.mpr c36
         have H' := am H
         clear H
         go_wp2
         repeat (go_quiet (fail);try go_wp2)
         go_meet
         case rel => exact ⟨_,(true),(by first|rfl|(simp;done)|(simp [*];done)),H',⟨by have := HJ5.out;first|omega|exact Nat.le_refl _⟩,⟨by (with_reducible repeat (first|apply Kd.R_alloc|apply Kd.R_drewN|apply Kd.R_drew));exact Kd.R_mono HO730.out (fun _ hk => hk.2)⟩,⟨by (with_reducible repeat (first|apply Kd.R_alloc|apply Kd.R_drewN|apply Kd.R_drew));exact Kd.R_mono HO734.out (fun _ hk => hk.2)⟩,⟨bb HB⟩⟩
       ·rw [if_neg c35] at H
        have c35b0 : (t728 == 0) = false := beq_eq_false_iff_ne.mpr c35
        have c35b1 : (t728 != 0) = true := bne_iff_ne.mpr c35
        have H' := am H
        clear H
        go_wp2
        repeat (go_quiet (fail);try go_wp2)
        go_meet
        case rel => exact ⟨_,(true),(by first|rfl|(simp;done)|(simp [*];done)),H',⟨by have := HJ5.out;first|omega|exact Nat.le_refl _⟩,⟨by (with_reducible repeat (first|apply Kd.R_alloc|apply Kd.R_drewN|apply Kd.R_drew));exact Kd.R_mono HO730.out (fun _ hk => hk.2)⟩,⟨by (with_reducible repeat (first|apply Kd.R_alloc|apply Kd.R_drewN|apply Kd.R_drew));exact Kd.R_mono HO734.out (fun _ hk => hk.2)⟩,⟨bb HB⟩⟩
      ·rw [if_neg c34] at H
       have c34b0 : (t724 == 0) = false := beq_eq_false_iff_ne.mpr c34
       have c34b1 : (t724 != 0) = true := bne_iff_ne.mpr c34
       (first|rw [c34b0]|(simp only [i64_w,i32_w];rw [c34b0])|skip)
       have H' := am H
       clear H
       go_wp2
       repeat (go_quiet (fail);try go_wp2)
       go_meet
       case rel => exact ⟨_,(true),(by first|rfl|(simp;done)|(simp [*];done)),H',⟨by have := HJ5.out;first|omega|exact Nat.le_refl _⟩,⟨by (with_reducible repeat (first|apply Kd.R_alloc|apply Kd.R_drewN|apply Kd.R_drew));exact Kd.R_mono HO730.out (fun _ hk => hk.2)⟩,⟨by (with_reducible repeat (first|apply Kd.R_alloc|apply Kd.R_drewN|apply Kd.R_drew));exact Kd.R_mono HO734.out (fun _ hk => hk.2)⟩,⟨bb HB⟩⟩
     case rest =>
      clear HC29
      try clear c1
      try clear c2
      try clear p2
      try clear c3
      try clear c5
      try clear c9
      try clear c10
      try clear c10b0
      try clear c10b1
      try clear c12
      try clear c12b0
      try clear c12b1
      try clear c14
      try clear c14b0
      try clear c14b1
      try clear c14b2
      try clear c16
      try clear c18
      try clear c25
      try clear c34
      try clear c34b0
      try clear c34b1
      try clear c35
      try clear c35b0
      try clear c35b1
      try clear c36
      try clear c36b0
      try clear c36b1
      try clear c37
      try clear c37b0
      try clear c37b1
      try clear p2
      obtain ⟨kq,x95_28,rfl,HA,HJ28,HO_9,HO_11,HB⟩ := hcut
      cases kq with
      | zero => exact absurd HA.out (by simp [privitylaw07_HyperinvertibleMinimumDistance.j1])
      | succ kj28 =>
       have H := HA.out
       clear HA
       simp only [privitylaw07_HyperinvertibleMinimumDistance.j1] at H
       by_cases c41 : x95_28 = true
       ·subst c41
        rw [if_pos rfl] at H
        exact absurd (Option.some.inj H) (by rw [HRT_.out];simp)
       ·replace c41 := Bool.eq_false_iff.mpr c41
        subst c41
        rw [if_neg (show ¬ (false = true) by decide)] at H
        have H' := am H
        clear H
        go_wp2
        repeat (go_quiet (fail);try go_wp2)
        go_loopg [13,14] kj28 (fun kq v13 v14 w' => ∃ (x13_3 : Int) (x14_3 : Int),v13 = .int .i64 x13_3 ∧ v14 = .int .i64 x14_3 ∧ Aside0 (privitylaw07_HyperinvertibleMinimumDistance.l0 kq l1 l2 t727 t731 x13_3 x14_3 = some r) ∧ Aside0 (kq ≤ kj28) ∧ Aside0 (Kd.R (Kd.int .u64) 22 w' w.heap.size (fun k_ => some k_ ≠ (v733 : Value).ownBlock) v729 t727) ∧ Aside0 (Kd.R (Kd.int .u64) 22 w' w.heap.size (fun k_ => some k_ ≠ (v729 : Value).ownBlock) v733 t731) ∧ Aside0 (Below w.heap.size w w'))
        case atStart => exact ⟨(0),(0),(by first|rfl|(simp;done)|(simp [*];done)),(by first|rfl|(simp;done)|(simp [*];done)),H',⟨Nat.le_refl _⟩,⟨by (with_reducible repeat (first|apply Kd.R_alloc|apply Kd.R_drewN|apply Kd.R_drew));exact HO_9.out⟩,⟨by (with_reducible repeat (first|apply Kd.R_alloc|apply Kd.R_drewN|apply Kd.R_drew));exact HO_11.out⟩,⟨bb HB⟩⟩
        case round =>
         clear H'
         try clear c1
         try clear c2
         try clear p2
         try clear c3
         try clear c4
         try clear c5
         try clear c9
         try clear c10
         try clear c10b0
         try clear c10b1
         try clear c12
         try clear c12b0
         try clear c12b1
         try clear c14
         try clear c14b0
         try clear c14b1
         try clear c14b2
         try clear c16
         try clear c18
         try clear c25
         try clear c34
         try clear c34b0
         try clear c34b1
         try clear c35
         try clear c35b0
         try clear c35b1
         try clear c36
         try clear c36b0
         try clear c36b1
         try clear c37
         try clear c37b0
         try clear c37b1
         try clear c41
         try clear p2
         obtain ⟨x13_3,x14_3,rfl,rfl,HA,HK3,HO_9,HO_11,HB⟩ := hrel
         cases gk with
         | zero => exact absurd HA.out (by simp [privitylaw07_HyperinvertibleMinimumDistance.l0])
         | succ k3 =>
          have H := HA.out
          clear HA
          simp only [privitylaw07_HyperinvertibleMinimumDistance.l0] at H
          by_cases c42 : x14_3 < (l1.length : Int)
          ·rw [if_pos c42] at H
           have c42b0 : decide (x14_3 < (l1.length : Int)) = true := decide_eq_true c42
           clear c42
           by_cases c43 : 0 ≤ x14_3
           ·rw [if_pos c43] at H
            have c43b0 : decide (0 ≤ x14_3) = true := decide_eq_true c43
            clear c43
            by_cases c44 : x14_3 < (l2.length : Int)
            ·rw [if_pos c44] at H
             have c44b0 : decide (x14_3 < (l2.length : Int)) = true := decide_eq_true c44
             clear c44
             by_cases c45 : (rd l1 x14_3) = (rd l2 x14_3)
             ·rw [if_pos c45] at H
              have c45b0 : ((rd l1 x14_3) == (rd l2 x14_3)) = true := beq_iff_eq.mpr c45
              have c45b1 : ((rd l1 x14_3) != (rd l2 x14_3)) = false := bne_eq_false_iff_eq.mpr c45
              clear c45
              have H' := am H
              clear H
              have p735 : 0 ≤ (x14_3 : Int) := od
              have q735 : x14_3 < (l1.length : Int) := od
              obtain ⟨ad735,e735,hx735_0⟩ := Kd.at_int HR1.out x14_3 p735 q735
              cases e735
              replace hx735_0 := (HB.out.cell (World.block_lt_of_cell? w _ hx735_0)).trans hx735_0
              replace p735 := eq_true p735
              replace q735 := eq_true q735
              have p736 : 0 ≤ (x14_3 : Int) := od
              have q736 : x14_3 < (l2.length : Int) := od
              obtain ⟨ad736,e736,hx736_0⟩ := Kd.at_int HR2.out x14_3 p736 q736
              cases e736
              replace hx736_0 := (HB.out.cell (World.block_lt_of_cell? w _ hx736_0)).trans hx736_0
              replace p736 := eq_true p736
              replace q736 := eq_true q736
              go_wp2
              repeat (go_quiet (fail);try go_wp2)
              go_roundg k3
              case measure => have := HJ5.out;have := HJ28.out;have := HK3.out;omega
              case rel => exact ⟨(x13_3),(wrap64 (x14_3 + 1)),(by first|rfl|(simp;done)|(simp [*];done)),(by first|rfl|(simp;done)|(simp [*];done)),H',⟨by have := HJ5.out;have := HJ28.out;have := HK3.out;omega⟩,⟨by (with_reducible repeat (first|apply Kd.R_alloc|apply Kd.R_drewN|apply Kd.R_drew));exact HO_9.out⟩,⟨by (with_reducible repeat (first|apply Kd.R_alloc|apply Kd.R_drewN|apply Kd.R_drew));exact HO_11.out⟩,⟨bb HB⟩⟩
             ·rw [if_neg c45] at H
              have c45b0 : ((rd l1 x14_3) == (rd l2 x14_3)) = false := beq_eq_false_iff_ne.mpr c45
              have c45b1 : ((rd l1 x14_3) != (rd l2 x14_3)) = true := bne_iff_ne.mpr c45
              have H' := am H
              clear H
              have p735 : 0 ≤ (x14_3 : Int) := od
              have q735 : x14_3 < (l1.length : Int) := od
              obtain ⟨ad735,e735,hx735_0⟩ := Kd.at_int HR1.out x14_3 p735 q735
              cases e735
              replace hx735_0 := (HB.out.cell (World.block_lt_of_cell? w _ hx735_0)).trans hx735_0
              replace p735 := eq_true p735
              replace q735 := eq_true q735
              have p736 : 0 ≤ (x14_3 : Int) := od
              have q736 : x14_3 < (l2.length : Int) := od
              obtain ⟨ad736,e736,hx736_0⟩ := Kd.at_int HR2.out x14_3 p736 q736
              cases e736
              replace hx736_0 := (HB.out.cell (World.block_lt_of_cell? w _ hx736_0)).trans hx736_0
              replace p736 := eq_true p736
              replace q736 := eq_true q736
              go_wp2
              repeat (go_quiet (fail);try go_wp2)
              go_roundg k3
              case measure => have := HJ5.out;have := HJ28.out;have := HK3.out;omega
              case rel => exact ⟨(wrap64 (x13_3 + 1)),(wrap64 (x14_3 + 1)),(by first|rfl|(simp;done)|(simp [*];done)),(by first|rfl|(simp;done)|(simp [*];done)),H',⟨by have := HJ5.out;have := HJ28.out;have := HK3.out;omega⟩,⟨by (with_reducible repeat (first|apply Kd.R_alloc|apply Kd.R_drewN|apply Kd.R_drew));exact HO_9.out⟩,⟨by (with_reducible repeat (first|apply Kd.R_alloc|apply Kd.R_drewN|apply Kd.R_drew));exact HO_11.out⟩,⟨bb HB⟩⟩
            ·rw [if_neg c44] at H
             exact absurd H (by simp)
           ·rw [if_neg c43] at H
            exact absurd H (by simp)
          ·rw [if_neg c42] at H
           have c42b0 : decide (x14_3 < (l1.length : Int)) = false := decide_eq_false c42
           clear c42
           have H' := am H
           clear H
           go_wp2
           repeat (go_quiet (fail);try go_wp2)
           go_loopg [13,15] k3 (fun kq v13 v15 w' => ∃ (x13_4 : Int) (x15_4 : Int),v13 = .int .i64 x13_4 ∧ v15 = .int .i64 x15_4 ∧ Aside0 (privitylaw07_HyperinvertibleMinimumDistance.l1 kq t727 t731 x13_4 x15_4 = some r) ∧ Aside0 (kq ≤ k3) ∧ Aside0 (Kd.R (Kd.int .u64) 22 w' w.heap.size (fun k_ => some k_ ≠ (v733 : Value).ownBlock) v729 t727) ∧ Aside0 (Kd.R (Kd.int .u64) 22 w' w.heap.size (fun k_ => some k_ ≠ (v729 : Value).ownBlock) v733 t731) ∧ Aside0 (Below w.heap.size w w'))
           case atStart => exact ⟨(x13_3),(0),(by first|rfl|(simp;done)|(simp [*];done)),(by first|rfl|(simp;done)|(simp [*];done)),H',⟨Nat.le_refl _⟩,⟨by (with_reducible repeat (first|apply Kd.R_alloc|apply Kd.R_drewN|apply Kd.R_drew));exact HO_9.out⟩,⟨by (with_reducible repeat (first|apply Kd.R_alloc|apply Kd.R_drewN|apply Kd.R_drew));exact HO_11.out⟩,⟨bb HB⟩⟩
           case round =>
            clear H'
            try clear c1
            try clear c2
            try clear p2
            try clear c3
            try clear c4
            try clear c5
            try clear p6
            try clear p7
            try clear q7
            try clear hx7
            try clear c9
            try clear c10
            try clear c10b0
            try clear c10b1
            try clear c12
            try clear c12b0
            try clear c12b1
            try clear c14
            try clear c14b0
            try clear c14b1
            try clear c14b2
            try clear c16
            try clear c18
            try clear c25
            try clear c34
            try clear c34b0
            try clear c34b1
            try clear c35
            try clear c35b0
            try clear c35b1
            try clear c36
            try clear c36b0
            try clear c36b1
            try clear c37
            try clear c37b0
            try clear c37b1
            try clear c41
            try clear c42
            try clear c42b0
            try clear c43
            try clear c43b0
            try clear c44
            try clear c44b0
            try clear c45
            try clear c45b0
            try clear c45b1
            try clear hx735_0
            try clear hx736_0
            try clear p2
            try clear p735
            try clear p736
            try clear q735
            try clear q736
            obtain ⟨x13_4,x15_4,rfl,rfl,HA,HK4,HO_9,HO_11,HB⟩ := hrel
            cases gk with
            | zero => exact absurd HA.out (by simp [privitylaw07_HyperinvertibleMinimumDistance.l1])
            | succ k4 =>
             have H := HA.out
             clear HA
             simp only [privitylaw07_HyperinvertibleMinimumDistance.l1] at H
             by_cases c46 : x15_4 < 6
             ·rw [if_pos c46] at H
              have c46b0 : decide (x15_4 < 6) = true := decide_eq_true c46
              clear c46
              by_cases c47 : 0 ≤ x15_4
              ·rw [if_pos c47] at H
               have c47b0 : decide (0 ≤ x15_4) = true := decide_eq_true c47
               clear c47
               by_cases c48 : x15_4 < (t727.length : Int)
               ·rw [if_pos c48] at H
                have c48b0 : decide (x15_4 < (t727.length : Int)) = true := decide_eq_true c48
                clear c48
                by_cases c49 : x15_4 < (t731.length : Int)
                ·rw [if_pos c49] at H
                 have c49b0 : decide (x15_4 < (t731.length : Int)) = true := decide_eq_true c49
                 clear c49
                 by_cases c50 : (rd t727 x15_4) = (rd t731 x15_4)
                 ·rw [if_pos c50] at H
                  have c50b0 : ((rd t727 x15_4) == (rd t731 x15_4)) = true := beq_iff_eq.mpr c50
                  have c50b1 : ((rd t727 x15_4) != (rd t731 x15_4)) = false := bne_eq_false_iff_eq.mpr c50
                  clear c50
                  have H' := am H
                  clear H
                  obtain ⟨Ao51,co51,eo51⟩ := Kd.R_slice HO_9.out
                  subst eo51
                  have p737 : 0 ≤ (x15_4 : Int) := od
                  have q737 : x15_4 < (t727.length : Int) := od
                  obtain ⟨ad737,e737,hx737_0⟩ := Kd.at_int (Kd.R_reads' HO_9.out).2.2 x15_4 p737 q737
                  cases e737
                  replace p737 := eq_true p737
                  replace q737 := eq_true q737
                  obtain ⟨Ao52,co52,eo52⟩ := Kd.R_slice HO_11.out
                  subst eo52
                  have p738 : 0 ≤ (x15_4 : Int) := od
                  have q738 : x15_4 < (t731.length : Int) := od
                  obtain ⟨ad738,e738,hx738_0⟩ := Kd.at_int (Kd.R_reads' HO_11.out).2.2 x15_4 p738 q738
                  cases e738
                  replace p738 := eq_true p738
                  replace q738 := eq_true q738
                  go_wp2
                  repeat (go_quiet (fail);try go_wp2)
                  go_roundg k4
                  case measure => have := HJ5.out;have := HJ28.out;have := HK3.out;have := HK4.out;omega
                  case rel => exact ⟨(x13_4),(wrap64 (x15_4 + 1)),(by first|rfl|(simp;done)|(simp [*];done)),(by first|rfl|(simp;done)|(simp [*];done)),H',⟨by have := HJ5.out;have := HJ28.out;have := HK3.out;have := HK4.out;omega⟩,⟨by (with_reducible repeat (first|apply Kd.R_alloc|apply Kd.R_drewN|apply Kd.R_drew));exact HO_9.out⟩,⟨by (with_reducible repeat (first|apply Kd.R_alloc|apply Kd.R_drewN|apply Kd.R_drew));exact HO_11.out⟩,⟨bb HB⟩⟩
                 ·rw [if_neg c50] at H
                  have c50b0 : ((rd t727 x15_4) == (rd t731 x15_4)) = false := beq_eq_false_iff_ne.mpr c50
                  have c50b1 : ((rd t727 x15_4) != (rd t731 x15_4)) = true := bne_iff_ne.mpr c50
                  have H' := am H
                  clear H
                  obtain ⟨Ao53,co53,eo53⟩ := Kd.R_slice HO_9.out
                  subst eo53
                  have p737 : 0 ≤ (x15_4 : Int) := od
                  have q737 : x15_4 < (t727.length : Int) := od
                  obtain ⟨ad737,e737,hx737_0⟩ := Kd.at_int (Kd.R_reads' HO_9.out).2.2 x15_4 p737 q737
                  cases e737
                  replace p737 := eq_true p737
                  replace q737 := eq_true q737
                  obtain ⟨Ao54,co54,eo54⟩ := Kd.R_slice HO_11.out
                  subst eo54
                  have p738 : 0 ≤ (x15_4 : Int) := od
                  have q738 : x15_4 < (t731.length : Int) := od
                  obtain ⟨ad738,e738,hx738_0⟩ := Kd.at_int (Kd.R_reads' HO_11.out).2.2 x15_4 p738 q738
                  cases e738
                  replace p738 := eq_true p738
                  replace q738 := eq_true q738
                  go_wp2
                  repeat (go_quiet (fail);try go_wp2)
                  go_roundg k4
                  case measure => have := HJ5.out;have := HJ28.out;have := HK3.out;have := HK4.out;omega
                  case rel => exact ⟨(wrap64 (x13_4 + 1)),(wrap64 (x15_4 + 1)),(by first|rfl|(simp;done)|(simp [*];done)),(by first|rfl|(simp;done)|(simp [*];done)),H',⟨by have := HJ5.out;have := HJ28.out;have := HK3.out;have := HK4.out;omega⟩,⟨by (with_reducible repeat (first|apply Kd.R_alloc|apply Kd.R_drewN|apply Kd.R_drew));exact HO_9.out⟩,⟨by (with_reducible repeat (first|apply Kd.R_alloc|apply Kd.R_drewN|apply Kd.R_drew));exact HO_11.out⟩,⟨bb HB⟩⟩
                ·rw [if_neg c49] at H
                 exact absurd H (by simp)
               ·rw [if_neg c48] at H
                exact absurd H (by simp)
              ·rw [if_neg c47] at H
               exact absurd H (by simp)
             ·rw [if_neg c46] at H
              have c46b0 : decide (x15_4 < 6) = false := decide_eq_false c46
              clear c46
              obtain rfl := Option.some.inj H
              go_wp2
              repeat (go_quiet (fail);try go_wp2)
              go_ret
              exact ⟨by first|rfl|(simp [errW_none,errW_some] <;> rfl)|(simp [*,errW_none,errW_some] <;> rfl),bb HB⟩
 ·replace c5 := Bool.eq_false_iff.mpr c5
  subst c5
  rw [if_neg (show ¬ (false = true) by decide)] at H
  exact absurd (Option.some.inj H) (by rw [HRT_.out];simp)
def privitylaw07_HyperinvertibleMinimumDistance.Pure : Prop := ∀ (a0 : Int) (l1 : List Int) (l2 : List Int),(Lit.int .u64 a0).wf = true → l1.length ≤ maxLen → l1.length * 8 ≤ 140737488351232 → (∀ x ∈ l1,(Lit.int .u64 x).wf = true) → l2.length ≤ maxLen → l2.length * 8 ≤ 140737488351232 → (∀ x ∈ l2,(Lit.int .u64 x).wf = true) → ∃ k,privitylaw07_HyperinvertibleMinimumDistance.f k a0 l1 l2 = some true
theorem privitylaw07_HyperinvertibleMinimumDistance.walk (P : privitylaw07_HyperinvertibleMinimumDistance.Pure) (a0 : Int) (a1 : Option Addr) (len1 cap1 : Nat) (z1 : List Int) (a2 : Option Addr) (len2 cap2 : Nat) (z2 : List Int) (w : World) (w0 : (Lit.int .u64 a0).wf = true) (w1 : (a1 = none ∧ len1 = 0 ∧ cap1 = 0 ∧ z1 = []) ∨ ∃ x,a1 = some x ∧ len1 ≤ cap1 ∧ cap1 ≤ maxLen ∧ z1.length = cap1 ∧ (∀ i,i < z1.length → w.cell? (x.add i) = some (.int .u64 (z1.getD i 0))) ∧ ∀ n ∈ z1,(Lit.int .u64 n).wf = true) (y1 : len1 * 8 ≤ 140737488351232) (w2 : (a2 = none ∧ len2 = 0 ∧ cap2 = 0 ∧ z2 = []) ∨ ∃ x,a2 = some x ∧ len2 ≤ cap2 ∧ cap2 ≤ maxLen ∧ z2.length = cap2 ∧ (∀ i,i < z2.length → w.cell? (x.add i) = some (.int .u64 (z2.getD i 0))) ∧ ∀ n ∈ z2,(Lit.int .u64 n).wf = true) (y2 : len2 * 8 ≤ 140737488351232) :
  Calls Try.prog 9 #[.int .u64 a0,.slice a1 len1 cap1,.slice a2 len2 cap2] w fun e w' => e = .returned (.bool true) ∧ Below w.heap.size w w' := by
 obtain ⟨l1,rfl,hr1,hm1,hw1,hc1⟩ := ReadsInt.ofRowC w1
 obtain ⟨l2,rfl,hr2,hm2,hw2,hc2⟩ := ReadsInt.ofRowC w2
 obtain ⟨k,h⟩ := P a0 l1 l2 w0 hm1 y1 hw1 hm2 y2 hw2
 refine (privitylaw07_HyperinvertibleMinimumDistance.calls k a0 _ _ l1 _ _ l2 true w (Kd.C_of_reads (d := (0 : Int)) (h1 := fun _ => rfl) hr1) hc1 (Kd.C_of_reads (d := (0 : Int)) (h1 := fun _ => rfl) hr2) hc2 rfl h).mono ?_
 rintro e w' ⟨rfl,hd⟩
 exact ⟨rfl,hd⟩
end Go.Proofs.Ytmdoaijkaaaglaa.Pr
end
section
namespace Go.Proofs.Ytmdoaijkaaaglaa.Pure
open Go.RowKit Go.Proofs.Ytmdoaijkaaaglaa.Pr Go.Proofs.Ytmdoaijkaaaglaa.Hw Go.Proofs.Ytmdoaijkaaaglaa.E Go.Proofs.YtmdoaijkaaaglaaW.PrintWords Go.Proofs.YtmdoaijkaaaglaaW.PrintLast Go.Proofs.YtmdoaijkaaaglaaW.PrintMore
theorem apply_ev {p : Int} (hp : Supp p) {n : Nat} {m : List (List Int)} (hm : RowsOk p n m) (h0 : 0 < m.length) (hl : m.length ≤ 1000) (hn : n ≤ 1000) {v : List Int} (hv : ∀ x ∈ v,Res p x) (hvn : v.length = n) :
  Ev (fun k => matrix_Apply.f k p m v) (m.map fun r => dotP p r v n,0) := by
 have hf : (rd_L2 m 0) = m[0] := by rw [show (0 : Int) = ((0 : Nat) : Int) from rfl,rdM_nat,List.getD_eq_getElem?_getD,List.getElem?_eq_getElem h0];rfl
 have hrect : matrix_rect.f m = some true := by
  unfold matrix_rect.f
  rw [if_pos (by omega)]
  congr 1
  rw [Bool.not_eq_true',List.any_eq_false]
  intro x hx
  unfold oddRow
  rw [hf,(hm x hx).1,(hm.at h0).1]
  simp
 have hcols : matrix_cols.f m = some (n : Int) := by
  unfold matrix_cols.f
  rw [if_neg (by omega),if_pos (by omega),hf,(hm.at h0).1]
 have main := up (Q := fun i => Ev (fun k => matrix_Apply.l0 k p v ((m.map fun r => dotP p r v n).take i) m (m.length : Int) (i : Int)) (m.map fun r => dotP p r v n,0)) (n := m.length) ?_ (fun i hi h => ?_)
 ·refine (ev_now_bind hrect (Ev.congr (fun k => if_pos rfl) (ev_now_bind hcols ?_))).congr fun k => rfl
  rw [ne_bool (show (n : Int) = (v.length : Int) from by omega)]
  refine Ev.step (f := fun k => matrix_Apply.l0 k p v ((m.map fun r => dotP p r v n).take 0) m (m.length : Int) ((0 : Nat) : Int)) (fun k => ?_) main
  simp only [matrix_Apply.j0]
  rw [if_neg (by simp)];rfl
 ·refine Ev.step (fun k => ?_) (Ev.now _)
  simp only [matrix_Apply.l0]
  rw [if_neg (by omega),List.take_of_length_le (by rw [List.length_map];exact Nat.le_refl _)]
 ·have hr := hm.at hi
  have hd := dot_ev hp (r := m[i]) (l := v) hr.2 hv (by omega) (by omega)
  rw [hr.1] at hd
  refine Ev.step (f := fun k => (matrix_dot.f k p m[i] v).bind fun t => (if ((m.map fun r => dotP p r v n).take i).length < 17592186044416 then matrix_Apply.l0 k p v (((m.map fun r => dotP p r v n).take i) ++ [t]) m (m.length : Int) ((i + 1 : Nat) : Int) else none)) (fun k => ?_) (Ev.bind hd (h.congr fun k => ?_))
  ·simp only [matrix_Apply.l0]
   rw [if_pos (by omega),if_pos (by omega),if_pos (by omega),wnat (by omega),rdM_nat,List.getD_eq_getElem?_getD,List.getElem?_eq_getElem hi];rfl
  ·rw [if_pos (by rw [List.length_take,List.length_map];omega),← List.map_take,← List.map_take,List.take_succ_eq_append_getElem hi,List.map_append];rfl
def difN (a b : List Int) : Nat → Nat
 | 0 => 0
 | n + 1 => difN a b n + if a.getD n 0 = b.getD n 0 then 0 else 1
theorem difN_y {a b : List Int} {n : Nat} (e : a.getD n 0 = b.getD n 0) : difN a b (n + 1) = difN a b n := by
 show difN a b n + (if a.getD n 0 = b.getD n 0 then 0 else 1) = _
 rw [if_pos e];rfl
theorem difN_n {a b : List Int} {n : Nat} (e : ¬ a.getD n 0 = b.getD n 0) : difN a b (n + 1) = difN a b n + 1 := by
 show difN a b n + (if a.getD n 0 = b.getD n 0 then 0 else 1) = _
 rw [if_neg e]
theorem difN_le (a b : List Int) : ∀ n,difN a b n ≤ n
 | 0 => Nat.le_refl _
 | n + 1 => by have := difN_le a b n;unfold difN;split <;> omega
theorem mind_l1 {x y : List Int} (hx : x.length = 6) (hy : y.length = 6) (c : Nat) (hc : c ≤ 100) (h : 6 < c + difN x y 6) : Ev (fun k => privitylaw07_HyperinvertibleMinimumDistance.l1 k x y (c : Int) 0) true := by
 have main := up (Q := fun i => Ev (fun k => privitylaw07_HyperinvertibleMinimumDistance.l1 k x y ((c + difN x y i : Nat) : Int) (i : Int)) true) (n := 6) ?_ (fun i hi h2 => ?_)
 ·exact main
 ·refine Ev.step (fun k => ?_) (Ev.now _)
  simp only [privitylaw07_HyperinvertibleMinimumDistance.l1]
  rw [if_neg (by omega)]
  exact congrArg some (decide_eq_true (by omega))
 ·have hd := difN_le x y i
  refine Ev.step (f := fun k => privitylaw07_HyperinvertibleMinimumDistance.l1 k x y ((c + difN x y (i + 1) : Nat) : Int) ((i + 1 : Nat) : Int)) (fun k => ?_) h2
  simp only [privitylaw07_HyperinvertibleMinimumDistance.l1]
  rw [if_pos (by omega),if_pos (by omega),if_pos (by omega),if_pos (by omega),rd_nat,rd_nat,wnat (by omega)]
  by_cases e : x.getD i 0 = y.getD i 0
  ·rw [if_pos e,difN_y e]
  ·rw [if_neg e,difN_n e,wnat (by omega)];rfl
theorem mind_l0 {a b x y : List Int} (hab : b.length = a.length) (ha : a.length ≤ 7) (hx : x.length = 6) (hy : y.length = 6) (h : 6 < difN a b a.length + difN x y 6) : Ev (fun k => privitylaw07_HyperinvertibleMinimumDistance.l0 k a b x y 0 0) true := by
 have main := up (Q := fun i => Ev (fun k => privitylaw07_HyperinvertibleMinimumDistance.l0 k a b x y ((difN a b i : Nat) : Int) (i : Int)) true) (n := a.length) ?_ (fun i hi h2 => ?_)
 ·exact main
 ·have hd := difN_le a b a.length
  refine Ev.step (f := fun k => privitylaw07_HyperinvertibleMinimumDistance.l1 k x y ((difN a b a.length : Nat) : Int) 0) (fun k => ?_) (mind_l1 hx hy _ (by omega) h)
  simp only [privitylaw07_HyperinvertibleMinimumDistance.l0]
  rw [if_neg (by omega)]
 ·have hd := difN_le a b i
  refine Ev.step (f := fun k => privitylaw07_HyperinvertibleMinimumDistance.l0 k a b x y ((difN a b (i + 1) : Nat) : Int) ((i + 1 : Nat) : Int)) (fun k => ?_) h2
  simp only [privitylaw07_HyperinvertibleMinimumDistance.l0]
  rw [if_pos (by omega),if_pos (by omega),if_pos (by omega),rd_nat,rd_nat,wnat (by omega)]
  by_cases e : a.getD i 0 = b.getD i 0
  ·rw [if_pos e,difN_y e]
  ·rw [if_neg e,difN_n e,wnat (by omega)]
def agr (F G : Int → Int) (a n : Nat) : List Int := (pz a n).filter fun x => decide (F x = G x)
theorem agr_len (F G : Int → Int) (a : Nat) (u v : List Int) : ∀ n,(∀ i,i < n → u.getD i 0 = F ((a + i : Nat) : Int) ∧ v.getD i 0 = G ((a + i : Nat) : Int)) → (agr F G a n).length + difN u v n = n
 | 0,_ => rfl
 | n + 1,h => by
  have ih := agr_len F G a u v n fun i hi => h i (by omega)
  have hn := h n (by omega)
  unfold agr at ih ⊢
  unfold difN
  rw [← pz_next,List.filter_append,List.length_append,hn.1,hn.2]
  by_cases e : F ((a + n : Nat) : Int) = G ((a + n : Nat) : Int)
  ·rw [if_pos e,List.filter_cons_of_pos (by simpa using e),List.filter_nil]
   simp only [List.length_singleton];omega
  ·rw [if_neg e,List.filter_cons_of_neg (by simpa using e),List.filter_nil]
   simp only [List.length_nil];omega
theorem thru {p : Int} (hp : Supp p) {n : Nat} (hn : (n : Int) < p) (hn1 : 1 ≤ n) {a : List Int} (ha : ∀ x ∈ a,Res p x) (hl : a.length = n) : ∃ f : List Int,(∀ x ∈ f,Res p x) ∧ f.length ≤ n ∧ ∀ i,i < n → evI p ((1 + i : Nat) : Int) f = a.getD i 0 := by
 obtain ⟨pts,hpts⟩ : ∃ pts,pts = (List.range n).map fun (i : Nat) => (⟨((1 + i : Nat) : Int),a.getD i 0⟩ : S56) := ⟨_,rfl⟩
 have hlen : pts.length = n := by rw [hpts];simp
 have hat : ∀ i (h : i < n),rd_T56 pts (i : Int) = ⟨((1 + i : Nat) : Int),a.getD i 0⟩ := fun i h => by
  rw [rdT_nat pts i (by omega)]
  simp [hpts]
 have hok : PtsOk p pts := fun x hx => by
  rw [hpts] at hx
  obtain ⟨i,hi,rfl⟩ := List.mem_map.1 hx
  have := List.mem_range.1 hi
  exact ⟨⟨by show (0 : Int) ≤ ((1 + i : Nat) : Int);omega,by show ((1 + i : Nat) : Int) < p;omega⟩,res_at ha (by omega)⟩
 have hxs : xsOf pts = pz 1 n := by rw [hpts];unfold xsOf Go.Proofs.Ytmdoaijkaaaglaa.E.pz;rw [List.map_map];rfl
 have hnd : (xsOf pts).Nodup := by rw [hxs];exact pz_nodup _ _
 refine ⟨polL p pts,polL_res hp hok,by rw [← hlen];exact polL_len hp,fun i hi => ?_⟩
 have h := polL_at hp hok hnd i (by omega)
 rw [hat i hi] at h
 exact h
theorem dist_main {p : Int} (hp : Supp p) {n : Nat} (h1 : 1 ≤ n) (h7 : n ≤ 7) {a b : List Int} (ha : ∀ x ∈ a,Res p x) (hb : ∀ x ∈ b,Res p x) (la : a.length = n) (lb : b.length = n) (hne : a ≠ b) :
  6 < difN a b n + difN ((newM p 6 n).map fun r => dotP p r a n) ((newM p 6 n).map fun r => dotP p r b n) 6 := by
 have hbd := hp.bd
 obtain ⟨f,hf,lf,ef⟩ := thru hp (n := n) (by omega) h1 ha la
 obtain ⟨g,hg,lg,eg⟩ := thru hp (n := n) (by omega) h1 hb lb
 have hrow : ∀ (v q : List Int),(∀ x ∈ q,Res p x) → q.length ≤ n → (∀ i,i < n → evI p ((1 + i : Nat) : Int) q = v.getD i 0) → ∀ i,i < 6 → ((newM p 6 n).map fun r => dotP p r v n).getD i 0 = evI p (((n + 1) + i : Nat) : Int) q := by
  intro v q hq lq eq i hi
  have h2 := weval07 hp (xs := pz 1 n) (f := q) (pz_res (by omega)) (pz_nodup _ _) hq (by rw [pz_len];exact lq) (((n + 1) + i : Nat) : Int)
  rw [pz_len] at h2
  rw [List.getD_eq_getElem?_getD,List.getElem?_map,List.getElem?_eq_getElem (by rw [newM_len];exact hi)]
  show dotP p ((newM p 6 n)[i]'(by rw [newM_len];exact hi)) v n = _
  rw [show (newM p 6 n)[i]'(by rw [newM_len];exact hi) = lagL p (((n + 1) + i : Nat) : Int) (pz 1 n) n from by simp [newM],dotP_acc,← h2]
  refine accI_congr7 _ fun j hj => ?_
  rw [pz_getD hj,eq j hj]
 have k1 := agr_len (fun x => evI p x f) (fun x => evI p x g) 1 a b n (fun i hi => ⟨(ef i hi).symm,(eg i hi).symm⟩)
 have k2 := agr_len (fun x => evI p x f) (fun x => evI p x g) (n + 1) ((newM p 6 n).map fun r => dotP p r a n) ((newM p 6 n).map fun r => dotP p r b n) 6 (fun i hi => ⟨hrow a f hf lf ef i hi,hrow b g hg lg eg i hi⟩)
 refine Classical.byContradiction fun hcon => hne ?_
 obtain ⟨S,hS⟩ : ∃ S,S = agr (fun x => evI p x f) (fun x => evI p x g) 1 n ++ agr (fun x => evI p x f) (fun x => evI p x g) (n + 1) 6 := ⟨_,rfl⟩
 have hSl : n ≤ S.length := by rw [hS,List.length_append];omega
 have hmem : ∀ {a n : Nat} {x : Int},x ∈ agr (fun x => evI p x f) (fun x => evI p x g) a n → ((a : Int) ≤ x ∧ x < (a : Int) + n) ∧ evI p x f = evI p x g := fun hx => by
  unfold agr at hx
  rw [List.mem_filter] at hx
  exact ⟨pz_mem.1 hx.1,of_decide_eq_true hx.2⟩
 have hSr : ∀ x ∈ S,Res p x := fun x hx => by
  rw [hS] at hx
  rcases List.mem_append.1 hx with h|h <;> have := (hmem h).1 <;> exact ⟨by omega,by omega⟩
 have hSe : ∀ x ∈ S,evI p x f = evI p x g := fun x hx => by
  rw [hS] at hx
  rcases List.mem_append.1 hx with h|h <;> exact (hmem h).2
 have hSn : S.Nodup := by
  rw [hS,List.nodup_append]
  refine ⟨(pz_nodup _ _).sublist List.filter_sublist,(pz_nodup _ _).sublist List.filter_sublist,fun x hx y hy e => ?_⟩
  have := (hmem hx).1
  have := (hmem hy).1
  omega
 have hu := uniq hp hSr hSn hf hg (by omega) (by omega) hSe
 haveI := nz hp
 have hval : ∀ x,Res p x → evI p x f = evI p x g := fun x hx => by
  refine T_inj hp (evI_res hp _ _) (evI_res hp _ _) ?_
  rw [ev_evI hp,ev_evI hp,← ev_trimL (l := f),← ev_trimL (l := g),hu]
 refine List.ext_getElem (by omega) fun i h3 h4 => ?_
 have e1 := ef i (by omega)
 have e2 := eg i (by omega)
 rw [List.getD_eq_getElem?_getD,List.getElem?_eq_getElem h3] at e1
 rw [List.getD_eq_getElem?_getD,List.getElem?_eq_getElem h4] at e2
 have := hval ((1 + i : Nat) : Int) ⟨by omega,by omega⟩
 rw [e1,e2] at this
 exact this
theorem mind_skip (p : Int) (a b : List Int) : Ev (fun k => privitylaw07_HyperinvertibleMinimumDistance.j0 k p a b true) true :=
 Ev.step (f := fun _ => some true) (fun k => by simp only [privitylaw07_HyperinvertibleMinimumDistance.j0];rw [if_pos trivial]) (Ev.now _)
theorem mind_main {p : Int} (hp : Supp p) {a b : List Int} (ha : ∀ x ∈ a,Res p x) (hb : ∀ x ∈ b,Res p x) (h1 : 1 ≤ a.length) (h7 : a.length ≤ 7) (lb : b.length = a.length) (hne : a ≠ b) : Ev (fun k => privitylaw07_HyperinvertibleMinimumDistance.j0 k p a b false) true := by
 have hN := new_ev hp ((6 : Nat) : Int) (a.length : Int)
 rw [newR_ok hp (r := 6) (by omega) (by omega) h1 (by omega)] at hN
 have hM := newM_ok hp 6 a.length
 have hx := apply_ev hp hM (by rw [newM_len];omega) (by rw [newM_len];omega) (by omega) ha rfl
 have hy := apply_ev hp hM (by rw [newM_len];omega) (by rw [newM_len];omega) (by omega) hb lb
 have lx : ∀ v,((newM p 6 a.length).map fun r => dotP p r v a.length).length = 6 := fun v => by rw [List.length_map,newM_len]
 have fin := mind_l0 (a := a) (b := b) (x := (newM p 6 a.length).map fun r => dotP p r a a.length) (y := (newM p 6 a.length).map fun r => dotP p r b a.length) lb h7 (lx _) (lx _) (dist_main hp h1 h7 ha hb rfl lb hne)
 refine Ev.step (f := fun k => (hyperinvertible_New.f k p 6 (a.length : Int)).bind fun bt723 => ((matrix_Apply.f k p bt723.1 a).bind fun bt727 => ((matrix_Apply.f k p bt723.1 b).bind fun bt731 => (if bt723.2 = 0 then (if bt727.2 = 0 then (if bt731.2 = 0 then (if (bt727.1.length : Int) = 6 then (privitylaw07_HyperinvertibleMinimumDistance.j1 k a b bt727.1 bt731.1 ((bt731.1.length : Int) != 6)) else (privitylaw07_HyperinvertibleMinimumDistance.j1 k a b bt727.1 bt731.1 true)) else (privitylaw07_HyperinvertibleMinimumDistance.j1 k a b bt727.1 bt731.1 true)) else (privitylaw07_HyperinvertibleMinimumDistance.j1 k a b bt727.1 bt731.1 true)) else (privitylaw07_HyperinvertibleMinimumDistance.j1 k a b bt727.1 bt731.1 true))))) (fun k => ?_) (Ev.bind hN (Ev.bind hx (Ev.bind hy ?_)))
 ·simp only [privitylaw07_HyperinvertibleMinimumDistance.j0]
  rw [if_neg (by simp)]
 ·refine Ev.congr (f := fun k => privitylaw07_HyperinvertibleMinimumDistance.j1 k a b ((newM p 6 a.length).map fun r => dotP p r a a.length) ((newM p 6 a.length).map fun r => dotP p r b a.length) false) (fun k => ?_) (Ev.step (fun k => ?_) fin)
  ·rw [if_pos rfl,if_pos rfl,if_pos rfl,if_pos (by rw [lx];rfl),ne_bool (show (((newM p 6 a.length).map fun r => dotP p r b a.length).length : Int) = 6 from by rw [lx];rfl)]
  ·simp only [privitylaw07_HyperinvertibleMinimumDistance.j1]
   rw [if_neg (by simp)]
theorem HyperinvertibleMinimumDistance : privitylaw07_HyperinvertibleMinimumDistance.Pure := by
 intro p a b wp ma m8 wa mb mb8 wb
 refine Ev.rounds (r := true) ?_
 refine ev_if awake07 (fun _ => ev_if (supported_ev p) (fun hs => ev_ite (fun _ => mind_skip p a b) fun h1 => ev_ite (fun _ => mind_skip p a b) fun h2 => ev_ite (fun h3 => ?_) (fun _ => mind_skip p a b)) fun _ => mind_skip p a b) (fun h => by cases h)
 refine ev_if (below_ev p a (by omega)) (fun hb1 => ev_if (below_ev p b (by omega)) (fun hb2 => ?_) fun _ => mind_skip p a b) fun _ => mind_skip p a b
 refine Ev.bind (f := fun k t => privitylaw07_HyperinvertibleMinimumDistance.j0 k p a b t) (same_ev a b (by omega)) ?_
 by_cases hne : a = b
 ·rw [decide_eq_true hne];exact mind_skip p a b
 ·rw [decide_eq_false hne]
  exact mind_main (supB_of hs) (below_res hb1 fun x hx => (wf64 (wa x hx)).1) (below_res hb2 fun x hx => (wf64 (wb x hx)).1) (by omega) (by omega) (by omega) hne
end Go.Proofs.Ytmdoaijkaaaglaa.Pure
end
section
/- Printed by a program of this seat (the kit's printer, with the functions that were proved by hand given to it). What stands here: the functions that the statements reach, as plain functions, and that the Go code computes them. -/
namespace Go.Proofs.Ytmdoaijkaaaglaa.hyperinvertibleMinimumDistance
open Go.ChangeShapes Go.WideShapes Go.ChangeAt Go.RowKit
open Go.ChangeMaps (open_string shut_string)
theorem own : ownKnob Try.prog.godebug = none := by kernel_rfl
theorem laidOut : laidOutB Try.prog = true := by kernel_rfl
def IsRow (k : IntKind) (w : World) (a : Option Addr) (len cap : Nat) (zs : List Int) : Prop :=
  (a = none ∧ len = 0 ∧ cap = 0 ∧ zs = []) ∨
  ∃ x, a = some x ∧ len ≤ cap ∧ cap ≤ maxLen ∧ zs.length = cap ∧ (∀ i, i < zs.length → w.cell? (x.add i) = some (.int k (zs.getD i 0))) ∧ ∀ n ∈ zs, (Lit.int k n).wf = true
set_option maxRecDepth 100000 in
theorem lifted (os : Os) (started : os.Started) (H : Type) (enc : TypeId × Value → H) :
    ReturnsInHanded {} Try.checked os 9 .any (Rows.hyperinvertibleMinimumDistanceSpec.pre6 enc Try.prog Try.f9 Rows.hyperinvertibleMinimumDistanceRow.domain false) (Rows.hyperinvertibleMinimumDistanceSpec.post enc Try.prog Try.f9 false true false false) := by
  refine returnsInHanded_of_change_sized (C := Try.checked) own started (by kernel_rfl) Try.func9
    (ChangeSpec.witness6 (enc := enc) (C := Try.checked) false ⟨#[], #[.int .u64 0, .slice none 0 0, .slice none 0 0], []⟩ 8 (by kernel_rfl) (by kernel_rfl) (by kernel_rfl) (by kernel_rfl)) ?_
  intro W base args ds gs before hval0 hW hcnd hsz0 _
  have hsz : (DataW.weightsEach Try.prog (Try.f9.params.toList ++ Rows.hyperinvertibleMinimumDistanceSpec.plain.varTypes Try.prog) (ds ++ gs)).all (· ≤ reachBytes) = true := hsz0
  have hval : ∀ (j : Nat) t v, Try.f9.params[j]? = some t → args[j]? = some v → Value.okWide Try.prog W .any base t v := hval0
  have hW' := hW
  obtain ⟨p, q, hA0, hV, rfl, hfz, hnd⟩ := hW
  have hA : DataW.TrodAll enc Try.prog W 0 (fun _ => true) true Try.f9.params.toList args.toList ds p := hA0
  rw [Try.params9] at hA hval hsz
  obtain ⟨v0, vs0, d0, ds0, p0, q0, hargs, rfl, rfl, h0, r0⟩ := trodAll_cons hA
  obtain ⟨v1, vs1, d1, ds1, p1, q1, rfl, rfl, rfl, h1, r1⟩ := trodAll_cons r0
  obtain ⟨v2, vs2, d2, ds2, p2, q2, rfl, rfl, rfl, h2, r2⟩ := trodAll_cons r1
  obtain ⟨rfl, rfl, rfl⟩ := trodAll_nil r2
  obtain rfl : args = #[v0, v1, v2] := by cases args; simp_all
  obtain ⟨rfl, rfl⟩ := trodVars_none hV
  obtain ⟨a0, rfl, rfl, rfl, w0⟩ := open_int Try.underlying22 (hval 0 22 v0 rfl rfl) h0
  obtain ⟨a1, len1, cap1, rfl⟩ := okWide_slice Try.underlying40 (hval 1 40 v1 rfl rfl)
  have k1 := h1
  have lt1 : ∀ x ∈ p1, x.block < W.heap.size := by obtain ⟨m, hm⟩ := k1; exact DataW.trod_lt m _ _ _ hm
  obtain ⟨z1, w1⟩ : ∃ zs, IsRow .u64 W a1 len1 cap1 zs := by
    obtain ⟨fuel, hf⟩ := h1
    rcases open_ints Try.underlying40 Try.underlying22 (by kernel_rfl) hf with ⟨hcs, _⟩ | ⟨x, l, c, zs, hcs, _, hl, hm, hz, _, hcell, hwz⟩
    · simp [Value.cells] at hcs
      obtain ⟨rfl, rfl, rfl⟩ := hcs
      exact ⟨[], .inl ⟨rfl, rfl, rfl, rfl⟩⟩
    · simp [Value.cells] at hcs
      obtain ⟨rfl, rfl, rfl⟩ := hcs
      exact ⟨zs, .inr ⟨_, rfl, hl, hm, by simpa using hz, hcell, hwz⟩⟩
  have y1 : len1 * 8 ≤ 140737488351232 := Go.Proofs.YtmdoaijkaaaglaaW.PrintWords.sized_ints hsz (j := 1) (t := 40) rfl rfl Try.underlying40 Try.underlying22 (by kernel_rfl) (by kernel_rfl) h1
  obtain ⟨a2, len2, cap2, rfl⟩ := okWide_slice Try.underlying40 (hval 2 40 v2 rfl rfl)
  have k2 := h2
  have lt2 : ∀ x ∈ p2, x.block < W.heap.size := by obtain ⟨m, hm⟩ := k2; exact DataW.trod_lt m _ _ _ hm
  obtain ⟨z2, w2⟩ : ∃ zs, IsRow .u64 W a2 len2 cap2 zs := by
    obtain ⟨fuel, hf⟩ := h2
    rcases open_ints Try.underlying40 Try.underlying22 (by kernel_rfl) hf with ⟨hcs, _⟩ | ⟨x, l, c, zs, hcs, _, hl, hm, hz, _, hcell, hwz⟩
    · simp [Value.cells] at hcs
      obtain ⟨rfl, rfl, rfl⟩ := hcs
      exact ⟨[], .inl ⟨rfl, rfl, rfl, rfl⟩⟩
    · simp [Value.cells] at hcs
      obtain ⟨rfl, rfl, rfl⟩ := hcs
      exact ⟨zs, .inr ⟨_, rfl, hl, hm, by simpa using hz, hcell, hwz⟩⟩
  have y2 : len2 * 8 ≤ 140737488351232 := Go.Proofs.YtmdoaijkaaaglaaW.PrintWords.sized_ints hsz (j := 2) (t := 40) rfl rfl Try.underlying40 Try.underlying22 (by kernel_rfl) (by kernel_rfl) h2
  clear hA0 hval0 hsz0 hsz
  refine (Pr.privitylaw07_HyperinvertibleMinimumDistance.walk Pure.HyperinvertibleMinimumDistance a0 a1 len1 cap1 z1 a2 len2 cap2 z2 W w0 w1 y1 w2 y2).mono fun e W' ⟨he, bel⟩ => ?_
  subst he
  exact ⟨_, rfl, _, _, _, [], _, [], hW', trodAll_mk1 (shut_bool Try.underlying4 _), (trodAll_cons_mk (shut_int Try.underlying22 w0) (trodAll_cons_mk (Below.trod laidOut (by kernel_rfl) (of_decide_eq_true (by kernel_rfl)) k1 bel lt1) (trodAll_cons_mk (Below.trod laidOut (by kernel_rfl) (of_decide_eq_true (by kernel_rfl)) k2 bel lt2) trodAll_mk0))), rfl, bel.frame _, fun h => by cases h⟩
theorem over : Rows.hyperinvertibleMinimumDistanceRow.holds Try.pinned (OpenSpec.ofChange Rows.hyperinvertibleMinimumDistanceSpec) :=
  OpenClaim.holds_of_wide 9 Try.f9 rfl rfl rfl rfl rfl rfl rfl ⟨rfl, rfl, rfl, rfl, rfl⟩ rfl rfl rfl rfl rfl (by kernel_rfl) Try.func9 (by kernel_rfl)
    (of_decide_eq_true (by kernel_rfl)) (by unfold Func.isWrapper; first | (rw [if_pos (by decide +kernel)]; kernel_rfl) | (rw [if_neg (by decide +kernel)]; exact ⟨rfl, rfl⟩))
    (fun os started H enc _ => lifted os started H enc)
theorem proved : Rows.HyperinvertibleMinimumDistanceSaid := over
#print axioms proved
end Go.Proofs.Ytmdoaijkaaaglaa.hyperinvertibleMinimumDistance
namespace Go.Proofs.Ytmdoaijkaaaglaa
/-- The row, under a short name, for the claim. -/
theorem hyperinvertibleMinimumDistance_holds : Rows.HyperinvertibleMinimumDistanceSaid := hyperinvertibleMinimumDistance.proved
end Go.Proofs.Ytmdoaijkaaaglaa
end
