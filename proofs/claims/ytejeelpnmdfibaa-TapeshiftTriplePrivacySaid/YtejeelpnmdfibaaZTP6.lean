/- Part 6 of the proof's texts, joined in build order. -/
import Derived.Test.YtejeelpnmdfibaaZTP2
import Derived.Test.YtejeelpnmdfibaaZTP3
import Derived.Test.YtejeelpnmdfibaaZTP5
import Derived.Test.YtejeelpnmdfibaaZTP4
set_option linter.unusedVariables false
set_option linter.unusedSimpArgs false
section
namespace Go.Proofs.Ytejeelpnmdfibaa.Pr
open Go.RowKit Go.Proofs.YtejeelpnmdfibaaW.PrintWords Go.Proofs.YtejeelpnmdfibaaW.PrintLast Go.Proofs.YtejeelpnmdfibaaW.PrintMore
attribute [local go_sem] max2_int min2_int max_two min_two max_three min_three max_four min_four
open Go.Proofs.Ytejeelpnmdfibaa.Hw
mutual
def poly_DivMod.l0 : Nat → Int → List Int → Int → List Int → List Int → Option (List Int × List Int × Int)
 | 0,_,_,_,_,_ => none
 | k + 1,x0,x2,x9,x11,x12 => if (x11.length : Int) ≥ (x2.length : Int) then (if 0 ≤ (wrap64 ((x11.length : Int) - 1)) then (if (wrap64 ((x11.length : Int) - 1)) < (x11.length : Int) then ((field_Mul.f k x0 (rd x11 (wrap64 ((x11.length : Int) - 1))) x9).bind fun t154 => (if 0 ≤ (wrap64 ((x11.length : Int) - (x2.length : Int))) then (if (wrap64 ((x11.length : Int) - (x2.length : Int))) < (x12.length : Int) then (poly_DivMod.l1 k x0 x2 x9 x11 (x12.set ((wrap64 ((x11.length : Int) - (x2.length : Int))) : Int).toNat t154) (wrap64 ((x11.length : Int) - (x2.length : Int))) t154 x2 (x2.length : Int) 0) else (none)) else (none))) else (none)) else (none)) else ((poly_Trim.f k x12).bind fun t150 => (some (t150,x11,0)))
def poly_DivMod.l1 : Nat → Int → List Int → Int → List Int → List Int → Int → Int → List Int → Int → Int → Option (List Int × List Int × Int)
 | 0,_,_,_,_,_,_,_,_,_,_ => none
 | k + 1,x0,x2,x9,x11,x12,x13,x14,x66,x67,x68 => if x68 < x67 then (if 0 ≤ x68 then (if x68 < (x66.length : Int) then (if 0 ≤ (wrap64 (x13 + x68)) then (if (wrap64 (x13 + x68)) < (x11.length : Int) then ((field_Mul.f k x0 x14 (rd x66 x68)).bind fun t158 => ((field_Sub.f k x0 (rd x11 (wrap64 (x13 + x68))) t158).bind fun t159 => (poly_DivMod.l1 k x0 x2 x9 (x11.set ((wrap64 (x13 + x68)) : Int).toNat t159) x12 x13 x14 x66 x67 (wrap64 (x68 + 1))))) else (none)) else (none)) else (none)) else (none)) else ((poly_Trim.f k x11).bind fun t161 => (poly_DivMod.l0 k x0 x2 x9 t161 x12))
end
def poly_DivMod.f (k : Nat) (a0 : Int) (l1 : List Int) (l2 : List Int) : Option (List Int × List Int × Int) := (poly_Trim.f k l2).bind fun t138 => (if (t138.length : Int) = 0 then (some (([] : List Int),([] : List Int),8)) else (if 0 ≤ (wrap64 ((t138.length : Int) - 1)) then (if (wrap64 ((t138.length : Int) - 1)) < (t138.length : Int) then ((field_Inverse.f k a0 (rd t138 (wrap64 ((t138.length : Int) - 1)))).bind fun bt142 => ((poly_Trim.f k l1).bind fun t144 => (if 0 ≤ (mx 0 (wrap64 ((wrap64 ((t144.length : Int) - (t138.length : Int))) + 1))) then (if (mx 0 (wrap64 ((wrap64 ((t144.length : Int) - (t138.length : Int))) + 1)) : Int).toNat ≤ 35184372088832 then (poly_DivMod.l0 k a0 t138 bt142.1 t144 (List.replicate (mx 0 (wrap64 ((wrap64 ((t144.length : Int) - (t138.length : Int))) + 1)) : Int).toNat 0)) else (none)) else (none)))) else (none)) else (none)))
def poly_DivMod.T14 : Bool × List (List Nat × List Nat) := (true,[([],[]),([],[]),([],[]),([1,2],[1,2]),([],[]),([],[]),([],[]),([],[]),([6,7],[6,7]),([5,8],[5,8]),([9],[9]),([],[]),([],[]),([],[]),([11,12,13],[11,12,13]),([4,10,14,14],[4,10,14]),([0,3,0,1,2,3,4,5,6,7,8,9,10,11,12,13,14,15],[0,3]),([16,15,15,0,1,2,3,4,5,6,7,8,9,10,11,12,13,14,15],[15,16])])
def poly_DivMod.B14 : List Nat := [0,0,0,6,0,0,0,0,192,480,992,0,0,0,14336,32752,65535,131071]
theorem poly_DivMod.tab14 : rtab .any (opsOf Try.f53 14) = poly_DivMod.T14 := by kernel_rfl
theorem poly_DivMod.bits14 : waitsOk poly_DivMod.T14.2 poly_DivMod.B14 = true := by kernel_rfl
set_option maxHeartbeats 8000000 in
set_option maxRecDepth 100000 in
theorem poly_DivMod.calls (k : Nat) (a0 : Int) (A1 : Option Addr) (c1 : Nat) (l1 : List Int) (A2 : Option Addr) (c2 : Nat) (l2 : List Int) (r1 : List Int) (r2 : List Int) (r3 : Int) (w : World) (hr1 : Kd.C (Kd.int .u64) w A1 l1.length l1) (hc1 : l1.length ≤ c1) (hr2 : Kd.C (Kd.int .u64) w A2 l2.length l2) (hc2 : l2.length ≤ c2) (h : poly_DivMod.f k a0 l1 l2 = some (r1,r2,r3)) :
  Calls Try.prog 53 #[.int .u64 a0,.slice A1 l1.length c1,.slice A2 l2.length c2] w fun e w' => ∃ v0_ v1_ : Value,e = .returned (.tuple #[v0_,v1_,.int .i64 r3]) ∧ Kd.R (Kd.int .u64) 22 w' w.heap.size (fun k_ => some k_ ≠ (v1_ : Value).ownBlock) v0_ r1 ∧ Kd.R (Kd.int .u64) 22 w' w.heap.size (fun k_ => some k_ ≠ (v0_ : Value).ownBlock) v1_ r2 ∧ Below w.heap.size w w' := by
 have HR1 := am hr1
 have HC1 := am hc1
 clear hr1 hc1
 have HR2 := am hr2
 have HC2 := am hc2
 clear hr2 hc2
 have HB := am (Below.refl w.heap.size w)
 have H : ((poly_Trim.f k l2).bind fun t138 => (if (t138.length : Int) = 0 then (some (([] : List Int),([] : List Int),8)) else (if 0 ≤ (wrap64 ((t138.length : Int) - 1)) then (if (wrap64 ((t138.length : Int) - 1)) < (t138.length : Int) then ((field_Inverse.f k a0 (rd t138 (wrap64 ((t138.length : Int) - 1)))).bind fun bt142 => ((poly_Trim.f k l1).bind fun t144 => (if 0 ≤ (mx 0 (wrap64 ((wrap64 ((t144.length : Int) - (t138.length : Int))) + 1))) then (if (mx 0 (wrap64 ((wrap64 ((t144.length : Int) - (t138.length : Int))) + 1)) : Int).toNat ≤ 35184372088832 then (poly_DivMod.l0 k a0 t138 bt142.1 t144 (List.replicate (mx 0 (wrap64 ((wrap64 ((t144.length : Int) - (t138.length : Int))) + 1)) : Int).toNat 0)) else (none)) else (none)))) else (none)) else (none)))) = some (r1,r2,r3) := h
 clear h
 replace H := Option.bind_eq_some_iff.mp H
 obtain ⟨t138,A40,H⟩ := H
 try dsimp only at H
 have A4 := am A40
 clear A40
 by_cases c5 : (t138.length : Int) = 0
 ·rw [if_pos c5] at H
  have c5b0 : ((t138.length : Int) == 0) = true := beq_iff_eq.mpr c5
  have c5b1 : ((t138.length : Int) != 0) = false := bne_eq_false_iff_eq.mpr c5
  clear c5
  simp only [Option.some.injEq,Prod.mk.injEq] at H
  obtain ⟨rfl,rfl,rfl⟩ := H
  go_enter Try.func53,Try.ntmps53
  go_wp2_with (first|((with_reducible refine gate_callee (f := 83) rfl ?_);refine goesL_ (some 18) rfl rfl Try.func83 (by kernel_rfl) rfl #[.slice A2 l2.length c2] rfl (by (try simp only [List.map_toArray,List.map_cons,List.map_nil]);first|done|rfl|(simp only [List.length_drop,List.length_take];rfl)) ?_;(with_reducible refine (poly_Trim.calls k _ _ l2 t138 _ ?side1 ?side2 A4.out).mono ?_);(case side1 => repeat (first|exact HR2.out|(with_reducible refine Kd.C_alloc ?_ _)|(with_reducible refine Kd.C_drewN ?_ _)|(with_reducible refine Kd.C_drew ?_)));(case side2 => exact HC2.out);rintro e w6 ⟨v139,rfl,ho0,hb⟩;refine ⟨_,rfl,?_⟩;have n0_ := am (Kd.R_lower ho0 (below_size (bb HB)));have n1_ := am (below_step (bb HB) hb);clear HB;have HO140 := n0_;have HB := n1_;clear n0_ n1_;(try clear hb);(try clear hb2);(try clear hk);(try clear hi);(try clear ho0);obtain ⟨Ao7,co7,eo7⟩ := Kd.R_slice HO140.out;subst eo7))
  go_ret3
  exact ⟨_,_,by first|rfl|(simp [errW_none,errW_some] <;> rfl)|(simp [*,errW_none,errW_some] <;> rfl),by first|exact Kd.R_nil _ _ _ _ _|exact Kd.N_nil _ _ _ _ _|exact Kd.V_nil _ _ _ _ _|exact Kd.Q_nil _ _ _ _ _|exact Kd.S_nil _ _ _ _ _,by first|exact Kd.R_nil _ _ _ _ _|exact Kd.N_nil _ _ _ _ _|exact Kd.V_nil _ _ _ _ _|exact Kd.Q_nil _ _ _ _ _|exact Kd.S_nil _ _ _ _ _,bb HB⟩
 ·rw [if_neg c5] at H
  have c5b0 : ((t138.length : Int) == 0) = false := beq_eq_false_iff_ne.mpr c5
  have c5b1 : ((t138.length : Int) != 0) = true := bne_iff_ne.mpr c5
  have c5b2 : ¬ (t138 = []) := fun h_ => c5 (by rw [h_];rfl)
  obtain ⟨ji8,hji8⟩ : ∃ j_ : Int,(wrap64 ((t138.length : Int) - 1)) = j_ := ⟨_,rfl⟩
  first|rw [hji8] at H|simp only [hji8] at H
  (try rw [hji8] at A4)
  have hji8w : (IntKind.i64.wrap ((t138.length : Int) - 1)) = ji8 := (i64_w _).trans hji8
  by_cases c9 : 0 ≤ (ji8)
  ·rw [if_pos c9] at H
   have c9b0 : decide (0 ≤ (ji8)) = true := decide_eq_true c9
   clear c9
   by_cases c10 : (ji8) < (t138.length : Int)
   ·rw [if_pos c10] at H
    have c10b0 : decide ((ji8) < (t138.length : Int)) = true := decide_eq_true c10
    clear c10
    replace H := Option.bind_eq_some_iff.mp H
    obtain ⟨⟨t142,t143⟩,A110,H⟩ := H
    try dsimp only at H
    have A11 := am A110
    clear A110
    replace H := Option.bind_eq_some_iff.mp H
    obtain ⟨t144,A120,H⟩ := H
    try dsimp only at H
    have A12 := am A120
    clear A120
    obtain ⟨ji13,hji13⟩ : ∃ j_ : Int,(mx 0 (wrap64 ((wrap64 ((t144.length : Int) - (t138.length : Int))) + 1))) = j_ := ⟨_,rfl⟩
    first|rw [hji13] at H|simp only [hji13] at H
    (try rw [hji13] at A4)
    (try rw [hji13] at A11)
    (try rw [hji13] at A12)
    (try (have hji13l : 0 ≤ ji13 := by (rw [← hji13];unfold mx;(repeat' split) <;> omega)))
    (try (have hji13m : 0 ≤ ji13 := by omega))
    have hji13_ : (if 0 < (wrap64 ((wrap64 ((t144.length : Int) - (t138.length : Int))) + 1)) then (wrap64 ((wrap64 ((t144.length : Int) - (t138.length : Int))) + 1)) else 0) = ji13 := hji13
    by_cases c14 : 0 ≤ (ji13)
    ·rw [if_pos c14] at H
     have c14b0 := eq_true c14
     have c14b1 : decide (0 ≤ (ji13)) = true := decide_eq_true c14
     clear c14
     by_cases c15 : (ji13 : Int).toNat ≤ 35184372088832
     ·rw [if_pos c15] at H
      have c15b0 := eq_true c15
      have c15b1 : decide ((ji13 : Int).toNat ≤ 35184372088832) = true := decide_eq_true c15
      clear c15
      obtain ⟨y147,hy147⟩ : ∃ y_ : List Int,y_ = (List.replicate (ji13 : Int).toNat 0) := ⟨_,rfl⟩
      replace H : (poly_DivMod.l0 k a0 t138 t142 t144 y147) = some (r1,r2,r3) := by first|(rw [hy147];with_reducible exact H)|(have H2_ := (Option.bind_some _ _).symm.trans H;rw [hy147];with_reducible exact H2_)|(have H2_ := (Option.bind_some _ _).symm.trans H;with_reducible exact H2_)|with_reducible exact H|(rw [hy147];exact H)|exact H
      have Ny147 := am hy147
      clear hy147
      have H' := am H
      clear H
      go_enter Try.func53,Try.ntmps53
      go_wp2_with (first|((with_reducible refine gate_callee (f := 83) rfl ?_);refine goesL_ (some 18) rfl rfl Try.func83 (by kernel_rfl) rfl #[.slice A2 l2.length c2] rfl (by (try simp only [List.map_toArray,List.map_cons,List.map_nil]);first|done|rfl|(simp only [List.length_drop,List.length_take];rfl)) ?_;(with_reducible refine (poly_Trim.calls k _ _ l2 t138 _ ?side1 ?side2 A4.out).mono ?_);(case side1 => repeat (first|exact HR2.out|(with_reducible refine Kd.C_alloc ?_ _)|(with_reducible refine Kd.C_drewN ?_ _)|(with_reducible refine Kd.C_drew ?_)));(case side2 => exact HC2.out);rintro e w16 ⟨v139,rfl,ho0,hb⟩;refine ⟨_,rfl,?_⟩;have n0_ := am (Kd.R_lower ho0 (below_size (bb HB)));have n1_ := am (below_step (bb HB) hb);clear HB;have HO140 := n0_;have HB := n1_;clear n0_ n1_;(try clear hb);(try clear hb2);(try clear hk);(try clear hi);(try clear ho0);obtain ⟨Ao17,co17,eo17⟩ := Kd.R_slice HO140.out;subst eo17;have p141 : 0 ≤ ((ji8) : Int) := od;have q141 : (ji8) < (t138.length : Int) := od;obtain ⟨ad141,e141,hx141_0⟩ := Kd.at_int (Kd.R_reads' HO140.out).2.2 (ji8) p141 q141;cases e141;replace p141 := eq_true p141;replace q141 := eq_true q141)|((with_reducible refine gate_callee (f := 84) rfl ?_);refine goesL_ (some 30) rfl rfl Try.func84 (by kernel_rfl) rfl #[.int .u64 a0,.int .u64 (rd t138 (ji8))] rfl (by (try simp only [List.map_toArray,List.map_cons,List.map_nil]);first|done|(simp only [hji8];rfl)|rfl|(simp only [List.length_drop,List.length_take];rfl)) ?_;(with_reducible refine (field_Inverse.calls k a0 (rd t138 (ji8)) t142 t143 _ A11.out).mono ?_);rintro e w' ⟨rfl,⟨nd,rfl⟩⟩;refine ⟨_,rfl,?_⟩)|((with_reducible refine gate_callee (f := 83) rfl ?_);refine goesL_ (some 34) rfl rfl Try.func83 (by kernel_rfl) rfl #[.slice A1 l1.length c1] rfl (by (try simp only [List.map_toArray,List.map_cons,List.map_nil]);first|done|rfl|(simp only [List.length_drop,List.length_take];rfl)) ?_;(with_reducible refine (poly_Trim.calls k _ _ l1 t144 _ ?side1 ?side2 A12.out).mono ?_);(case side1 => repeat (first|exact (Kd.C_below HR1.out (bb HB))|(with_reducible refine Kd.C_alloc ?_ _)|(with_reducible refine Kd.C_drewN ?_ _)|(with_reducible refine Kd.C_drew ?_)));(case side2 => exact HC1.out);rintro e w18 ⟨v145,rfl,ho0,hb⟩;refine ⟨_,rfl,?_⟩;have n0_ := am (Kd.R_elder' (rr HO140) (Kd.R_base ho0) hb);have n1_ := am (Kd.R_lower (Kd.R_new' ho0 (Kd.R_lt (rr HO140))) (below_size (bb HB)));have n2_ := am (below_step (bb HB) hb);clear HO140 HB;have HO140 := n0_;have HO146 := n1_;have HB := n2_;clear n0_ n1_ n2_;(try clear hb);(try clear hb2);(try clear hk);(try clear hi);(try clear ho0);obtain ⟨Ao19,co19,eo19⟩ := Kd.R_slice HO146.out;subst eo19)|((with_reducible refine gate_dst (N := 42) rfl ?_);refine Kd.R_make (Kd.int .u64) _ 22 rfl (N := 42) rfl 26 _ _ rfl ji13 rfl rfl Try.underlying26 (.int .u64 0) 8 info22 rfl (by decide) (by omega) 0 (ok := fun _ => True) (okp := fun _ => True) rfl (fun _ hk => hk) trivial (od) (Nat.le_trans (Nat.mul_le_mul_right _ (od : ji13.toNat ≤ 35184372088832)) (by omega)) (Below.refl _ _) (Nat.le_refl _) ?_;intro v148 w20 ho21 hb hg_ hnew_;clear hg_ hnew_;(first|rw [← Ny147.out] at ho21|(simp only [Int.reduceToNat] at ho21;rw [← Ny147.out] at ho21));have n0_ := am (Kd.R_elder' (rr HO140) (Kd.R_base ho21) hb);have n1_ := am (Kd.R_elder' (rr HO146) (Kd.R_base ho21) hb);have n2_ := am (Kd.R_lower (Kd.R_new' (Kd.R_new' ho21 (Kd.R_lt (rr HO140))) (Kd.R_lt (rr HO146))) (below_size (bb HB)));have n3_ := am (below_step (bb HB) hb);clear HO140 HO146 HB;have HO140 := n0_;have HO146 := n1_;have HO149 := n2_;have HB := n3_;clear n0_ n1_ n2_ n3_;clear hb ho21))
      go_loopg [11] k (fun kq v11 w' => ∃ (x2_1 : List Int) (x11_1 : List Int) (x12_1 : List Int),Aside0 (poly_DivMod.l0 kq a0 x2_1 t142 x11_1 x12_1 = some (r1,r2,r3)) ∧ Aside0 (kq ≤ k) ∧ Aside0 (Kd.R (Kd.int .u64) 22 w' w.heap.size (fun k_ => some k_ ≠ (v11 : Value).ownBlock ∧ some k_ ≠ (v148 : Value).ownBlock) (.slice (some ad141) t138.length co17) x2_1) ∧ Aside0 (Kd.R (Kd.int .u64) 22 w' w.heap.size (fun k_ => some k_ ≠ ((.slice (some ad141) t138.length co17) : Value).ownBlock ∧ some k_ ≠ (v148 : Value).ownBlock) v11 x11_1) ∧ Aside0 (Kd.R (Kd.int .u64) 22 w' w.heap.size (fun k_ => some k_ ≠ ((.slice (some ad141) t138.length co17) : Value).ownBlock ∧ some k_ ≠ (v11 : Value).ownBlock) v148 x12_1) ∧ Aside0 (Below w.heap.size w w'))
      case atStart => exact ⟨(t138),(t144),(y147),H',⟨Nat.le_refl _⟩,⟨by (with_reducible repeat (first|apply Kd.R_alloc|apply Kd.R_drewN|apply Kd.R_drew));exact Kd.R_mono HO140.out (fun _ hk => ⟨hk.1.2,hk.2⟩)⟩,⟨by (with_reducible repeat (first|apply Kd.R_alloc|apply Kd.R_drewN|apply Kd.R_drew));exact Kd.R_mono HO146.out (fun _ hk => ⟨hk.1.2,hk.2⟩)⟩,⟨by (with_reducible repeat (first|apply Kd.R_alloc|apply Kd.R_drewN|apply Kd.R_drew));exact Kd.R_mono HO149.out (fun _ hk => ⟨hk.1.2,hk.2⟩)⟩,⟨bb HB⟩⟩
      case round =>
       clear H'
       try clear c1
       try clear p1
       try clear q1
       try clear hx1
       try clear c2
       try clear p2
       try clear c5
       try clear c5b0
       try clear c5b1
       try clear c5b2
       try clear p6
       try clear c8
       try clear c9
       try clear c9b0
       try clear c10
       try clear c10b0
       try clear c14
       try clear c14b0
       try clear c14b1
       try clear p14
       try clear q14
       try clear hx14
       try clear c15
       try clear c15b0
       try clear c15b1
       try clear hx141_0
       try clear p141
       try clear q141
       obtain ⟨x2_1,x11_1,x12_1,HA,HK1,HO_2,HO_11,HO_12,HB⟩ := hrel
       have hl2_1 := (Kd.R_reads' HO_2.out).1
       rw [hl2_1] at HO_2
       (try simp only [hl2_1])
       (try simp only [hl2_1] at HO_11)
       (try simp only [hl2_1] at HO_12)
       cases gk with
       | zero => exact absurd HA.out (by simp [poly_DivMod.l0])
       | succ k1 =>
        have H := HA.out
        clear HA
        simp only [poly_DivMod.l0] at H
        by_cases c22 : (x11_1.length : Int) ≥ (x2_1.length : Int)
        ·rw [if_pos c22] at H
         have c22b0 : decide ((x2_1.length : Int) ≤ (x11_1.length : Int)) = true := decide_eq_true c22
         have c22b1 : decide (x2_1.length ≤ x11_1.length) = true := decide_eq_true (Int.ofNat_le.mp c22)
         clear c22
         obtain ⟨ji23,hji23⟩ : ∃ j_ : Int,(wrap64 ((x11_1.length : Int) - 1)) = j_ := ⟨_,rfl⟩
         first|rw [hji23] at H|simp only [hji23] at H
         have hji23w : (IntKind.i64.wrap ((x11_1.length : Int) - 1)) = ji23 := (i64_w _).trans hji23
         by_cases c24 : 0 ≤ (ji23)
         ·rw [if_pos c24] at H
          have c24b0 : decide (0 ≤ (ji23)) = true := decide_eq_true c24
          clear c24
          by_cases c25 : (ji23) < (x11_1.length : Int)
          ·rw [if_pos c25] at H
           have c25b0 : decide ((ji23) < (x11_1.length : Int)) = true := decide_eq_true c25
           clear c25
           replace H := Option.bind_eq_some_iff.mp H
           obtain ⟨t154,A260,H⟩ := H
           try dsimp only at H
           have A26 := am A260
           clear A260
           obtain ⟨ji27,hji27⟩ : ∃ j_ : Int,(wrap64 ((x11_1.length : Int) - (x2_1.length : Int))) = j_ := ⟨_,rfl⟩
           first|rw [hji27] at H|simp only [hji27] at H
           (try rw [hji27] at A26)
           have hji27w : (IntKind.i64.wrap ((x11_1.length : Int) - (x2_1.length : Int))) = ji27 := (i64_w _).trans hji27
           by_cases c28 : 0 ≤ (ji27)
           ·rw [if_pos c28] at H
            have c28b0 : decide (0 ≤ (ji27)) = true := decide_eq_true c28
            clear c28
            by_cases c29 : (ji27) < (x12_1.length : Int)
            ·rw [if_pos c29] at H
             have c29b0 : decide ((ji27) < (x12_1.length : Int)) = true := decide_eq_true c29
             clear c29
             obtain ⟨y155,hy155⟩ : ∃ y_ : List Int,y_ = (x12_1.set ((ji27) : Int).toNat t154) := ⟨_,rfl⟩
             replace H : (poly_DivMod.l1 k1 a0 x2_1 t142 x11_1 y155 ji27 t154 x2_1 (x2_1.length : Int) 0) = some (r1,r2,r3) := by first|(rw [hy155];with_reducible exact H)|(have H2_ := (Option.bind_some _ _).symm.trans H;rw [hy155];with_reducible exact H2_)|(have H2_ := (Option.bind_some _ _).symm.trans H;with_reducible exact H2_)|with_reducible exact H|(rw [hy155];exact H)|exact H
             have Ny155 := am hy155
             clear hy155
             have H' := am H
             clear H
             obtain ⟨Ao31,co31,eo31⟩ := Kd.R_slice HO_11.out
             subst eo31
             have p153 : 0 ≤ ((ji23) : Int) := od
             have q153 : (ji23) < (x11_1.length : Int) := od
             obtain ⟨ad153,e153,hx153_0⟩ := Kd.at_int (Kd.R_reads' HO_11.out).2.2 (ji23) p153 q153
             cases e153
             replace p153 := eq_true p153
             replace q153 := eq_true q153
             go_wp2_with (first|((with_reducible refine gate_callee (f := 70) rfl ?_);refine goesL_ (some 61) rfl rfl Try.func70 (by kernel_rfl) rfl #[.int .u64 a0,.int .u64 (rd x11_1 (ji23)),.int .u64 t142] rfl (by (try simp only [List.map_toArray,List.map_cons,List.map_nil]);first|done|(simp only [hji23];rfl)|rfl|(simp only [List.length_drop,List.length_take];rfl)) ?_;(with_reducible refine (field_Mul.calls k1 a0 (rd x11_1 (ji23)) t142 t154 _ A26.out).mono ?_);rintro e w' ⟨rfl,⟨nd,rfl⟩⟩;refine ⟨_,rfl,?_⟩;(try (rw [drewN_self wr];generalize hq_ : World.drewN wr _ = wr;have n0_ : Aside0 (Kd.R (Kd.int .u64) 22 wr w.heap.size (fun k_ => some k_ ≠ (v148 : Value).ownBlock ∧ some k_ ≠ (.slice (some ad141) x2_1.length co17 : Value).ownBlock) (.slice (some ad153) x11_1.length co31) x11_1) := ⟨by rw [← hq_];exact (by (with_reducible repeat (first|apply Kd.R_alloc|apply Kd.R_drewN|apply Kd.R_drew));exact Kd.R_mono HO_11.out (fun _ hk => ⟨hk.2,hk.1⟩))⟩;have n1_ : Aside0 (Kd.R (Kd.int .u64) 22 wr w.heap.size (fun k_ => some k_ ≠ (.slice (some ad153) x11_1.length co31 : Value).ownBlock ∧ some k_ ≠ (.slice (some ad141) x2_1.length co17 : Value).ownBlock) v148 x12_1) := ⟨by rw [← hq_];exact (by (with_reducible repeat (first|apply Kd.R_alloc|apply Kd.R_drewN|apply Kd.R_drew));exact Kd.R_mono HO_12.out (fun _ hk => ⟨hk.2,hk.1⟩))⟩;have n2_ : Aside0 (Kd.R (Kd.int .u64) 22 wr w.heap.size (fun k_ => some k_ ≠ (.slice (some ad153) x11_1.length co31 : Value).ownBlock ∧ some k_ ≠ (v148 : Value).ownBlock) (.slice (some ad141) x2_1.length co17) x2_1) := ⟨by rw [← hq_];exact (rr HO_2)⟩;have n3_ : Aside0 (Below w.heap.size w wr) := ⟨by rw [← hq_];exact (bb HB)⟩;clear HO_11 HO_12 HO_2 HB hq_;have HO_11 := n0_;have HO_12 := n1_;have HO_2 := n2_;have HB := n3_;clear n0_ n1_ n2_ n3_));have p30 : 0 ≤ ((ji27) : Int) := od;have q30 : ((ji27) : Int) < ((x12_1.length : Int) : Int) := od;obtain ⟨go30,co30,eo30,gb30,gl30,cl30,HG30⟩ := Kd.R_form HO_12.out (by omega);(first|cases eo30|(injection eo30 with ea_ en_ ec_;(first|subst ea_|(injection ea_ with ea_;subst ea_));subst ec_;clear en_));have GB30 := am gb30;have GG30 := am HG30;clear gb30 gl30 HG30;obtain ⟨hx30_0,hf30_0⟩ := Kd.R_celln 0 HO_12.out ((ji27) : Int) p30 q30;replace p30 := eq_true p30;replace q30 := eq_true q30;obtain ⟨hy32_,hz32_⟩ := Kd.R_celln 0 HO_12.out ((ji27) : Int) (od) (od);have HP32 := Kd.R_putg HO_12.out ((ji27) : Int) t154)|((with_reducible refine gate_store (t := 22) (p := 65) rfl ?_);refine store_event (t := 22) (p := 65) (v := ?vo_w33) (w1 := (wr.setCell ⟨go30,((ji27) : Int).toNat,none⟩ (.int .u64 t154))) ?hg ?ho ?hn ?hr ?_;(case ho => rfl);(case hg => rfl);(case hn => rfl);(case hr => first|(go_simp;done)|(go_simp;rfl));intro w33 hw;have hg : wr.grownBy w33 (some go30) := (by rw [hw];exact HP32.2);have hp_ : Kd.R (Kd.int .u64) 22 w33 w.heap.size (fun k_ => some k_ ≠ (.slice (some ad141) x2_1.length co17 : Value).ownBlock ∧ some k_ ≠ (.slice (some ad153) x11_1.length co31 : Value).ownBlock) (.slice (some ⟨go30,0,none⟩) x12_1.length co30) y155 := (by rw [hw,Ny155.out];exact HP32.1);clear HP32;have n0_ := am (Kd.R_after (v := (.slice (some ⟨go30,0,none⟩) x12_1.length co30)) (v1 := (.slice (some ⟨go30,0,none⟩) x12_1.length co30)) (ok := (fun k_ => some k_ ≠ (.slice (some ad153) x11_1.length co31 : Value).ownBlock)) (rr HO_2) hg (.inl rfl));have n1_ := am (Kd.R_after (v := (.slice (some ⟨go30,0,none⟩) x12_1.length co30)) (v1 := (.slice (some ⟨go30,0,none⟩) x12_1.length co30)) (ok := (fun k_ => some k_ ≠ (.slice (some ad141) x2_1.length co17 : Value).ownBlock)) (rr HO_11) hg (.inl rfl));have n2_ := am (hp_);have n3_ := am ((by rw [hw];exact below_set (HB.out) GB30.out : Below w.heap.size w w33));clear HO_2 HO_11 HO_12 HB;have HO_2 := n0_;have HO_11 := n1_;have HO_12 := n2_;have HB := n3_;clear n0_ n1_ n2_ n3_;clear hg hw hp_))
             go_loopg [68] k1 (fun kq v68 w' => ∃ (x11_2 : List Int) (x68_2 : Int),v68 = .int .i64 x68_2 ∧ Aside0 (poly_DivMod.l1 kq a0 x2_1 t142 x11_2 y155 ji27 t154 x2_1 (x2_1.length : Int) x68_2 = some (r1,r2,r3)) ∧ Aside0 (kq ≤ k1) ∧ Aside0 (Kd.R (Kd.int .u64) 22 w' w.heap.size (fun k_ => some k_ ≠ ((.slice (some ad153) x11_1.length co31) : Value).ownBlock ∧ some k_ ≠ ((.slice (some ⟨go30,0,none⟩) x12_1.length co30) : Value).ownBlock) (.slice (some ad141) x2_1.length co17) x2_1) ∧ Aside0 (Kd.R (Kd.int .u64) 22 w' w.heap.size (fun k_ => some k_ ≠ ((.slice (some ad141) x2_1.length co17) : Value).ownBlock ∧ some k_ ≠ ((.slice (some ⟨go30,0,none⟩) x12_1.length co30) : Value).ownBlock ∧ some k_ ≠ ((.slice (some ad141) x2_1.length co17) : Value).ownBlock) (.slice (some ad153) x11_1.length co31) x11_2) ∧ Aside0 (Kd.R (Kd.int .u64) 22 w' w.heap.size (fun k_ => some k_ ≠ ((.slice (some ad141) x2_1.length co17) : Value).ownBlock ∧ some k_ ≠ ((.slice (some ad153) x11_1.length co31) : Value).ownBlock ∧ some k_ ≠ ((.slice (some ad141) x2_1.length co17) : Value).ownBlock) (.slice (some ⟨go30,0,none⟩) x12_1.length co30) y155) ∧ Aside0 (Kd.R (Kd.int .u64) 22 w' w.heap.size (fun k_ => some k_ ≠ ((.slice (some ad153) x11_1.length co31) : Value).ownBlock ∧ some k_ ≠ ((.slice (some ⟨go30,0,none⟩) x12_1.length co30) : Value).ownBlock) (.slice (some ad141) x2_1.length co17) x2_1) ∧ Aside0 (Below w.heap.size w w'))
             case atStart => exact ⟨(x11_1),(0),(by first|rfl|(simp;done)|(simp [*];done)),H',⟨Nat.le_refl _⟩,⟨by (try simp only [hl2_1]);(with_reducible repeat (first|apply Kd.R_alloc|apply Kd.R_drewN|apply Kd.R_drew));exact R_setfar HO_2.out (fun k_ hk e => by subst e;first|exact hk.2 rfl|exact hk.1 rfl)⟩,⟨by (try simp only [hl2_1]);(with_reducible repeat (first|apply Kd.R_alloc|apply Kd.R_drewN|apply Kd.R_drew));exact Kd.R_mono (R_setfar HO_11.out (fun k_ hk e => by subst e;first|exact hk.2 rfl|exact hk.1 rfl)) (fun _ hk => by first|exact ⟨hk.1,⟨hk.2,hk.1⟩⟩|exact ⟨hk.2,⟨hk.1,hk.2⟩⟩)⟩,⟨by (try simp only [hl2_1]);(with_reducible repeat (first|apply Kd.R_alloc|apply Kd.R_drewN|apply Kd.R_drew));exact Kd.R_mono (R_setown Ny155.out HO_12.out) (fun _ hk => by first|exact ⟨hk.1,⟨hk.2,hk.1⟩⟩|exact ⟨hk.2,⟨hk.1,hk.2⟩⟩)⟩,⟨by (try simp only [hl2_1]);(with_reducible repeat (first|apply Kd.R_alloc|apply Kd.R_drewN|apply Kd.R_drew));exact R_setfar HO_2.out (fun k_ hk e => by subst e;first|exact hk.2 rfl|exact hk.1 rfl)⟩,⟨Below.setCell HB.out (p := ⟨_,(ji27).toNat,none⟩) (own_base (Kd.own_of_R HO_12.out) _ rfl) _⟩⟩
             case round =>
              clear H'
              try clear c1
              try clear p1
              try clear q1
              try clear hx1
              try clear c2
              try clear p2
              try clear p3
              try clear q3
              try clear hx3
              try clear hf3
              try clear c5
              try clear c5b0
              try clear c5b1
              try clear c5b2
              try clear p6
              try clear c7
              try clear c8
              try clear c9
              try clear c9b0
              try clear c10
              try clear c10b0
              try clear c14
              try clear c14b0
              try clear c14b1
              try clear p14
              try clear q14
              try clear hx14
              try clear c15
              try clear c15b0
              try clear c15b1
              try clear p15
              try clear q15
              try clear hx15
              try clear c22
              try clear c22b0
              try clear c22b1
              try clear c24
              try clear c24b0
              try clear c25
              try clear c25b0
              try clear c28
              try clear c28b0
              try clear c29
              try clear c29b0
              try clear p30
              try clear q30
              try clear hx30
              try clear hf30
              try clear hx141_0
              try clear hx153_0
              try clear hx30_0
              try clear p1
              try clear p14
              try clear p141
              try clear p153
              try clear p2
              try clear p30
              try clear p6
              try clear q1
              try clear q14
              try clear q141
              try clear q153
              try clear q30
              obtain ⟨x11_2,x68_2,rfl,HA,HK2,HO_2,HO_11,HO_12,HO_66,HB⟩ := hrel
              have hl11_2 := (Kd.R_reads' HO_11.out).1
              rw [hl11_2] at HO_11
              (try simp only [hl11_2])
              (try simp only [hl11_2] at HO_2)
              (try simp only [hl11_2] at HO_12)
              (try simp only [hl11_2] at HO_66)
              have hl12_2 := (Kd.R_reads' HO_12.out).1
              rw [hl12_2] at HO_12
              (try simp only [hl12_2])
              (try simp only [hl12_2] at HO_2)
              (try simp only [hl12_2] at HO_11)
              (try simp only [hl12_2] at HO_66)
              cases gk with
              | zero => exact absurd HA.out (by simp [poly_DivMod.l1])
              | succ k2 =>
               have H := HA.out
               clear HA
               simp only [poly_DivMod.l1] at H
               by_cases c34 : x68_2 < (x2_1.length : Int)
               ·rw [if_pos c34] at H
                have c34b0 : decide (x68_2 < (x2_1.length : Int)) = true := decide_eq_true c34
                clear c34
                by_cases c35 : 0 ≤ x68_2
                ·rw [if_pos c35] at H
                 have c35b0 : decide (0 ≤ x68_2) = true := decide_eq_true c35
                 clear c35
                 by_cases c36 : x68_2 < (x2_1.length : Int)
                 ·rw [if_pos c36] at H
                  have c36b0 : decide (x68_2 < (x2_1.length : Int)) = true := decide_eq_true c36
                  clear c36
                  obtain ⟨ji37,hji37⟩ : ∃ j_ : Int,(wrap64 (ji27 + x68_2)) = j_ := ⟨_,rfl⟩
                  first|rw [hji37] at H|simp only [hji37] at H
                  have hji37w : (IntKind.i64.wrap (ji27 + x68_2)) = ji37 := (i64_w _).trans hji37
                  by_cases c38 : 0 ≤ (ji37)
                  ·rw [if_pos c38] at H
                   have c38b0 : decide (0 ≤ (ji37)) = true := decide_eq_true c38
                   clear c38
                   by_cases c39 : (ji37) < (x11_2.length : Int)
                   ·rw [if_pos c39] at H
                    have c39b0 : decide ((ji37) < (x11_2.length : Int)) = true := decide_eq_true c39
                    clear c39
                    replace H := Option.bind_eq_some_iff.mp H
                    obtain ⟨t158,A400,H⟩ := H
                    try dsimp only at H
                    have A40 := am A400
                    clear A400
                    replace H := Option.bind_eq_some_iff.mp H
                    obtain ⟨t159,A410,H⟩ := H
                    try dsimp only at H
                    have A41 := am A410
                    clear A410
                    obtain ⟨y160,hy160⟩ : ∃ y_ : List Int,y_ = (x11_2.set ((ji37) : Int).toNat t159) := ⟨_,rfl⟩
                    replace H : (poly_DivMod.l1 k2 a0 x2_1 t142 y160 y155 ji27 t154 x2_1 (x2_1.length : Int) (wrap64 (x68_2 + 1))) = some (r1,r2,r3) := by first|(rw [hy160];with_reducible exact H)|(have H2_ := (Option.bind_some _ _).symm.trans H;rw [hy160];with_reducible exact H2_)|(have H2_ := (Option.bind_some _ _).symm.trans H;with_reducible exact H2_)|with_reducible exact H|(rw [hy160];exact H)|exact H
                    have Ny160 := am hy160
                    clear hy160
                    have H' := am H
                    clear H
                    have p156 : 0 ≤ (x68_2 : Int) := od
                    have q156 : x68_2 < (x2_1.length : Int) := od
                    obtain ⟨ad156,e156,hx156_0⟩ := Kd.at_int (Kd.R_reads' HO_66.out).2.2 x68_2 p156 q156
                    obtain rfl : ad141 = ad156 := (by injection e156)
                    replace p156 := eq_true p156
                    replace q156 := eq_true q156
                    try go_wp2
                    have n0_ := am (Kd.R_drew HO_2.out)
                    have n1_ := am (Kd.R_drew HO_11.out)
                    have n2_ := am (Kd.R_drew HO_12.out)
                    have n3_ := am (Kd.R_drew HO_66.out)
                    have n4_ := am (below_drew1 HB.out)
                    clear HO_2
                    clear HO_11
                    clear HO_12
                    clear HO_66
                    clear HB
                    have HO_2 := n0_
                    have HO_11 := n1_
                    have HO_12 := n2_
                    have HO_66 := n3_
                    have HB := n4_
                    clear n0_ n1_ n2_ n3_ n4_
                    have p157 : 0 ≤ ((ji37) : Int) := od
                    have q157 : (ji37) < (x11_2.length : Int) := od
                    obtain ⟨ad157,e157,hx157_0⟩ := Kd.at_int (Kd.R_reads' HO_11.out).2.2 (ji37) p157 q157
                    obtain rfl : ad153 = ad157 := (by injection e157)
                    replace p157 := eq_true p157
                    replace q157 := eq_true q157
                    refine start_ (n := 18) (S := fun w' => w'.cell? (ad153.add ((ji37)).toNat) = some (.int .u64 (rd x11_2 (ji37)))) (ds := [17]) (bz 18 0) (by kernel_rfl) rfl rfl (hx157_0) (fun hHeld => ?_);refine with_tabW poly_DivMod.tab14 poly_DivMod.bits14 (fun HT_ HW_ => ?_)
                    generalize wr.drew = w43 at HO_2 HO_11 HO_12 HO_66 HB hx157_0 hHeld ⊢
                    refine pk 0 73 (bz 18 1) HT_ ?_
                    refine pk 1 74 (bz 18 3) HT_ ?_
                    refine pk 2 75 (bz 18 7) HT_ ?_
                    refine pk 3 76 (bz 18 15) HT_ ?_
                    refine pk 4 77 (bz 18 31) HT_ ?_
                    refine pk 5 78 (bz 18 63) HT_ ?_
                    refine pk 6 79 (bz 18 127) HT_ ?_
                    refine pk 7 80 (bz 18 255) HT_ ?_
                    refine pk 8 81 (bz 18 511) HT_ ?_
                    refine pk 9 82 (bz 18 1023) HT_ ?_
                    refine pk 11 84 (bz 18 3071) HT_ ?_
                    refine pk 12 85 (bz 18 7167) HT_ ?_
                    refine pk 13 86 (bz 18 15359) HT_ ?_
                    refine tk 10 83 (bz 18 16383) HT_ HW_ hHeld ?_
                    refine on 14 87 (bz 18 32767) HT_ (fun K hK => ?_)
                    refine goes_ Try.func70 (by kernel_rfl) rfl #[.int .u64 a0,.int .u64 t154,.int .u64 (rd x2_1 x68_2)] (by rfl) rfl rfl (by (try simp only [List.map_toArray,List.map_cons,List.map_nil]);first|done|rfl|(simp only [List.length_drop,List.length_take];rfl)) ?_
                    with_reducible refine (field_Mul.calls k2 a0 t154 (rd x2_1 x68_2) t158 _ A40.out).mono ?_
                    rintro e w' ⟨rfl,⟨nd,rfl⟩⟩
                    refine ⟨_,rfl,?_⟩
                    refine hK.out _ _ (hHeld) (fun hHeld => ?_)
                    clear hK K
                    refine nm 87 ?_
                    refine on 15 88 (bz 18 65535) HT_ (fun K hK => ?_)
                    refine goes_ Try.func85 (by kernel_rfl) rfl #[.int .u64 a0,.int .u64 (rd x11_2 (ji37)),.int .u64 t158] (by rfl) rfl rfl (by (try simp only [List.map_toArray,List.map_cons,List.map_nil]);first|done|(simp only [hji37];rfl)|rfl|(simp only [List.length_drop,List.length_take];rfl)) ?_
                    with_reducible refine (field_Sub.calls k2 a0 (rd x11_2 (ji37)) t158 t159 _ A41.out).mono ?_
                    rintro e w' ⟨rfl,⟨nd,rfl⟩⟩
                    refine ⟨_,rfl,?_⟩
                    have p42 : 0 ≤ ((ji37) : Int) := od
                    have q42 : ((ji37) : Int) < ((x11_2.length : Int) : Int) := od
                    obtain ⟨go42,co42,eo42,gb42,gl42,cl42,HG42⟩ := Kd.R_form HO_11.out (by omega)
                    (first|cases eo42|(injection eo42 with ea_ en_ ec_;(first|subst ea_|(injection ea_ with ea_;subst ea_));subst ec_;clear en_))
                    have GB42 := am gb42
                    have GG42 := am HG42
                    clear gb42 gl42 HG42
                    (first|simp only [add_plain] at hx153_0|skip)
                    (first|simp only [add_plain] at hx157_0|skip)
                    obtain ⟨hx42_0,hf42_0⟩ := Kd.R_celln 0 HO_11.out ((ji37) : Int) p42 q42
                    replace p42 := eq_true p42
                    replace q42 := eq_true q42
                    have HP44 := Kd.R_putn HO_11.out ((ji37) : Int) t159
                    rw [← Ny160.out] at HP44
                    have HQ44 := am HP44
                    clear HP44
                    refine hK.out _ _ (hHeld) (fun hHeld => ?_)
                    clear hK K
                    refine nm 88 ?_
                    refine pk 16 89 (bz 18 131071) HT_ ?_
                    refine last_ (i := 17) (N := none) (bz 18 262143) rfl rfl (one_of HT_.out (by kernel_rfl)) (by decide) (fun K hK => ?_)
                    refine skip_ (w1 := ?_) (by rfl) rfl ?_ ?_
                    rotate_left
                    ·go_simp
                     rfl
                    refine hK.out _ _ ?_
                    clear hK K
                    refine done_ (done_of HT_.out (by kernel_rfl)) ?_
                    try go_wp2
                    (try simp only [← hl11_2,← hl12_2])
                    (try rw [show (⟨go42,ji23.toNat,none⟩ : Addr) = (⟨go42,0,none⟩ : Addr).add ji23.toNat from by rw [Addr.add_lit,Nat.zero_add]])
                    go_roundg k2
                    case measure => have := HK1.out;have := HK2.out;omega
                    case rel => exact ⟨(y160),(wrap64 (x68_2 + 1)),(by first|rfl|(simp;done)|(simp [*];done)),H',⟨by have := HK1.out;have := HK2.out;omega⟩,⟨by (try simp only [hl2_1]);(try simp only [hl11_2]);(try simp only [hl12_2]);(with_reducible repeat (first|apply Kd.R_alloc|apply Kd.R_drewN|apply Kd.R_drew));exact Kd.R_mono (Kd.R_far (p := ⟨go42,((ji37) : Int).toNat,none⟩) (Kd.R_mono HO_2.out (fun k_ hk => (⟨hk,fun e_ => hk.1 (by rw [e_];rfl)⟩ : _ ∧ k_ ≠ go42))) (fun _ hk => hk.2) (.int .u64 t159)) (fun _ hk => ⟨hk.1.1,hk.1.2⟩)⟩,⟨by (try simp only [hl2_1]);(try simp only [hl11_2]);(try simp only [hl12_2]);(with_reducible repeat (first|apply Kd.R_alloc|apply Kd.R_drewN|apply Kd.R_drew));exact HQ44.out⟩,⟨by (try simp only [hl2_1]);(try simp only [hl11_2]);(try simp only [hl12_2]);(with_reducible repeat (first|apply Kd.R_alloc|apply Kd.R_drewN|apply Kd.R_drew));exact Kd.R_mono (Kd.R_far (p := ⟨go42,((ji37) : Int).toNat,none⟩) (Kd.R_mono HO_12.out (fun k_ hk => (⟨hk,fun e_ => hk.2.1 (by rw [e_];rfl)⟩ : _ ∧ k_ ≠ go42))) (fun _ hk => hk.2) (.int .u64 t159)) (fun _ hk => ⟨hk.1.1,⟨hk.1.2.1,hk.1.2.2⟩⟩)⟩,⟨by (try simp only [hl2_1]);(try simp only [hl11_2]);(try simp only [hl12_2]);(with_reducible repeat (first|apply Kd.R_alloc|apply Kd.R_drewN|apply Kd.R_drew));exact Kd.R_mono (Kd.R_far (p := ⟨go42,((ji37) : Int).toNat,none⟩) (Kd.R_mono HO_66.out (fun k_ hk => (⟨hk,fun e_ => hk.1 (by rw [e_];rfl)⟩ : _ ∧ k_ ≠ go42))) (fun _ hk => hk.2) (.int .u64 t159)) (fun _ hk => ⟨hk.1.1,hk.1.2⟩)⟩,⟨by repeat (first|(with_reducible first|exact HB.out|apply below_alloc|apply pw_below_drewN|apply below_drew1|refine below_set ?_ GB42.out)|exact HB.out)⟩⟩
                   ·rw [if_neg c39] at H
                    exact absurd H (by simp)
                  ·rw [if_neg c38] at H
                   exact absurd H (by simp)
                 ·rw [if_neg c36] at H
                  exact absurd H (by simp)
                ·rw [if_neg c35] at H
                 exact absurd H (by simp)
               ·rw [if_neg c34] at H
                have c34b0 : decide (x68_2 < (x2_1.length : Int)) = false := decide_eq_false c34
                clear c34
                replace H := Option.bind_eq_some_iff.mp H
                obtain ⟨t161,A450,H⟩ := H
                try dsimp only at H
                have A45 := am A450
                clear A450
                have H' := am H
                clear H
                go_wp2_with (first|((with_reducible refine gate_callee (f := 83) rfl ?_);refine goesL_ (some 92) rfl rfl Try.func83 (by kernel_rfl) rfl #[.slice (some ad153) x11_2.length co31] rfl (by (try simp only [List.map_toArray,List.map_cons,List.map_nil]);first|done|rfl|(simp only [List.length_drop,List.length_take];rfl)) ?_;(with_reducible refine (poly_Trim.calls k2 _ _ x11_2 t161 _ ?side1 ?side2 A45.out).mono ?_);(case side1 => exact cr HO_11);(case side2 => exact (Kd.R_reads' HO_11.out).2.1);rintro e w46 ⟨v162,rfl,ho0,hb⟩;refine ⟨_,rfl,?_⟩;have n0_ := am (Kd.R_elder' (rr HO_2) (Kd.R_base ho0) hb);have n1_ := am (Kd.R_elder' (rr HO_11) (Kd.R_base ho0) hb);have n2_ := am (Kd.R_elder' (rr HO_12) (Kd.R_base ho0) hb);have n3_ := am (Kd.R_elder' (rr HO_66) (Kd.R_base ho0) hb);have n4_ := am (Kd.R_lower (Kd.R_new' (Kd.R_new' (Kd.R_new' (Kd.R_new' ho0 (Kd.R_lt (rr HO_2))) (Kd.R_lt (rr HO_11))) (Kd.R_lt (rr HO_12))) (Kd.R_lt (rr HO_66))) (below_size (bb HB)));have n5_ := am (below_step (bb HB) hb);clear HO_2 HO_11 HO_12 HO_66 HB;have HO_2 := n0_;have HO_11 := n1_;have HO_12 := n2_;have HO_66 := n3_;have HO163 := n4_;have HB := n5_;clear n0_ n1_ n2_ n3_ n4_ n5_;(try clear hb);(try clear hb2);(try clear hk);(try clear hi);(try clear ho0)))
                (try simp only [← hl2_1,← hl11_2,← hl12_2])
                (try rw [show (⟨go42,ji23.toNat,none⟩ : Addr) = (⟨go42,0,none⟩ : Addr).add ji23.toNat from by rw [Addr.add_lit,Nat.zero_add]])
                go_roundg k2
                case measure => have := HK1.out;have := HK2.out;omega
                case rel => exact ⟨(x2_1),(t161),(y155),H',⟨by have := HK1.out;have := HK2.out;omega⟩,⟨by (try simp only [hl2_1]);(try simp only [hl11_2]);(try simp only [hl12_2]);(with_reducible repeat (first|apply Kd.R_alloc|apply Kd.R_drewN|apply Kd.R_drew));exact Kd.R_mono HO_2.out (fun _ hk => ⟨hk.2,hk.1.2⟩)⟩,⟨by (try simp only [hl2_1]);(try simp only [hl11_2]);(try simp only [hl12_2]);(with_reducible repeat (first|apply Kd.R_alloc|apply Kd.R_drewN|apply Kd.R_drew));exact Kd.R_mono HO163.out (fun _ hk => ⟨hk.1.1.1.2,hk.1.2⟩)⟩,⟨by (try simp only [hl2_1]);(try simp only [hl11_2]);(try simp only [hl12_2]);(with_reducible repeat (first|apply Kd.R_alloc|apply Kd.R_drewN|apply Kd.R_drew));exact Kd.R_mono HO_12.out (fun _ hk => ⟨hk.1.1,hk.2⟩)⟩,⟨bb HB⟩⟩
            ·rw [if_neg c29] at H
             exact absurd H (by simp)
           ·rw [if_neg c28] at H
            exact absurd H (by simp)
          ·rw [if_neg c25] at H
           exact absurd H (by simp)
         ·rw [if_neg c24] at H
          exact absurd H (by simp)
        ·rw [if_neg c22] at H
         have c22b0 : decide ((x2_1.length : Int) ≤ (x11_1.length : Int)) = false := decide_eq_false c22
         have c22b1 : decide (x2_1.length ≤ x11_1.length) = false := decide_eq_false (fun h => c22 (Int.ofNat_le.mpr h))
         clear c22
         replace H := Option.bind_eq_some_iff.mp H
         obtain ⟨t150,A470,H⟩ := H
         try dsimp only at H
         have A47 := am A470
         clear A470
         simp only [Option.some.injEq,Prod.mk.injEq] at H
         obtain ⟨rfl,rfl,rfl⟩ := H
         obtain ⟨Ao48,co48,eo48⟩ := Kd.R_slice HO_11.out
         subst eo48
         obtain ⟨Ao49,co49,eo49⟩ := Kd.R_slice HO_12.out
         subst eo49
         go_wp2_with (first|((with_reducible refine gate_callee (f := 83) rfl ?_);refine goesL_ (some 94) rfl rfl Try.func83 (by kernel_rfl) rfl #[.slice Ao49 x12_1.length co49] rfl (by (try simp only [List.map_toArray,List.map_cons,List.map_nil]);first|done|rfl|(simp only [List.length_drop,List.length_take];rfl)) ?_;(with_reducible refine (poly_Trim.calls k1 _ _ x12_1 t150 _ ?side1 ?side2 A47.out).mono ?_);(case side1 => exact cr HO_12);(case side2 => exact (Kd.R_reads' HO_12.out).2.1);rintro e w50 ⟨v151,rfl,ho0,hb⟩;refine ⟨_,rfl,?_⟩;have n0_ := am (Kd.R_elder' (rr HO_2) (Kd.R_base ho0) hb);have n1_ := am (Kd.R_elder' (rr HO_11) (Kd.R_base ho0) hb);have n2_ := am (Kd.R_elder' (rr HO_12) (Kd.R_base ho0) hb);have n3_ := am (Kd.R_lower (Kd.R_new' (Kd.R_new' (Kd.R_new' ho0 (Kd.R_lt (rr HO_2))) (Kd.R_lt (rr HO_11))) (Kd.R_lt (rr HO_12))) (below_size (bb HB)));have n4_ := am (below_step (bb HB) hb);clear HO_2 HO_11 HO_12 HB;have HO_2 := n0_;have HO_11 := n1_;have HO_12 := n2_;have HO152 := n3_;have HB := n4_;clear n0_ n1_ n2_ n3_ n4_;(try clear hb);(try clear hb2);(try clear hk);(try clear hi);(try clear ho0)))
         go_ret3
         exact ⟨_,_,by first|rfl|(simp [errW_none,errW_some] <;> rfl)|(simp only [← hji8,← hji13];first|rfl|(simp [errW_none,errW_some] <;> rfl))|(simp [*,errW_none,errW_some] <;> rfl),by (with_reducible repeat (first|apply Kd.R_alloc|apply Kd.R_drewN|apply Kd.R_drew));exact Kd.R_mono HO152.out (fun _ hk => hk.1.2),by (with_reducible repeat (first|apply Kd.R_alloc|apply Kd.R_drewN|apply Kd.R_drew));exact Kd.R_mono HO_11.out (fun _ hk => hk.2),bb HB⟩
     ·rw [if_neg c15] at H
      exact absurd H (by simp)
    ·rw [if_neg c14] at H
     exact absurd H (by simp)
   ·rw [if_neg c10] at H
    exact absurd H (by simp)
  ·rw [if_neg c9] at H
   exact absurd H (by simp)
def poly_Sub.f (k : Nat) (a0 : Int) (l1 : List Int) (l2 : List Int) : Option (List Int) := (poly_Scale.f k a0 (IntKind.u64.wrap (a0 - 1)) l2).bind fun t164 => ((poly_Add.f a0 l1 t164).bind fun t167 => (some t167))
set_option maxHeartbeats 8000000 in
set_option maxRecDepth 100000 in
theorem poly_Sub.calls (k : Nat) (a0 : Int) (A1 : Option Addr) (c1 : Nat) (l1 : List Int) (A2 : Option Addr) (c2 : Nat) (l2 : List Int) (r : List Int) (w : World) (hr1 : Kd.C (Kd.int .u64) w A1 l1.length l1) (hc1 : l1.length ≤ c1) (hr2 : Kd.C (Kd.int .u64) w A2 l2.length l2) (hc2 : l2.length ≤ c2) (h : poly_Sub.f k a0 l1 l2 = some r) :
  Calls Try.prog 51 #[.int .u64 a0,.slice A1 l1.length c1,.slice A2 l2.length c2] w fun e w' => ∃ v0_ : Value,e = .returned (v0_) ∧ Kd.R (Kd.int .u64) 22 w' w.heap.size (fun _ => True) v0_ r ∧ Below w.heap.size w w' := by
 have HR1 := am hr1
 have HC1 := am hc1
 clear hr1 hc1
 have HR2 := am hr2
 have HC2 := am hc2
 clear hr2 hc2
 have HB := am (Below.refl w.heap.size w)
 have H : ((poly_Scale.f k a0 (IntKind.u64.wrap (a0 - 1)) l2).bind fun t164 => ((poly_Add.f a0 l1 t164).bind fun t167 => (some t167))) = some r := h
 clear h
 replace H := Option.bind_eq_some_iff.mp H
 obtain ⟨t164,A40,H⟩ := H
 try dsimp only at H
 have A4 := am A40
 clear A40
 replace H := Option.bind_eq_some_iff.mp H
 obtain ⟨t167,A50,H⟩ := H
 try dsimp only at H
 have A5 := am A50
 clear A50
 obtain rfl := Option.some.inj H
 go_enter Try.func51,Try.ntmps51
 go_wp2_with (first|((with_reducible refine gate_callee (f := 81) rfl ?_);refine goesL_ (some 13) rfl rfl Try.func81 (by kernel_rfl) rfl #[.int .u64 a0,.int .u64 (IntKind.u64.wrap (a0 - 1)),.slice A2 l2.length c2] rfl (by (try simp only [List.map_toArray,List.map_cons,List.map_nil]);first|done|rfl|(simp only [List.length_drop,List.length_take];rfl)) ?_;(with_reducible refine (poly_Scale.calls k a0 (IntKind.u64.wrap (a0 - 1)) _ _ l2 t164 _ ?side1 ?side2 A4.out).mono ?_);(case side1 => repeat (first|exact HR2.out|(with_reducible refine Kd.C_alloc ?_ _)|(with_reducible refine Kd.C_drewN ?_ _)|(with_reducible refine Kd.C_drew ?_)));(case side2 => exact HC2.out);rintro e w6 ⟨v165,rfl,ho0,hb⟩;refine ⟨_,rfl,?_⟩;have n0_ := am (Kd.R_lower ho0 (below_size (bb HB)));have n1_ := am (below_step (bb HB) hb);clear HB;have HO166 := n0_;have HB := n1_;clear n0_ n1_;(try clear hb);(try clear hb2);(try clear hk);(try clear hi);(try clear ho0);obtain ⟨Ao7,co7,eo7⟩ := Kd.R_slice HO166.out;subst eo7)|((with_reducible refine gate_callee (f := 80) rfl ?_);refine goesL_ (some 14) rfl rfl Try.func80 (by kernel_rfl) rfl #[.int .u64 a0,.slice A1 l1.length c1,.slice Ao7 t164.length co7] rfl (by (try simp only [List.map_toArray,List.map_cons,List.map_nil]);first|done|rfl|(simp only [List.length_drop,List.length_take];rfl)) ?_;(with_reducible refine (poly_Add.calls a0 _ _ l1 _ _ t164 t167 _ ?side1 ?side2 ?side3 ?side4 A5.out).mono ?_);(case side1 => exact cb HR1 HB);(case side2 => exact HC1.out);(case side3 => exact cr HO166);(case side4 => exact (Kd.R_reads' HO166.out).2.1);rintro e w8 ⟨v168,rfl,ho0,hb⟩;refine ⟨_,rfl,?_⟩;have n0_ := am (Kd.R_elder' (rr HO166) (Kd.R_base ho0) hb);have n1_ := am (Kd.R_lower (Kd.R_new' ho0 (Kd.R_lt (rr HO166))) (below_size (bb HB)));have n2_ := am (below_step (bb HB) hb);clear HO166 HB;have HO166 := n0_;have HO169 := n1_;have HB := n2_;clear n0_ n1_ n2_;(try clear hb);(try clear hb2);(try clear hk);(try clear hi);(try clear ho0)))
 go_ret
 exact ⟨_,by first|rfl|(simp [errW_none,errW_some] <;> rfl)|(simp [*,errW_none,errW_some] <;> rfl),by (with_reducible repeat (first|apply Kd.R_alloc|apply Kd.R_drewN|apply Kd.R_drew));exact Kd.R_mono HO169.out (fun _ hk => trivial),bb HB⟩
end Go.Proofs.Ytejeelpnmdfibaa.Pr
end
section
namespace Go.Proofs.Ytejeelpnmdfibaa.Hw
open Go.RowKit Go.Proofs.Ytejeelpnmdfibaa.Pr Go.Proofs.YtejeelpnmdfibaaW.PrintWords Go.Proofs.YtejeelpnmdfibaaW.PrintLast Go.Proofs.YtejeelpnmdfibaaW.PrintMore Go.Proofs.Ytejeelpnmdfibaa.E
section
variable {P : Program} {ops : Array Oper} {Q : Exit → Act → World → Prop}
theorem goesC_ {oi : Oper} {N : Option Tmp} {a : Act} {w : World} {K : Act → World → Prop} {f : FuncId} {fn : Func} {cal : Operand} {as_ : Array Operand} {ts : Array TypeId} (hf : P.funcs[f]? = some fn) (hname : (fn.name == "runtime.NumGoroutine") = false) (hb : fn.body.isSome = true) (lb args : Array Value)
  (hw : Region.wanted oi (yielded ops a.tmps) = true) (hN : oi.dst = N) (hop : oi.op = .call { callee := .value cal,args := as_,argTypes := ts }) (hc : a.eval cal = .func (.func f) #[] lb) (hargs : as_.map a.eval = args)
  (h : Calls P f (args ++ lb) w fun e w' => ∃ v,e = .returned v ∧ K (a.put N v) w') : if Region.wanted oi (yielded ops a.tmps) = true then Oper.wp P oi a w K Q else K (a.put N undef) w := by
 refine call_ f (args ++ lb) hw hN ?_ h
 have he := enters_ hf hname hb (args ++ lb) w
 unfold execOp
 simp [hop,resolve,Deferred.ofValue,invoke,hc,hargs,he]
end
theorem R_far {e base g : Nat} {w w1 : World} {v : Value} {xs : List Int} (h : Kd.R (Kd.int .u64) e w base (fun k => k < g ∨ g < k) v xs) (hm : ∀ b,b ≠ g → w1.heap[b]? = w.heap[b]?) : Kd.R (Kd.int .u64) e w1 base (fun k => k < g ∨ g < k) v xs :=
 Kd.R_move h fun k hk => hm k (by omega)
theorem R_fresh {e base b0 g : Nat} {ok : Nat → Prop} {w : World} {v : Value} {xs : List Int} (h : Kd.R (Kd.int .u64) e w base ok v xs) (hb : b0 ≤ base) (hg : g < base) : Kd.R (Kd.int .u64) e w b0 (fun k => k < g ∨ g < k) v xs :=
 Kd.R_lower (Kd.R_mono (Kd.R_bound h) fun k hk => Or.inr (by have := hk.2.1;omega)) hb
theorem R_any {e base : Nat} {ok : Nat → Prop} {w : World} {v : Value} {xs : List Int} (h : Kd.R (Kd.int .u64) e w base ok v xs) : Kd.R (Kd.int .u64) e w 0 (fun _ => True) v xs :=
 Kd.R_lower (Kd.R_mono h fun _ _ => trivial) (Nat.zero_le _)
theorem R_before {e base g : Nat} {ok : Nat → Prop} {w : World} {v : Value} {xs : List Int} (h : Kd.R (Kd.int .u64) e w base ok v xs) (hg : w.heap.size ≤ g) : Kd.R (Kd.int .u64) e w base (fun k => k < g ∨ g < k) v xs :=
 Kd.R_mono (Kd.R_bound h) fun k hk => Or.inl (by have := hk.2.2.1;omega)
theorem R_highs {e base b0 : Nat} {w : World} {v : Value} {xs : List Int} (h : Kd.R (Kd.int .u64) e w base (fun _ => True) v xs) (hb : b0 ≤ base) : Kd.R (Kd.int .u64) e w b0 (fun k => base ≤ k) v xs :=
 Kd.R_lower (Kd.R_mono (Kd.R_bound h) fun k hk => hk.2.1) hb
theorem R_lows {e base g : Nat} {w : World} {v : Value} {xs : List Int} (h : Kd.R (Kd.int .u64) e w base (fun k => k < g ∨ g < k) v xs) : Kd.R (Kd.int .u64) e w base (fun k => k ≠ g ∧ k < w.heap.size) v xs :=
 Kd.R_mono (Kd.R_bound h) fun k hk => ⟨by have := hk.1;omega,hk.2.2.1⟩
theorem low_far {e base g B : Nat} {w w1 : World} {v : Value} {xs : List Int} (h : Kd.R (Kd.int .u64) e w base (fun k => k ≠ g ∧ k < B) v xs) (hm : ∀ b,b ≠ g → w1.heap[b]? = w.heap[b]?) : Kd.R (Kd.int .u64) e w1 base (fun k => k ≠ g ∧ k < B) v xs :=
 Kd.R_move h fun k hk => hm k hk.1
theorem high_far {e base g B : Nat} {w w1 : World} {v : Value} {xs : List Int} (h : Kd.R (Kd.int .u64) e w base (fun k => B ≤ k) v xs) (hg : g < B) (hm : ∀ b,b ≠ g → w1.heap[b]? = w.heap[b]?) : Kd.R (Kd.int .u64) e w1 base (fun k => B ≤ k) v xs :=
 Kd.R_move h fun k hk => hm k (by have : B ≤ k := hk;omega)
theorem low_not {e base B : Nat} {w : World} {v : Value} {xs : List Int} (h : Kd.R (Kd.int .u64) e w base (fun k => B ≤ k) v xs) {k : Nat} (hk : k < B) : some k ≠ v.ownBlock := by
 intro he
 have : B ≤ k := h.1 k he.symm
 omega
theorem low_grown {e e' base base' g B : Nat} {w w1 : World} {u v : Value} {xs ys : List Int} (h : Kd.R (Kd.int .u64) e w base (fun k => k ≠ g ∧ k < B) u xs) (hv : Kd.R (Kd.int .u64) e' w base' (fun k => B ≤ k) v ys) (hg : w.grownBy w1 v.ownBlock) : Kd.R (Kd.int .u64) e w1 base (fun k => k ≠ g ∧ k < B) u xs :=
 Kd.R_grown h hg fun k hk => low_not hv hk.2
theorem left_drop {w : World} {A : Option Addr} {c m : Nat} {xs : List Int} (h : Kd.C (Kd.int .u64) w A xs.length xs) (hm : m ≤ xs.length) (hc : xs.length ≤ c) : Kd.C (Kd.int .u64) w (dropA A c m) (xs.drop m).length (xs.drop m) := by
 have := Kd.C_drop h hm hc
 rw [show m * (Kd.int .u64).sz = m from Nat.mul_one m] at this
 exact this
theorem drawn_belowT {w w' : World} (h : Drawn0 w w') : Below w.heap.size w w' := by
 obtain ⟨nd,rfl⟩ := h
 exact pw_below_drewN (Below.refl _ _) nd
def LeftL (w W : World) (g : Nat) (xs : List Int) : Prop := ∃ (A : Option Addr) (c : Nat),LeftAt W g A xs.length c ∧ Kd.C (Kd.int .u64) w A xs.length xs ∧ xs.length ≤ c
theorem left_step {w W : World} {g c m k : Nat} {A : Option Addr} {xs ys : List Int} (hx : xs = ys.drop k) (hc : xs.length ≤ c) (hm : m ≤ xs.length) (h : Kd.C (Kd.int .u64) w A xs.length xs) (hl : LeftAt W g (dropA A c m) (xs.length - m) (c - m)) {k' : Nat} (hk : k' = k + m) : LeftL w W g (ys.drop k') := by
 have e : ys.drop k' = xs.drop m := by rw [hx,List.drop_drop,hk]
 rw [e]
 refine ⟨dropA A c m,c - m,?_,left_drop h hm hc,by rw [List.length_drop];omega⟩
 rw [List.length_drop]
 exact hl
theorem left_start {w W : World} {g c m k : Nat} {A : Option Addr} {ys : List Int} (h : Kd.C (Kd.int .u64) w A ys.length ys) (hc : ys.length ≤ c) (hm : m + m ≤ ys.length) (hl : LeftAt W g (dropA (dropA A c m) (c - m) m) (ys.length - m - m) (c - m - m)) (hk : k = m + m) : LeftL w W g (ys.drop k) := by
 have h1 := left_drop h (m := m) (by omega) hc
 have e : ys.drop k = (ys.drop m).drop m := by rw [List.drop_drop,hk]
 have h2 := left_drop (c := c - m) (m := m) h1 (by rw [List.length_drop];omega) (by rw [List.length_drop];omega)
 rw [e]
 refine ⟨_,c - m - m,?_,h2,by rw [List.length_drop,List.length_drop];omega⟩
 rw [List.length_drop,List.length_drop]
 exact hl
theorem tri_rest {T O : Nat} {l : List Int} (hT : T = 1 ∨ T = 2) (hO : O = T * (T + 1) / 2) (hl : l.length = (T + 3) * (T * (T + 1) / 2)) : (T = 1 ∧ O = 1 ∧ l.length = 4) ∨ (T = 2 ∧ O = 3 ∧ l.length = 15) := by
 rcases hT with rfl|rfl
 ·exact Or.inl ⟨rfl,hO,hl⟩
 ·exact Or.inr ⟨rfl,hO,hl⟩
theorem tri_len2 {T m O : Nat} (h : m ≤ T) : (m + 2) * O + O ≤ (T + 3) * O := by
 have := Nat.mul_le_mul_right O (show m + 2 + 1 ≤ T + 3 by omega)
 rwa [Nat.succ_mul] at this
theorem tri_len {T m : Nat} (h : m < T) : m * T + T ≤ T * T := by
 have := Nat.mul_le_mul_right T (Nat.succ_le_of_lt h)
 rwa [Nat.succ_mul] at this
theorem mv_one (p t : Int) (A : Option Addr) (n c : Nat) : (#[.int .u64 p,.int .i64 t,.slice A n c] : Array Value).all (·.oneCell') = true := by simp only [List.all_toArray,List.all_cons,List.all_nil];rfl
def catF (f : Nat → List Int) : Nat → List Int
 | 0 => []
 | m + 1 => catF f m ++ f (m + 1)
theorem catF_len {f : Nat → List Int} {T : Nat} (h : ∀ j,j ≤ T → (f j).length ≤ 1000) : ∀ m,m ≤ T → (catF f m).length ≤ 1000 * m
 | 0,_ => by simp [catF]
 | m + 1,hm => by
  have := catF_len h m (by omega)
  have := h (m + 1) hm
  rw [catF,List.length_append]
  omega
set_option maxHeartbeats 16000000 in
set_option maxRecDepth 100000 in
theorem triple_walk (p N : Int) (T : Nat) (hT : T = 1 ∨ T = 2) (Ab : Option Addr) (cb : Nat) (bad : List Int) (da db : Int) (Ah : Option Addr) (ch : Nat) (head : List Int) (Ar : Option Addr) (cr : Nat) (rests : List Int)
  (z na nb m1 m2 more q r : List Int) (er : Int) (kz ka kb ks kd : Nat) (kn : Nat → Nat) (cf : Nat → Int) (nH nR : Nat → List Int) (ra rb : List Int)
  (w : World) (hrb : Kd.C (Kd.int .i64) w Ab bad.length bad) (hcb : bad.length ≤ cb) (hrh : Kd.C (Kd.int .u64) w Ah head.length head) (hch : head.length ≤ ch) (hrr : Kd.C (Kd.int .u64) w Ar rests.length rests) (hcr : rests.length ≤ cr)
  (lh : head.length = 2 * (T + 1) + T * T) (lr : rests.length = (T + 3) * (T * (T + 1) / 2))
  (fz : tapeshift_of.f kz p N (T : Int) bad = some (p,(T : Int),z))
  (fa : tapeshift_mover_by.f ka p (T : Int) z da (head.take (T + 1)) = some na) (fb : tapeshift_mover_by.f kb p (T : Int) z db ((head.drop (T + 1)).take (T + 1)) = some nb)
  (fm1 : poly_Mul.f p na nb = some m1) (fm2 : poly_Mul.f p (head.take (T + 1)) ((head.drop (T + 1)).take (T + 1)) = some m2) (fs : poly_Sub.f ks p m1 m2 = some more) (fd : poly_DivMod.f kd p more z = some (q,r,er))
  (fc : ∀ j,j ≤ T → poly_Coefficient.f q (j : Int) = some (cf j))
  (fn : ∀ j,j < T → tapeshift_mover_by.f (kn j) p (T : Int) z (cf (j + 1)) ((head.drop (2 * (T + 1) + j * T)).take T) = some (nH (j + 1)))
  (fra : tapeshift_mover_rest.f p (T : Int) z da (rests.take (T * (T + 1) / 2)) = some ra) (frb : tapeshift_mover_rest.f p (T : Int) z db ((rests.drop (T * (T + 1) / 2)).take (T * (T + 1) / 2)) = some rb)
  (frn : ∀ j,j < T → tapeshift_mover_rest.f p (T : Int) z (cf (j + 1)) ((rests.drop ((j + 2) * (T * (T + 1) / 2))).take (T * (T + 1) / 2)) = some (nR (j + 1)))
  (fr0 : tapeshift_mover_rest.f p (T : Int) z (cf 0) ((rests.drop ((T + 2) * (T * (T + 1) / 2))).take (T * (T + 1) / 2)) = some (nR 0))
  (lna : na.length = T + 1) (lnb : nb.length = T + 1) (lq : q.length ≤ 1000) (lnH : ∀ j,j ≤ T → (nH j).length ≤ 1000) (lnR : ∀ j,j ≤ T → (nR j).length ≤ 1000) (lra : ra.length ≤ 1000) (lrb : rb.length ≤ 1000) :
  Calls Try.prog 25 #[.agg #[.int .u64 p,.int .i64 N,.int .i64 (T : Int)],.slice Ab bad.length cb,.int .u64 da,.int .u64 db,.slice Ah head.length ch,.slice Ar rests.length cr] w fun e w' => ∃ v0_ v1_ : Value,e = .returned (.tuple #[v0_,v1_]) ∧ Kd.R (Kd.int .u64) 22 w' w.heap.size (fun k_ => some k_ ≠ (v1_ : Value).ownBlock) v0_ (na ++ nb ++ catF nH T) ∧ Kd.R (Kd.int .u64) 22 w' w.heap.size (fun k_ => some k_ ≠ (v0_ : Value).ownBlock) v1_ (ra ++ rb ++ catF nR T ++ nR 0) ∧ Below w.heap.size w w' := by
 have HRB_ := am hrb
 have HRH_ := am hrh
 have HRR_ := am hrr
 have LH_ := am lh
 have LR_ := am lr
 have FZ_ := am fz
 have FA_ := am fa
 have FB_ := am fb
 have FM1_ := am fm1
 have FM2_ := am fm2
 have FS_ := am fs
 have FD_ := am fd
 have FC_ := am fc
 have FN_ := am fn
 have FRA_ := am fra
 have FRB_ := am frb
 have FRN_ := am frn
 have FR0_ := am fr0
 have LNA_ := am lna
 have LNB_ := am lnb
 have LQ_ := am lq
 have LNH_ := am lnH
 have LNR_ := am lnR
 have LRA_ := am lra
 have LRB_ := am lrb
 have HT_ := am hT
 clear hrb hrh hrr lh lr fz fa fb fm1 fm2 fs fd fc fn fra frb frn fr0 lna lnb lq lnH lnR lra lrb hT
 obtain ⟨ha,hha⟩ : ∃ y,y = head.take (T + 1) := ⟨_,rfl⟩
 obtain ⟨hb_,hhb⟩ : ∃ y,y = (head.drop (T + 1)).take (T + 1) := ⟨_,rfl⟩
 have HHA := am hha
 have HHB := am hhb
 clear hha hhb
 have HB := am (Below.refl w.heap.size w)
 have hi24 : (Try.prog.info? 24).map (·.size) = some 3 := by kernel_rfl
 have hi59 : (Try.prog.info? 59).map (·.size) = some 3 := by kernel_rfl
 have HI59 := am hi59
 clear hi24 hi59
 have hT1 : wrap64 ((T : Int) + 1) = ((T + 1 : Nat) : Int) := by have := HT_.out;rw [wrap64];omega
 go_enter Try.func25,Try.ntmps25
 go_wp2_with (first
  | ((with_reducible refine gate_dst (N := 6) rfl ?_);refine box_event ?hg (N := 6) ?hd (cs := #[.int .u64 p,.int .i64 N,.int .i64 (T : Int)]) (t := 24) ?hr ?_;(case hd => rfl);(case hg => rfl);(case hr => first|(go_simp;done)|(go_simp;rfl));intro gs hg w1 hbox hb;have BS := am hbox;have s0 : w1.cell? ⟨gs,0,none⟩ = some (.int .u64 p) := (blk_cell BS.out 0).trans rfl;have s1 : w1.cell? ⟨gs,1,none⟩ = some (.int .i64 N) := (blk_cell BS.out 1).trans rfl;have s2 : w1.cell? ⟨gs,2,none⟩ = some (.int .i64 (T : Int)) := (blk_cell BS.out 2).trans rfl;clear HB;have HB := am hb;clear hbox hb hg)
  | (go_at_call 43;(with_reducible refine (tapeshift_of.calls kz p N (T : Int) Ab cb bad p (T : Int) z _ (Kd.C_below HRB_.out HB.out) hcb FZ_.out).mono ?_);rintro e w2 ⟨v2,rfl,ho,hb⟩;obtain ⟨Az,cz,ez⟩ := Kd.R_slice ho;subst ez;have RZ := am (Kd.R_lower ho (below_size HB.out));have n_ := am (below_step HB.out hb);clear HB;have HB := n_;clear n_ ho hb s0 s1 s2 BS)
  | ((with_reducible refine gate_dst (N := 14) rfl ?_);refine box_event ?hg (N := 14) ?hd (cs := #[.int .u64 0,.int .i64 0,.slice none 0 0]) (t := 59) ?hr ?_;(case hd => rfl);(case hg => rfl);(case hr => first|(go_simp;done)|(go_simp;rfl));intro gm hg w3 hbox hb;have GE := am (show w2.heap.size ≤ gm from Nat.le_of_eq hg.symm);have BP := am hb;have GM := am hbox;clear hbox hb hg)
  | ((with_reducible refine gate_store (p := 14) rfl ?_);refine st_row rfl 59 (.tmp 14) (.tmp 31) rfl gm #[.int .u64 p,.int .i64 (T : Int),.slice Az z.length cz] (by rfl) (by rfl) 59 #[.int .u64 0,.int .i64 0,.slice none 0 0] GM.out HI59.out rfl (mv_one _ _ _ _ _) ?_;intro w4 hbk hbw hbo;have hb := hbw _ _ GE.out BP.out;clear BP hbw hbo;have n_ := am (below_step HB.out hb);have k_ := am (Kd.R_below RZ.out hb);have GW := am (Nat.le_trans (below_size HB.out) GE.out);clear HB RZ GM GE;have HB := n_;have RZ := k_;have GM := am hbk;clear hb hbk n_ k_)
  | (go_at_call 50;(with_reducible refine (cutter_walk Ah head.length ch _).mono ?_);rintro e w5 ⟨g1,rfl,hge,hl,hb⟩;have NE := am (show gm ≠ g1 from Nat.ne_of_lt (Nat.lt_of_lt_of_le (blk_lt GM.out) hge));have G1W := am (Nat.le_trans (below_size HB.out) hge);have LF := am hl;have n_ := am (below_step HB.out hb);have k_ := am (Kd.R_below (R_before RZ.out hge) hb);have j_ := am (blk_below GM.out hb);clear HB RZ GM;have HB := n_;have RZ := k_;have GM := j_;clear n_ k_ j_ hge hl hb))
 refine start_ (n := 12) (S := (fun w' => w'.cell? ⟨gm,0,none⟩ = some (.int .u64 p) ∧ w'.cell? ⟨gm,1,none⟩ = some (.int .i64 (T : Int)) ∧ w'.cell? ⟨gm,2,none⟩ = some (.slice Az z.length cz))) (ds := []) (bz 12 0) (by kernel_rfl) rfl rfl ⟨(blk_cell GM.out 0).trans rfl,(blk_cell GM.out 1).trans rfl,(blk_cell GM.out 2).trans rfl⟩ (fun hHeld => ?_)
 refine pu 0 34 (bz 12 1) ?_
 refine pu 1 35 (bz 12 3) ?_
 refine tu 2 36 (bz 12 7) hHeld ?_
 refine pu 3 37 (bz 12 15) ?_
 refine pu 5 39 (bz 12 47) ?_
 refine pu 6 40 (bz 12 111) ?_
 refine tu 7 41 (bz 12 239) hHeld ?_
 refine pu 8 42 (bz 12 495) ?_
 refine one_ (i := 4) (N := some 38) (bz 12 511) rfl rfl (by kernel_rfl) (by decide) (fun K hK => ?_)
 refine goesC_ Try.func79 (by kernel_rfl) rfl #[.pointer (some ⟨g1,0,none⟩)] #[.int .i64 (wrap64 ((T : Int) + 1))] (by rfl) rfl rfl (by rfl) (by (try simp only [List.map_toArray,List.map_cons,List.map_nil]);first|done|rfl) ?_
 show Calls Try.prog 79 #[.int .i64 (wrap64 ((T : Int) + 1)),.pointer (some ⟨g1,0,none⟩)] _ _
 rw [hT1]
 refine (take_walk g1 Ah head.length ch (T + 1) _ (by exact blk_drew LF.out) hch (by have := LH_.out;omega)).mono ?_
 rintro e w101 ⟨rfl,hl,ho,hbw⟩
 have n_ := am (hbw _ _ G1W.out (below_drew HB.out))
 have nRZ := am (R_far (Kd.R_drew RZ.out) ho)
 have nGM := am ((ho gm NE.out).trans (blk_drew GM.out))
 have nLF := am hl
 clear HB GM LF RZ
 have HB := n_
 have GM := nGM
 have LF := nLF
 have RZ := nRZ
 clear hl ho hbw n_ nGM nLF nRZ
 refine ⟨_,rfl,?_⟩
 clear hHeld
 refine hK.out _ _ ⟨(blk_cell GM.out 0).trans rfl,(blk_cell GM.out 1).trans rfl,(blk_cell GM.out 2).trans rfl⟩ (fun hHeld => ?_)
 clear hK K
 refine nm 38 ?_
 refine one_ (i := 9) (N := some 43) (bz 12 1023) rfl rfl (by kernel_rfl) (by decide) (fun K hK => ?_)
 refine goesC_ Try.func79 (by kernel_rfl) rfl #[.pointer (some ⟨g1,0,none⟩)] #[.int .i64 ((T + 1 : Nat) : Int)] (by rfl) rfl rfl (by rfl) (by (try simp only [List.map_toArray,List.map_cons,List.map_nil]);first|done|rfl) ?_
 show Calls Try.prog 79 #[.int .i64 ((T + 1 : Nat) : Int),.pointer (some ⟨g1,0,none⟩)] _ _
 refine (take_walk g1 (dropA Ah ch (T + 1)) (head.length - (T + 1)) (ch - (T + 1)) (T + 1) _ (by exact LF.out) (by omega) (by have := LH_.out;omega)).mono ?_
 rintro e w102 ⟨rfl,hl,ho,hbw⟩
 have n_ := am (hbw _ _ G1W.out (HB.out))
 have nRZ := am (R_far RZ.out ho)
 have nGM := am ((ho gm NE.out).trans GM.out)
 have nLF := am hl
 clear HB GM LF RZ
 have HB := n_
 have GM := nGM
 have LF := nLF
 have RZ := nRZ
 clear hl ho hbw n_ nGM nLF nRZ
 refine ⟨_,rfl,?_⟩
 clear hHeld
 refine hK.out _ _ ⟨(blk_cell GM.out 0).trans rfl,(blk_cell GM.out 1).trans rfl,(blk_cell GM.out 2).trans rfl⟩ (fun hHeld => ?_)
 clear hK K
 refine nm 43 ?_
 refine pu 10 16 (bz 12 2047) ?_
 refine pu 11 17 (bz 12 4095) ?_
 clear hHeld
 refine done_ (by kernel_rfl) ?_
 have hla : ha.length = T + 1 := by rw [HHA.out,List.length_take];have := LH_.out;omega
 have hlb : hb_.length = T + 1 := by rw [HHB.out,List.length_take,List.length_drop];have := LH_.out;omega
 have CA := am (show Kd.C (Kd.int .u64) w Ah ha.length ha by rw [HHA.out];exact Kd.C_take HRH_.out (by have := LH_.out;omega))
 have CBd := am (left_drop HRH_.out (m := T + 1) (by have := LH_.out;omega) hch)
 have CBl := am (show Kd.C (Kd.int .u64) w (dropA Ah ch (T + 1)) hb_.length hb_ by rw [HHB.out];exact Kd.C_take CBd.out (by rw [List.length_drop];have := LH_.out;omega))
 have EA := am (show Value.slice Ah (T + 1) ch = Value.slice Ah ha.length ch by rw [hla])
 have EB := am (show Value.slice (dropA Ah ch (T + 1)) (T + 1) (ch - (T + 1)) = Value.slice (dropA Ah ch (T + 1)) hb_.length (ch - (T + 1)) by rw [hlb])
 have HLA := am (show ha.length ≤ ch by rw [hla];have := LH_.out;omega)
 have HLB := am (show hb_.length ≤ ch - (T + 1) by rw [hlb];have := LH_.out;omega)
 have FA := am (show tapeshift_mover_by.f ka p (T : Int) z da ha = some na by rw [HHA.out];exact FA_.out)
 have FB := am (show tapeshift_mover_by.f kb p (T : Int) z db hb_ = some nb by rw [HHB.out];exact FB_.out)
 have FM2 := am (show poly_Mul.f p ha hb_ = some m2 by rw [HHA.out,HHB.out];exact FM2_.out)
 clear hla hlb
 rw [EA.out,EB.out]
 go_wp2
 refine start_ (n := 10) (S := (fun w' => w'.cell? ⟨gm,0,none⟩ = some (.int .u64 p) ∧ w'.cell? ⟨gm,1,none⟩ = some (.int .i64 (T : Int)) ∧ w'.cell? ⟨gm,2,none⟩ = some (.slice Az z.length cz))) (ds := []) (bz 10 0) (by kernel_rfl) rfl rfl ⟨(blk_cell GM.out 0).trans rfl,(blk_cell GM.out 1).trans rfl,(blk_cell GM.out 2).trans rfl⟩ (fun hHeld => ?_)
 refine tu 0 44 (bz 10 1) hHeld ?_
 refine pu 1 45 (bz 10 3) ?_
 refine pu 2 46 (bz 10 7) ?_
 refine tu 4 48 (bz 10 23) hHeld ?_
 refine pu 5 49 (bz 10 55) ?_
 refine pu 6 50 (bz 10 119) ?_
 refine one_ (i := 3) (N := some 47) (bz 10 127) rfl rfl (by kernel_rfl) (by decide) (fun K hK => ?_)
 refine goes_ Try.func44 (by kernel_rfl) rfl #[.agg #[.int .u64 p,.int .i64 (T : Int),.slice Az z.length cz],.int .u64 da,.slice Ah ha.length ch] (by rfl) rfl rfl (by (try simp only [List.map_toArray,List.map_cons,List.map_nil]);first|done|rfl) ?_
 refine (tapeshift_mover_by.calls ka p (T : Int) Az cz z da Ah ch ha na _ (by first|exact (Kd.R_reads' RZ.out).2.2|exact (Kd.R_reads' (Kd.R_drew RZ.out)).2.2) (Kd.R_reads' RZ.out).2.1 (by first|exact Kd.C_below CA.out HB.out|exact Kd.C_below CA.out (below_drew HB.out)) HLA.out FA.out).mono ?_
 rintro e w103 ⟨v18,rfl,ho,hb⟩
 have nR18_ := am (R_fresh ho (b0 := w.heap.size) (g := g1) (by exact below_size (below_drew HB.out)) (by exact blk_lt (blk_drew LF.out)))
 obtain ⟨A18,c18,e_⟩ := Kd.R_slice ho
 subst e_
 clear ho
 have n_ := am (below_step (below_drew HB.out) hb)
 have nRZ := am (Kd.R_below (Kd.R_drew RZ.out) hb)
 have nGM := am (blk_below (blk_drew GM.out) hb)
 have nLF := am (show LeftAt w103 _ _ _ _ from blk_below (blk_drew LF.out) hb)
 clear HB GM LF RZ
 have HB := n_
 have GM := nGM
 have LF := nLF
 have RZ := nRZ
 clear hb n_ nGM nLF nRZ
 have R18 := nR18_
 clear nR18_
 refine ⟨_,rfl,?_⟩
 clear hHeld
 refine hK.out _ _ ⟨(blk_cell GM.out 0).trans rfl,(blk_cell GM.out 1).trans rfl,(blk_cell GM.out 2).trans rfl⟩ (fun hHeld => ?_)
 clear hK K
 refine nm 47 ?_
 refine one_ (i := 7) (N := some 51) (bz 10 255) rfl rfl (by kernel_rfl) (by decide) (fun K hK => ?_)
 refine goes_ Try.func44 (by kernel_rfl) rfl #[.agg #[.int .u64 p,.int .i64 (T : Int),.slice Az z.length cz],.int .u64 db,.slice (dropA Ah ch (T + 1)) hb_.length (ch - (T + 1))] (by rfl) rfl rfl (by (try simp only [List.map_toArray,List.map_cons,List.map_nil]);first|done|rfl) ?_
 refine (tapeshift_mover_by.calls kb p (T : Int) Az cz z db (dropA Ah ch (T + 1)) (ch - (T + 1)) hb_ nb _ (by first|exact (Kd.R_reads' RZ.out).2.2|exact (Kd.R_reads' (Kd.R_drew RZ.out)).2.2) (Kd.R_reads' RZ.out).2.1 (by first|exact Kd.C_below CBl.out HB.out|exact Kd.C_below CBl.out (below_drew HB.out)) HLB.out FB.out).mono ?_
 rintro e w104 ⟨v19,rfl,ho,hb⟩
 have nR19_ := am (R_fresh ho (b0 := w.heap.size) (g := g1) (by exact below_size HB.out) (by exact blk_lt LF.out))
 obtain ⟨A19,c19,e_⟩ := Kd.R_slice ho
 subst e_
 clear ho
 have n_ := am (below_step (HB.out) hb)
 have nRZ := am (Kd.R_below RZ.out hb)
 have nR18 := am (Kd.R_below R18.out hb)
 have nGM := am (blk_below GM.out hb)
 have nLF := am (show LeftAt w104 _ _ _ _ from blk_below LF.out hb)
 clear HB GM LF RZ R18
 have HB := n_
 have GM := nGM
 have LF := nLF
 have RZ := nRZ
 have R18 := nR18
 clear hb n_ nGM nLF nRZ nR18
 have R19 := nR19_
 clear nR19_
 refine ⟨_,rfl,?_⟩
 clear hHeld
 refine hK.out _ _ ⟨(blk_cell GM.out 0).trans rfl,(blk_cell GM.out 1).trans rfl,(blk_cell GM.out 2).trans rfl⟩ (fun hHeld => ?_)
 clear hK K
 refine nm 51 ?_
 refine pu 8 18 (bz 10 511) ?_
 refine pu 9 19 (bz 10 1023) ?_
 clear hHeld
 refine done_ (by kernel_rfl) ?_
 go_wp2
 refine start_ (n := 14) (S := (fun w' => w'.cell? ⟨gm,0,none⟩ = some (.int .u64 p) ∧ w'.cell? ⟨gm,1,none⟩ = some (.int .i64 (T : Int)) ∧ w'.cell? ⟨gm,2,none⟩ = some (.slice Az z.length cz))) (ds := []) (bz 14 0) (by kernel_rfl) rfl rfl ⟨(blk_cell GM.out 0).trans rfl,(blk_cell GM.out 1).trans rfl,(blk_cell GM.out 2).trans rfl⟩ (fun hHeld => ?_)
 refine pu 0 52 (bz 14 1) ?_
 refine tu 1 53 (bz 14 3) hHeld ?_
 refine pu 2 54 (bz 14 7) ?_
 refine tu 3 55 (bz 14 15) hHeld ?_
 refine pu 4 56 (bz 14 31) ?_
 refine pu 5 57 (bz 14 63) ?_
 refine pu 7 59 (bz 14 191) ?_
 refine tu 8 60 (bz 14 447) hHeld ?_
 refine pu 9 61 (bz 14 959) ?_
 refine pu 10 62 (bz 14 1983) ?_
 refine one_ (i := 6) (N := some 58) (bz 14 2047) rfl rfl (by kernel_rfl) (by decide) (fun K hK => ?_)
 refine goes_ Try.func52 (by kernel_rfl) rfl #[.int .u64 p,.slice A18 na.length c18,.slice A19 nb.length c19] (by rfl) rfl rfl (by (try simp only [List.map_toArray,List.map_cons,List.map_nil]);first|done|rfl) ?_
 refine (poly_Mul.calls p A18 c18 na A19 c19 nb m1 _ (by first|exact (Kd.R_reads' R18.out).2.2|exact (Kd.R_reads' (Kd.R_drew R18.out)).2.2) (Kd.R_reads' R18.out).2.1 (by first|exact (Kd.R_reads' R19.out).2.2|exact (Kd.R_reads' (Kd.R_drew R19.out)).2.2) (Kd.R_reads' R19.out).2.1 FM1_.out).mono ?_
 rintro e w105 ⟨v58,rfl,ho,hb⟩
 have nR58_ := am (R_fresh ho (b0 := w.heap.size) (g := g1) (by exact below_size (below_drew HB.out)) (by exact blk_lt (blk_drew LF.out)))
 obtain ⟨A58,c58,e_⟩ := Kd.R_slice ho
 subst e_
 clear ho
 have n_ := am (below_step (below_drew HB.out) hb)
 have nRZ := am (Kd.R_below (Kd.R_drew RZ.out) hb)
 have nR18 := am (Kd.R_below (Kd.R_drew R18.out) hb)
 have nR19 := am (Kd.R_below (Kd.R_drew R19.out) hb)
 have nGM := am (blk_below (blk_drew GM.out) hb)
 have nLF := am (show LeftAt w105 _ _ _ _ from blk_below (blk_drew LF.out) hb)
 clear HB GM LF RZ R18 R19
 have HB := n_
 have GM := nGM
 have LF := nLF
 have RZ := nRZ
 have R18 := nR18
 have R19 := nR19
 clear hb n_ nGM nLF nRZ nR18 nR19
 have R58 := nR58_
 clear nR58_
 refine ⟨_,rfl,?_⟩
 clear hHeld
 refine hK.out _ _ ⟨(blk_cell GM.out 0).trans rfl,(blk_cell GM.out 1).trans rfl,(blk_cell GM.out 2).trans rfl⟩ (fun hHeld => ?_)
 clear hK K
 refine nm 58 ?_
 refine one_ (i := 11) (N := some 63) (bz 14 4095) rfl rfl (by kernel_rfl) (by decide) (fun K hK => ?_)
 refine goes_ Try.func52 (by kernel_rfl) rfl #[.int .u64 p,.slice Ah ha.length ch,.slice (dropA Ah ch (T + 1)) hb_.length (ch - (T + 1))] (by rfl) rfl rfl (by (try simp only [List.map_toArray,List.map_cons,List.map_nil]);first|done|rfl) ?_
 refine (poly_Mul.calls p Ah ch ha (dropA Ah ch (T + 1)) (ch - (T + 1)) hb_ m2 _ (by first|exact Kd.C_below CA.out HB.out|exact Kd.C_below CA.out (below_drew HB.out)) HLA.out (by first|exact Kd.C_below CBl.out HB.out|exact Kd.C_below CBl.out (below_drew HB.out)) HLB.out FM2.out).mono ?_
 rintro e w106 ⟨v63,rfl,ho,hb⟩
 have nR63_ := am (R_fresh ho (b0 := w.heap.size) (g := g1) (by exact below_size HB.out) (by exact blk_lt LF.out))
 obtain ⟨A63,c63,e_⟩ := Kd.R_slice ho
 subst e_
 clear ho
 have n_ := am (below_step (HB.out) hb)
 have nRZ := am (Kd.R_below RZ.out hb)
 have nR18 := am (Kd.R_below R18.out hb)
 have nR19 := am (Kd.R_below R19.out hb)
 have nR58 := am (Kd.R_below R58.out hb)
 have nGM := am (blk_below GM.out hb)
 have nLF := am (show LeftAt w106 _ _ _ _ from blk_below LF.out hb)
 clear HB GM LF RZ R18 R19 R58
 have HB := n_
 have GM := nGM
 have LF := nLF
 have RZ := nRZ
 have R18 := nR18
 have R19 := nR19
 have R58 := nR58
 clear hb n_ nGM nLF nRZ nR18 nR19 nR58
 have R63 := nR63_
 clear nR63_
 refine ⟨_,rfl,?_⟩
 clear hHeld
 refine hK.out _ _ ⟨(blk_cell GM.out 0).trans rfl,(blk_cell GM.out 1).trans rfl,(blk_cell GM.out 2).trans rfl⟩ (fun hHeld => ?_)
 clear hK K
 refine nm 63 ?_
 refine one_ (i := 12) (N := some 64) (bz 14 8191) rfl rfl (by kernel_rfl) (by decide) (fun K hK => ?_)
 refine goes_ Try.func51 (by kernel_rfl) rfl #[.int .u64 p,.slice A58 m1.length c58,.slice A63 m2.length c63] (by rfl) rfl rfl (by (try simp only [List.map_toArray,List.map_cons,List.map_nil]);first|done|rfl) ?_
 refine (poly_Sub.calls ks p A58 c58 m1 A63 c63 m2 more _ (by first|exact (Kd.R_reads' R58.out).2.2|exact (Kd.R_reads' (Kd.R_drew R58.out)).2.2) (Kd.R_reads' R58.out).2.1 (by first|exact (Kd.R_reads' R63.out).2.2|exact (Kd.R_reads' (Kd.R_drew R63.out)).2.2) (Kd.R_reads' R63.out).2.1 FS_.out).mono ?_
 rintro e w107 ⟨v64,rfl,ho,hb⟩
 have nR64_ := am (R_fresh ho (b0 := w.heap.size) (g := g1) (by exact below_size HB.out) (by exact blk_lt LF.out))
 obtain ⟨A64,c64,e_⟩ := Kd.R_slice ho
 subst e_
 clear ho
 have n_ := am (below_step (HB.out) hb)
 have nRZ := am (Kd.R_below RZ.out hb)
 have nR18 := am (Kd.R_below R18.out hb)
 have nR19 := am (Kd.R_below R19.out hb)
 have nR58 := am (Kd.R_below R58.out hb)
 have nR63 := am (Kd.R_below R63.out hb)
 have nGM := am (blk_below GM.out hb)
 have nLF := am (show LeftAt w107 _ _ _ _ from blk_below LF.out hb)
 clear HB GM LF RZ R18 R19 R58 R63
 have HB := n_
 have GM := nGM
 have LF := nLF
 have RZ := nRZ
 have R18 := nR18
 have R19 := nR19
 have R58 := nR58
 have R63 := nR63
 clear hb n_ nGM nLF nRZ nR18 nR19 nR58 nR63
 have R64 := nR64_
 clear nR64_
 refine ⟨_,rfl,?_⟩
 clear hHeld
 refine hK.out _ _ ⟨(blk_cell GM.out 0).trans rfl,(blk_cell GM.out 1).trans rfl,(blk_cell GM.out 2).trans rfl⟩ (fun hHeld => ?_)
 clear hK K
 refine nm 64 ?_
 refine pu 13 20 (bz 14 16383) ?_
 clear hHeld
 refine done_ (by kernel_rfl) ?_
 obtain ⟨L2,hL2⟩ : ∃ y,y = [na,nb] := ⟨_,rfl⟩
 have NL2 := am hL2
 clear hL2
 have m0 : w107.cell? ⟨gm,0,none⟩ = some (.int .u64 p) := (blk_cell GM.out 0).trans rfl;have m1 : w107.cell? ⟨gm,1,none⟩ = some (.int .i64 (T : Int)) := (blk_cell GM.out 1).trans rfl;have m2 : w107.cell? ⟨gm,2,none⟩ = some (.slice Az z.length cz) := (blk_cell GM.out 2).trans rfl
 go_wp2_with (first
  | (go_at_call 53;(with_reducible refine (poly_DivMod.calls kd p A64 c64 more Az cz z q r er _ (Kd.R_reads' R64.out).2.2 (Kd.R_reads' R64.out).2.1 (Kd.R_reads' RZ.out).2.2 (Kd.R_reads' RZ.out).2.1 FD_.out).mono ?_);rintro e w108 ⟨v21,v22,rfl,ho,hor,hb⟩;have nR21_ := am (R_fresh ho (b0 := w.heap.size) (g := g1) (by exact below_size HB.out) (by exact blk_lt LF.out));obtain ⟨A21,c21,e_⟩ := Kd.R_slice ho;subst e_;clear ho hor;clear R58 R63 R64;have n_ := am (below_step (HB.out) hb);have nRZ := am (Kd.R_below RZ.out hb);have nR18 := am (Kd.R_below R18.out hb);have nR19 := am (Kd.R_below R19.out hb);have nGM := am (blk_below GM.out hb);have nLF := am (show LeftAt w108 _ _ _ _ from blk_below LF.out hb);clear HB GM LF RZ R18 R19;have HB := n_;have GM := nGM;have LF := nLF;have RZ := nRZ;have R18 := nR18;have R19 := nR19;clear hb n_ nGM nLF nRZ nR18 nR19;have R21 := nR21_;clear nR21_ m0 m1 m2;have m0 : w108.cell? ⟨gm,0,none⟩ = some (.int .u64 p) := (blk_cell GM.out 0).trans rfl;have m1 : w108.cell? ⟨gm,1,none⟩ = some (.int .i64 (T : Int)) := (blk_cell GM.out 1).trans rfl;have m2 : w108.cell? ⟨gm,2,none⟩ = some (.slice Az z.length cz) := (blk_cell GM.out 2).trans rfl)
  | ((with_reducible refine gate_dst (N := 77) rfl ?_);(try (refine gate_guard (by rfl) ?_;dsimp only));refine Kd.N_lit (Kd.slice 22 (Kd.int .u64)) _ 26 ?hg (N' := 77) ?hd (xs := ([na,nb] : List (List Int))) (inner := [.slice A18 na.length c18,.slice A19 nb.length c19]) (ok := fun _ => True) (okp := fun k => k < g1 ∨ g1 < k) ?hr ?hp (fun _ _ => trivial) trivial (Below.refl _ _) (Nat.le_refl _) (by simp) ?_;(case hd => rfl);(case hg => rfl);(case hr => first|(go_simp;done)|(go_simp;rfl));(case hp => exact (Reps.one (show Kd.FK (Kd.slice 22 (Kd.int .u64)) _ _ na [.slice A18 na.length c18] from (Kd.FK_slice_mk (Kd.R_reads' R18.out).2.1 (Kd.R_F R18.out))) (Reps.one (show Kd.FK (Kd.slice 22 (Kd.int .u64)) _ _ nb [.slice A19 nb.length c19] from (Kd.FK_slice_mk (Kd.R_reads' R19.out).2.1 (Kd.R_F R19.out))) (Reps.none _ _))));intro v77 w109 ho hb hg_ hnew_;clear hg_ hnew_;rw [← NL2.out] at ho;obtain ⟨A77,c77,e77⟩ := Kd.N_slice ho;subst e77;have C77 := am (Kd.N_reads' ho).2.2;have L77 := am (Kd.N_reads' ho).2.1;clear ho;clear R18 R19;have n_ := am (below_step (HB.out) hb);have nRZ := am (Kd.R_below RZ.out hb);have nR21 := am (Kd.R_below R21.out hb);have nGM := am (blk_below GM.out hb);have nLF := am (show LeftAt w109 _ _ _ _ from blk_below LF.out hb);clear HB GM LF RZ R21;have HB := n_;have GM := nGM;have LF := nLF;have RZ := nRZ;have R21 := nR21;clear hb n_ nGM nLF nRZ nR21;clear m0 m1 m2;have m0 : w109.cell? ⟨gm,0,none⟩ = some (.int .u64 p) := (blk_cell GM.out 0).trans rfl;have m1 : w109.cell? ⟨gm,1,none⟩ = some (.int .i64 (T : Int)) := (blk_cell GM.out 1).trans rfl;have m2 : w109.cell? ⟨gm,2,none⟩ = some (.slice Az z.length cz) := (blk_cell GM.out 2).trans rfl)
  | (go_at_call 54;(with_reducible refine (concat_walk A77 c77 L2 _ C77.out L77.out (by rw [NL2.out];simp) (by rw [NL2.out];intro x hx;simp only [List.mem_cons,List.not_mem_nil,or_false] at hx;have h1 := LNA_.out;have h2 := LNB_.out;have := HT_.out;rcases hx with rfl|rfl <;> omega)).mono ?_);rintro e w110 ⟨v24,rfl,ho,hb⟩;obtain ⟨B,hB_⟩ : ∃ y,y = w109.heap.size := ⟨_,rfl⟩;have NB := am hB_;clear hB_;have BW := am (show w.heap.size ≤ B by rw [NB.out];exact below_size HB.out);have GB := am (show gm < B by rw [NB.out];exact blk_lt GM.out);have LB := am (show g1 < B by rw [NB.out];exact blk_lt LF.out);have nR24_ := am (show Kd.R (Kd.int .u64) 22 _ w.heap.size (fun k => B ≤ k) _ _ by rw [NB.out];exact R_highs ho (below_size HB.out));clear ho;have n_ := am (show Kd.R (Kd.int .u64) 22 _ w.heap.size (fun k => k ≠ g1 ∧ k < B) _ _ by rw [NB.out];exact R_lows RZ.out);clear RZ;have RZ := n_;clear n_;have n_ := am (show Kd.R (Kd.int .u64) 22 _ w.heap.size (fun k => k ≠ g1 ∧ k < B) _ _ by rw [NB.out];exact R_lows R21.out);clear R21;have R21 := n_;clear n_;have BS := am (show B ≤ w109.heap.size by rw [NB.out];exact Nat.le_refl _);clear NB;have n_ := am (below_step (HB.out) hb);have nRZ := am (Kd.R_below RZ.out hb);have nR21 := am (Kd.R_below R21.out hb);have h_ := below_size hb;have nBS := am (Nat.le_trans BS.out h_);clear h_;have nGM := am (blk_below GM.out hb);have nLF := am (show LeftAt w110 _ _ _ _ from blk_below LF.out hb);clear HB GM LF RZ R21 BS;have HB := n_;have GM := nGM;have LF := nLF;have BS := nBS;have RZ := nRZ;have R21 := nR21;clear hb n_ nGM nLF nRZ nR21 nBS;have R24 := nR24_;clear nR24_ m0 m1 m2;have m0 : w110.cell? ⟨gm,0,none⟩ = some (.int .u64 p) := (blk_cell GM.out 0).trans rfl;have m1 : w110.cell? ⟨gm,1,none⟩ = some (.int .i64 (T : Int)) := (blk_cell GM.out 1).trans rfl;have m2 : w110.cell? ⟨gm,2,none⟩ = some (.slice Az z.length cz) := (blk_cell GM.out 2).trans rfl))
 have R24_ := R24;clear R24
 have R24 := am (show Kd.R (Kd.int .u64) 22 w110 w.heap.size (fun k => B ≤ k) v24 (na ++ nb ++ catF nH 0) by have h := R24_.out;rw [NL2.out] at h;simpa [catF] using h)
 have LL := am (show LeftL w w110 g1 (head.drop (2 * (T + 1) + 0 * T)) from by exact left_start HRH_.out hch (by have := LH_.out;omega) LF.out (by omega))
 clear m0 m1 m2 R24_ NL2 C77 L77 HHA HHB CA CBd CBl EA EB HLA HLB FA FB FM2 HRB_ HRH_
 go_loopg [24,25] T (fun kq v24 v25 w' => ∃ n m : Nat,v25 = .int .i64 (n : Int) ∧ Aside0 (kq + n = T + 1) ∧ Aside0 (n = m + 1) ∧ Aside0 (Kd.R (Kd.int .u64) 22 w' w.heap.size (fun k => B ≤ k) v24 (na ++ nb ++ catF nH m)) ∧ Aside0 (Kd.R (Kd.int .u64) 22 w' w.heap.size (fun k => k ≠ g1 ∧ k < B) (.slice Az z.length cz) (z)) ∧ Aside0 (Kd.R (Kd.int .u64) 22 w' w.heap.size (fun k => k ≠ g1 ∧ k < B) (.slice A21 q.length c21) (q)) ∧ Aside0 (B ≤ w'.heap.size) ∧ Aside0 (w'.heap[gm]? = some (.cells #[.int .u64 p,.int .i64 (T : Int),.slice Az z.length cz] 59 (0,0))) ∧ Aside0 (LeftL w w' g1 (head.drop (2 * (T + 1) + m * T))) ∧ Aside0 (Below w.heap.size w w'))
 case atStart => exact ⟨1,0,rfl,⟨by omega⟩,⟨rfl⟩,R24,RZ,R21,BS,GM,LL,HB⟩
 case round =>
  clear R24 RZ R21 BS GM LF LL HB
  obtain ⟨n,m,rfl,HK,HM,R24,RZ,R21,BS,GM,LL,HB⟩ := hrel
  have hmn := HM.out
  have m0 : wr.cell? ⟨gm,0,none⟩ = some (.int .u64 p) := (blk_cell GM.out 0).trans rfl;have m1 : wr.cell? ⟨gm,1,none⟩ = some (.int .i64 (T : Int)) := (blk_cell GM.out 1).trans rfl;have m2 : wr.cell? ⟨gm,2,none⟩ = some (.slice Az z.length cz) := (blk_cell GM.out 2).trans rfl
  by_cases hlt : n ≤ T
  ·have q1 : decide ((n : Int) ≤ (T : Int)) = true := decide_eq_true (by omega)
   have q2 : decide (n ≤ T) = true := decide_eq_true hlt
   have q3 : ((n : Int) ≤ (T : Int)) = True := eq_true (by omega)
   have hmT := tri_len (show m < T by omega)
   obtain ⟨xs,hxs⟩ : ∃ y,y = head.drop (2 * (T + 1) + m * T) := ⟨_,rfl⟩
   rw [← hxs] at LL
   obtain ⟨AL,cL,lf,cl,hcl⟩ := LL.out
   have LF := am lf;have CL := am cl;have HCL := am hcl
   clear lf cl hcl LL
   have hxl : T ≤ xs.length := by rw [hxs,List.length_drop];have := LH_.out;omega
   have XL := am hxl
   have XS := am hxs
   obtain ⟨y,hy⟩ : ∃ y,y = xs.take T := ⟨_,rfl⟩
   have hyl : y.length = T := by rw [hy,List.length_take];omega
   have EY := am (show Value.slice AL T cL = Value.slice AL y.length cL by rw [hyl])
   have YL := am hyl
   have CY := am (show Kd.C (Kd.int .u64) w AL y.length y by rw [hy];exact Kd.C_take CL.out hxl)
   have FC := am (FC_.out n hlt)
   have FNm := am (show tapeshift_mover_by.f (kn m) p (T : Int) z (cf n) y = some (nH n) by rw [hy,hxs,hmn];exact FN_.out m (by omega))
   have ECAT := am (show na ++ nb ++ catF nH m ++ nH n = na ++ nb ++ catF nH (m + 1) by rw [hmn];simp [catF,List.append_assoc])
   have LCAT := am (show ((na ++ nb ++ catF nH m).length + (nH n).length) * 8 ≤ 140737488355328 by have h1 := catF_len LNH_.out m (by omega);have h2 := LNH_.out n hlt;have h3 := LNA_.out;have h4 := LNB_.out;have h5 := HT_.out;simp only [List.length_append];omega)
   clear hmT hxs hy hyl hmn hxl
   go_wp2
   refine start_ (n := 12) (S := (fun w' => w'.cell? ⟨gm,0,none⟩ = some (.int .u64 p) ∧ w'.cell? ⟨gm,1,none⟩ = some (.int .i64 (T : Int)) ∧ w'.cell? ⟨gm,2,none⟩ = some (.slice Az z.length cz))) (ds := []) (bz 12 0) (by kernel_rfl) rfl rfl ⟨(blk_cell GM.out 0).trans rfl,(blk_cell GM.out 1).trans rfl,(blk_cell GM.out 2).trans rfl⟩ (fun hHeld => ?_)
   refine pu 0 85 (bz 12 1) ?_
   refine tu 1 86 (bz 12 3) hHeld ?_
   refine pu 2 87 (bz 12 7) ?_
   refine pu 3 88 (bz 12 15) ?_
   refine pu 5 90 (bz 12 47) ?_
   refine pu 6 91 (bz 12 111) ?_
   refine tu 7 92 (bz 12 239) hHeld ?_
   refine one_ (i := 4) (N := some 89) (bz 12 255) rfl rfl (by kernel_rfl) (by decide) (fun K hK => ?_)
   refine goes_ Try.func55 (by kernel_rfl) rfl #[.slice A21 q.length c21,.int .i64 (n : Int)] (by rfl) rfl rfl (by (try simp only [List.map_toArray,List.map_cons,List.map_nil]);first|done|rfl) ?_
   refine (poly_Coefficient.calls A21 c21 q (n : Int) (cf n) _ (by first|exact (Kd.R_reads' R21.out).2.2|exact (Kd.R_reads' (Kd.R_drew R21.out)).2.2) (Kd.R_reads' R21.out).2.1 FC.out).mono ?_
   rintro e w108 ⟨rfl,hd⟩
   have hb := drawn_belowT hd;clear hd
   have n_ := am (below_step (below_drew HB.out) hb)
   have nRZ := am (Kd.R_below (Kd.R_drew RZ.out) hb)
   have nR21 := am (Kd.R_below (Kd.R_drew R21.out) hb)
   have nR24 := am (Kd.R_below (Kd.R_drew R24.out) hb)
   have h_ := below_size hb;have nBS := am (Nat.le_trans BS.out h_);clear h_
   have nGM := am (blk_below (blk_drew GM.out) hb)
   have nLF := am (show LeftAt w108 _ _ _ _ from blk_below (blk_drew LF.out) hb)
   clear HB GM LF RZ R21 R24 BS
   have HB := n_
   have GM := nGM
   have LF := nLF
   have BS := nBS
   have RZ := nRZ
   have R21 := nR21
   have R24 := nR24
   clear hb n_ nGM nLF nRZ nR21 nR24 nBS
   refine ⟨_,rfl,?_⟩
   clear hHeld
   refine hK.out _ _ ⟨(blk_cell GM.out 0).trans rfl,(blk_cell GM.out 1).trans rfl,(blk_cell GM.out 2).trans rfl⟩ (fun hHeld => ?_)
   clear hK K
   refine nm 89 ?_
   refine one_ (i := 8) (N := some 93) (bz 12 511) rfl rfl (by kernel_rfl) (by decide) (fun K hK => ?_)
   refine goesC_ Try.func79 (by kernel_rfl) rfl #[.pointer (some ⟨g1,0,none⟩)] #[.int .i64 (T : Int)] (by rfl) rfl rfl (by rfl) (by (try simp only [List.map_toArray,List.map_cons,List.map_nil]);first|done|rfl) ?_
   show Calls Try.prog 79 #[.int .i64 (T : Int),.pointer (some ⟨g1,0,none⟩)] _ _
   refine (take_walk g1 AL xs.length cL T _ (by exact LF.out) HCL.out XL.out).mono ?_
   rintro e w109 ⟨rfl,hl,ho,hbw⟩
   have n_ := am (hbw _ _ G1W.out (HB.out))
   have nRZ := am (low_far RZ.out ho)
   have nR21 := am (low_far R21.out ho)
   have nR24 := am (high_far R24.out LB.out ho)
   have h_ := (hbw 0 _ (Nat.zero_le _) (Below.refl 0 _)).size;have nBS := am (Nat.le_trans BS.out h_);clear h_
   have nGM := am ((ho gm NE.out).trans GM.out)
   have nLF := am hl
   clear HB GM LF RZ R21 R24 BS
   have HB := n_
   have GM := nGM
   have LF := nLF
   have BS := nBS
   have RZ := nRZ
   have R21 := nR21
   have R24 := nR24
   clear hl ho hbw n_ nGM nLF nRZ nR21 nR24 nBS
   refine ⟨_,congrArg Ending.returned EY.out,?_⟩
   clear hHeld
   refine hK.out _ _ ⟨(blk_cell GM.out 0).trans rfl,(blk_cell GM.out 1).trans rfl,(blk_cell GM.out 2).trans rfl⟩ (fun hHeld => ?_)
   clear hK K
   refine nm 93 ?_
   refine one_ (i := 9) (N := some 94) (bz 12 1023) rfl rfl (by kernel_rfl) (by decide) (fun K hK => ?_)
   refine goes_ Try.func44 (by kernel_rfl) rfl #[.agg #[.int .u64 p,.int .i64 (T : Int),.slice Az z.length cz],.int .u64 (cf n),.slice AL y.length cL] (by rfl) rfl rfl (by (try simp only [List.map_toArray,List.map_cons,List.map_nil]);first|done|rfl) ?_
   refine (tapeshift_mover_by.calls (kn m) p (T : Int) Az cz z (cf n) AL cL y (nH n) _ (by first|exact (Kd.R_reads' RZ.out).2.2|exact (Kd.R_reads' (Kd.R_drew RZ.out)).2.2) (Kd.R_reads' RZ.out).2.1 (by first|exact Kd.C_below CY.out HB.out|exact Kd.C_below CY.out (below_drew HB.out)) (by rw [YL.out];exact Nat.le_trans XL.out HCL.out) FNm.out).mono ?_
   rintro e w110 ⟨v94,rfl,ho,hb⟩
   have nR94_ := am (R_any ho)
   obtain ⟨A94,c94,e_⟩ := Kd.R_slice ho
   subst e_
   clear ho
   have n_ := am (below_step (HB.out) hb)
   have nRZ := am (Kd.R_below RZ.out hb)
   have nR21 := am (Kd.R_below R21.out hb)
   have nR24 := am (Kd.R_below R24.out hb)
   have h_ := below_size hb;have nBS := am (Nat.le_trans BS.out h_);clear h_
   have nGM := am (blk_below GM.out hb)
   have nLF := am (show LeftAt w110 _ _ _ _ from blk_below LF.out hb)
   clear HB GM LF RZ R21 R24 BS
   have HB := n_
   have GM := nGM
   have LF := nLF
   have BS := nBS
   have RZ := nRZ
   have R21 := nR21
   have R24 := nR24
   clear hb n_ nGM nLF nRZ nR21 nR24 nBS
   have R94 := nR94_
   clear nR94_
   refine ⟨_,rfl,?_⟩
   clear hHeld
   refine hK.out _ _ ⟨(blk_cell GM.out 0).trans rfl,(blk_cell GM.out 1).trans rfl,(blk_cell GM.out 2).trans rfl⟩ (fun hHeld => ?_)
   clear hK K
   refine nm 94 ?_
   refine one_ (i := 10) (N := some 95) (bz 12 2047) rfl rfl (by kernel_rfl) (by decide) (fun K hK => ?_)
   refine Kd.R_append_rows_step (Kd.int .u64) (w0 := w) w.heap.size (by rfl) (.tmp 85) (.tmp 94) 26 22 (.int .u64 0) 8 rfl Try.underlying26 info22 rfl (by decide) (by omega) u24 (na ++ nb ++ catF nH m) (nH n) A94 (nH n).length c94 (fun k => B ≤ k) (fun _ => False) rfl rfl R24.out (Kd.R_reads' R94.out).2.2 (fun _ _ h => h) (fun _ hk => hk.elim) (fun k hk => Nat.le_trans BS.out hk) HB.out (below_size HB.out) LCAT.out ?_
   intro v95 w111 ho hb hg hat
   have nBS := am (Nat.le_trans BS.out hg.size)
   have nGM := am (blk_grown GM.out hg (low_not R24.out GB.out))
   have nLF := am (show LeftAt w111 _ _ _ _ from blk_grown LF.out hg (low_not R24.out LB.out))
   have nRZ := am (low_grown RZ.out R24.out hg)
   have nR21 := am (low_grown R21.out R24.out hg)
   have n_ := am ho
   have nHB := am hb
   clear HB GM LF BS R24 RZ R21
   have HB := nHB;have GM := nGM;have LF := nLF;have BS := nBS;have R24 := n_
   have RZ := nRZ
   have R21 := nR21
   clear ho hb hg hat n_ nHB nGM nLF nBS nRZ nR21
   clear hHeld
   refine hK.out _ _ ⟨(blk_cell GM.out 0).trans rfl,(blk_cell GM.out 1).trans rfl,(blk_cell GM.out 2).trans rfl⟩ (fun hHeld => ?_)
   clear hK K
   refine nm 95 ?_
   refine pu 11 24 (bz 12 4095) ?_
   clear hHeld
   refine done_ (by kernel_rfl) ?_
   rw [ECAT.out] at R24
   have m0 : w111.cell? ⟨gm,0,none⟩ = some (.int .u64 p) := (blk_cell GM.out 0).trans rfl;have m1 : w111.cell? ⟨gm,1,none⟩ = some (.int .i64 (T : Int)) := (blk_cell GM.out 1).trans rfl;have m2 : w111.cell? ⟨gm,2,none⟩ = some (.slice Az z.length cz) := (blk_cell GM.out 2).trans rfl
   clear R94
   go_wp2
   go_roundg (T - n)
   case measure => have := HK.out;omega
   case rel => exact ⟨n + 1,m + 1,by rw [show wrap64 ((n : Int) + 1) = ((n + 1 : Nat) : Int) from by have := HT_.out;rw [wrap64];omega],⟨by have := HK.out;omega⟩,⟨by have := HM.out;omega⟩,R24,RZ,R21,BS,GM,⟨left_step XS.out HCL.out XL.out CL.out LF.out (by have := Nat.add_mul m 1 T;omega)⟩,HB⟩
  ·have q1 : decide ((n : Int) ≤ (T : Int)) = false := decide_eq_false (by omega)
   have q2 : decide (n ≤ T) = false := decide_eq_false hlt
   have hmT : m = T := by have := HK.out;omega
   rw [hmT] at R24
   obtain ⟨O,hO⟩ : ∃ y,y = T * (T + 1) / 2 := ⟨_,rfl⟩
   have NO := am hO
   clear hO
   have HO := am (show (T = 1 ∧ O = 1 ∧ rests.length = 4) ∨ (T = 2 ∧ O = 3 ∧ rests.length = 15) from tri_rest HT_.out NO.out LR_.out)
   have hM := ()
   have hQ : wrap64 ((wrap64 ((T : Int) * ((T : Int) + 1))).tdiv 2) = (O : Int) := by rcases HO.out with h|h <;> rw [h.1,h.2.1] <;> kernel_rfl
   go_wp2_with (first
    | (go_at_call 50;(with_reducible refine (cutter_walk Ar rests.length cr _).mono ?_);rintro e w111 ⟨g2,rfl,hge,hl,hb⟩;have NE2 := am (show gm ≠ g2 from Nat.ne_of_lt (Nat.lt_of_lt_of_le (blk_lt GM.out) hge));have G2W := am (Nat.le_trans (below_size HB.out) hge);have LF := am hl;have n_ := am (below_step HB.out hb);have kZ_ := am (Kd.R_below (R_before RZ.out hge) hb);have kQ_ := am (Kd.R_below (R_before R21.out hge) hb);have kO_ := am (Kd.R_below (R_before R24.out hge) hb);have j_ := am (blk_below GM.out hb);clear HB RZ R21 R24 GM LL BS;have HB := n_;have RZ := kZ_;have R21 := kQ_;have R24 := kO_;have GM := j_;clear n_ kZ_ kQ_ kO_ j_ hge hl hb m0 m1 m2 BW GB LB NE G1W HK HM))
   clear hM hQ
   obtain ⟨y1,hy1⟩ : ∃ y,y = rests.take O := ⟨_,rfl⟩
   obtain ⟨y2,hy2⟩ : ∃ y,y = (rests.drop O).take O := ⟨_,rfl⟩
   have hl1 : y1.length = O := by rw [hy1,List.length_take];have := HO.out;omega
   have hl2 : y2.length = O := by rw [hy2,List.length_take,List.length_drop];have := HO.out;omega
   have C1 := am (show Kd.C (Kd.int .u64) w Ar y1.length y1 by rw [hy1];exact Kd.C_take HRR_.out (by have := HO.out;omega))
   have C2 := am (show Kd.C (Kd.int .u64) w (dropA Ar cr O) y2.length y2 by rw [hy2];exact Kd.C_take (left_drop HRR_.out (m := O) (by have := HO.out;omega) hcr) (by rw [List.length_drop];have := HO.out;omega))
   have E1 := am (show Value.slice Ar O cr = Value.slice Ar y1.length cr by rw [hl1])
   have E2 := am (show Value.slice (dropA Ar cr O) O (cr - O) = Value.slice (dropA Ar cr O) y2.length (cr - O) by rw [hl2])
   have L1 := am (show y1.length ≤ cr by rw [hl1];have := HO.out;omega)
   have L2_ := am (show y2.length ≤ cr - O by rw [hl2];have := HO.out;omega)
   have F1 := am (show tapeshift_mover_rest.f p (T : Int) z da y1 = some ra by rw [hy1,NO.out];exact FRA_.out)
   have F2 := am (show tapeshift_mover_rest.f p (T : Int) z db y2 = some rb by rw [hy2,NO.out];exact FRB_.out)
   clear hy1 hy2 hl1 hl2
   go_wp2
   refine start_ (n := 7) (S := (fun w' => w'.cell? ⟨gm,0,none⟩ = some (.int .u64 p) ∧ w'.cell? ⟨gm,1,none⟩ = some (.int .i64 (T : Int)) ∧ w'.cell? ⟨gm,2,none⟩ = some (.slice Az z.length cz))) (ds := []) (bz 7 0) (by kernel_rfl) rfl rfl ⟨(blk_cell GM.out 0).trans rfl,(blk_cell GM.out 1).trans rfl,(blk_cell GM.out 2).trans rfl⟩ (fun hHeld => ?_)
   refine tu 0 105 (bz 7 1) hHeld ?_
   refine pu 1 106 (bz 7 3) ?_
   refine pu 2 107 (bz 7 7) ?_
   refine pu 3 108 (bz 7 15) ?_
   refine one_ (i := 4) (N := some 109) (bz 7 31) rfl rfl (by kernel_rfl) (by decide) (fun K hK => ?_)
   refine goesC_ Try.func79 (by kernel_rfl) rfl #[.pointer (some ⟨g2,0,none⟩)] #[.int .i64 (O : Int)] (by rfl) rfl rfl (by rfl) (by (try simp only [List.map_toArray,List.map_cons,List.map_nil]);first|done|rfl) ?_
   show Calls Try.prog 79 #[.int .i64 (O : Int),.pointer (some ⟨g2,0,none⟩)] _ _
   refine (take_walk g2 Ar rests.length cr O _ (by exact blk_drew LF.out) hcr (by have := HO.out;omega)).mono ?_
   rintro e w112 ⟨rfl,hl,ho,hbw⟩
   have n_ := am (hbw _ _ G2W.out (below_drew HB.out))
   have nRZ := am (R_far (Kd.R_drew RZ.out) ho)
   have nR21 := am (R_far (Kd.R_drew R21.out) ho)
   have nR24 := am (R_far (Kd.R_drew R24.out) ho)
   have nGM := am ((ho gm NE2.out).trans (blk_drew GM.out))
   have nLF := am hl
   clear HB GM LF RZ R21 R24
   have HB := n_
   have GM := nGM
   have LF := nLF
   have RZ := nRZ
   have R21 := nR21
   have R24 := nR24
   clear hl ho hbw n_ nGM nLF nRZ nR21 nR24
   refine ⟨_,congrArg Ending.returned E1.out,?_⟩
   clear hHeld
   refine hK.out _ _ ⟨(blk_cell GM.out 0).trans rfl,(blk_cell GM.out 1).trans rfl,(blk_cell GM.out 2).trans rfl⟩ (fun hHeld => ?_)
   clear hK K
   refine nm 109 ?_
   refine one_ (i := 5) (N := some 110) (bz 7 63) rfl rfl (by kernel_rfl) (by decide) (fun K hK => ?_)
   refine goes_ Try.func45 (by kernel_rfl) rfl #[.agg #[.int .u64 p,.int .i64 (T : Int),.slice Az z.length cz],.int .u64 da,.slice Ar y1.length cr] (by rfl) rfl rfl (by (try simp only [List.map_toArray,List.map_cons,List.map_nil]);first|done|rfl) ?_
   refine (tapeshift_mover_rest.calls p (T : Int) Az cz z da Ar cr y1 ra _ (by first|exact (Kd.R_reads' RZ.out).2.2|exact (Kd.R_reads' (Kd.R_drew RZ.out)).2.2) (Kd.R_reads' RZ.out).2.1 (by first|exact Kd.C_below C1.out HB.out|exact Kd.C_below C1.out (below_drew HB.out)) L1.out F1.out).mono ?_
   rintro e w113 ⟨v27,rfl,ho,hb⟩
   obtain ⟨B2,hB_⟩ : ∃ y,y = w112.heap.size := ⟨_,rfl⟩
   have NB := am hB_
   clear hB_
   have BW := am (show w.heap.size ≤ B2 by rw [NB.out];exact below_size HB.out)
   have GB := am (show gm < B2 by rw [NB.out];exact blk_lt GM.out)
   have LB := am (show g2 < B2 by rw [NB.out];exact blk_lt LF.out)
   have nR27_ := am (show Kd.R (Kd.int .u64) 22 _ w.heap.size (fun k => B2 ≤ k) _ _ by rw [NB.out];exact R_highs ho (below_size HB.out))
   clear ho
   have n_ := am (show Kd.R (Kd.int .u64) 22 _ w.heap.size (fun k => k ≠ g2 ∧ k < B2) _ _ by rw [NB.out];exact R_lows RZ.out)
   clear RZ
   have RZ := n_
   clear n_
   have n_ := am (show Kd.R (Kd.int .u64) 22 _ w.heap.size (fun k => k ≠ g2 ∧ k < B2) _ _ by rw [NB.out];exact R_lows R21.out)
   clear R21
   have R21 := n_
   clear n_
   have n_ := am (show Kd.R (Kd.int .u64) 22 _ w.heap.size (fun k => k ≠ g2 ∧ k < B2) _ _ by rw [NB.out];exact R_lows R24.out)
   clear R24
   have R24 := n_
   clear n_
   have BS := am (show B2 ≤ w112.heap.size by rw [NB.out];exact Nat.le_refl _)
   clear NB
   have n_ := am (below_step (HB.out) hb)
   have nRZ := am (Kd.R_below RZ.out hb)
   have nR21 := am (Kd.R_below R21.out hb)
   have nR24 := am (Kd.R_below R24.out hb)
   have h_ := below_size hb;have nBS := am (Nat.le_trans BS.out h_);clear h_
   have nGM := am (blk_below GM.out hb)
   have nLF := am (show LeftAt w113 _ _ _ _ from blk_below LF.out hb)
   clear HB GM LF RZ R21 R24 BS
   have HB := n_
   have GM := nGM
   have LF := nLF
   have BS := nBS
   have RZ := nRZ
   have R21 := nR21
   have R24 := nR24
   clear hb n_ nGM nLF nRZ nR21 nR24 nBS
   have R27 := nR27_
   clear nR27_
   refine ⟨_,rfl,?_⟩
   clear hHeld
   refine hK.out _ _ ⟨(blk_cell GM.out 0).trans rfl,(blk_cell GM.out 1).trans rfl,(blk_cell GM.out 2).trans rfl⟩ (fun hHeld => ?_)
   clear hK K
   refine nm 110 ?_
   refine pu 6 27 (bz 7 127) ?_
   clear hHeld
   refine done_ (by kernel_rfl) ?_
   go_wp2
   refine start_ (n := 9) (S := (fun w' => w'.cell? ⟨gm,0,none⟩ = some (.int .u64 p) ∧ w'.cell? ⟨gm,1,none⟩ = some (.int .i64 (T : Int)) ∧ w'.cell? ⟨gm,2,none⟩ = some (.slice Az z.length cz))) (ds := []) (bz 9 0) (by kernel_rfl) rfl rfl ⟨(blk_cell GM.out 0).trans rfl,(blk_cell GM.out 1).trans rfl,(blk_cell GM.out 2).trans rfl⟩ (fun hHeld => ?_)
   refine pu 0 111 (bz 9 1) ?_
   refine tu 1 112 (bz 9 3) hHeld ?_
   refine pu 2 113 (bz 9 7) ?_
   refine pu 3 114 (bz 9 15) ?_
   refine pu 4 115 (bz 9 31) ?_
   refine one_ (i := 5) (N := some 116) (bz 9 63) rfl rfl (by kernel_rfl) (by decide) (fun K hK => ?_)
   refine goesC_ Try.func79 (by kernel_rfl) rfl #[.pointer (some ⟨g2,0,none⟩)] #[.int .i64 (O : Int)] (by rfl) rfl rfl (by rfl) (by (try simp only [List.map_toArray,List.map_cons,List.map_nil]);first|done|rfl) ?_
   show Calls Try.prog 79 #[.int .i64 (O : Int),.pointer (some ⟨g2,0,none⟩)] _ _
   refine (take_walk g2 (dropA Ar cr O) (rests.length - O) (cr - O) O _ (by exact blk_drew LF.out) (by have := HO.out;omega) (by have := HO.out;omega)).mono ?_
   rintro e w114 ⟨rfl,hl,ho,hbw⟩
   have n_ := am (hbw _ _ G2W.out (below_drew HB.out))
   have nRZ := am (low_far (Kd.R_drew RZ.out) ho)
   have nR21 := am (low_far (Kd.R_drew R21.out) ho)
   have nR24 := am (low_far (Kd.R_drew R24.out) ho)
   have nR27 := am (high_far (Kd.R_drew R27.out) LB.out ho)
   have h_ := (hbw 0 _ (Nat.zero_le _) (Below.refl 0 _)).size;have nBS := am (Nat.le_trans BS.out h_);clear h_
   have nGM := am ((ho gm NE2.out).trans (blk_drew GM.out))
   have nLF := am hl
   clear HB GM LF RZ R21 R24 R27 BS
   have HB := n_
   have GM := nGM
   have LF := nLF
   have BS := nBS
   have RZ := nRZ
   have R21 := nR21
   have R24 := nR24
   have R27 := nR27
   clear hl ho hbw n_ nGM nLF nRZ nR21 nR24 nR27 nBS
   refine ⟨_,congrArg Ending.returned E2.out,?_⟩
   clear hHeld
   refine hK.out _ _ ⟨(blk_cell GM.out 0).trans rfl,(blk_cell GM.out 1).trans rfl,(blk_cell GM.out 2).trans rfl⟩ (fun hHeld => ?_)
   clear hK K
   refine nm 116 ?_
   refine one_ (i := 6) (N := some 117) (bz 9 127) rfl rfl (by kernel_rfl) (by decide) (fun K hK => ?_)
   refine goes_ Try.func45 (by kernel_rfl) rfl #[.agg #[.int .u64 p,.int .i64 (T : Int),.slice Az z.length cz],.int .u64 db,.slice (dropA Ar cr O) y2.length (cr - O)] (by rfl) rfl rfl (by (try simp only [List.map_toArray,List.map_cons,List.map_nil]);first|done|rfl) ?_
   refine (tapeshift_mover_rest.calls p (T : Int) Az cz z db (dropA Ar cr O) (cr - O) y2 rb _ (by first|exact (Kd.R_reads' RZ.out).2.2|exact (Kd.R_reads' (Kd.R_drew RZ.out)).2.2) (Kd.R_reads' RZ.out).2.1 (by first|exact Kd.C_below C2.out HB.out|exact Kd.C_below C2.out (below_drew HB.out)) L2_.out F2.out).mono ?_
   rintro e w115 ⟨v117,rfl,ho,hb⟩
   have nR117_ := am (R_any ho)
   obtain ⟨A117,c117,e_⟩ := Kd.R_slice ho
   subst e_
   clear ho
   have n_ := am (below_step (HB.out) hb)
   have nRZ := am (Kd.R_below RZ.out hb)
   have nR21 := am (Kd.R_below R21.out hb)
   have nR24 := am (Kd.R_below R24.out hb)
   have nR27 := am (Kd.R_below R27.out hb)
   have h_ := below_size hb;have nBS := am (Nat.le_trans BS.out h_);clear h_
   have nGM := am (blk_below GM.out hb)
   have nLF := am (show LeftAt w115 _ _ _ _ from blk_below LF.out hb)
   clear HB GM LF RZ R21 R24 R27 BS
   have HB := n_
   have GM := nGM
   have LF := nLF
   have BS := nBS
   have RZ := nRZ
   have R21 := nR21
   have R24 := nR24
   have R27 := nR27
   clear hb n_ nGM nLF nRZ nR21 nR24 nR27 nBS
   have R117 := nR117_
   clear nR117_
   refine ⟨_,rfl,?_⟩
   clear hHeld
   refine hK.out _ _ ⟨(blk_cell GM.out 0).trans rfl,(blk_cell GM.out 1).trans rfl,(blk_cell GM.out 2).trans rfl⟩ (fun hHeld => ?_)
   clear hK K
   refine nm 117 ?_
   refine one_ (i := 7) (N := some 118) (bz 9 255) rfl rfl (by kernel_rfl) (by decide) (fun K hK => ?_)
   refine Kd.R_append_rows_step (Kd.int .u64) (w0 := w) w.heap.size (by rfl) (.tmp 111) (.tmp 117) 26 22 (.int .u64 0) 8 rfl Try.underlying26 info22 rfl (by decide) (by omega) v27 (ra) (rb) A117 (rb).length c117 (fun k => B2 ≤ k) (fun _ => False) rfl rfl R27.out (Kd.R_reads' R117.out).2.2 (fun _ _ h => h) (fun _ hk => hk.elim) (fun k hk => Nat.le_trans BS.out hk) HB.out (below_size HB.out) (by have := LRA_.out;have := LRB_.out;omega) ?_
   intro v118 w116 ho hb hg hat
   have nBS := am (Nat.le_trans BS.out hg.size)
   have nGM := am (blk_grown GM.out hg (low_not R27.out GB.out))
   have nLF := am (show LeftAt w116 _ _ _ _ from blk_grown LF.out hg (low_not R27.out LB.out))
   have nRZ := am (low_grown RZ.out R27.out hg)
   have nR21 := am (low_grown R21.out R27.out hg)
   have nR24 := am (low_grown R24.out R27.out hg)
   have n_ := am ho
   have nHB := am hb
   clear HB GM LF BS R27 RZ R21 R24
   have HB := nHB;have GM := nGM;have LF := nLF;have BS := nBS;have R27 := n_
   have RZ := nRZ
   have R21 := nR21
   have R24 := nR24
   clear ho hb hg hat n_ nHB nGM nLF nBS nRZ nR21 nR24
   clear hHeld
   refine hK.out _ _ ⟨(blk_cell GM.out 0).trans rfl,(blk_cell GM.out 1).trans rfl,(blk_cell GM.out 2).trans rfl⟩ (fun hHeld => ?_)
   clear hK K
   refine nm 118 ?_
   refine pu 8 27 (bz 9 511) ?_
   clear hHeld
   refine done_ (by kernel_rfl) ?_
   clear R117 C1 C2 E1 E2 L1 L2_ F1 F2
   have LL := am (show LeftL w w116 g2 (rests.drop ((0 + 2) * O)) from by exact left_start HRR_.out hcr (by have := HO.out;omega) LF.out (by omega))
   have R27_ := R27;clear R27
   have R27 := am (show Kd.R (Kd.int .u64) 22 w116 w.heap.size (fun k => B2 ≤ k) v118 (ra ++ rb ++ catF nR 0) by have h := R27_.out;simpa [catF] using h)
   clear R27_ HRR_
   go_wp2
   go_loopg [27,28] T (fun kq v27 v28 w' => ∃ n m : Nat,v28 = .int .i64 (n : Int) ∧ Aside0 (kq + n = T + 1) ∧ Aside0 (n = m + 1) ∧ Aside0 (Kd.R (Kd.int .u64) 22 w' w.heap.size (fun k => B2 ≤ k) v27 (ra ++ rb ++ catF nR m)) ∧ Aside0 (Kd.R (Kd.int .u64) 22 w' w.heap.size (fun k => k ≠ g2 ∧ k < B2) (.slice Az z.length cz) (z)) ∧ Aside0 (Kd.R (Kd.int .u64) 22 w' w.heap.size (fun k => k ≠ g2 ∧ k < B2) (.slice A21 q.length c21) (q)) ∧ Aside0 (Kd.R (Kd.int .u64) 22 w' w.heap.size (fun k => k ≠ g2 ∧ k < B2) (u24) (na ++ nb ++ catF nH T)) ∧ Aside0 (B2 ≤ w'.heap.size) ∧ Aside0 (w'.heap[gm]? = some (.cells #[.int .u64 p,.int .i64 (T : Int),.slice Az z.length cz] 59 (0,0))) ∧ Aside0 (LeftL w w' g2 (rests.drop ((m + 2) * O))) ∧ Aside0 (Below w.heap.size w w'))
   case atStart => exact ⟨1,0,rfl,⟨by omega⟩,⟨rfl⟩,R27,RZ,R21,R24,BS,GM,LL,HB⟩
   case round =>
    clear R27 R24 RZ R21 BS GM LF LL HB hlt q1 q2
    obtain ⟨n,m,rfl,HK,HM,R27,RZ,R21,R24,BS,GM,LL,HB⟩ := hrel
    have hmn := HM.out
    have m0 : wr.cell? ⟨gm,0,none⟩ = some (.int .u64 p) := (blk_cell GM.out 0).trans rfl;have m1 : wr.cell? ⟨gm,1,none⟩ = some (.int .i64 (T : Int)) := (blk_cell GM.out 1).trans rfl;have m2 : wr.cell? ⟨gm,2,none⟩ = some (.slice Az z.length cz) := (blk_cell GM.out 2).trans rfl
    by_cases hlt : n ≤ T
    ·have q1 : decide ((n : Int) ≤ (T : Int)) = true := decide_eq_true (by omega)
     have q2 : decide (n ≤ T) = true := decide_eq_true hlt
     have q3 : ((n : Int) ≤ (T : Int)) = True := eq_true (by omega)
     have hmT := tri_len2 (O := O) (show m ≤ T by omega)
     obtain ⟨xs,hxs⟩ : ∃ y,y = rests.drop ((m + 2) * O) := ⟨_,rfl⟩
     rw [← hxs] at LL
     obtain ⟨AL,cL,lf,cl,hcl⟩ := LL.out
     have LF := am lf;have CL := am cl;have HCL := am hcl
     clear lf cl hcl LL
     have hxl : O ≤ xs.length := by rw [hxs,List.length_drop];have h1 := LR_.out;rw [← NO.out] at h1;omega
     have XL := am hxl
     have XS := am hxs
     obtain ⟨y,hy⟩ : ∃ y,y = xs.take O := ⟨_,rfl⟩
     have hyl : y.length = O := by rw [hy,List.length_take];omega
     have EY := am (show Value.slice AL O cL = Value.slice AL y.length cL by rw [hyl])
     have YL := am hyl
     have CY := am (show Kd.C (Kd.int .u64) w AL y.length y by rw [hy];exact Kd.C_take CL.out hxl)
     have LCAT := am (show ((ra ++ rb ++ catF nR m).length + (nR n).length) * 8 ≤ 140737488355328 by have h1 := catF_len LNR_.out m (by omega);have h2 := LNR_.out n (by omega);have h3 := LRA_.out;have h4 := LRB_.out;have h5 := HT_.out;simp only [List.length_append];omega)
     have FC := am (FC_.out n hlt)
     have FNm := am (show tapeshift_mover_rest.f p (T : Int) z (cf n) y = some (nR n) by rw [hy,hxs,hmn,NO.out];exact FRN_.out m (by omega))
     have ECAT := am (show ra ++ rb ++ catF nR m ++ nR n = ra ++ rb ++ catF nR (m + 1) by rw [hmn];simp [catF,List.append_assoc])
     clear hmT hxs hy hyl hmn hxl
     go_wp2
     refine start_ (n := 11) (S := (fun w' => w'.cell? ⟨gm,0,none⟩ = some (.int .u64 p) ∧ w'.cell? ⟨gm,1,none⟩ = some (.int .i64 (T : Int)) ∧ w'.cell? ⟨gm,2,none⟩ = some (.slice Az z.length cz))) (ds := []) (bz 11 0) (by kernel_rfl) rfl rfl ⟨(blk_cell GM.out 0).trans rfl,(blk_cell GM.out 1).trans rfl,(blk_cell GM.out 2).trans rfl⟩ (fun hHeld => ?_)
     refine pu 0 125 (bz 11 1) ?_
     refine tu 1 126 (bz 11 3) hHeld ?_
     refine pu 2 127 (bz 11 7) ?_
     refine pu 3 128 (bz 11 15) ?_
     refine pu 5 130 (bz 11 47) ?_
     refine pu 6 131 (bz 11 111) ?_
     refine one_ (i := 4) (N := some 129) (bz 11 127) rfl rfl (by kernel_rfl) (by decide) (fun K hK => ?_)
     refine goes_ Try.func55 (by kernel_rfl) rfl #[.slice A21 q.length c21,.int .i64 (n : Int)] (by rfl) rfl rfl (by (try simp only [List.map_toArray,List.map_cons,List.map_nil]);first|done|rfl) ?_
     refine (poly_Coefficient.calls A21 c21 q (n : Int) (cf n) _ (by first|exact (Kd.R_reads' R21.out).2.2|exact (Kd.R_reads' (Kd.R_drew R21.out)).2.2) (Kd.R_reads' R21.out).2.1 FC.out).mono ?_
     rintro e w117 ⟨rfl,hd⟩
     have hb := drawn_belowT hd;clear hd
     have n_ := am (below_step (below_drew HB.out) hb)
     have nRZ := am (Kd.R_below (Kd.R_drew RZ.out) hb)
     have nR21 := am (Kd.R_below (Kd.R_drew R21.out) hb)
     have nR24 := am (Kd.R_below (Kd.R_drew R24.out) hb)
     have nR27 := am (Kd.R_below (Kd.R_drew R27.out) hb)
     have h_ := below_size hb;have nBS := am (Nat.le_trans BS.out h_);clear h_
     have nGM := am (blk_below (blk_drew GM.out) hb)
     have nLF := am (show LeftAt w117 _ _ _ _ from blk_below (blk_drew LF.out) hb)
     clear HB GM LF RZ R21 R24 R27 BS
     have HB := n_
     have GM := nGM
     have LF := nLF
     have BS := nBS
     have RZ := nRZ
     have R21 := nR21
     have R24 := nR24
     have R27 := nR27
     clear hb n_ nGM nLF nRZ nR21 nR24 nR27 nBS
     refine ⟨_,rfl,?_⟩
     clear hHeld
     refine hK.out _ _ ⟨(blk_cell GM.out 0).trans rfl,(blk_cell GM.out 1).trans rfl,(blk_cell GM.out 2).trans rfl⟩ (fun hHeld => ?_)
     clear hK K
     refine nm 129 ?_
     refine one_ (i := 7) (N := some 132) (bz 11 255) rfl rfl (by kernel_rfl) (by decide) (fun K hK => ?_)
     refine goesC_ Try.func79 (by kernel_rfl) rfl #[.pointer (some ⟨g2,0,none⟩)] #[.int .i64 (O : Int)] (by rfl) rfl rfl (by rfl) (by (try simp only [List.map_toArray,List.map_cons,List.map_nil]);first|done|rfl) ?_
     show Calls Try.prog 79 #[.int .i64 (O : Int),.pointer (some ⟨g2,0,none⟩)] _ _
     refine (take_walk g2 AL xs.length cL O _ (by exact LF.out) HCL.out XL.out).mono ?_
     rintro e w118 ⟨rfl,hl,ho,hbw⟩
     have n_ := am (hbw _ _ G2W.out (HB.out))
     have nRZ := am (low_far RZ.out ho)
     have nR21 := am (low_far R21.out ho)
     have nR24 := am (low_far R24.out ho)
     have nR27 := am (high_far R27.out LB.out ho)
     have h_ := (hbw 0 _ (Nat.zero_le _) (Below.refl 0 _)).size;have nBS := am (Nat.le_trans BS.out h_);clear h_
     have nGM := am ((ho gm NE2.out).trans GM.out)
     have nLF := am hl
     clear HB GM LF RZ R21 R24 R27 BS
     have HB := n_
     have GM := nGM
     have LF := nLF
     have BS := nBS
     have RZ := nRZ
     have R21 := nR21
     have R24 := nR24
     have R27 := nR27
     clear hl ho hbw n_ nGM nLF nRZ nR21 nR24 nR27 nBS
     refine ⟨_,congrArg Ending.returned EY.out,?_⟩
     clear hHeld
     refine hK.out _ _ ⟨(blk_cell GM.out 0).trans rfl,(blk_cell GM.out 1).trans rfl,(blk_cell GM.out 2).trans rfl⟩ (fun hHeld => ?_)
     clear hK K
     refine nm 132 ?_
     refine one_ (i := 8) (N := some 133) (bz 11 511) rfl rfl (by kernel_rfl) (by decide) (fun K hK => ?_)
     refine goes_ Try.func45 (by kernel_rfl) rfl #[.agg #[.int .u64 p,.int .i64 (T : Int),.slice Az z.length cz],.int .u64 (cf n),.slice AL y.length cL] (by rfl) rfl rfl (by (try simp only [List.map_toArray,List.map_cons,List.map_nil]);first|done|rfl) ?_
     refine (tapeshift_mover_rest.calls p (T : Int) Az cz z (cf n) AL cL y (nR n) _ (by first|exact (Kd.R_reads' RZ.out).2.2|exact (Kd.R_reads' (Kd.R_drew RZ.out)).2.2) (Kd.R_reads' RZ.out).2.1 (by first|exact Kd.C_below CY.out HB.out|exact Kd.C_below CY.out (below_drew HB.out)) (by rw [YL.out];exact Nat.le_trans XL.out HCL.out) FNm.out).mono ?_
     rintro e w119 ⟨v133,rfl,ho,hb⟩
     have nR133_ := am (R_any ho)
     obtain ⟨A133,c133,e_⟩ := Kd.R_slice ho
     subst e_
     clear ho
     have n_ := am (below_step (HB.out) hb)
     have nRZ := am (Kd.R_below RZ.out hb)
     have nR21 := am (Kd.R_below R21.out hb)
     have nR24 := am (Kd.R_below R24.out hb)
     have nR27 := am (Kd.R_below R27.out hb)
     have h_ := below_size hb;have nBS := am (Nat.le_trans BS.out h_);clear h_
     have nGM := am (blk_below GM.out hb)
     have nLF := am (show LeftAt w119 _ _ _ _ from blk_below LF.out hb)
     clear HB GM LF RZ R21 R24 R27 BS
     have HB := n_
     have GM := nGM
     have LF := nLF
     have BS := nBS
     have RZ := nRZ
     have R21 := nR21
     have R24 := nR24
     have R27 := nR27
     clear hb n_ nGM nLF nRZ nR21 nR24 nR27 nBS
     have R133 := nR133_
     clear nR133_
     refine ⟨_,rfl,?_⟩
     clear hHeld
     refine hK.out _ _ ⟨(blk_cell GM.out 0).trans rfl,(blk_cell GM.out 1).trans rfl,(blk_cell GM.out 2).trans rfl⟩ (fun hHeld => ?_)
     clear hK K
     refine nm 133 ?_
     refine one_ (i := 9) (N := some 134) (bz 11 1023) rfl rfl (by kernel_rfl) (by decide) (fun K hK => ?_)
     refine Kd.R_append_rows_step (Kd.int .u64) (w0 := w) w.heap.size (by rfl) (.tmp 125) (.tmp 133) 26 22 (.int .u64 0) 8 rfl Try.underlying26 info22 rfl (by decide) (by omega) u27 (ra ++ rb ++ catF nR m) (nR n) A133 (nR n).length c133 (fun k => B2 ≤ k) (fun _ => False) rfl rfl R27.out (Kd.R_reads' R133.out).2.2 (fun _ _ h => h) (fun _ hk => hk.elim) (fun k hk => Nat.le_trans BS.out hk) HB.out (below_size HB.out) LCAT.out ?_
     intro v134 w120 ho hb hg hat
     have nBS := am (Nat.le_trans BS.out hg.size)
     have nGM := am (blk_grown GM.out hg (low_not R27.out GB.out))
     have nLF := am (show LeftAt w120 _ _ _ _ from blk_grown LF.out hg (low_not R27.out LB.out))
     have nRZ := am (low_grown RZ.out R27.out hg)
     have nR21 := am (low_grown R21.out R27.out hg)
     have nR24 := am (low_grown R24.out R27.out hg)
     have n_ := am ho
     have nHB := am hb
     clear HB GM LF BS R27 RZ R21 R24
     have HB := nHB;have GM := nGM;have LF := nLF;have BS := nBS;have R27 := n_
     have RZ := nRZ
     have R21 := nR21
     have R24 := nR24
     clear ho hb hg hat n_ nHB nGM nLF nBS nRZ nR21 nR24
     clear hHeld
     refine hK.out _ _ ⟨(blk_cell GM.out 0).trans rfl,(blk_cell GM.out 1).trans rfl,(blk_cell GM.out 2).trans rfl⟩ (fun hHeld => ?_)
     clear hK K
     refine nm 134 ?_
     refine pu 10 27 (bz 11 2047) ?_
     clear hHeld
     refine done_ (by kernel_rfl) ?_
     rw [ECAT.out] at R27
     clear m0 m1 m2
     have m0 : w120.cell? ⟨gm,0,none⟩ = some (.int .u64 p) := (blk_cell GM.out 0).trans rfl;have m1 : w120.cell? ⟨gm,1,none⟩ = some (.int .i64 (T : Int)) := (blk_cell GM.out 1).trans rfl;have m2 : w120.cell? ⟨gm,2,none⟩ = some (.slice Az z.length cz) := (blk_cell GM.out 2).trans rfl
     clear R133
     go_wp2
     go_roundg (T - n)
     case measure => have := HK.out;omega
     case rel => exact ⟨n + 1,m + 1,by rw [show wrap64 ((n : Int) + 1) = ((n + 1 : Nat) : Int) from by have := HT_.out;rw [wrap64];omega],⟨by have := HK.out;omega⟩,⟨by have := HM.out;omega⟩,R27,RZ,R21,R24,BS,GM,⟨left_step XS.out HCL.out XL.out CL.out LF.out (by have := Nat.add_mul m 1 O;have := Nat.add_mul (m + 1) 2 O;have := Nat.add_mul m 2 O;omega)⟩,HB⟩
    ·have q1 : decide ((n : Int) ≤ (T : Int)) = false := decide_eq_false (by omega)
     have q2 : decide (n ≤ T) = false := decide_eq_false hlt
     have hm : m = T := by have := HK.out;omega
     have hmT := tri_len2 (O := O) (show m ≤ T by exact Nat.le_of_eq hm)
     obtain ⟨xs,hxs⟩ : ∃ y,y = rests.drop ((m + 2) * O) := ⟨_,rfl⟩
     rw [← hxs] at LL
     obtain ⟨AL,cL,lf,cl,hcl⟩ := LL.out
     have LF := am lf;have CL := am cl;have HCL := am hcl
     clear lf cl hcl LL
     have hxl : O ≤ xs.length := by rw [hxs,List.length_drop];have h1 := LR_.out;rw [← NO.out] at h1;omega
     have XL := am hxl
     have XS := am hxs
     obtain ⟨y,hy⟩ : ∃ y,y = xs.take O := ⟨_,rfl⟩
     have hyl : y.length = O := by rw [hy,List.length_take];omega
     have EY := am (show Value.slice AL O cL = Value.slice AL y.length cL by rw [hyl])
     have YL := am hyl
     have CY := am (show Kd.C (Kd.int .u64) w AL y.length y by rw [hy];exact Kd.C_take CL.out hxl)
     have LCAT := am (show ((ra ++ rb ++ catF nR m).length + (nR 0).length) * 8 ≤ 140737488355328 by have h1 := catF_len LNR_.out m (by exact Nat.le_of_eq hm);have h2 := LNR_.out 0 (by omega);have h3 := LRA_.out;have h4 := LRB_.out;have h5 := HT_.out;simp only [List.length_append];omega)
     have FC := am (show poly_Coefficient.f q 0 = some (cf 0) from by exact FC_.out 0 (Nat.zero_le _))
     have FNm := am (show tapeshift_mover_rest.f p (T : Int) z (cf 0) y = some (nR 0) by rw [hy,hxs,hm,NO.out];exact FR0_.out)
     have HMT := am hm
     clear hmT hxs hy hyl hmn hxl hm
     go_wp2
     refine start_ (n := 12) (S := (fun w' => w'.cell? ⟨gm,0,none⟩ = some (.int .u64 p) ∧ w'.cell? ⟨gm,1,none⟩ = some (.int .i64 (T : Int)) ∧ w'.cell? ⟨gm,2,none⟩ = some (.slice Az z.length cz))) (ds := []) (bz 12 0) (by kernel_rfl) rfl rfl ⟨(blk_cell GM.out 0).trans rfl,(blk_cell GM.out 1).trans rfl,(blk_cell GM.out 2).trans rfl⟩ (fun hHeld => ?_)
     refine pu 0 135 (bz 12 1) ?_
     refine pu 1 136 (bz 12 3) ?_
     refine tu 2 137 (bz 12 7) hHeld ?_
     refine pu 3 138 (bz 12 15) ?_
     refine pu 5 140 (bz 12 47) ?_
     refine pu 6 141 (bz 12 111) ?_
     refine one_ (i := 4) (N := some 139) (bz 12 127) rfl rfl (by kernel_rfl) (by decide) (fun K hK => ?_)
     refine goes_ Try.func55 (by kernel_rfl) rfl #[.slice A21 q.length c21,.int .i64 0] (by rfl) rfl rfl (by (try simp only [List.map_toArray,List.map_cons,List.map_nil]);first|done|rfl) ?_
     refine (poly_Coefficient.calls A21 c21 q 0 (cf 0) _ (by first|exact (Kd.R_reads' R21.out).2.2|exact (Kd.R_reads' (Kd.R_drew R21.out)).2.2) (Kd.R_reads' R21.out).2.1 FC.out).mono ?_
     rintro e w121 ⟨rfl,hd⟩
     have hb := drawn_belowT hd;clear hd
     have n_ := am (below_step (below_drew HB.out) hb)
     have nRZ := am (Kd.R_below (Kd.R_drew RZ.out) hb)
     have nR21 := am (Kd.R_below (Kd.R_drew R21.out) hb)
     have nR24 := am (Kd.R_below (Kd.R_drew R24.out) hb)
     have nR27 := am (Kd.R_below (Kd.R_drew R27.out) hb)
     have h_ := below_size hb;have nBS := am (Nat.le_trans BS.out h_);clear h_
     have nGM := am (blk_below (blk_drew GM.out) hb)
     have nLF := am (show LeftAt w121 _ _ _ _ from blk_below (blk_drew LF.out) hb)
     clear HB GM LF RZ R21 R24 R27 BS
     have HB := n_
     have GM := nGM
     have LF := nLF
     have BS := nBS
     have RZ := nRZ
     have R21 := nR21
     have R24 := nR24
     have R27 := nR27
     clear hb n_ nGM nLF nRZ nR21 nR24 nR27 nBS
     refine ⟨_,rfl,?_⟩
     clear hHeld
     refine hK.out _ _ ⟨(blk_cell GM.out 0).trans rfl,(blk_cell GM.out 1).trans rfl,(blk_cell GM.out 2).trans rfl⟩ (fun hHeld => ?_)
     clear hK K
     refine nm 139 ?_
     refine one_ (i := 7) (N := some 142) (bz 12 255) rfl rfl (by kernel_rfl) (by decide) (fun K hK => ?_)
     refine goesC_ Try.func79 (by kernel_rfl) rfl #[.pointer (some ⟨g2,0,none⟩)] #[.int .i64 (O : Int)] (by rfl) rfl rfl (by rfl) (by (try simp only [List.map_toArray,List.map_cons,List.map_nil]);first|done|rfl) ?_
     show Calls Try.prog 79 #[.int .i64 (O : Int),.pointer (some ⟨g2,0,none⟩)] _ _
     refine (take_walk g2 AL xs.length cL O _ (by exact LF.out) HCL.out XL.out).mono ?_
     rintro e w122 ⟨rfl,hl,ho,hbw⟩
     have n_ := am (hbw _ _ G2W.out (HB.out))
     have nRZ := am (low_far RZ.out ho)
     have nR21 := am (low_far R21.out ho)
     have nR24 := am (low_far R24.out ho)
     have nR27 := am (high_far R27.out LB.out ho)
     have h_ := (hbw 0 _ (Nat.zero_le _) (Below.refl 0 _)).size;have nBS := am (Nat.le_trans BS.out h_);clear h_
     have nGM := am ((ho gm NE2.out).trans GM.out)
     have nLF := am hl
     clear HB GM LF RZ R21 R24 R27 BS
     have HB := n_
     have GM := nGM
     have LF := nLF
     have BS := nBS
     have RZ := nRZ
     have R21 := nR21
     have R24 := nR24
     have R27 := nR27
     clear hl ho hbw n_ nGM nLF nRZ nR21 nR24 nR27 nBS
     refine ⟨_,congrArg Ending.returned EY.out,?_⟩
     clear hHeld
     refine hK.out _ _ ⟨(blk_cell GM.out 0).trans rfl,(blk_cell GM.out 1).trans rfl,(blk_cell GM.out 2).trans rfl⟩ (fun hHeld => ?_)
     clear hK K
     refine nm 142 ?_
     refine one_ (i := 8) (N := some 143) (bz 12 511) rfl rfl (by kernel_rfl) (by decide) (fun K hK => ?_)
     refine goes_ Try.func45 (by kernel_rfl) rfl #[.agg #[.int .u64 p,.int .i64 (T : Int),.slice Az z.length cz],.int .u64 (cf 0),.slice AL y.length cL] (by rfl) rfl rfl (by (try simp only [List.map_toArray,List.map_cons,List.map_nil]);first|done|rfl) ?_
     refine (tapeshift_mover_rest.calls p (T : Int) Az cz z (cf 0) AL cL y (nR 0) _ (by first|exact (Kd.R_reads' RZ.out).2.2|exact (Kd.R_reads' (Kd.R_drew RZ.out)).2.2) (Kd.R_reads' RZ.out).2.1 (by first|exact Kd.C_below CY.out HB.out|exact Kd.C_below CY.out (below_drew HB.out)) (by rw [YL.out];exact Nat.le_trans XL.out HCL.out) FNm.out).mono ?_
     rintro e w123 ⟨v143,rfl,ho,hb⟩
     have nR143_ := am (R_any ho)
     obtain ⟨A143,c143,e_⟩ := Kd.R_slice ho
     subst e_
     clear ho
     have n_ := am (below_step (HB.out) hb)
     have nRZ := am (Kd.R_below RZ.out hb)
     have nR21 := am (Kd.R_below R21.out hb)
     have nR24 := am (Kd.R_below R24.out hb)
     have nR27 := am (Kd.R_below R27.out hb)
     have h_ := below_size hb;have nBS := am (Nat.le_trans BS.out h_);clear h_
     have nGM := am (blk_below GM.out hb)
     have nLF := am (show LeftAt w123 _ _ _ _ from blk_below LF.out hb)
     clear HB GM LF RZ R21 R24 R27 BS
     have HB := n_
     have GM := nGM
     have LF := nLF
     have BS := nBS
     have RZ := nRZ
     have R21 := nR21
     have R24 := nR24
     have R27 := nR27
     clear hb n_ nGM nLF nRZ nR21 nR24 nR27 nBS
     have R143 := nR143_
     clear nR143_
     refine ⟨_,rfl,?_⟩
     clear hHeld
     refine hK.out _ _ ⟨(blk_cell GM.out 0).trans rfl,(blk_cell GM.out 1).trans rfl,(blk_cell GM.out 2).trans rfl⟩ (fun hHeld => ?_)
     clear hK K
     refine nm 143 ?_
     refine one_ (i := 9) (N := some 144) (bz 12 1023) rfl rfl (by kernel_rfl) (by decide) (fun K hK => ?_)
     refine Kd.R_append_rows_step (Kd.int .u64) (w0 := w) w.heap.size (by rfl) (.tmp 136) (.tmp 143) 26 22 (.int .u64 0) 8 rfl Try.underlying26 info22 rfl (by decide) (by omega) u27 (ra ++ rb ++ catF nR m) (nR 0) A143 (nR 0).length c143 (fun k => B2 ≤ k) (fun _ => False) rfl rfl R27.out (Kd.R_reads' R143.out).2.2 (fun _ _ h => h) (fun _ hk => hk.elim) (fun k hk => Nat.le_trans BS.out hk) HB.out (below_size HB.out) LCAT.out ?_
     intro v144 w124 ho hb hg hat
     have nBS := am (Nat.le_trans BS.out hg.size)
     have nGM := am (blk_grown GM.out hg (low_not R27.out GB.out))
     have nLF := am (show LeftAt w124 _ _ _ _ from blk_grown LF.out hg (low_not R27.out LB.out))
     have nRZ := am (low_grown RZ.out R27.out hg)
     have nR21 := am (low_grown R21.out R27.out hg)
     have nR24 := am (low_grown R24.out R27.out hg)
     have n_ := am ho
     have nHB := am hb
     clear HB GM LF BS R27 RZ R21 R24
     have HB := nHB;have GM := nGM;have LF := nLF;have BS := nBS;have R27 := n_
     have RZ := nRZ
     have R21 := nR21
     have R24 := nR24
     clear ho hb hg hat n_ nHB nGM nLF nBS nRZ nR21 nR24
     clear hHeld
     refine hK.out _ _ ⟨(blk_cell GM.out 0).trans rfl,(blk_cell GM.out 1).trans rfl,(blk_cell GM.out 2).trans rfl⟩ (fun hHeld => ?_)
     clear hK K
     refine nm 144 ?_
     refine pu 10 12 (bz 12 2047) ?_
     refine pu 11 13 (bz 12 4095) ?_
     clear hHeld
     refine done_ (by kernel_rfl) ?_
     rw [HMT.out] at R27
     go_wp2
     first|go_ret|((try simp only [Exit.inBlock,Exit.then]);refine bodyPost_ret (results_tmp2 rfl _ _ _) rfl ?_)
     refine ⟨_,_,rfl,Kd.R_mono R24.out fun k hk => low_not R27.out hk.2,Kd.R_mono R27.out fun k hk he => ?_,HB.out⟩
     have h1 := (R24.out.1 k he.symm).2
     have h2 : B2 ≤ k := hk
     omega
end Go.Proofs.Ytejeelpnmdfibaa.Hw
end
section
namespace Go.Proofs.Ytejeelpnmdfibaa.E
open Go.RowKit Go.Proofs.Ytejeelpnmdfibaa.Pr Go.Proofs.Ytejeelpnmdfibaa.Hw Go.Proofs.Ytejeelpnmdfibaa.Pl Go.Proofs.YtejeelpnmdfibaaW.PrintWords Go.Proofs.YtejeelpnmdfibaaW.PrintLast Go.Proofs.YtejeelpnmdfibaaW.PrintMore
theorem allQ {F : Nat → Int → Option Bool} {n : Nat} {Q : Nat → Prop} [DecidablePred Q] {e : Bool} (hend : Ev (fun k => F k (n : Int)) e) (hyes : ∀ i,i < n → Q i → ∀ r,Ev (fun k => F k ((i + 1 : Nat) : Int)) r → Ev (fun k => F k (i : Int)) r)
  (hno : ∀ i,i < n → ¬ Q i → Ev (fun k => F k (i : Int)) false) (r : Bool) (hr : r = true ↔ ((∀ i,i < n → Q i) ∧ e = true)) : Ev (fun k => F k ((0 : Nat) : Int)) r := by
 by_cases hall : ∀ i,i < n → Q i
 ·have : r = e := by
   cases e with
   | true => exact hr.2 ⟨hall,rfl⟩
   | false => exact Bool.eq_false_iff.mpr fun h => by have := (hr.1 h).2;cases this
  rw [this]
  exact up (Q := fun i => Ev (fun k => F k (i : Int)) e) (n := n) hend fun i hi h => hyes i hi (hall i hi) e h
 ·have hf : r = false := Bool.eq_false_iff.mpr fun h => hall (hr.1 h).1
  rw [hf]
  obtain ⟨i,hi,hq⟩ : ∃ i,i < n ∧ ¬ Q i := Classical.byContradiction fun h => hall fun i hi => Classical.byContradiction fun hq => h ⟨i,hi,hq⟩
  refine up (Q := fun i => Ev (fun k => F k (i : Int)) false) (n := i) (hno i hi hq) fun j hj h => ?_
  by_cases hqj : Q j
  ·exact hyes j (by omega) hqj false h
  ·exact hno j (by omega) hqj
theorem words_ev (a b : List Int) (ha : a.length ≤ 1000000000) : Ev (fun k => privityref14_Words.f k a b) (decide (a = b)) := by
 by_cases hl : a.length = b.length
 ·have h := allQ (F := fun k i => privityref14_Words.l0 k a b i) (n := a.length) (Q := fun i => a.getD i 0 = b.getD i 0) (e := true) ?_ (fun i hi hq r h => ?_) (fun i hi hq => ?_) (decide (a = b)) ?_
  ·refine h.congr fun k => ?_
   unfold privityref14_Words.f
   rw [if_pos (by omega)];rfl
  ·refine Ev.step (fun k => ?_) (Ev.now _)
   simp only [privityref14_Words.l0]
   rw [if_neg (by omega)]
  ·refine Ev.step (fun k => ?_) h
   simp only [privityref14_Words.l0]
   rw [if_pos (by omega),if_pos (by omega),if_pos (by omega),rd_nat,rd_nat,if_pos hq,wnat (by omega)]
  ·refine Ev.step (fun k => ?_) (Ev.now _)
   simp only [privityref14_Words.l0]
   rw [if_pos (by omega),if_pos (by omega),if_pos (by omega),rd_nat,rd_nat,if_neg hq]
  ·rw [decide_eq_true_iff]
   refine ⟨fun e => ⟨fun i _ => by rw [e],rfl⟩,fun h => list_ext_getD hl fun i => ?_⟩
   by_cases hi : i < a.length
   ·exact h.1 i hi
   ·rw [getD_out a i (by omega),getD_out b i (by omega)]
 ·have : decide (a = b) = false := decide_eq_false fun e => hl (by rw [e])
  rw [this]
  refine Ev.congr (fun k => ?_) (Ev.now _)
  unfold privityref14_Words.f
  rw [if_neg (by omega)]
def val12B (p N T : Int) : Bool := supB p && decide (4 ≤ N ∧ N ≤ 13 ∧ N < p ∧ 1 ≤ T ∧ T < N ∧ 3 * T < N)
theorem val12_ev (p N T : Int) : Ev (fun k => privityref12_Valid.f k p N T) (val12B p N T) := by
 unfold privityref12_Valid.f
 refine ev_if (supported_ev p) (fun h => ?_) (fun h => ?_)
 ·unfold val12B
  rw [h,Bool.true_and]
  refine Ev.congr (fun k => ?_) (Ev.now _)
  by_cases h1 : 4 ≤ N
  ·rw [if_pos h1]
   by_cases h2 : N ≤ 13
   ·rw [if_pos h2,wrapU_id (by omega) (by omega)]
    by_cases h3 : N < p
    ·rw [if_pos h3]
     by_cases h4 : 1 ≤ T
     ·rw [if_pos h4]
      by_cases h5 : T < N
      ·rw [if_pos h5,w64' (by omega) (by omega)]
       by_cases h6 : 3 * T < N
       ·rw [decide_eq_true h6,decide_eq_true ⟨h1,h2,h3,h4,h5,h6⟩]
       ·rw [decide_eq_false h6,decide_eq_false fun h => h6 h.2.2.2.2.2]
      ·rw [if_neg h5,decide_eq_false fun h => h5 h.2.2.2.2.1]
     ·rw [if_neg h4,decide_eq_false fun h => h4 h.2.2.2.1]
    ·rw [if_neg h3,decide_eq_false fun h => h3 h.2.2.1]
   ·rw [if_neg h2,decide_eq_false fun h => h2 h.2.1]
  ·rw [if_neg h1,decide_eq_false fun h => h1 h.1]
 ·have : val12B p N T = false := by unfold val12B;rw [h];rfl
  rw [this];exact Ev.now _
def IncAt (N : Int) (l : List Int) (i : Nat) : Prop := 1 ≤ l.getD i 0 ∧ l.getD i 0 ≤ N ∧ (i = 0 ∨ l.getD (i - 1) 0 < l.getD i 0)
instance (N : Int) (l : List Int) : DecidablePred (IncAt N l) := fun i => by unfold IncAt;infer_instance
def incB (N : Int) (l : List Int) : Bool := decide (∀ i,i < l.length → IncAt N l i)
def coaB (p N T : Int) (l : List Int) : Bool := val12B p N T && (decide ((l.length : Int) ≤ T) && incB N l)
theorem coa12_ev (p N T : Int) (l : List Int) : Ev (fun k => privityref12_ValidCoalition.f k p N T l) (coaB p N T l) := by
 unfold privityref12_ValidCoalition.f
 have hno : ∀ r,r = false → Ev (fun k => privityref12_ValidCoalition.j0 k l true p N T) r := fun r hr => by
  subst hr
  refine Ev.step (fun k => ?_) (Ev.now _)
  simp only [privityref12_ValidCoalition.j0]
  rw [if_pos trivial]
 refine ev_if (val12_ev p N T) (fun h => ?_) (fun h => hno _ (by unfold coaB;rw [h];rfl))
 unfold coaB
 rw [h,Bool.true_and]
 unfold val12B at h
 rw [Bool.and_eq_true,decide_eq_true_eq] at h
 obtain ⟨_,a1,a2,a3,a4,a5,a6⟩ := h
 by_cases hl : (l.length : Int) > T
 ·rw [decide_eq_true hl]
  exact hno _ (by rw [decide_eq_false (by omega)];rfl)
 ·rw [decide_eq_false hl,decide_eq_true (by omega),Bool.true_and]
  refine Ev.step (f := fun k => privityref12_ValidCoalition.l0 k l ((0 : Nat) : Int) p N T) (fun k => ?_) ?_
  ·simp only [privityref12_ValidCoalition.j0]
   rw [if_neg (by simp)];rfl
  ·refine allQ (F := fun k i => privityref12_ValidCoalition.l0 k l i p N T) (n := l.length) (Q := IncAt N l) (e := true) ?_ (fun i hi hq r h => ?_) (fun i hi hq => ?_) (incB N l) (by unfold incB;rw [decide_eq_true_iff];exact ⟨fun h => ⟨h,rfl⟩,fun h => h.1⟩)
   ·refine Ev.step (fun k => ?_) (Ev.now _)
    simp only [privityref12_ValidCoalition.l0]
    rw [if_neg (by omega)]
   ·obtain ⟨q1,q2,q3⟩ := hq
    refine Ev.step (fun k => ?_) h
    simp only [privityref12_ValidCoalition.l0]
    rw [if_pos (by omega),if_pos (by omega),rd_nat,if_neg (by omega),if_neg (by omega),wnat (by omega)]
    by_cases h0 : i = 0
    ·rw [if_neg (by omega)]
    ·rw [if_pos (by omega),w64' (n := (i : Int) - 1) (by omega) (by omega),if_pos (by omega),if_pos (by omega),show (i : Int) - 1 = ((i - 1 : Nat) : Int) from by omega,rd_nat,if_neg (by have := q3.resolve_left h0;omega)]
   ·refine Ev.step (fun k => ?_) (Ev.now _)
    simp only [privityref12_ValidCoalition.l0]
    rw [if_pos (by omega),if_pos (by omega),rd_nat]
    by_cases q1 : l.getD i 0 < 1
    ·rw [if_pos q1]
    ·rw [if_neg q1]
     by_cases q2 : l.getD i 0 > N
     ·rw [if_pos q2]
     ·have h0 : i ≠ 0 := fun e => hq ⟨by omega,by omega,.inl e⟩
      rw [if_neg q2,if_pos (by omega),w64' (n := (i : Int) - 1) (by omega) (by omega),if_pos (by omega),if_pos (by omega),show (i : Int) - 1 = ((i - 1 : Nat) : Int) from by omega,rd_nat,if_pos (Int.not_lt.1 fun h => hq ⟨by omega,by omega,.inr h⟩)]
def mayB (p N T : Int) (l : List Int) : Bool := val12B p N T && (decide (N ≤ 7) && coaB p N T l)
theorem may_ev (p N T : Int) (l : List Int) (da db : Int) (w : List Int) : Ev (fun k => privitylaw43_may.f k p N T l da db w) (mayB p N T l) := by
 unfold privitylaw43_may.f
 refine ev_if (val12_ev p N T) (fun h => ?_) (fun h => by unfold mayB;rw [h];exact Ev.now _)
 unfold mayB
 rw [h,Bool.true_and]
 refine ev_ite (fun h7 => ?_) (fun h7 => by rw [decide_eq_false h7];exact Ev.now _)
 rw [decide_eq_true h7,Bool.true_and]
 exact Ev.bind (coa12_ev p N T l) (Ev.now _)
theorem inc_lt {N : Int} {l : List Int} (h : ∀ i,i < l.length → IncAt N l i) (i : Nat) : ∀ d,i + d + 1 < l.length → l.getD i 0 < l.getD (i + d + 1) 0
 | 0,hd => by
  have := (h (i + 1) hd).2.2.resolve_left (by omega)
  rwa [Nat.add_sub_cancel] at this
 | d + 1,hd => by
  have h1 := inc_lt h i d (by omega)
  have h2 := (h (i + d + 1 + 1) hd).2.2.resolve_left (by omega)
  rw [Nat.add_sub_cancel] at h2
  have : i + (d + 1) + 1 = i + d + 1 + 1 := by omega
  rw [this];omega
structure Ok12 (p N T : Int) (bad : List Int) : Prop where
 hp : Supp p
 np : N < p
 coa : CoaB N T bad
theorem ok12 {p N T : Int} {l : List Int} (h : coaB p N T l = true) : Ok12 p N T l := by
 unfold coaB val12B incB at h
 rw [Bool.and_eq_true,Bool.and_eq_true,Bool.and_eq_true,decide_eq_true_eq,decide_eq_true_eq,decide_eq_true_eq] at h
 obtain ⟨⟨h1,a1,a2,a3,a4,a5,a6⟩,h2,h3⟩ := h
 have hin : ∀ x ∈ l,∃ i,i < l.length ∧ l.getD i 0 = x := fun x hx => by
  obtain ⟨i,hi,rfl⟩ := List.getElem_of_mem hx
  exact ⟨i,hi,Hw.getD_in _ _ hi⟩
 refine ⟨supB_of h1,a3,⟨a1,a2,a4,a6,h2,?_,fun x hx => ?_⟩⟩
 ·rw [List.nodup_iff_pairwise_ne]
  refine List.pairwise_iff_getElem.2 fun i j hi hj hij e => ?_
  have := inc_lt h3 i (j - i - 1) (by omega)
  rw [show i + (j - i - 1) + 1 = j from by omega,Hw.getD_in _ _ hi,Hw.getD_in _ _ hj,e] at this
  omega
 ·obtain ⟨i,hi,rfl⟩ := hin x hx
  have := h3 i hi
  exact ⟨this.1,this.2.1⟩
structure OkM (p N T : Int) (bad : List Int) : Prop where
 ok : Ok12 p N T bad
 n7 : N ≤ 7
theorem okM {p N T : Int} {l : List Int} (h : mayB p N T l = true) : OkM p N T l := by
 unfold mayB at h
 rw [Bool.and_eq_true,Bool.and_eq_true,decide_eq_true_eq] at h
 exact ⟨ok12 h.2.2,h.2.1⟩
theorem OkM.t {p N T : Int} {bad : List Int} (h : OkM p N T bad) : T = 1 ∨ T = 2 := by
 have h1 := h.ok.coa.t0
 have h2 := h.ok.coa.t1
 have h3 := h.n7
 omega
def cutL (p : Int) (w : List Int) (m n : Nat) : List Int := tabL n fun i => if m + i < w.length then w.getD (m + i) 0 % p else 0
theorem cutL_length (p : Int) (w : List Int) (m n : Nat) : (cutL p w m n).length = n := tabL_length _ _
theorem cutL_res {p : Int} (hp : Supp p) (w : List Int) (m n : Nat) : ∀ x ∈ cutL p w m n,Res p x := tabL_res fun i _ => by
 split
 ·exact Res.mod hp _
 ·have := hp.bd;exact ⟨Int.le_refl 0,by omega⟩
theorem cut_ev {p : Int} (hp : Supp p) (N T : Int) (bad : List Int) (da db : Int) {w : List Int} (hw : ∀ x ∈ w,0 ≤ x) (m n : Nat) (hm : m ≤ 1000) (hn : n ≤ 1000) : Ev (fun k => privitylaw43_cut.f k p N T bad da db w (m : Int) (n : Int)) (cutL p w m n) := by
 have hb := hp.bd
 unfold privitylaw43_cut.f
 have hs : wrap64 ((m : Int) + (n : Int)) = ((m + n : Nat) : Int) := by rw [w64' (by omega) (by omega)];omega
 have h := up (Q := fun i => Ev (fun k => privitylaw43_cut.l0 k (m : Int) (n : Int) (cutL p w m i) ((m + i : Nat) : Int) p N T bad da db w) (cutL p w m n)) (n := n) ?_ fun i hi h => ?_
 ·exact h
 ·refine Ev.step (fun k => ?_) (Ev.now _)
  simp only [privitylaw43_cut.l0]
  rw [hs,if_neg (by omega)]
 ·have e : cutL p w m (i + 1) = cutL p w m i ++ [if m + i < w.length then w.getD (m + i) 0 % p else 0] := tabL_succ _ _
  rw [e] at h
  refine Ev.step (fun k => ?_) h
  simp only [privitylaw43_cut.l0]
  rw [hs,if_pos (by omega),wnat (by omega),cutL_length]
  by_cases hlt : m + i < w.length
  ·have h0 : 0 ≤ w.getD (m + i) 0 := by rw [Hw.getD_in _ _ hlt];exact hw _ (List.getElem_mem _)
   rw [if_pos hlt,if_pos (by omega),if_pos (by omega),if_neg (by omega),if_pos (by omega),rd_nat,tmod_pos h0];rfl
  ·rw [if_neg hlt,if_neg (by omega),if_pos (by omega)];rfl
theorem Ok12.van {p N T : Int} {bad : List Int} (h : Ok12 p N T bad) : VanOk p (extB N T bad) :=
 ⟨fun x hx => by have := extB_range h.coa x hx;have := h.np;exact ⟨by omega,by omega⟩,fun x hx => by have := extB_range h.coa x hx;omega,extB_nodup h.coa⟩
def vanZ (p N T : Int) (bad : List Int) : List Int := polL p (vanP (extB N T bad))
theorem vanZ_length {p N T : Int} {bad : List Int} (h : Ok12 p N T bad) : ((vanZ p N T bad).length : Int) = T + 1 := by
 unfold vanZ
 rw [van_len h.hp h.van]
 have := extB_length h.coa
 omega
theorem vanpol_ev {p N T : Int} {bad : List Int} (h : Ok12 p N T bad) : Ev (fun k => params_VanishingPolynomial.f k p N T bad) (vanZ p N T bad) := by
 have hp := h.hp
 have hc := h.coa
 have hn0 := hc.n0
 have hn1 := hc.n1
 have hlen := hc.len
 have ht := hc.t1
 have hel := extB_length hc
 have hext : params_ExtendCoalition.f p N T bad = some (extB N T bad) := by
  unfold params_ExtendCoalition.f
  rw [if_pos (by omega),if_pos (by omega),if_pos (by omega),if_pos]
  ·rfl
  ·refine List.all_eq_true.2 fun x hx => ?_
   have := hc.rng x hx
   rw [Bool.and_eq_true,decide_eq_true_eq,decide_eq_true_eq];omega
 unfold params_VanishingPolynomial.f
 obtain ⟨e,he⟩ : ∃ e,e = extB N T bad := ⟨_,rfl⟩
 have hv := h.van
 have hr := extB_range hc
 unfold vanZ
 rw [← he] at hext hel hv hr ⊢
 refine ev_now_bind hext ?_
 have hmain := up (Q := fun i => Ev (fun k => params_VanishingPolynomial.l0 k (vanP (e.take i)) e (e.length : Int) (i : Int) p N T) (polL p (vanP e))) (n := e.length) ?_ fun i hi h => ?_
 ·exact hmain
 ·rw [List.take_length]
  refine Ev.step (f := fun k => (interpolate_Polynomial.f p (vanP e)).bind fun bt => some bt.1) (fun k => ?_) ?_
  ·simp only [params_VanishingPolynomial.l0]
   rw [if_neg (by omega)]
  ·refine ev_now_bind (ipol_eq hp (vanP_ok hp hv) (by rw [vanP_length];omega)) ?_
   rw [if_pos (vanP_nd hp hv)]
   exact Ev.now _
 ·have e1 : vanP (e.take (i + 1)) = vanP (e.take i) ++ [⟨e.getD i 0,0⟩] := by
   have e2 : e.take (i + 1) = e.take i ++ [e.getD i 0] := by
    rw [List.take_add_one,List.getElem?_eq_getElem hi,Hw.getD_in _ _ hi];rfl
   unfold vanP
   rw [e2,List.map_append];rfl
  rw [e1] at h
  have hx := hr (e.getD i 0) (by rw [Hw.getD_in _ _ hi];exact List.getElem_mem _)
  refine Ev.step (fun k => ?_) h
  simp only [params_VanishingPolynomial.l0]
  rw [if_pos (by omega),if_pos (by omega),if_pos (by omega),if_pos (by rw [vanP_length,List.length_take];omega),rd_nat,wrapU_id (by omega) (by omega),wnat (by omega)]
def byL (p : Int) (z : List Int) (d : Int) (l : List Int) : List Int := tabL l.length fun j => (l.getD j 0 + d * z.getD j 0 % p) % p
theorem byL_length (p : Int) (z : List Int) (d : Int) (l : List Int) : (byL p z d l).length = l.length := tabL_length _ _
theorem byL_res {p : Int} (hp : Supp p) (z : List Int) (d : Int) (l : List Int) : ∀ x ∈ byL p z d l,Res p x := tabL_res fun _ _ => Res.mod hp _
def byS (p : Int) (z : List Int) (d : Int) (l : List Int) (i : Nat) : List Int := tabL l.length fun j => if j < i then (l.getD j 0 + d * z.getD j 0 % p) % p else l.getD j 0
theorem byS_next (p : Int) (z : List Int) (d : Int) (l : List Int) (i : Nat) (hi : i < l.length) : (byS p z d l i).set i ((l.getD i 0 + d * z.getD i 0 % p) % p) = byS p z d l (i + 1) := by
 refine list_ext_getD (by rw [List.length_set];unfold byS;rw [tabL_length,tabL_length]) fun j => ?_
 have hl : (byS p z d l i).length = l.length := tabL_length _ _
 by_cases e : j = i
 ·subst e
  unfold byS
  rw [List.getD_eq_getElem?_getD,List.getElem?_set_self (by rw [tabL_length];exact hi),tabL_getD,if_pos hi,if_pos (Nat.lt_succ_self _)]
  rfl
 ·rw [List.getD_eq_getElem?_getD,List.getElem?_set_ne (Ne.symm e),← List.getD_eq_getElem?_getD]
  unfold byS
  rw [tabL_getD,tabL_getD]
  by_cases hj : j < l.length
  ·rw [if_pos hj,if_pos hj]
   by_cases h1 : j < i
   ·rw [if_pos h1,if_pos (by omega)]
   ·rw [if_neg h1,if_neg (by omega)]
  ·rw [if_neg hj,if_neg hj]
theorem by_ev {p : Int} (hp : Supp p) (T : Int) {z l : List Int} (hz : ∀ x ∈ z,Res p x) (hl : ∀ x ∈ l,Res p x) (hzl : l.length ≤ z.length) (hll : l.length ≤ 1000) {d : Int} (hd : Res p d) : Ev (fun k => tapeshift_mover_by.f k p T z d l) (byL p z d l) := by
 unfold tapeshift_mover_by.f
 have hcl : slices_Clone_uint64_uint64.f l = some l := by unfold slices_Clone_uint64_uint64.f;rw [if_pos (by omega)]
 refine ev_now_bind hcl ?_
 have e0 : byS p z d l 0 = l := by
  unfold byS
  refine (tabL_congr fun j hj => ?_).trans (tabL_of l)
  rw [if_neg (by omega)]
 have e1 : byS p z d l l.length = byL p z d l := tabL_congr fun j hj => by rw [if_pos hj]
 have h := up (Q := fun i => Ev (fun k => tapeshift_mover_by.l0 k d (byS p z d l i) (l.length : Int) (i : Int) p T z) (byL p z d l)) (n := l.length) ?_ fun i hi h => ?_
 ·rw [e0] at h;exact h
 ·rw [e1]
  refine Ev.step (fun k => ?_) (Ev.now _)
  simp only [tapeshift_mover_by.l0]
  rw [if_neg (by omega)]
 ·have hbl : (byS p z d l i).length = l.length := tabL_length _ _
  have hbi : (byS p z d l i).getD i 0 = l.getD i 0 := by unfold byS;rw [tabL_getD,if_pos hi,if_neg (Nat.lt_irrefl _)]
  rw [← byS_next p z d l i hi] at h
  refine Ev.step (f := fun k => (field_Mul.f k p d (z.getD i 0)).bind fun t => (field_Add.f k p (l.getD i 0) t).bind fun t2 => tapeshift_mover_by.l0 k d ((byS p z d l i).set i t2) (l.length : Int) ((i + 1 : Nat) : Int) p T z) (fun k => ?_) (Ev.bind (mul_ev hp hd (res_getD hp hz i)) (Ev.bind (add_ev hp (res_getD hp hl i) (Res.mod hp _)) h))
  simp only [tapeshift_mover_by.l0]
  rw [if_pos (by omega),if_pos (by omega),if_pos (by omega),if_pos (by omega),rd_nat,rd_nat,hbi,wnat (by omega),Int.toNat_natCast]
def wL (p T : Int) (z : List Int) : List Int := if T = 1 then [z.getD 1 0 * z.getD 1 0 % p] else [z.getD 1 0 * z.getD 1 0 % p,z.getD 1 0 * z.getD 2 0 % p,z.getD 2 0 * z.getD 2 0 % p]
theorem wL1 (p : Int) (z : List Int) : wL p 1 z = [z.getD 1 0 * z.getD 1 0 % p] := if_pos rfl
theorem wL2 (p : Int) (z : List Int) : wL p 2 z = [z.getD 1 0 * z.getD 1 0 % p,z.getD 1 0 * z.getD 2 0 % p,z.getD 2 0 * z.getD 2 0 % p] := if_neg (by omega)
theorem mul3 (p d a b : Int) : d * a % p * b % p = d * (a * b % p) % p := by
 rw [mulm (a := d * a % p) (a' := d * a) (b := b) (b' := b) (Int.emod_emod_of_dvd _ (Int.dvd_refl _)) rfl,mulm (a := d) (a' := d) (b := a * b % p) (b' := a * b) rfl (Int.emod_emod_of_dvd _ (Int.dvd_refl _)),Int.mul_assoc]
theorem three {l : List Int} (h : l.length = 3) : l = [l.getD 0 0,l.getD 1 0,l.getD 2 0] := by
 match l,h with
 | [a,b,c],_ => rfl
theorem sole {l : List Int} (h : l.length = 1) : l = [l.getD 0 0] := by
 match l,h with
 | [a],_ => rfl
theorem mov_by {p T d : Int} {z r : List Int} (hT : T = 1 ∨ T = 2) (hr : r.length = T.toNat * (T.toNat + 1) / 2) : movI p d T.toNat z r T.toNat 1 0 = byL p (wL p T z) d r := by
 rcases hT with rfl|rfl
 ·have h1 : r.length = 1 := hr
  have e : byL p (wL p 1 z) d r = [(r.getD 0 0 + d * (z.getD 1 0 * z.getD 1 0 % p) % p) % p] := by
   unfold byL;rw [h1,wL1];rfl
  rw [e,← mul3];rfl
 ·have h1 : r.length = 3 := hr
  have e : byL p (wL p 2 z) d r = [(r.getD 0 0 + d * (z.getD 1 0 * z.getD 1 0 % p) % p) % p,(r.getD 1 0 + d * (z.getD 1 0 * z.getD 2 0 % p) % p) % p,(r.getD 2 0 + d * (z.getD 2 0 * z.getD 2 0 % p) % p) % p] := by
   unfold byL;rw [h1,wL2];rfl
  rw [e,← mul3,← mul3,← mul3];rfl
theorem awake43 : Ev (fun k => privitylaw43_awake.f k) true := Ev.of (fun k => privitylaw43_awake.mono _) (k := 60) privitylaw43_awake.is
theorem awake43' : Ev (fun k => (privitylaw43_awake.f k).bind fun t => some t) true := Ev.bind awake43 (Ev.now _)
def subN (p k : Int) (b : List Int) (s : Nat) (r : List Int) : Nat → List Int
 | 0 => r
 | n + 1 => (subN p k b s r n).set (s + n) (((subN p k b s r n).getD (s + n) 0 - k * b.getD n 0 % p) % p)
theorem subN_length (p k : Int) (b : List Int) (s : Nat) (r : List Int) : ∀ n,(subN p k b s r n).length = r.length
 | 0 => rfl
 | n + 1 => by rw [subN,List.length_set];exact subN_length p k b s r n
theorem res_set {p : Int} {l : List Int} (hl : ∀ x ∈ l,Res p x) (i : Nat) {v : Int} (hv : Res p v) : ∀ x ∈ l.set i v,Res p x := fun x hx => by
 rcases List.mem_or_eq_of_mem_set hx with h|h
 ·exact hl x h
 ·exact h ▸ hv
theorem subN_res {p : Int} (hp : Supp p) (k : Int) (b : List Int) (s : Nat) {r : List Int} (hr : ∀ x ∈ r,Res p x) : ∀ n,∀ x ∈ subN p k b s r n,Res p x
 | 0 => hr
 | n + 1 => by rw [subN];exact res_set (subN_res hp k b s hr n) _ (Res.mod hp _)
theorem subN_far (p k : Int) (b : List Int) (s : Nat) (r : List Int) : ∀ n j,s + n ≤ j → (subN p k b s r n).getD j 0 = r.getD j 0
 | 0,_,_ => rfl
 | n + 1,j,h => by
  rw [subN,List.getD_eq_getElem?_getD,List.getElem?_set_ne (by omega),← List.getD_eq_getElem?_getD]
  exact subN_far p k b s r n j (by omega)
theorem subN_ev {p : Int} (hp : Supp p) [NeZero p.toNat] (k : Int) (b : List Int) (s : Nat) (r : List Int) (x : Fin p.toNat) : ∀ n,s + n ≤ r.length → ev x (M p (subN p k b s r n)) = ev x (M p r) - T p k * mono x s * ev x ((M p b).take n)
 | 0,_ => by rw [subN,List.take_zero,ev];grind
 | n + 1,h => by
  have ih := subN_ev hp k b s r x n (by omega)
  have hm : M p (subN p k b s r (n + 1)) = (M p (subN p k b s r n)).set (s + n) (T p ((subN p k b s r n).getD (s + n) 0 - k * b.getD n 0)) := by
   rw [subN]
   unfold M
   rw [List.map_set]
   refine congrArg _ ?_
   rw [T_mod hp,T_sub,T_sub,T_mod hp]
  rw [hm,ev_set _ _ _ _ (by rw [M_length,subN_length];omega),ev_take_succ,ih,M_getD,M_getD,mono_add,T_sub,T_mul]
  grind
theorem dm_inner {p : Int} (hp : Supp p) {b : List Int} (hb : ∀ x ∈ b,Res p x) (hb1 : b.length ≤ 1000) (u : Int) {c : Int} (rc : Res p c) {r : List Int} (hr : ∀ x ∈ r,Res p x) (q : List Int) (s : Nat) (hs : s + b.length ≤ r.length) (h1 : r.length ≤ 1000) {X : List Int × List Int × Int}
  (hev : Ev (fun k => poly_DivMod.l0 k p b u (trimL (subN p c b s r b.length)) (q.set s c)) X) : Ev (fun k => poly_DivMod.l1 k p b u r (q.set s c) (s : Int) c b (b.length : Int) 0) X := by
 refine up (Q := fun j => Ev (fun k => poly_DivMod.l1 k p b u (subN p c b s r j) (q.set s c) (s : Int) c b (b.length : Int) ((j : Nat) : Int)) X) (n := b.length) ?_ fun j hj h => ?_
 ·refine Ev.step (f := fun k => (poly_Trim.f k (subN p c b s r b.length)).bind fun t => poly_DivMod.l0 k p b u t (q.set s c)) (fun k => ?_) (Ev.bind (trim_ev _ (by rw [subN_length];omega)) hev)
  simp only [poly_DivMod.l1]
  rw [if_neg (by omega)]
 ·have hg := subN_res hp c b s hr j
  have c1 : (j : Int) < (b.length : Int) := by omega
  have c2 : (0 : Int) ≤ (j : Int) := by omega
  have c3 : (0 : Int) ≤ ((s + j : Nat) : Int) := by omega
  have c4 : ((s + j : Nat) : Int) < ((subN p c b s r j).length : Int) := by rw [subN_length];omega
  have hj1 : wrap64 ((j : Int) + 1) = ((j + 1 : Nat) : Int) := wnat (by omega)
  have hsi : wrap64 ((s : Int) + (j : Int)) = ((s + j : Nat) : Int) := by rw [w64' (by omega) (by omega)];omega
  refine Ev.step (f := fun k => (field_Mul.f k p c (b.getD j 0)).bind fun t => (field_Sub.f k p ((subN p c b s r j).getD (s + j) 0) t).bind fun t2 => poly_DivMod.l1 k p b u ((subN p c b s r j).set (s + j) t2) (q.set s c) (s : Int) c b (b.length : Int) ((j + 1 : Nat) : Int)) (fun k => ?_) (Ev.bind (mul_ev hp rc (res_getD hp hb j)) (Ev.bind (sub_ev hp (res_getD hp hg _) (Res.mod hp _)) h))
  simp only [poly_DivMod.l1]
  rw [hsi,hj1,if_pos c1,if_pos c2,if_pos c1,if_pos c3,if_pos c4,rd_nat,rd_nat,Int.toNat_natCast]
set_option maxHeartbeats 8000000 in
theorem dm_l0 {p : Int} (hp : Supp p) [NeZero p.toNat] {b : List Int} (hb : ∀ x ∈ b,Res p x) (hb0 : 0 < b.length) (hb1 : b.length ≤ 1000) {u : Int} (hu : Res p u) (hi : b.getD (b.length - 1) 0 * u % p = 1) : ∀ (n : Nat) (r q : List Int),r.length ≤ n → r.length ≤ 1000 → q.length ≤ 1000 → (∀ x ∈ r,Res p x) → (∀ x ∈ q,Res p x) → r.length + 1 ≤ q.length + b.length → (∀ i,i + b.length ≤ r.length → q.getD i 0 = 0) →
  ∃ q' r' : List Int,Ev (fun k => poly_DivMod.l0 k p b u r q) (trimL q',r',0) ∧ (∀ x ∈ q',Res p x) ∧ (∀ x ∈ r',Res p x) ∧ q'.length = q.length ∧ r'.length < b.length ∧ ∀ x : Fin p.toNat,ev x (M p q') * ev x (M p b) + ev x (M p r') = ev x (M p q) * ev x (M p b) + ev x (M p r) := by
 intro n
 induction n with
 | zero =>
  intro r q h0 h1 h2 hr hq hl hz
  refine ⟨q,r,?_,hq,hr,rfl,by omega,fun x => rfl⟩
  refine Ev.step (f := fun k => (poly_Trim.f k q).bind fun t => some (t,r,0)) (fun k => ?_) (Ev.bind (trim_ev q (by omega)) (Ev.now _))
  simp only [poly_DivMod.l0]
  rw [if_neg (by omega)]
 | succ n ih =>
  intro r q h0 h1 h2 hr hq hl hz
  by_cases hlt : r.length < b.length
  ·refine ⟨q,r,?_,hq,hr,rfl,hlt,fun x => rfl⟩
   refine Ev.step (f := fun k => (poly_Trim.f k q).bind fun t => some (t,r,0)) (fun k => ?_) (Ev.bind (trim_ev q (by omega)) (Ev.now _))
   simp only [poly_DivMod.l0]
   rw [if_neg (by omega)]
  ·obtain ⟨s,hs⟩ : ∃ s,s = r.length - b.length := ⟨_,rfl⟩
   obtain ⟨c,hc⟩ : ∃ c,c = r.getD (r.length - 1) 0 * u % p := ⟨_,rfl⟩
   have rc : Res p c := by rw [hc];exact Res.mod hp _
   obtain ⟨r1,hr1⟩ : ∃ l,l = subN p c b s r b.length := ⟨_,rfl⟩
   have l1 : r1.length = r.length := by rw [hr1,subN_length]
   have res1 : ∀ x ∈ r1,Res p x := by rw [hr1];exact subN_res hp c b s hr b.length
   have top : r1.getD (r.length - 1) 0 = 0 := by
    rw [hr1]
    obtain ⟨m,hm⟩ : ∃ m,b.length = m + 1 := ⟨b.length - 1,by omega⟩
    rw [hm,subN,List.getD_eq_getElem?_getD,show r.length - 1 = s + m by omega,List.getElem?_set_self (by rw [subN_length];omega)]
    show ((subN p c b s r m).getD (s + m) 0 - c * b.getD m 0 % p) % p = 0
    rw [subN_far p c b s r m (s + m) (Nat.le_refl _)]
    have hbm : b.getD m 0 * u % p = 1 := by have := hi;rwa [hm,Nat.add_sub_cancel] at this
    have hcr : c = r.getD (s + m) 0 * u % p := by rw [hc,show r.length - 1 = s + m by omega]
    have rr := res_getD hp hr (s + m)
    refine T_inj hp (Res.mod hp _) (by have := hp.bd;exact ⟨Int.le_refl 0,by omega⟩) ?_
    have e1 : T p (b.getD m 0) * T p u = 1 := by rw [← T_mul,← T_mod hp,hbm,T_one]
    rw [T_mod hp,T_sub,T_mod hp,T_mul,hcr,T_mod hp,T_mul,T_zero]
    grind
   have less : (trimL r1).length < r.length := by
    have hle := trimL_length r1
    by_cases he : (trimL r1).length = r.length
    ·exfalso
     have hne : trimL r1 ≠ [] := fun h => by rw [h] at he;simp at he;omega
     have := trimL_last r1 hne
     rw [he,trimL_getD] at this
     exact this top
    ·omega
   have short : (trimL r1).length ≤ n := by omega
   have hq1 : ∀ x ∈ q.set s c,Res p x := res_set hq _ rc
   obtain ⟨q',r',hev,a1,a2,a3,a4,a5⟩ := ih (trimL r1) (q.set s c) short (by have := trimL_length r1;omega) (by rw [List.length_set];exact h2) (fun x hx => res1 x (trimL_mem hx)) hq1 (by rw [List.length_set];have := trimL_length r1;omega) (fun i hi => by
    have hle := trimL_length r1
    rw [List.getD_eq_getElem?_getD,List.getElem?_set_ne (by omega),← List.getD_eq_getElem?_getD]
    exact hz i (by omega))
   have hin := dm_inner hp hb hb1 u rc hr q s (by omega) h1 (by rw [← hr1];exact hev)
   refine ⟨q',r',?_,a1,a2,by rw [a3,List.length_set],a4,fun x => ?_⟩
   ·have hw1 : wrap64 ((r.length : Int) - 1) = ((r.length - 1 : Nat) : Int) := by rw [w64' (by omega) (by omega)];omega
    have hw2 : wrap64 ((r.length : Int) - (b.length : Int)) = (s : Int) := by rw [w64' (by omega) (by omega)];omega
    refine Ev.step (f := fun k => (field_Mul.f k p (r.getD (r.length - 1) 0) u).bind fun t => poly_DivMod.l1 k p b u r (q.set s t) (s : Int) t b (b.length : Int) 0) (fun k => ?_) (Ev.bind (a := c) (by rw [hc];exact mul_ev hp (res_getD hp hr _) hu) hin)
    simp only [poly_DivMod.l0]
    rw [hw1,hw2,if_pos (by omega),if_pos (by omega),if_pos (by omega),rd_nat]
    refine congrArg _ (funext fun t => ?_)
    rw [if_pos (by omega),if_pos (by omega),Int.toNat_natCast]
   ·rw [a5 x,ev_trimL x,hr1,subN_ev hp c b s r x b.length (by omega)]
    have hqs : ev x (M p (q.set s c)) = ev x (M p q) + T p c * mono x s := by
     have hm : M p (q.set s c) = (M p q).set s (T p c) := by unfold M;rw [List.map_set]
     rw [hm,ev_set _ _ _ _ (by rw [M_length];omega),M_getD,hz s (by omega),T_zero]
     grind
    have hbt : (M p b).take b.length = M p b := M_take_all b
    rw [hqs,hbt]
    grind
theorem trim_full {b : List Int} (h0 : 0 < b.length) (hl : b.getD (b.length - 1) 0 ≠ 0) : trimL b = b := by
 have hle := trimL_length b
 refine list_ext_getD ?_ fun i => trimL_getD b i
 rcases Nat.lt_or_ge (trimL b).length b.length with h|h
 ·exact absurd ((trimL_getD b (b.length - 1)).symm.trans (getD_out _ _ (by omega))) hl
 ·omega
theorem dm_ev {p : Int} (hp : Supp p) [NeZero p.toNat] {a b : List Int} (ha : ∀ x ∈ a,Res p x) (hb : ∀ x ∈ b,Res p x) (la : a.length ≤ 1000) (lb : b.length ≤ 1000) (hb0 : 0 < b.length) (hl : b.getD (b.length - 1) 0 ≠ 0) :
  ∃ q r : List Int,Ev (fun k => poly_DivMod.f k p a b) (q,r,0) ∧ (∀ x ∈ q,Res p x) ∧ (∀ x ∈ r,Res p x) ∧ q.length ≤ a.length + 1 ∧ r.length < b.length ∧ ∀ x : Fin p.toNat,ev x (M p a) = ev x (M p q) * ev x (M p b) + ev x (M p r) := by
 have htb : trimL b = b := trim_full hb0 hl
 have hrb := res_getD hp hb (b.length - 1)
 have hta := trimL_length a
 obtain ⟨u,hu⟩ : ∃ u,u = invp p (b.getD (b.length - 1) 0) := ⟨_,rfl⟩
 obtain ⟨m,hm⟩ : ∃ m : Nat,m = (trimL a).length + 1 - b.length := ⟨_,rfl⟩
 have hw1 : wrap64 ((b.length : Int) - 1) = ((b.length - 1 : Nat) : Int) := by rw [w64' (by omega) (by omega)];omega
 have hmx : mx 0 (wrap64 (wrap64 (((trimL a).length : Int) - (b.length : Int)) + 1)) = (m : Int) := by
  rw [w64' (n := ((trimL a).length : Int) - (b.length : Int)) (by omega) (by omega),w64' (by omega) (by omega)]
  unfold mx
  split <;> omega
 obtain ⟨q,r,hev,a1,a2,a3,a4,a5⟩ := dm_l0 hp hb hb0 lb (u := u) (by rw [hu];exact inv_res hp _) (by rw [hu];exact inv_spec hp hrb hl) (trimL a).length (trimL a) (List.replicate m 0) (Nat.le_refl _) (by omega) (by rw [List.length_replicate];omega) (fun x hx => ha x (trimL_mem hx)) (fun x hx => by
  rw [List.eq_of_mem_replicate hx];have := hp.bd;exact ⟨Int.le_refl 0,by omega⟩) (by rw [List.length_replicate];omega) (fun i _ => by
  rw [List.getD_eq_getElem?_getD,List.getElem?_replicate];split <;> rfl)
 refine ⟨trimL q,r,?_,fun x hx => a1 x (trimL_mem hx),a2,?_,a4,fun x => ?_⟩
 ·unfold poly_DivMod.f
  have h := trim_ev b (by omega)
  rw [htb] at h
  refine Ev.bind h ?_
  refine Ev.congr (fun k => if_neg (by omega)) ?_
  rw [hw1]
  refine Ev.congr (fun k => if_pos (by omega)) (Ev.congr (fun k => if_pos (by omega)) ?_)
  rw [rd_nat]
  refine Ev.bind (inv_ev hp hrb hl) (Ev.bind (trim_ev a (by omega)) ?_)
  rw [hmx]
  refine Ev.congr (fun k => if_pos (by omega)) (Ev.congr (fun k => if_pos (by rw [Int.toNat_natCast];omega)) ?_)
  rw [Int.toNat_natCast,← hu]
  exact hev
 ·have := trimL_length q
  rw [a3,List.length_replicate] at this
  omega
 ·rw [ev_trimL x,a5 x,ev_trimL x]
  have hz : ev x (M p (List.replicate m 0)) = 0 := by
   have : M p (List.replicate m 0) = List.replicate m 0 := by unfold M;rw [List.map_replicate,T_zero]
   rw [this,ev_zeros]
  rw [hz]
  grind
theorem coef_eq (l : List Int) (i : Nat) : poly_Coefficient.f l (i : Int) = some (l.getD i 0) := by
 unfold poly_Coefficient.f
 rw [if_neg (by omega)]
 by_cases h : l.length ≤ i
 ·rw [if_pos (by omega),getD_out _ _ h]
 ·rw [if_neg (by omega),if_pos (by omega),if_pos (by omega),rd_nat]
theorem quot_uniq {p N U : Int} {bad : List Int} (h : OkM p N U bad) [NeZero p.toNat] {q r v : List Int} (hq : ∀ x ∈ q,Res p x) (hr : ∀ x ∈ r,Res p x) (hv : ∀ x ∈ v,Res p x) (lq : q.length ≤ 20) (lr : r.length ≤ U.toNat) (lv : v.length ≤ 20)
  (e : ∀ x : Fin p.toNat,ev x (M p q) * ev x (M p (vanZ p N U bad)) + ev x (M p r) = ev x (M p v) * ev x (M p (vanZ p N U bad))) : trimL q = trimL v := by
 have hp := h.ok.hp
 have hb := hp.bd
 have hvan := h.ok.van
 have hlen := extB_length h.ok.coa
 have ht := h.t
 have hnil : ∀ x : Fin p.toNat,ev x (M p []) = 0 := fun x => rfl
 have hr0 : trimL r = trimL [] := uniq hp hvan.res hvan.nd hr (fun _ hx => by cases hx) (by omega) (Nat.zero_le _) (fun x hx => by
  refine T_inj hp (evI_res hp _ _) (evI_res hp _ _) ?_
  have e1 := e (T p x)
  have e2 : ev (T p x) (M p (vanZ p N U bad)) = 0 := by rw [← ev_evI hp,show evI p x (vanZ p N U bad) = 0 from van_root hp hvan x hx,T_zero]
  rw [e2] at e1
  rw [ev_evI hp,ev_evI hp,hnil]
  grind)
 have hrz : ∀ x : Fin p.toNat,ev x (M p r) = 0 := fun x => by
  rw [← ev_trimL x r,hr0,ev_trimL x,hnil]
 have hcount := filter_split (extB N U bad) (runL 31 0)
 rw [runL_count hvan.nd (fun x hx => by have := extB_range h.ok.coa x hx;have := h.n7;omega),runL_length] at hcount
 have hres : ∀ x ∈ (runL 31 0).filter (fun x => decide (x ∉ extB N U bad)),Res p x ∧ x ∉ extB N U bad := fun x hx => by
  obtain ⟨h1,h2⟩ := List.mem_filter.1 hx
  have := (runL_mem 31 0 x).1 h1
  exact ⟨⟨by omega,by omega⟩,of_decide_eq_true h2⟩
 refine uniq hp (xs := (runL 31 0).filter fun x => decide (x ∉ extB N U bad)) (fun x hx => (hres x hx).1) ((runL_nodup 31 0).filter _) hq hv (by omega) (by omega) (fun x hx => ?_)
 obtain ⟨h1,h2⟩ := hres x hx
 have hz : evI p x (vanZ p N U bad) ≠ 0 := fun hz => by
  by_cases h0 : x = 0
  ·subst h0
   have := van_zero hp hvan
   rw [show evI p 0 (polL p (vanP (extB N U bad))) = 0 from hz] at this
   omega
  ·exact h2 (van_only hp hvan h1 h0 hz)
 refine T_inj hp (evI_res hp _ _) (evI_res hp _ _) ?_
 have e1 := e (T p x)
 rw [hrz] at e1
 have hne : ev (T p x) (M p (vanZ p N U bad)) ≠ 0 := fun h0 => hz (T_inj hp (evI_res hp _ _) ⟨Int.le_refl 0,by omega⟩ (by rw [ev_evI hp,h0,T_zero]))
 rw [ev_evI hp,ev_evI hp]
 have e2 : (ev (T p x) (M p q) - ev (T p x) (M p v)) * ev (T p x) (M p (vanZ p N U bad)) = 0 := by grind
 rcases dom hp _ _ e2 with h3|h3
 ·grind
 ·exact absurd h3 hne
section
variable {p : Int} [NeZero p.toNat]
theorem ev_list (x : Fin p.toNat) (l : List Int) {n : Nat} (hl : l.length = n) : ev x (M p l) = sumF (fun i => T p (l.getD i 0) * mono x i) n := by
 have h := ev_tab x (fun i => l.getD i 0) n
 rw [← h,← hl,tabL_of]
variable (hp : Supp p)
include hp
theorem ev_by (x : Fin p.toNat) {z a : List Int} (d : Int) (hl : z.length = a.length) : ev x (M p (byL p z d a)) = ev x (M p a) + T p d * ev x (M p z) := by
 rw [ev_list x a rfl,ev_list x z hl,← sumF_mul,← sumF_add]
 unfold byL
 rw [ev_tab]
 refine sumF_congr _ fun i hi => ?_
 rw [T_mod hp,T_add,T_mod hp,T_mul]
 grind
end
def wqL (p : Int) (z : List Int) (da db : Int) (a b : List Int) : List Int := tabL z.length fun j => (da * b.getD j 0 + db * a.getD j 0 + da * db * z.getD j 0) % p
theorem wqL_length (p : Int) (z : List Int) (da db : Int) (a b : List Int) : (wqL p z da db a b).length = z.length := tabL_length _ _
theorem wqL_res {p : Int} (hp : Supp p) (z : List Int) (da db : Int) (a b : List Int) : ∀ x ∈ wqL p z da db a b,Res p x := tabL_res fun _ _ => Res.mod hp _
theorem ev_wq {p : Int} (hp : Supp p) [NeZero p.toNat] (x : Fin p.toNat) {z a b : List Int} (da db : Int) (la : a.length = z.length) (lb : b.length = z.length) : ev x (M p (wqL p z da db a b)) = T p da * ev x (M p b) + T p db * ev x (M p a) + T p da * T p db * ev x (M p z) := by
 rw [ev_list x a la,ev_list x b lb,ev_list x z rfl,← sumF_mul,← sumF_mul,← sumF_mul,← sumF_add,← sumF_add]
 unfold wqL
 rw [ev_tab]
 refine sumF_congr _ fun i hi => ?_
 rw [T_mod hp,T_add,T_add,T_mul,T_mul,T_mul,T_mul]
 grind
def moreL (p : Int) (x y a b : List Int) : List Int := trimL (addP p (trimL (mulsL p x y x.length)) (trimL ((trimL (mulsL p a b a.length)).map fun v => (p - 1) * v % p)))
theorem moreL_res {p : Int} (hp : Supp p) (x y a b : List Int) : ∀ v ∈ moreL p x y a b,Res p v := fun v hv => by
 exact addP_res hp _ _ v (trimL_mem hv)
theorem more_ev {p : Int} (hp : Supp p) [NeZero p.toNat] (x : Fin p.toNat) (f g a b : List Int) : ev x (M p (moreL p f g a b)) = ev x (M p f) * ev x (M p g) - ev x (M p a) * ev x (M p b) := by
 unfold moreL
 have hm : ∀ l m : List Int,ev x (M p (mulsL p l m l.length)) = ev x (M p l) * ev x (M p m) := fun l m => by rw [ev_muls hp,M_take_all]
 have hn : T p (p - 1) = -1 := by
  rw [T_sub,T_one,← T_mod hp p,Int.emod_self,T_zero];grind
 rw [ev_trimL x,ev_addP hp,ev_trimL x,ev_trimL x,hm,ev_scaleL hp,ev_trimL x,hm,hn]
 grind
theorem more_len (p : Int) (x y a b : List Int) : (moreL p x y a b).length ≤ x.length + y.length + (a.length + b.length) := by
 unfold moreL
 have h1 := trimL_length (addP p (trimL (mulsL p x y x.length)) (trimL ((trimL (mulsL p a b a.length)).map fun v => (p - 1) * v % p)))
 have h2 := trimL_length (mulsL p x y x.length)
 have h3 := trimL_length ((trimL (mulsL p a b a.length)).map fun v => (p - 1) * v % p)
 have h4 := trimL_length (mulsL p a b a.length)
 have h5 := mulsL_length p x y x.length
 have h6 := mulsL_length p a b a.length
 rw [List.length_map] at h3
 have h7 := addP_length p (trimL (mulsL p x y x.length)) (trimL ((trimL (mulsL p a b a.length)).map fun v => (p - 1) * v % p))
 omega
theorem tri_div {p N U : Int} {bad : List Int} (h : OkM p N U bad) {da db : Int} {a b : List Int} (ha : ∀ x ∈ a,Res p x) (hb : ∀ x ∈ b,Res p x) (la : a.length = U.toNat + 1) (lb : b.length = U.toNat + 1) :
  ∃ q r : List Int,Ev (fun k => poly_DivMod.f k p (moreL p (byL p (vanZ p N U bad) da a) (byL p (vanZ p N U bad) db b) a b) (vanZ p N U bad)) (q,r,0) ∧ (∀ x ∈ q,Res p x) ∧ q.length ≤ 1000 ∧ ∀ j,q.getD j 0 = (wqL p (vanZ p N U bad) da db a b).getD j 0 := by
 have hp := h.ok.hp
 haveI := nz hp
 have ht := h.t
 have hzl := vanZ_length h.ok
 have hzr : ∀ x ∈ vanZ p N U bad,Res p x := van_res hp h.ok.van
 have hlast : (vanZ p N U bad).getD ((vanZ p N U bad).length - 1) 0 ≠ 0 := by
  have h1 := van_last hp h.ok.van
  have h2 := extB_length h.ok.coa
  rwa [show (vanZ p N U bad).length - 1 = (extB N U bad).length by omega]
 have hml := more_len p (byL p (vanZ p N U bad) da a) (byL p (vanZ p N U bad) db b) a b
 rw [byL_length,byL_length] at hml
 obtain ⟨q,r,hev,hq,hr,lq,lr,e⟩ := dm_ev hp (a := moreL p (byL p (vanZ p N U bad) da a) (byL p (vanZ p N U bad) db b) a b) (b := vanZ p N U bad) (moreL_res hp _ _ _ _) hzr (by omega) (by omega) (by omega) hlast
 refine ⟨q,r,hev,hq,by omega,fun j => ?_⟩
 have hu := quot_uniq h hq hr (wqL_res hp (vanZ p N U bad) da db a b) (by omega) (by omega) (by rw [wqL_length];omega) (fun x => by
  rw [← e x,more_ev hp,ev_by hp x da (by omega),ev_by hp x db (by omega),ev_wq hp x da db (by omega) (by omega)]
  grind)
 rw [← trimL_getD q j,hu,trimL_getD]
end Go.Proofs.Ytejeelpnmdfibaa.E
end
section
namespace Go.Proofs.Ytejeelpnmdfibaa.Hw
open Go.RowKit Go.Proofs.Ytejeelpnmdfibaa.Pr Go.Proofs.Ytejeelpnmdfibaa.Pl Go.Proofs.YtejeelpnmdfibaaW.PrintWords Go.Proofs.YtejeelpnmdfibaaW.PrintLast Go.Proofs.YtejeelpnmdfibaaW.PrintMore Go.Proofs.Ytejeelpnmdfibaa.E
def triW (p N T : Int) (bad : List Int) (da db : Int) (head : List Int) : List Int := wqL p (vanZ p N T bad) da db (head.take (T.toNat + 1)) ((head.drop (T.toNat + 1)).take (T.toNat + 1))
def triD (p N T : Int) (bad : List Int) (da db : Int) (head : List Int) (m : Nat) : List Int := byL p (vanZ p N T bad) ((triW p N T bad da db head).getD m 0) ((head.drop (2 * (T.toNat + 1) + (m - 1) * T.toNat)).take T.toNat)
def triE (p N T : Int) (bad : List Int) (da db : Int) (head rests : List Int) (m : Nat) : List Int := byL p (wL p T (vanZ p N T bad)) ((triW p N T bad da db head).getD m 0) ((rests.drop ((if m = 0 then T.toNat + 2 else m + 1) * (T.toNat * (T.toNat + 1) / 2))).take (T.toNat * (T.toNat + 1) / 2))
def triH (p N T : Int) (bad : List Int) (da db : Int) (head : List Int) : List Int := byL p (vanZ p N T bad) da (head.take (T.toNat + 1)) ++ byL p (vanZ p N T bad) db ((head.drop (T.toNat + 1)).take (T.toNat + 1)) ++ catF (triD p N T bad da db head) T.toNat
def triR (p N T : Int) (bad : List Int) (da db : Int) (head rests : List Int) : List Int := byL p (wL p T (vanZ p N T bad)) da (rests.take (T.toNat * (T.toNat + 1) / 2)) ++ byL p (wL p T (vanZ p N T bad)) db ((rests.drop (T.toNat * (T.toNat + 1) / 2)).take (T.toNat * (T.toNat + 1) / 2)) ++ catF (triE p N T bad da db head rests) T.toNat ++ triE p N T bad da db head rests 0
def tapeshift_Triple.f (p N T : Int) (bad : List Int) (da db : Int) (head rests : List Int) : Option (List Int × List Int) :=
 if mayB p N T bad = true then (if resB p da = true then (if resB p db = true then (if ressB p head = true then (if ressB p rests = true then (if head.length = 2 * (T.toNat + 1) + T.toNat * T.toNat then (if rests.length = (T.toNat + 3) * (T.toNat * (T.toNat + 1) / 2) then some (triH p N T bad da db head,triR p N T bad da db head rests) else none) else none) else none) else none) else none) else none) else none
theorem res_take {p : Int} {l : List Int} (h : ∀ x ∈ l,Res p x) (n : Nat) : ∀ x ∈ l.take n,Res p x := fun x hx => h x (List.mem_of_mem_take hx)
theorem res_drop {p : Int} {l : List Int} (h : ∀ x ∈ l,Res p x) (n : Nat) : ∀ x ∈ l.drop n,Res p x := fun x hx => h x (List.mem_of_mem_drop hx)
theorem rest_eq {p N T : Int} {bad : List Int} (h : OkM p N T bad) {d : Int} (hd : Res p d) {r : List Int} (hr : ∀ x ∈ r,Res p x) (lr : r.length = T.toNat * (T.toNat + 1) / 2) : tapeshift_mover_rest.f p T (vanZ p N T bad) d r = some (byL p (wL p T (vanZ p N T bad)) d r) := by
 have hp := h.ok.hp
 have hT := h.t
 have hzl := vanZ_length h.ok
 have hzr : ∀ x ∈ vanZ p N T bad,Res p x := van_res hp h.ok.van
 have hm := mov_by (p := p) (d := d) (z := vanZ p N T bad) hT lr
 have hml : (movI p d T.toNat (vanZ p N T bad) r T.toNat 1 0).length = r.length := by rw [hm,byL_length]
 have h3 : r.length ≤ 3 := by rw [lr];rcases hT with rfl|rfl <;> decide
 unfold tapeshift_mover_rest.f
 rw [if_pos (supB_iff.2 hp),if_pos (by omega),if_pos (by omega),if_pos (resB_iff.2 hd),if_pos (ressB_iff.2 hzr),if_pos (by omega),if_pos (ressB_iff.2 hr),if_pos (by rw [hml];exact Nat.le_refl _),if_pos (by omega),hm]
theorem mul_eq {p : Int} (hp : Supp p) {a b : List Int} (ha : ∀ x ∈ a,Res p x) (hb : ∀ x ∈ b,Res p x) (la : a.length ≤ 1000) (lb : b.length ≤ 1000) : poly_Mul.f p a b = some (trimL (mulsL p a b a.length)) := by
 unfold poly_Mul.f
 rw [if_pos (supB_iff.2 hp),if_pos (ressB_iff.2 ha),if_pos (ressB_iff.2 hb),if_pos (by omega),if_pos (by omega)]
theorem psub_ev {p : Int} (hp : Supp p) {a b : List Int} (ha : ∀ x ∈ a,Res p x) (hb : ∀ x ∈ b,Res p x) (la : a.length ≤ 1000) (lb : b.length ≤ 1000) : Ev (fun k => poly_Sub.f k p a b) (trimL (addP p a (trimL (b.map fun v => (p - 1) * v % p)))) := by
 have hb31 := hp.bd
 have hw : IntKind.u64.wrap (p - 1) = p - 1 := wrapU_id (by omega) (by omega)
 have hr : ∀ x ∈ trimL (b.map fun v => (p - 1) * v % p),Res p x := fun x hx => by
  obtain ⟨y,_,rfl⟩ := List.mem_map.1 (trimL_mem hx)
  exact Res.mod hp _
 have hl := trimL_length (b.map fun v => (p - 1) * v % p)
 rw [List.length_map] at hl
 unfold poly_Sub.f
 rw [hw]
 exact Ev.bind (scale_ev hp ⟨by omega,by omega⟩ b hb (by omega)) (ev_now_bind (padd_eq hp ha hr (by omega) (by omega)) (Ev.now _))
theorem of_ev {p N T : Int} {bad : List Int} (h : Ok12 p N T bad) : Ev (fun k => tapeshift_of.f k p N T bad) (p,T,vanZ p N T bad) := by
 unfold tapeshift_of.f
 exact Ev.bind (f := fun _ t => some (p,T,t)) (vanpol_ev h) (Ev.now _)
theorem tapeshift_Triple.calls (p N T : Int) (Ab : Option Addr) (cb : Nat) (bad : List Int) (da db : Int) (Ah : Option Addr) (ch : Nat) (head : List Int) (Ar : Option Addr) (cr : Nat) (rests r1 r2 : List Int) (w : World)
  (hrb : Kd.C (Kd.int .i64) w Ab bad.length bad) (hcb : bad.length ≤ cb) (hrh : Kd.C (Kd.int .u64) w Ah head.length head) (hch : head.length ≤ ch) (hrr : Kd.C (Kd.int .u64) w Ar rests.length rests) (hcr : rests.length ≤ cr)
  (h : tapeshift_Triple.f p N T bad da db head rests = some (r1,r2)) :
  Calls Try.prog 25 #[.agg #[.int .u64 p,.int .i64 N,.int .i64 T],.slice Ab bad.length cb,.int .u64 da,.int .u64 db,.slice Ah head.length ch,.slice Ar rests.length cr] w fun e w' => ∃ v0_ v1_ : Value,e = .returned (.tuple #[v0_,v1_]) ∧ Kd.R (Kd.int .u64) 22 w' w.heap.size (fun k_ => some k_ ≠ (v1_ : Value).ownBlock) v0_ r1 ∧ Kd.R (Kd.int .u64) 22 w' w.heap.size (fun k_ => some k_ ≠ (v0_ : Value).ownBlock) v1_ r2 ∧ Below w.heap.size w w' := by
 unfold tapeshift_Triple.f at h
 obtain ⟨h1,h⟩ := ifs h
 obtain ⟨h2,h⟩ := ifs h
 obtain ⟨h3,h⟩ := ifs h
 obtain ⟨h4,h⟩ := ifs h
 obtain ⟨h5,h⟩ := ifs h
 obtain ⟨h6,h⟩ := ifs h
 obtain ⟨h7,h⟩ := ifs h
 simp only [Option.some.injEq,Prod.mk.injEq] at h
 obtain ⟨rfl,rfl⟩ := h
 have hm := okM h1
 have hp := hm.ok.hp
 have hT := hm.t
 have rda := resB_iff.1 h2
 have rdb := resB_iff.1 h3
 have rh := ressB_iff.1 h4
 have rr := ressB_iff.1 h5
 have hzl := vanZ_length hm.ok
 have hzr : ∀ x ∈ vanZ p N T bad,Res p x := van_res hp hm.ok.van
 obtain ⟨t,ht⟩ : ∃ t : Nat,T = (t : Int) := ⟨T.toNat,by omega⟩
 subst ht
 have hT2 : t = 1 ∨ t = 2 := by omega
 simp only [Int.toNat_natCast] at h6 h7
 obtain ⟨O,hO⟩ : ∃ O,O = t * (t + 1) / 2 := ⟨_,rfl⟩
 rw [← hO] at h7
 have hO3 : (t = 1 ∧ O = 1) ∨ (t = 2 ∧ O = 3) := by
  rcases hT2 with e|e
  ·rw [e] at hO;exact Or.inl ⟨e,hO⟩
  ·rw [e] at hO;exact Or.inr ⟨e,hO⟩
 have hl6 : (t = 1 ∧ head.length = 5) ∨ (t = 2 ∧ head.length = 10) := by
  rcases hT2 with e|e
  ·rw [e] at h6;exact Or.inl ⟨e,h6⟩
  ·rw [e] at h6;exact Or.inr ⟨e,h6⟩
 have hl7 : (t = 1 ∧ rests.length = 4) ∨ (t = 2 ∧ rests.length = 15) := by
  rcases hO3 with ⟨e,e'⟩|⟨e,e'⟩
  ·rw [e,e'] at h7;exact Or.inl ⟨e,h7⟩
  ·rw [e,e'] at h7;exact Or.inr ⟨e,h7⟩
 have la : (head.take (t + 1)).length = t + 1 := by rw [List.length_take];omega
 have lb : ((head.drop (t + 1)).take (t + 1)).length = t + 1 := by rw [List.length_take,List.length_drop];omega
 have ra := res_take rh (t + 1)
 have rb := res_take (res_drop rh (t + 1)) (t + 1)
 have rW : ∀ x ∈ triW p N t bad da db head,Res p x := wqL_res hp _ _ _ _ _
 obtain ⟨kz,ez⟩ := (of_ev hm.ok).rounds
 obtain ⟨ka,ea⟩ := (by_ev hp t hzr ra (by omega) (by omega) rda).rounds
 obtain ⟨kb,eb⟩ := (by_ev hp t hzr rb (by omega) (by omega) rdb).rounds
 have hna := byL_res hp (vanZ p N t bad) da (head.take (t + 1))
 have hnb := byL_res hp (vanZ p N t bad) db ((head.drop (t + 1)).take (t + 1))
 have e1 := mul_eq hp hna hnb (by rw [byL_length];omega) (by rw [byL_length];omega)
 have e2 := mul_eq hp ra rb (by omega) (by omega)
 have l1 := trimL_length (mulsL p (byL p (vanZ p N t bad) da (head.take (t + 1))) (byL p (vanZ p N t bad) db ((head.drop (t + 1)).take (t + 1))) (byL p (vanZ p N t bad) da (head.take (t + 1))).length)
 have l1' := mulsL_length p (byL p (vanZ p N t bad) da (head.take (t + 1))) (byL p (vanZ p N t bad) db ((head.drop (t + 1)).take (t + 1))) (byL p (vanZ p N t bad) da (head.take (t + 1))).length
 have l2 := trimL_length (mulsL p (head.take (t + 1)) ((head.drop (t + 1)).take (t + 1)) (head.take (t + 1)).length)
 have l2' := mulsL_length p (head.take (t + 1)) ((head.drop (t + 1)).take (t + 1)) (head.take (t + 1)).length
 rw [byL_length,byL_length] at l1'
 rw [byL_length] at l1
 obtain ⟨ks,es⟩ := (psub_ev hp (a := trimL (mulsL p (byL p (vanZ p N t bad) da (head.take (t + 1))) (byL p (vanZ p N t bad) db ((head.drop (t + 1)).take (t + 1))) (byL p (vanZ p N t bad) da (head.take (t + 1))).length)) (b := trimL (mulsL p (head.take (t + 1)) ((head.drop (t + 1)).take (t + 1)) (head.take (t + 1)).length)) (fun x hx => mulsL_res hp _ _ _ x (trimL_mem hx)) (fun x hx => mulsL_res hp _ _ _ x (trimL_mem hx)) (by rw [byL_length];omega) (by omega)).rounds
 obtain ⟨q,r,ed,rq,lq,hq⟩ := tri_div hm (da := da) (db := db) ra rb (by rw [la];omega) (by rw [lb];omega)
 obtain ⟨kd,ed⟩ := ed.rounds
 have hcf : ∀ j,q.getD j 0 = (triW p N t bad da db head).getD j 0 := fun j => by
  rw [hq j];unfold triW;rw [Int.toNat_natCast]
 have hby : ∀ j,∃ k,j < t → tapeshift_mover_by.f k p (t : Int) (vanZ p N t bad) ((triW p N t bad da db head).getD (j + 1) 0) ((head.drop (2 * (t + 1) + j * t)).take t) = some (triD p N t bad da db head (j + 1)) := fun j => by
  by_cases hj : j < t
  ·obtain ⟨k,ek⟩ := (by_ev hp t hzr (res_take (res_drop rh (2 * (t + 1) + j * t)) t) (by have := List.length_take_le t (head.drop (2 * (t + 1) + j * t));omega) (by have := List.length_take_le t (head.drop (2 * (t + 1) + j * t));omega) (res_getD hp rW (j + 1))).rounds
   refine ⟨k,fun _ => ek.trans ?_⟩
   unfold triD
   rw [Int.toNat_natCast,Nat.add_sub_cancel]
  ·exact ⟨0,fun h => absurd h hj⟩
 have hRl : ∀ m,m + O ≤ rests.length → ((rests.drop m).take O).length = (t : Int).toNat * ((t : Int).toNat + 1) / 2 := fun m hm => by
  rw [List.length_take,List.length_drop,Int.toNat_natCast,← hO];omega
 have hmt : ∀ j,j < t → (j + 2) * O + O ≤ (t + 3) * O := fun j hj => by
  have := Nat.mul_le_mul_right O (show j + 2 + 1 ≤ t + 3 by omega)
  rwa [Nat.succ_mul] at this
 have hmt2 : (t + 2) * O + O ≤ (t + 3) * O := by
  exact Nat.le_of_eq (Nat.succ_mul (t + 2) O).symm
 have hw := triple_walk p N t hT2 Ab cb bad da db Ah ch head Ar cr rests (vanZ p N t bad) (byL p (vanZ p N t bad) da (head.take (t + 1))) (byL p (vanZ p N t bad) db ((head.drop (t + 1)).take (t + 1))) _ _ _ q r 0 kz ka kb ks kd (fun j => (hby j).choose) (fun j => q.getD j 0) (triD p N t bad da db head) (triE p N t bad da db head rests)
  (byL p (wL p t (vanZ p N t bad)) da (rests.take O)) (byL p (wL p t (vanZ p N t bad)) db ((rests.drop O).take O)) w hrb hcb hrh hch hrr hcr h6 (by rw [← hO];exact h7) ez ea eb e1 e2 es ed (fun j _ => coef_eq q j)
  (fun j hj => by rw [hcf];exact (hby j).choose_spec hj)
  (by rw [← hO];exact rest_eq hm rda (res_take rr O) (by have := hRl 0 (by omega);rwa [List.drop_zero] at this))
  (by rw [← hO];exact rest_eq hm rdb (res_take (res_drop rr O) O) (hRl O (by omega)))
  (fun j hj => by
   rw [← hO,hcf]
   refine (rest_eq hm (res_getD hp rW (j + 1)) (res_take (res_drop rr ((j + 2) * O)) O) (hRl _ (by have := hmt j hj;omega))).trans ?_
   unfold triE
   rw [Int.toNat_natCast,← hO,if_neg (by omega)])
  (by
   rw [← hO]
   show tapeshift_mover_rest.f p t (vanZ p N t bad) (q.getD 0 0) _ = _
   rw [hcf]
   refine (rest_eq hm (res_getD hp rW 0) (res_take (res_drop rr ((t + 2) * O)) O) (hRl _ (by omega))).trans ?_
   unfold triE
   rw [Int.toNat_natCast,← hO,if_pos rfl])
  (by rw [byL_length,la]) (by rw [byL_length,lb]) lq
  (fun j _ => by unfold triD;rw [byL_length,Int.toNat_natCast];have := List.length_take_le t (head.drop (2 * (t + 1) + (j - 1) * t));omega)
  (fun j _ => by unfold triE;rw [byL_length,Int.toNat_natCast,← hO];have := List.length_take_le O (rests.drop ((if j = 0 then t + 2 else j + 1) * O));omega)
  (by rw [byL_length];have := List.length_take_le O rests;omega)
  (by rw [byL_length];have := List.length_take_le O (rests.drop O);omega)
 refine hw.mono ?_
 rintro e w' ⟨v0,v1,rfl,a1,a2,a3⟩
 refine ⟨v0,v1,rfl,?_,?_,a3⟩
 ·unfold triH
  rw [Int.toNat_natCast]
  exact a1
 ·unfold triR
  rw [Int.toNat_natCast,← hO]
  exact a2
end Go.Proofs.Ytejeelpnmdfibaa.Hw
end
