/- Part 9 of the proof's texts, joined in build order. -/
import Derived.Test.YtmdoaijkaaaglaaZKK1
import Derived.Test.YtmdoaijkaaaglaaZKK7
import Derived.Test.YtmdoaijkaaaglaaZKK8
set_option linter.unusedVariables false
set_option linter.unusedSimpArgs false
section
namespace Go.Proofs.Ytmdoaijkaaaglaa.Pr
open Go.RowKit Go.Proofs.YtmdoaijkaaaglaaW.PrintWords Go.Proofs.YtmdoaijkaaaglaaW.PrintLast Go.Proofs.YtmdoaijkaaaglaaW.PrintMore
attribute [local go_sem] max2_int min2_int max_two min_two max_three min_three max_four min_four
open Go.Proofs.Ytmdoaijkaaaglaa.Hw
def privityref06_Inverse.l0 : Nat → List (List Int) → List (List Int) → List (List Int) → Int → Option ((List (List Int)) × Int)
 | 0,_,_,_,_ => none
 | k + 1,x1,x6,x9,x10 => if x10 < (x6.length : Int) then (if 0 ≤ x10 then (if 0 ≤ (x1.length : Int) then (if (x1.length : Int) ≤ ((rd_L2 x6 x10).length : Int) then (if x9.length < 5864062014805 then (privityref06_Inverse.l0 k x1 x6 (x9 ++ [((rd_L2 x6 x10).drop ((x1.length : Int) : Int).toNat)]) (wrap64 (x10 + 1))) else (none)) else (none)) else (none)) else (none)) else (some (x9,0))
def privityref06_Inverse.f (k : Nat) (a0 : Int) (l1 : List (List Int)) : Option ((List (List Int)) × Int) := (privityref06_square.f k l1).bind fun t520 => (if t520 = true then ((privityref06_One.f k (l1.length : Int)).bind fun t521 => ((privityref06_beside.f k l1 t521).bind fun t524 => ((privityref06_Reduced.f a0 t524 (l1.length : Int)).bind fun bt527 => (if (bt527.2.1.length : Int) < (l1.length : Int) then (some (([] : List (List Int)),8)) else (privityref06_Inverse.l0 k l1 bt527.1 ([] : List (List Int)) 0))))) else (some (([] : List (List Int)),1)))
set_option maxHeartbeats 8000000 in
set_option maxRecDepth 100000 in
theorem privityref06_Inverse.calls (k : Nat) (a0 : Int) (A1 : Option Addr) (c1 : Nat) (l1 : List (List Int)) (r1 : List (List Int)) (r2 : Int) (w : World) (hr1 : Kd.C (Kd.slice 22 (Kd.int .u64)) w A1 l1.length l1) (hc1 : l1.length ≤ c1) (h : privityref06_Inverse.f k a0 l1 = some (r1,r2)) :
  Calls Try.prog 50 #[.int .u64 a0,.slice A1 l1.length c1] w fun e w' => ∃ v0_ : Value,e = .returned (.tuple #[v0_,.int .i64 r2]) ∧ Kd.N (Kd.slice 22 (Kd.int .u64)) 40 w' w.heap.size (fun k_ => (w.heap.size ≤ k_)) v0_ r1 ∧ Below w.heap.size w w' := by
 have HR1 := am hr1
 have HC1 := am hc1
 clear hr1 hc1
 have HB := am (Below.refl w.heap.size w)
 have H : ((privityref06_square.f k l1).bind fun t520 => (if t520 = true then ((privityref06_One.f k (l1.length : Int)).bind fun t521 => ((privityref06_beside.f k l1 t521).bind fun t524 => ((privityref06_Reduced.f a0 t524 (l1.length : Int)).bind fun bt527 => (if (bt527.2.1.length : Int) < (l1.length : Int) then (some (([] : List (List Int)),8)) else (privityref06_Inverse.l0 k l1 bt527.1 ([] : List (List Int)) 0))))) else (some (([] : List (List Int)),1)))) = some (r1,r2) := h
 clear h
 replace H := Option.bind_eq_some_iff.mp H
 obtain ⟨t520,A30,H⟩ := H
 try dsimp only at H
 have A3 := am A30
 clear A30
 by_cases c4 : t520 = true
 ·subst c4
  rw [if_pos rfl] at H
  replace H := Option.bind_eq_some_iff.mp H
  obtain ⟨t521,A50,H⟩ := H
  try dsimp only at H
  have A5 := am A50
  clear A50
  replace H := Option.bind_eq_some_iff.mp H
  obtain ⟨t524,A60,H⟩ := H
  try dsimp only at H
  have A6 := am A60
  clear A60
  replace H := Option.bind_eq_some_iff.mp H
  obtain ⟨⟨t527,t528,t529⟩,A70,H⟩ := H
  try dsimp only at H
  have A7 := am A70
  clear A70
  by_cases c8 : (t528.length : Int) < (l1.length : Int)
  ·rw [if_pos c8] at H
   have c8b0 : decide ((t528.length : Int) < (l1.length : Int)) = true := decide_eq_true c8
   have c8b1 : decide (t528.length < l1.length) = true := decide_eq_true (Int.ofNat_lt.mp c8)
   clear c8
   simp only [Option.some.injEq,Prod.mk.injEq] at H
   obtain ⟨rfl,rfl⟩ := H
   go_enter Try.func50,Try.ntmps50
   go_wp2_with (first|((with_reducible refine gate_callee (f := 79) rfl ?_);refine goesL_ (some 12) rfl rfl Try.func79 (by kernel_rfl) rfl #[.slice A1 l1.length c1] rfl (by (try simp only [List.map_toArray,List.map_cons,List.map_nil]);first|done|rfl|(simp only [List.length_drop,List.length_take];rfl)) ?_;(with_reducible refine (privityref06_square.calls k _ _ l1 true _ ?side1 ?side2 A3.out).mono ?_);(case side1 => repeat (first|exact HR1.out|(with_reducible refine Kd.C_alloc ?_ _)|(with_reducible refine Kd.C_drewN ?_ _)|(with_reducible refine Kd.C_drew ?_)));(case side2 => exact HC1.out);rintro e w' ⟨rfl,⟨nd,rfl⟩⟩;refine ⟨_,rfl,?_⟩)|((with_reducible refine gate_callee (f := 82) rfl ?_);refine goesL_ (some 19) rfl rfl Try.func82 (by kernel_rfl) rfl #[.int .i64 (l1.length : Int)] rfl (by (try simp only [List.map_toArray,List.map_cons,List.map_nil]);first|done|rfl|(simp only [List.length_drop,List.length_take];rfl)) ?_;(with_reducible refine (privityref06_One.calls k (l1.length : Int) t521 _ A5.out).mono ?_);rintro e w9 ⟨v522,rfl,ho0,hb⟩;refine ⟨_,rfl,?_⟩;have n0_ := am (Kd.N_lower (Kd.N_mono (ok' := fun k_ => (w.heap.size ≤ k_)) (Kd.S_N (Kd.S_bound ho0)) (fun k_ hk_ => (Nat.le_trans (below_size (bb HB)) hk_.2.1))) (below_size (bb HB)));have n1_ := am (below_step (bb HB) hb);clear HB;have HO523 := n0_;have HB := n1_;clear n0_ n1_;(try clear hb);(try clear hb2);(try clear hk);(try clear hi);(try clear ho0);obtain ⟨Ao10,co10,eo10⟩ := Kd.N_slice HO523.out;subst eo10)|((with_reducible refine gate_callee (f := 81) rfl ?_);refine goesL_ (some 20) rfl rfl Try.func81 (by kernel_rfl) rfl #[.slice A1 l1.length c1,.slice Ao10 t521.length co10] rfl (by (try simp only [List.map_toArray,List.map_cons,List.map_nil]);first|done|rfl|(simp only [List.length_drop,List.length_take];rfl)) ?_;(with_reducible refine (privityref06_beside.calls k _ _ l1 _ _ t521 t524 _ ?side1 ?side2 ?side3 ?side4 A6.out).mono ?_);(case side1 => exact cb HR1 HB);(case side2 => exact HC1.out);(case side3 => repeat (first|exact (Kd.N_reads' HO523.out).2.2|(with_reducible refine Kd.C_alloc ?_ _)|(with_reducible refine Kd.C_drewN ?_ _)|(with_reducible refine Kd.C_drew ?_)));(case side4 => exact (Kd.N_reads' HO523.out).2.1);rintro e w11 ⟨v525,rfl,ho0,hb⟩;refine ⟨_,rfl,?_⟩;have n0_ := am (Kd.N_elder' (rn HO523) (by first|exact Kd.N_base ho0|exact Kd.S_base ho0) hb);have n1_ := am (Kd.N_lower (Kd.N_mono (ok' := fun k_ => (w.heap.size ≤ k_) ∧ some k_ ≠ (.slice Ao10 t521.length co10 : Value).ownBlock) (Kd.S_N (Kd.S_bound ho0)) (fun k_ hk_ => ⟨(Nat.le_trans (below_size (bb HB)) hk_.2.1),(Kd.fresh' (Kd.N_lt (rn HO523)) k_ hk_.2.1)⟩)) (below_size (bb HB)));have n2_ := am (below_step (bb HB) hb);clear HO523 HB;have HO523 := n0_;have HO526 := n1_;have HB := n2_;clear n0_ n1_ n2_;(try clear hb);(try clear hb2);(try clear hk);(try clear hi);(try clear ho0);obtain ⟨Ao12,co12,eo12⟩ := Kd.N_slice HO526.out;subst eo12)|((with_reducible refine gate_callee (f := 80) rfl ?_);refine goesL_ (some 23) rfl rfl Try.func80 (by kernel_rfl) rfl #[.int .u64 a0,.slice Ao12 t524.length co12,.int .i64 (l1.length : Int)] rfl (by (try simp only [List.map_toArray,List.map_cons,List.map_nil]);first|done|rfl|(simp only [List.length_drop,List.length_take];rfl)) ?_;(with_reducible refine (privityref06_Reduced.calls a0 _ _ t524 (l1.length : Int) t527 t528 t529 _ ?side1 ?side2 A7.out).mono ?_);(case side1 => repeat (first|exact (Kd.N_reads' HO526.out).2.2|(with_reducible refine Kd.C_alloc ?_ _)|(with_reducible refine Kd.C_drewN ?_ _)|(with_reducible refine Kd.C_drew ?_)));(case side2 => exact (Kd.N_reads' HO526.out).2.1);rintro e w13 ⟨v530,v532,rfl,ho0,ho1,hb⟩;refine ⟨_,rfl,?_⟩;have n0_ := am (Kd.N_mono (Kd.N_told (Kd.N_told (Kd.N_old (rn HO523) hb) (by first|exact Kd.N_base ho0|exact Kd.S_base ho0)) (Kd.R_base ho1)) (fun _ h_ => h_.1));have n1_ := am (Kd.N_mono (Kd.N_told (Kd.N_told (Kd.N_old (rn HO526) hb) (by first|exact Kd.N_base ho0|exact Kd.S_base ho0)) (Kd.R_base ho1)) (fun _ h_ => h_.1));have n2_ := am (Kd.N_lower (Kd.N_mono (ok' := fun k_ => (w.heap.size ≤ k_) ∧ some k_ ≠ (v532 : Value).ownBlock ∧ some k_ ≠ (.slice Ao10 t521.length co10 : Value).ownBlock ∧ some k_ ≠ (.slice Ao12 t524.length co12 : Value).ownBlock) (Kd.S_N (Kd.S_bound (Kd.S_apart' ho0 (Kd.R_typed ho1) (by decide)))) (fun k_ hk_ => ⟨(Nat.le_trans (below_size (bb HB)) hk_.2.1),hk_.1.2,(Kd.fresh' (Kd.N_lt (rn HO523)) k_ hk_.2.1),(Kd.fresh' (Kd.N_lt (rn HO526)) k_ hk_.2.1)⟩)) (below_size (bb HB)));have n3_ := am (Kd.R_lower (Kd.R_newM (M := fun k_ => (w.heap.size ≤ k_)) ho1 (below_size (bb HB)) (fun k_ h_ => h_)) (below_size (bb HB)));have n4_ := am (below_step (bb HB) hb);clear HO523 HO526 HB;have HO523 := n0_;have HO526 := n1_;have HO531 := n2_;have HO533 := n3_;have HB := n4_;clear n0_ n1_ n2_ n3_ n4_;(try clear hb);(try clear hb2);(try clear hk);(try clear hi);(try clear ho0);(try clear ho1);obtain ⟨Ao14,co14,eo14⟩ := Kd.R_slice HO533.out;subst eo14))
   go_ret2
   exact ⟨_,by first|rfl|(simp [errW_none,errW_some] <;> rfl)|(simp [*,errW_none,errW_some] <;> rfl),by first|exact Kd.S_nil _ _ _ _ _|exact Kd.N_nil _ _ _ _ _|exact Kd.V_nil _ _ _ _ _|exact Kd.Q_nil _ _ _ _ _|exact Kd.R_nil _ _ _ _ _,bb HB⟩
  ·rw [if_neg c8] at H
   have c8b0 : decide ((t528.length : Int) < (l1.length : Int)) = false := decide_eq_false c8
   have c8b1 : decide (t528.length < l1.length) = false := decide_eq_false (fun h => c8 (Int.ofNat_lt.mpr h))
   clear c8
   have H' := am H
   clear H
   go_enter Try.func50,Try.ntmps50
   go_wp2_with (first|((with_reducible refine gate_callee (f := 79) rfl ?_);refine goesL_ (some 12) rfl rfl Try.func79 (by kernel_rfl) rfl #[.slice A1 l1.length c1] rfl (by (try simp only [List.map_toArray,List.map_cons,List.map_nil]);first|done|rfl|(simp only [List.length_drop,List.length_take];rfl)) ?_;(with_reducible refine (privityref06_square.calls k _ _ l1 true _ ?side1 ?side2 A3.out).mono ?_);(case side1 => repeat (first|exact HR1.out|(with_reducible refine Kd.C_alloc ?_ _)|(with_reducible refine Kd.C_drewN ?_ _)|(with_reducible refine Kd.C_drew ?_)));(case side2 => exact HC1.out);rintro e w' ⟨rfl,⟨nd,rfl⟩⟩;refine ⟨_,rfl,?_⟩)|((with_reducible refine gate_callee (f := 82) rfl ?_);refine goesL_ (some 19) rfl rfl Try.func82 (by kernel_rfl) rfl #[.int .i64 (l1.length : Int)] rfl (by (try simp only [List.map_toArray,List.map_cons,List.map_nil]);first|done|rfl|(simp only [List.length_drop,List.length_take];rfl)) ?_;(with_reducible refine (privityref06_One.calls k (l1.length : Int) t521 _ A5.out).mono ?_);rintro e w15 ⟨v522,rfl,ho0,hb⟩;refine ⟨_,rfl,?_⟩;have n0_ := am (Kd.N_lower (Kd.N_mono (ok' := fun k_ => (w.heap.size ≤ k_)) (Kd.S_N (Kd.S_bound ho0)) (fun k_ hk_ => (Nat.le_trans (below_size (bb HB)) hk_.2.1))) (below_size (bb HB)));have n1_ := am (below_step (bb HB) hb);clear HB;have HO523 := n0_;have HB := n1_;clear n0_ n1_;(try clear hb);(try clear hb2);(try clear hk);(try clear hi);(try clear ho0);obtain ⟨Ao16,co16,eo16⟩ := Kd.N_slice HO523.out;subst eo16)|((with_reducible refine gate_callee (f := 81) rfl ?_);refine goesL_ (some 20) rfl rfl Try.func81 (by kernel_rfl) rfl #[.slice A1 l1.length c1,.slice Ao16 t521.length co16] rfl (by (try simp only [List.map_toArray,List.map_cons,List.map_nil]);first|done|rfl|(simp only [List.length_drop,List.length_take];rfl)) ?_;(with_reducible refine (privityref06_beside.calls k _ _ l1 _ _ t521 t524 _ ?side1 ?side2 ?side3 ?side4 A6.out).mono ?_);(case side1 => exact cb HR1 HB);(case side2 => exact HC1.out);(case side3 => repeat (first|exact (Kd.N_reads' HO523.out).2.2|(with_reducible refine Kd.C_alloc ?_ _)|(with_reducible refine Kd.C_drewN ?_ _)|(with_reducible refine Kd.C_drew ?_)));(case side4 => exact (Kd.N_reads' HO523.out).2.1);rintro e w17 ⟨v525,rfl,ho0,hb⟩;refine ⟨_,rfl,?_⟩;have n0_ := am (Kd.N_elder' (rn HO523) (by first|exact Kd.N_base ho0|exact Kd.S_base ho0) hb);have n1_ := am (Kd.N_lower (Kd.N_mono (ok' := fun k_ => (w.heap.size ≤ k_) ∧ some k_ ≠ (.slice Ao16 t521.length co16 : Value).ownBlock) (Kd.S_N (Kd.S_bound ho0)) (fun k_ hk_ => ⟨(Nat.le_trans (below_size (bb HB)) hk_.2.1),(Kd.fresh' (Kd.N_lt (rn HO523)) k_ hk_.2.1)⟩)) (below_size (bb HB)));have n2_ := am (below_step (bb HB) hb);clear HO523 HB;have HO523 := n0_;have HO526 := n1_;have HB := n2_;clear n0_ n1_ n2_;(try clear hb);(try clear hb2);(try clear hk);(try clear hi);(try clear ho0);obtain ⟨Ao18,co18,eo18⟩ := Kd.N_slice HO526.out;subst eo18)|((with_reducible refine gate_callee (f := 80) rfl ?_);refine goesL_ (some 23) rfl rfl Try.func80 (by kernel_rfl) rfl #[.int .u64 a0,.slice Ao18 t524.length co18,.int .i64 (l1.length : Int)] rfl (by (try simp only [List.map_toArray,List.map_cons,List.map_nil]);first|done|rfl|(simp only [List.length_drop,List.length_take];rfl)) ?_;(with_reducible refine (privityref06_Reduced.calls a0 _ _ t524 (l1.length : Int) t527 t528 t529 _ ?side1 ?side2 A7.out).mono ?_);(case side1 => repeat (first|exact (Kd.N_reads' HO526.out).2.2|(with_reducible refine Kd.C_alloc ?_ _)|(with_reducible refine Kd.C_drewN ?_ _)|(with_reducible refine Kd.C_drew ?_)));(case side2 => exact (Kd.N_reads' HO526.out).2.1);rintro e w19 ⟨v530,v532,rfl,ho0,ho1,hb⟩;refine ⟨_,rfl,?_⟩;have n0_ := am (Kd.N_mono (Kd.N_told (Kd.N_told (Kd.N_old (rn HO523) hb) (by first|exact Kd.N_base ho0|exact Kd.S_base ho0)) (Kd.R_base ho1)) (fun _ h_ => h_.1));have n1_ := am (Kd.N_mono (Kd.N_told (Kd.N_told (Kd.N_old (rn HO526) hb) (by first|exact Kd.N_base ho0|exact Kd.S_base ho0)) (Kd.R_base ho1)) (fun _ h_ => h_.1));have n2_ := am (Kd.N_lower (Kd.N_mono (ok' := fun k_ => (w.heap.size ≤ k_) ∧ some k_ ≠ (v532 : Value).ownBlock ∧ some k_ ≠ (.slice Ao16 t521.length co16 : Value).ownBlock ∧ some k_ ≠ (.slice Ao18 t524.length co18 : Value).ownBlock) (Kd.S_N (Kd.S_bound (Kd.S_apart' ho0 (Kd.R_typed ho1) (by decide)))) (fun k_ hk_ => ⟨(Nat.le_trans (below_size (bb HB)) hk_.2.1),hk_.1.2,(Kd.fresh' (Kd.N_lt (rn HO523)) k_ hk_.2.1),(Kd.fresh' (Kd.N_lt (rn HO526)) k_ hk_.2.1)⟩)) (below_size (bb HB)));have n3_ := am (Kd.R_lower (Kd.R_newM (M := fun k_ => (w.heap.size ≤ k_)) ho1 (below_size (bb HB)) (fun k_ h_ => h_)) (below_size (bb HB)));have n4_ := am (below_step (bb HB) hb);clear HO523 HO526 HB;have HO523 := n0_;have HO526 := n1_;have HO531 := n2_;have HO533 := n3_;have HB := n4_;clear n0_ n1_ n2_ n3_ n4_;(try clear hb);(try clear hb2);(try clear hk);(try clear hi);(try clear ho0);(try clear ho1);obtain ⟨Ao20,co20,eo20⟩ := Kd.R_slice HO533.out;subst eo20))
   go_loopg [9,10] k (fun kq v9 v10 w' => ∃ (x9_1 : List (List Int)) (x10_1 : Int),v10 = .int .i64 x10_1 ∧ Aside0 (privityref06_Inverse.l0 kq l1 t527 x9_1 x10_1 = some (r1,r2)) ∧ Aside0 (kq ≤ k) ∧ Aside0 (Kd.N (Kd.slice 22 (Kd.int .u64)) 40 w' w.heap.size (fun k_ => (w.heap.size ≤ k_) ∧ some k_ ≠ (v9 : Value).ownBlock) v530 t527) ∧ Aside0 (Kd.N (Kd.slice 22 (Kd.int .u64)) 40 w' w.heap.size (fun k_ => (w.heap.size ≤ k_) ∧ some k_ ≠ (v530 : Value).ownBlock) v9 x9_1) ∧ Aside0 (Below w.heap.size w w'))
   case atStart => exact ⟨(([] : List (List Int))),(0),(by first|rfl|(simp;done)|(simp [*];done)),H',⟨Nat.le_refl _⟩,⟨by (with_reducible repeat (first|apply Kd.N_alloc|apply Kd.N_drewN|apply Kd.N_drew));exact Kd.N_mono HO531.out (fun _ hk => ⟨hk.1,(by simp [Value.ownBlock])⟩)⟩,⟨by first|exact Kd.S_nil _ _ _ _ _|exact Kd.N_nil _ _ _ _ _|exact Kd.V_nil _ _ _ _ _|exact Kd.Q_nil _ _ _ _ _|exact Kd.R_nil _ _ _ _ _⟩,⟨bb HB⟩⟩
   case round =>
    clear H'
    try clear c1
    try clear p2
    try clear c4
    try clear c5
    try clear c7
    try clear c8
    try clear c8b0
    try clear c8b1
    obtain ⟨x9_1,x10_1,rfl,HA,HK1,HO_6,HO_9,HB⟩ := hrel
    cases gk with
    | zero => exact absurd HA.out (by simp [privityref06_Inverse.l0])
    | succ k1 =>
     have H := HA.out
     clear HA
     simp only [privityref06_Inverse.l0] at H
     by_cases c21 : x10_1 < (t527.length : Int)
     ·rw [if_pos c21] at H
      have c21b0 : decide (x10_1 < (t527.length : Int)) = true := decide_eq_true c21
      clear c21
      by_cases c22 : 0 ≤ x10_1
      ·rw [if_pos c22] at H
       have c22b0 : decide (0 ≤ x10_1) = true := decide_eq_true c22
       clear c22
       by_cases c23 : 0 ≤ (l1.length : Int)
       ·rw [if_pos c23] at H
        have c23b0 := eq_true c23
        have c23b1 : decide (0 ≤ (l1.length : Int)) = true := decide_eq_true c23
        clear c23
        by_cases c24 : (l1.length : Int) ≤ ((rd_L2 t527 x10_1).length : Int)
        ·rw [if_pos c24] at H
         have c24b0 := eq_true c24
         have c24b1 : decide ((l1.length : Int) ≤ ((rd_L2 t527 x10_1).length : Int)) = true := decide_eq_true c24
         clear c24
         obtain ⟨y535,hy535⟩ : ∃ y_ : List Int,y_ = ((rd_L2 t527 x10_1).drop ((l1.length : Int) : Int).toNat) := ⟨_,rfl⟩
         replace H : (if x9_1.length < 5864062014805 then (privityref06_Inverse.l0 k1 l1 t527 (x9_1 ++ [y535]) (wrap64 (x10_1 + 1))) else (none)) = some (r1,r2) := by first|(rw [hy535];with_reducible exact H)|(have H2_ := (Option.bind_some _ _).symm.trans H;rw [hy535];with_reducible exact H2_)|(have H2_ := (Option.bind_some _ _).symm.trans H;with_reducible exact H2_)|with_reducible exact H|(rw [hy535];exact H)|exact H
         have Ny535 := am hy535
         clear hy535
         by_cases c25 : x9_1.length < 5864062014805
         ·rw [if_pos c25] at H
          have LMc25 := am c25
          clear c25
          obtain ⟨y540,hy540⟩ : ∃ y_ : List (List Int),y_ = (x9_1 ++ [y535]) := ⟨_,rfl⟩
          replace H : (privityref06_Inverse.l0 k1 l1 t527 y540 (wrap64 (x10_1 + 1))) = some (r1,r2) := by first|(rw [hy540];with_reducible exact H)|(have H2_ := (Option.bind_some _ _).symm.trans H;rw [hy540];with_reducible exact H2_)|(have H2_ := (Option.bind_some _ _).symm.trans H;with_reducible exact H2_)|with_reducible exact H|(rw [hy540];exact H)|exact H
          have Ny540 := am hy540
          clear hy540
          have H' := am H
          clear H
          obtain ⟨Ao26,co26,eo26⟩ := Kd.N_slice HO_6.out
          subst eo26
          have p534 : 0 ≤ (x10_1 : Int) := od
          have q534 : x10_1 < (t527.length : Int) := od
          obtain ⟨ad534,A534_0,c534_0,e534,hx534_0,hl534_0,hi534_0⟩ := at_L2 (Kd.N_reads' HO_6.out).2.2 x10_1 p534 q534
          cases e534
          obtain ⟨ce534,hce534,hMe534,hcc534⟩ := Kd.N_get HO_6.out [] x10_1 p534 (by first|exact q534|exact od|(have e_ := (Kd.N_reads' HO_6.out).1;omega))
          obtain ⟨ua534_0,uc534_0,rfl,ul534_0,ge534_0⟩ := Kd.FK_slice_open hMe534
          have hv534_0 := hcc534 0 _ rfl
          rw [Nat.add_zero,show ((Kd.slice 22 (Kd.int .u64))).sz = 1 from rfl,Nat.mul_one] at hv534_0
          replace hv534_0 := Option.some.inj (hv534_0.symm.trans hx534_0)
          injection hv534_0 with hva_ hvn_ hvc_
          rw [hva_] at ge534_0
          rw [hvc_] at ul534_0
          have HL534_0 := am (show Kd.V (Kd.int .u64) 22 _ w.heap.size _ _ (rd_L2 t527 x10_1) from Kd.V_mk ul534_0 ge534_0)
          clear hva_ hvn_ hvc_ ge534_0 ul534_0
          clear hcc534 hce534
          have HR534_0 := am hi534_0
          have HC534_0 := am hl534_0
          clear hi534_0 hl534_0
          replace p534 := eq_true p534
          replace q534 := eq_true q534
          have q27 : ((l1.length : Int) : Int) ≤ (((rd_L2 t527 x10_1).length : Int) : Int) := od
          obtain ⟨i027,hi027,_,hsz27,_⟩ := info_parts info22
          have hroom27 : (rd_L2 t527 x10_1).length ≤ c534_0 := HC534_0.out
          have hC27 : Kd.F (Kd.int .u64) _ _ A534_0 (rd_L2 t527 x10_1).length (rd_L2 t527 x10_1) := (Kd.V_at (base := w.heap.size) HL534_0.out).2.2
          have q027 : (0 : Int) ≤ ((l1.length : Int) : Int) := od
          have hcut27 := cut_from (P := Try.prog) 40 22 .i64 Try.underlying40 hi027 1 hsz27 A534_0 (rd_L2 t527 x10_1).length c534_0 (l1.length : Int) q027 q27
          have hr27 := Kd.F_cut (m := ((l1.length : Int) : Int).toNat) (c := c534_0) hC27 (by omega) hroom27
          obtain ⟨A27,hA27⟩ : ∃ A1_,A1_ = (if c534_0 = ((l1.length : Int) : Int).toNat then A534_0 else (A534_0 : Option Addr).map (·.add (((l1.length : Int) : Int).toNat * 1))) := ⟨_,rfl⟩
          obtain ⟨c27,hc27⟩ : ∃ c1_,c1_ = c534_0 - ((l1.length : Int) : Int).toNat := ⟨_,rfl⟩
          have hy27 : y535.length = (rd_L2 t527 x10_1).length - ((l1.length : Int) : Int).toNat := (by rw [Ny535.out,List.length_drop] <;> omega)
          rw [show (rd_L2 t527 x10_1).drop ((l1.length : Int) : Int).toNat = y535 from Ny535.out.symm] at hr27
          replace hr27 : Kd.F (Kd.int .u64) _ _ A27 y535.length y535 := (by rw [hA27];exact hr27)
          rw [← hy27,← hA27,← hc27] at hcut27
          have HO539 := am (show Kd.V (Kd.int .u64) 22 _ w.heap.size _ (.slice A27 y535.length c27) y535 from Kd.V_mk (by rw [hy27,hc27];exact Nat.sub_le_sub_right hroom27 _) hr27)
          have HC539 := am (show y535.length ≤ c27 from by rw [hy27,hc27];exact Nat.sub_le_sub_right hroom27 _)
          clear hr27 hC27 hroom27 hi027 hsz27 hc27
          have KY27 := am hy27
          have KA27 := am hA27
          clear hy27 hA27
          replace q27 := eq_true q27
          go_wp2_with (first|((with_reducible refine gate_builtin (b := .append) (xs := #[.tmp 38,.tmp 46]) rfl ?_);at_builtin;refine Kd.N_append (Kd.slice 22 (Kd.int .u64)) (w0 := w) w.heap.size rfl (.tmp 38) (.tmp 46) 25 40 (.slice none 0 0) 24 rfl Try.underlying25 info40 rfl (by decide) (by omega) u9 x9_1 y535 [.slice A27 y535.length c27] (fun k_ => (w.heap.size ≤ k_) ∧ some k_ ≠ (.slice (some ad534) t527.length co26 : Value).ownBlock) (fun k_ => ((fun k_ => (w.heap.size ≤ k_) ∧ some k_ ≠ (.slice (some ad534) t527.length co26 : Value).ownBlock)) k_ ∧ some k_ ≠ (u9 : Value).ownBlock) rfl rfl ?aP (fun _ hk => hk) ?aF ?aO ?aB ?aS ?aL ?_;(case aP => exact (Kd.FK_slice_mk (Kd.V_reads' (Kd.V_mono (ok' := (fun k_ => ((fun k_ => (w.heap.size ≤ k_) ∧ some k_ ≠ (.slice (some ad534) t527.length co26 : Value).ownBlock)) k_ ∧ some k_ ≠ (u9 : Value).ownBlock)) (HO539.out) (fun k_ hk => ⟨⟨hk.1.1,hk.2⟩,hk.1.2⟩))).2.1 (Kd.V_F (Kd.V_mono (ok' := (fun k_ => ((fun k_ => (w.heap.size ≤ k_) ∧ some k_ ≠ (.slice (some ad534) t527.length co26 : Value).ownBlock)) k_ ∧ some k_ ≠ (u9 : Value).ownBlock)) (HO539.out) (fun k_ hk => ⟨⟨hk.1.1,hk.2⟩,hk.1.2⟩)))));(case aB => exact (bb HB));(case aF => exact (fun k_ hk => ⟨(Nat.le_trans (below_size (bb HB)) hk),Kd.fresh' (Kd.N_lt (rn HO_6)) k_ hk⟩));(case aO => exact (rn HO_9));(case aS => exact (below_size (bb HB)));(case aL => have := LMc25.out;omega);intro v541 w28 ho hb hg hat;rw [← Ny540.out] at ho;have n0_ := am (Kd.N_afterv (ok := (fun k_ => (w.heap.size ≤ k_))) (rn HO_6) hg hat);have n1_ := am (Kd.V_afterv (ok := (fun k_ => (w.heap.size ≤ k_) ∧ some k_ ≠ (.slice (some ad534) t527.length co26 : Value).ownBlock)) (by (with_reducible repeat (first|apply Kd.V_alloc|apply Kd.V_drewN|apply Kd.V_drew));exact Kd.V_mono HL534_0.out (fun _ hk => ⟨⟨hk.1.1,hk.2⟩,hk.1.2⟩)) hg hat);have n2_ := am (Kd.V_afterv (ok := (fun k_ => (w.heap.size ≤ k_) ∧ some k_ ≠ (.slice (some ad534) t527.length co26 : Value).ownBlock)) (by (with_reducible repeat (first|apply Kd.V_alloc|apply Kd.V_drewN|apply Kd.V_drew));exact Kd.V_mono HO539.out (fun _ hk => ⟨⟨hk.1.1,hk.2⟩,hk.1.2⟩)) hg hat);have n3_ := am (hb);have n4_ := am (ho);clear HO_6 HL534_0 HO539 HB HO_9;have HO_6 := n0_;have HL534_0 := n1_;have HO539 := n2_;have HB := n3_;have HO542 := n4_;clear n0_ n1_ n2_ n3_ n4_;clear ho hb hg hat))
          go_roundg k1
          case measure => have := HK1.out;omega
          case rel => exact ⟨(y540),(wrap64 (x10_1 + 1)),(by first|rfl|(simp;done)|(simp [*];done)),H',⟨by have := HK1.out;omega⟩,⟨by (with_reducible repeat (first|apply Kd.N_alloc|apply Kd.N_drewN|apply Kd.N_drew));exact HO_6.out⟩,⟨by (with_reducible repeat (first|apply Kd.N_alloc|apply Kd.N_drewN|apply Kd.N_drew));exact HO542.out⟩,⟨bb HB⟩⟩
         ·rw [if_neg c25] at H
          exact absurd H (by simp)
        ·rw [if_neg c24] at H
         exact absurd H (by simp)
       ·rw [if_neg c23] at H
        exact absurd H (by simp)
      ·rw [if_neg c22] at H
       exact absurd H (by simp)
     ·rw [if_neg c21] at H
      have c21b0 : decide (x10_1 < (t527.length : Int)) = false := decide_eq_false c21
      clear c21
      simp only [Option.some.injEq,Prod.mk.injEq] at H
      obtain ⟨rfl,rfl⟩ := H
      obtain ⟨Ao29,co29,eo29⟩ := Kd.N_slice HO_6.out
      subst eo29
      go_wp2
      go_ret2
      exact ⟨_,by first|rfl|(simp [errW_none,errW_some] <;> rfl)|(simp [*,errW_none,errW_some] <;> rfl),by (with_reducible repeat (first|apply Kd.N_alloc|apply Kd.N_drewN|apply Kd.N_drew));exact Kd.N_mono HO_9.out (fun _ hk => hk.1),bb HB⟩
 ·replace c4 := Bool.eq_false_iff.mpr c4
  subst c4
  rw [if_neg (show ¬ (false = true) by decide)] at H
  simp only [Option.some.injEq,Prod.mk.injEq] at H
  obtain ⟨rfl,rfl⟩ := H
  go_enter Try.func50,Try.ntmps50
  go_wp2_with (first|((with_reducible refine gate_callee (f := 79) rfl ?_);refine goesL_ (some 12) rfl rfl Try.func79 (by kernel_rfl) rfl #[.slice A1 l1.length c1] rfl (by (try simp only [List.map_toArray,List.map_cons,List.map_nil]);first|done|rfl|(simp only [List.length_drop,List.length_take];rfl)) ?_;(with_reducible refine (privityref06_square.calls k _ _ l1 false _ ?side1 ?side2 A3.out).mono ?_);(case side1 => repeat (first|exact HR1.out|(with_reducible refine Kd.C_alloc ?_ _)|(with_reducible refine Kd.C_drewN ?_ _)|(with_reducible refine Kd.C_drew ?_)));(case side2 => exact HC1.out);rintro e w' ⟨rfl,⟨nd,rfl⟩⟩;refine ⟨_,rfl,?_⟩))
  go_ret2
  exact ⟨_,by first|rfl|(simp [errW_none,errW_some] <;> rfl)|(simp [*,errW_none,errW_some] <;> rfl),by first|exact Kd.S_nil _ _ _ _ _|exact Kd.N_nil _ _ _ _ _|exact Kd.V_nil _ _ _ _ _|exact Kd.Q_nil _ _ _ _ _|exact Kd.R_nil _ _ _ _ _,bb HB⟩
end Go.Proofs.Ytmdoaijkaaaglaa.Pr
end
