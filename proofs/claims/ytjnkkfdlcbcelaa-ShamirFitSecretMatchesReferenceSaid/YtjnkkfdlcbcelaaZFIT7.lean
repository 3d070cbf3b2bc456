/- The row of the law ShamirFitSecretMatchesReference, out of its plain law and the walk. -/
import Derived.Test.YtjnkkfdlcbcelaaZFIT1
import Derived.Test.YtjnkkfdlcbcelaaZFIT6
import Derived.Test.YtjnkkfdlcbcelaaZFIT5
import Derived.Test.YtjnkkfdlcbcelaaProg
import Derived.ChangeArms
import Derived.DataReads
import Derived.DataElems
import Derived.ShutString
import Derived.ChangeSame
import Derived.OpenShut
import Derived.Test.YtjnkkfdlcbcelaaZFIT0
import Derived.Test.YtjnkkfdlcbcelaaRows
import Derived.WalkKit
import Derived.ProofKit
import Derived.ChangeOld
import Derived.Below
import Derived.SizedLaws
set_option linter.unusedVariables false
set_option linter.unusedSimpArgs false
section
namespace Go.Proofs.Ytjnkkfdlcbcelaa.Pr
open Go.RowKit Go.Proofs.YtjnkkfdlcbcelaaW.PrintWords Go.Proofs.YtjnkkfdlcbcelaaW.PrintLast Go.Proofs.YtjnkkfdlcbcelaaW.PrintMore
attribute [local go_sem] max2_int min2_int max_two min_two max_three min_three max_four min_four
open Go.Proofs.Ytjnkkfdlcbcelaa.Hw
def privityref05_Polynomial.l0 : Nat → Int → List (S49) → List Int → List Int → Int → Option (List Int × Int)
 | 0,_,_,_,_,_ => none
 | k + 1,x0,x1,x6,x7,x8 => if x8 < (x1.length : Int) then (if 0 ≤ x8 then ((privityref05_base.f k x0 x6 x8).bind fun t445 => ((privityref04_Scale.f k x0 ((rd_T49 x1 x8).f1) t445).bind fun t448 => ((privityref04_Add.f k x0 x7 t448).bind fun t451 => (privityref05_Polynomial.l0 k x0 x1 x6 t451 (wrap64 (x8 + 1)))))) else (none)) else (some (x7,0))
def privityref05_Polynomial.f (k : Nat) (a0 : Int) (l1 : List (S49)) : Option (List Int × Int) := (privityref05_Places.f k l1).bind fun t440 => ((privityref05_Unlike.f k t440).bind fun t443 => (if t443 = true then (privityref05_Polynomial.l0 k a0 l1 t440 ([] : List Int) 0) else (some (([] : List Int),1))))
def privityref05_Polynomial.T8 : Bool × List (List Nat × List Nat) := (true,[([],[]),([],[]),([],[]),([],[]),([],[]),([3,4],[3,4]),([5],[5]),([6],[6]),([],[]),([],[]),([],[]),([8,9,10],[8,9,10]),([2,7,11,11],[2,7,11]),([0,1,12,12],[0,1,12]),([13,13,0,1,2,3,4,5,6,7,8,9,10,11,12,13],[1,13])])
def privityref05_Polynomial.B8 : List Nat := [0,0,0,0,0,24,56,120,0,0,0,1792,4092,8191,16383]
theorem privityref05_Polynomial.tab8 : rtab .any (opsOf Try.f46 8) = privityref05_Polynomial.T8 := by kernel_rfl
theorem privityref05_Polynomial.bits8 : waitsOk privityref05_Polynomial.T8.2 privityref05_Polynomial.B8 = true := by kernel_rfl
set_option maxHeartbeats 8000000 in
set_option maxRecDepth 100000 in
theorem privityref05_Polynomial.calls (k : Nat) (a0 : Int) (A1 : Option Addr) (c1 : Nat) (l1 : List (S49)) (r1 : List Int) (r2 : Int) (w : World) (hr1 : Kd.C k49 w A1 l1.length l1) (hc1 : l1.length ≤ c1) (h : privityref05_Polynomial.f k a0 l1 = some (r1,r2)) :
  Calls Try.prog 46 #[.int .u64 a0,.slice A1 l1.length c1] w fun e w' => ∃ v0_ : Value,e = .returned (.tuple #[v0_,.int .i64 r2]) ∧ Kd.R (Kd.int .u64) 22 w' w.heap.size (fun _ => True) v0_ r1 ∧ Below w.heap.size w w' := by
 have HR1 := am hr1
 have HC1 := am hc1
 clear hr1 hc1
 have HB := am (Below.refl w.heap.size w)
 have H : ((privityref05_Places.f k l1).bind fun t440 => ((privityref05_Unlike.f k t440).bind fun t443 => (if t443 = true then (privityref05_Polynomial.l0 k a0 l1 t440 ([] : List Int) 0) else (some (([] : List Int),1))))) = some (r1,r2) := h
 clear h
 replace H := Option.bind_eq_some_iff.mp H
 obtain ⟨t440,A30,H⟩ := H
 try dsimp only at H
 have A3 := am A30
 clear A30
 replace H := Option.bind_eq_some_iff.mp H
 obtain ⟨t443,A40,H⟩ := H
 try dsimp only at H
 have A4 := am A40
 clear A40
 by_cases c5 : t443 = true
 ·subst c5
  rw [if_pos rfl] at H
  have H' := am H
  clear H
  go_enter Try.func46,Try.ntmps46
  go_wp2_with (first|((with_reducible refine gate_callee (f := 63) rfl ?_);refine goesL_ (some 10) rfl rfl Try.func63 (by kernel_rfl) rfl #[.slice A1 l1.length c1] rfl (by (try simp only [List.map_toArray,List.map_cons,List.map_nil]);first|done|rfl|(simp only [List.length_drop,List.length_take];rfl)) ?_;(with_reducible refine (privityref05_Places.calls k _ _ l1 t440 _ ?side1 ?side2 A3.out).mono ?_);(case side1 => repeat (first|exact HR1.out|(with_reducible refine Kd.C_alloc ?_ _)|(with_reducible refine Kd.C_drewN ?_ _)|(with_reducible refine Kd.C_drew ?_)));(case side2 => exact HC1.out);rintro e w6 ⟨v441,rfl,ho0,hb⟩;refine ⟨_,rfl,?_⟩;have n0_ := am (Kd.R_lower ho0 (below_size (bb HB)));have n1_ := am (below_step (bb HB) hb);clear HB;have HO442 := n0_;have HB := n1_;clear n0_ n1_;(try clear hb);(try clear hb2);(try clear hk);(try clear hi);(try clear ho0);obtain ⟨Ao7,co7,eo7⟩ := Kd.R_slice HO442.out;subst eo7)|((with_reducible refine gate_callee (f := 62) rfl ?_);refine goesL_ (some 12) rfl rfl Try.func62 (by kernel_rfl) rfl #[.slice Ao7 t440.length co7] rfl (by (try simp only [List.map_toArray,List.map_cons,List.map_nil]);first|done|rfl|(simp only [List.length_drop,List.length_take];rfl)) ?_;(with_reducible refine (privityref05_Unlike.calls k _ _ t440 true _ ?side1 ?side2 A4.out).mono ?_);(case side1 => exact cr HO442);(case side2 => exact (Kd.R_reads' HO442.out).2.1);rintro e w' ⟨rfl,⟨nd,rfl⟩⟩;refine ⟨_,rfl,?_⟩))
  go_loopg [7,8] k (fun kq v7 v8 w' => ∃ (x7_1 : List Int) (x8_1 : Int),v8 = .int .i64 x8_1 ∧ Aside0 (privityref05_Polynomial.l0 kq a0 l1 t440 x7_1 x8_1 = some (r1,r2)) ∧ Aside0 (kq ≤ k) ∧ Aside0 (Kd.R (Kd.int .u64) 22 w' w.heap.size (fun k_ => some k_ ≠ (v7 : Value).ownBlock) (.slice Ao7 t440.length co7) t440) ∧ Aside0 (Kd.R (Kd.int .u64) 22 w' w.heap.size (fun k_ => some k_ ≠ ((.slice Ao7 t440.length co7) : Value).ownBlock) v7 x7_1) ∧ Aside0 (Below w.heap.size w w'))
  case atStart => exact ⟨(([] : List Int)),(0),(by first|rfl|(simp;done)|(simp [*];done)),H',⟨Nat.le_refl _⟩,⟨by (with_reducible repeat (first|apply Kd.R_alloc|apply Kd.R_drewN|apply Kd.R_drew));exact Kd.R_mono HO442.out (fun _ hk => (by simp [Value.ownBlock]))⟩,⟨by first|exact Kd.R_nil _ _ _ _ _|exact Kd.N_nil _ _ _ _ _|exact Kd.V_nil _ _ _ _ _|exact Kd.Q_nil _ _ _ _ _|exact Kd.S_nil _ _ _ _ _⟩,⟨bb HB⟩⟩
  case round =>
   clear H'
   try clear c1
   try clear p2
   try clear c4
   try clear c5
   try clear c6
   obtain ⟨x7_1,x8_1,rfl,HA,HK1,HO_6,HO_7,HB⟩ := hrel
   cases gk with
   | zero => exact absurd HA.out (by simp [privityref05_Polynomial.l0])
   | succ k1 =>
    have H := HA.out
    clear HA
    simp only [privityref05_Polynomial.l0] at H
    by_cases c8 : x8_1 < (l1.length : Int)
    ·rw [if_pos c8] at H
     have c8b0 : decide (x8_1 < (l1.length : Int)) = true := decide_eq_true c8
     clear c8
     by_cases c9 : 0 ≤ x8_1
     ·rw [if_pos c9] at H
      have c9b0 : decide (0 ≤ x8_1) = true := decide_eq_true c9
      clear c9
      replace H := Option.bind_eq_some_iff.mp H
      obtain ⟨t445,A100,H⟩ := H
      try dsimp only at H
      have A10 := am A100
      clear A100
      replace H := Option.bind_eq_some_iff.mp H
      obtain ⟨t448,A110,H⟩ := H
      try dsimp only at H
      have A11 := am A110
      clear A110
      replace H := Option.bind_eq_some_iff.mp H
      obtain ⟨t451,A120,H⟩ := H
      try dsimp only at H
      have A12 := am A120
      clear A120
      have H' := am H
      clear H
      try go_wp2
      have n0_ := am (Kd.R_drew HO_6.out)
      have n1_ := am (Kd.R_drew HO_7.out)
      have n2_ := am (below_drew1 HB.out)
      clear HO_6
      clear HO_7
      clear HB
      have HO_6 := n0_
      have HO_7 := n1_
      have HB := n2_
      clear n0_ n1_ n2_
      have p444 : 0 ≤ (x8_1 : Int) := od
      have q444 : x8_1 < (l1.length : Int) := od
      obtain ⟨ad444,e444,hx444_0,hx444_1⟩ := at_T49 HR1.out x8_1 p444 q444
      have hw444_1 := hx444_1
      have hw444_0 := hx444_0
      cases e444
      replace hx444_0 := (HB.out.cell (World.block_lt_of_cell? w _ hx444_0)).trans hx444_0
      replace hx444_1 := (HB.out.cell (World.block_lt_of_cell? w _ hx444_1)).trans hx444_1
      replace p444 := eq_true p444
      replace q444 := eq_true q444
      refine start_ (n := 15) (S := fun w' => w'.cell? (ad444.add ((x8_1).toNat * 2)) = some (.int .u64 ((rd_T49 l1 x8_1).f0)) ∧ w'.cell? ⟨(ad444.add ((x8_1).toNat * 2)).block,(ad444.add ((x8_1).toNat * 2)).off + 1,none⟩ = some (.int .u64 ((rd_T49 l1 x8_1).f1))) (ds := []) (bz 15 0) (by kernel_rfl) rfl rfl ⟨((HB.out.cell (World.block_lt_of_cell? w _ hw444_0)).trans hw444_0),((HB.out.cell (World.block_lt_of_cell? w _ hw444_1)).trans hw444_1)⟩ (fun hHeld => ?_);refine with_tabW privityref05_Polynomial.tab8 privityref05_Polynomial.bits8 (fun HT_ HW_ => ?_)
      generalize wr.drew = w13 at HO_6 HO_7 HB hx444_0 hx444_1 hHeld ⊢
      refine pk 0 20 (bz 15 1) HT_ ?_
      refine pk 1 21 (bz 15 3) HT_ ?_
      refine pk 2 22 (bz 15 7) HT_ ?_
      refine pk 3 23 (bz 15 15) HT_ ?_
      refine pk 4 24 (bz 15 31) HT_ ?_
      refine pk 5 25 (bz 15 63) HT_ ?_
      refine pk 6 26 (bz 15 127) HT_ ?_
      refine pk 8 28 (bz 15 383) HT_ ?_
      refine pk 9 29 (bz 15 895) HT_ ?_
      refine pk 10 30 (bz 15 1919) HT_ ?_
      refine tk 7 27 (bz 15 2047) HT_ HW_ hHeld ?_
      refine on 11 31 (bz 15 4095) HT_ (fun K hK => ?_)
      refine goes_ Try.func66 (by kernel_rfl) rfl #[.int .u64 a0,.slice Ao7 t440.length co7,.int .i64 x8_1] (by rfl) rfl rfl (by (try simp only [List.map_toArray,List.map_cons,List.map_nil]);first|done|rfl|(simp only [List.length_drop,List.length_take];rfl)) ?_
      with_reducible refine (privityref05_base.calls k1 a0 _ _ t440 x8_1 t445 _ ?side1 ?side2 A10.out).mono ?_
      (case side1 => exact cr HO_6)
      (case side2 => exact (Kd.R_reads' HO_6.out).2.1)
      rintro e w14 ⟨v446,rfl,ho0,hb⟩
      refine ⟨_,rfl,?_⟩
      have n0_ := am (Kd.R_elder' (rr HO_6) (Kd.R_base ho0) hb)
      have n1_ := am (Kd.R_elder' (rr HO_7) (Kd.R_base ho0) hb)
      have n2_ := am (Kd.R_lower (Kd.R_new' (Kd.R_new' ho0 (Kd.R_lt (rr HO_6))) (Kd.R_lt (rr HO_7))) (below_size (bb HB)))
      have n3_ := am (below_step (bb HB) hb)
      clear HO_6
      clear HO_7
      clear HB
      have HO_6 := n0_
      have HO_7 := n1_
      have HO447 := n2_
      have HB := n3_
      clear n0_ n1_ n2_ n3_
      (try clear hb)
      (try clear hb2)
      (try clear hk)
      (try clear hi)
      (try clear ho0)
      obtain ⟨Ao15,co15,eo15⟩ := Kd.R_slice HO447.out
      (first|subst eo15|(injection eo15 with f1_ f2_ f3_;have f4_ := f1_.symm;have f5_ := f3_.symm;clear f1_ f2_ f3_;subst f4_;subst f5_))
      refine hK.out _ _ ⟨((HB.out.cell (World.block_lt_of_cell? w _ hw444_0)).trans hw444_0),((HB.out.cell (World.block_lt_of_cell? w _ hw444_1)).trans hw444_1)⟩ (fun hHeld => ?_)
      clear hK K
      refine nm 31 ?_
      refine on 12 32 (bz 15 8191) HT_ (fun K hK => ?_)
      refine goes_ Try.func65 (by kernel_rfl) rfl #[.int .u64 a0,.int .u64 ((rd_T49 l1 x8_1).f1),.slice Ao15 t445.length co15] (by rfl) rfl rfl (by (try simp only [List.map_toArray,List.map_cons,List.map_nil]);first|done|rfl|(simp only [List.length_drop,List.length_take];rfl)) ?_
      with_reducible refine (privityref04_Scale.calls k1 a0 ((rd_T49 l1 x8_1).f1) _ _ t445 t448 _ ?side1 ?side2 A11.out).mono ?_
      (case side1 => exact cr HO447)
      (case side2 => exact (Kd.R_reads' HO447.out).2.1)
      rintro e w16 ⟨v449,rfl,ho0,hb⟩
      refine ⟨_,rfl,?_⟩
      have n0_ := am (Kd.R_elder' (rr HO_6) (Kd.R_base ho0) hb)
      have n1_ := am (Kd.R_elder' (rr HO_7) (Kd.R_base ho0) hb)
      have n2_ := am (Kd.R_elder' (rr HO447) (Kd.R_base ho0) hb)
      have n3_ := am (Kd.R_lower (Kd.R_new' (Kd.R_new' (Kd.R_new' ho0 (Kd.R_lt (rr HO_6))) (Kd.R_lt (rr HO_7))) (Kd.R_lt (rr HO447))) (below_size (bb HB)))
      have n4_ := am (below_step (bb HB) hb)
      clear HO_6
      clear HO_7
      clear HO447
      clear HB
      have HO_6 := n0_
      have HO_7 := n1_
      have HO447 := n2_
      have HO450 := n3_
      have HB := n4_
      clear n0_ n1_ n2_ n3_ n4_
      (try clear hb)
      (try clear hb2)
      (try clear hk)
      (try clear hi)
      (try clear ho0)
      obtain ⟨Ao17,co17,eo17⟩ := Kd.R_slice HO_7.out
      (first|subst eo17|(injection eo17 with f1_ f2_ f3_;have f4_ := f1_.symm;have f5_ := f3_.symm;clear f1_ f2_ f3_;subst f4_;subst f5_))
      obtain ⟨Ao18,co18,eo18⟩ := Kd.R_slice HO450.out
      (first|subst eo18|(injection eo18 with f1_ f2_ f3_;have f4_ := f1_.symm;have f5_ := f3_.symm;clear f1_ f2_ f3_;subst f4_;subst f5_))
      refine hK.out _ _ ⟨((HB.out.cell (World.block_lt_of_cell? w _ hw444_0)).trans hw444_0),((HB.out.cell (World.block_lt_of_cell? w _ hw444_1)).trans hw444_1)⟩ (fun hHeld => ?_)
      clear hK K
      refine nm 32 ?_
      refine on 13 33 (bz 15 16383) HT_ (fun K hK => ?_)
      refine goes_ Try.func64 (by kernel_rfl) rfl #[.int .u64 a0,.slice Ao17 x7_1.length co17,.slice Ao18 t448.length co18] (by rfl) rfl rfl (by (try simp only [List.map_toArray,List.map_cons,List.map_nil]);first|done|rfl|(simp only [List.length_drop,List.length_take];rfl)) ?_
      with_reducible refine (privityref04_Add.calls k1 a0 _ _ x7_1 _ _ t448 t451 _ ?side1 ?side2 ?side3 ?side4 A12.out).mono ?_
      (case side1 => exact cr HO_7)
      (case side2 => exact (Kd.R_reads' HO_7.out).2.1)
      (case side3 => exact cr HO450)
      (case side4 => exact (Kd.R_reads' HO450.out).2.1)
      rintro e w19 ⟨v452,rfl,ho0,hb⟩
      refine ⟨_,rfl,?_⟩
      have n0_ := am (Kd.R_elder' (rr HO_6) (Kd.R_base ho0) hb)
      have n1_ := am (Kd.R_elder' (rr HO_7) (Kd.R_base ho0) hb)
      have n2_ := am (Kd.R_elder' (rr HO447) (Kd.R_base ho0) hb)
      have n3_ := am (Kd.R_elder' (rr HO450) (Kd.R_base ho0) hb)
      have n4_ := am (Kd.R_lower (Kd.R_new' (Kd.R_new' (Kd.R_new' (Kd.R_new' ho0 (Kd.R_lt (rr HO_6))) (Kd.R_lt (rr HO_7))) (Kd.R_lt (rr HO447))) (Kd.R_lt (rr HO450))) (below_size (bb HB)))
      have n5_ := am (below_step (bb HB) hb)
      clear HO_6
      clear HO_7
      clear HO447
      clear HO450
      clear HB
      have HO_6 := n0_
      have HO_7 := n1_
      have HO447 := n2_
      have HO450 := n3_
      have HO453 := n4_
      have HB := n5_
      clear n0_ n1_ n2_ n3_ n4_ n5_
      (try clear hb)
      (try clear hb2)
      (try clear hk)
      (try clear hi)
      (try clear ho0)
      refine hK.out _ _ ⟨((HB.out.cell (World.block_lt_of_cell? w _ hw444_0)).trans hw444_0),((HB.out.cell (World.block_lt_of_cell? w _ hw444_1)).trans hw444_1)⟩ (fun hHeld => ?_)
      clear hK K
      refine nm 33 ?_
      refine pk 14 7 (bz 15 32767) HT_ ?_
      refine done_ (done_of HT_.out (by kernel_rfl)) ?_
      try go_wp2
      go_roundg k1
      case measure => have := HK1.out;omega
      case rel => exact ⟨(t451),(wrap64 (x8_1 + 1)),(by first|rfl|(simp;done)|(simp [*];done)),H',⟨by have := HK1.out;omega⟩,⟨by (with_reducible repeat (first|apply Kd.R_alloc|apply Kd.R_drewN|apply Kd.R_drew));exact Kd.R_mono HO_6.out (fun _ hk => hk.2)⟩,⟨by (with_reducible repeat (first|apply Kd.R_alloc|apply Kd.R_drewN|apply Kd.R_drew));exact Kd.R_mono HO453.out (fun _ hk => hk.1.1.1.2)⟩,⟨bb HB⟩⟩
     ·rw [if_neg c9] at H
      exact absurd H (by simp)
    ·rw [if_neg c8] at H
     have c8b0 : decide (x8_1 < (l1.length : Int)) = false := decide_eq_false c8
     clear c8
     simp only [Option.some.injEq,Prod.mk.injEq] at H
     obtain ⟨rfl,rfl⟩ := H
     go_wp2
     go_ret2
     exact ⟨_,by first|rfl|(simp [errW_none,errW_some] <;> rfl)|(simp [*,errW_none,errW_some] <;> rfl),by (with_reducible repeat (first|apply Kd.R_alloc|apply Kd.R_drewN|apply Kd.R_drew));exact Kd.R_mono HO_7.out (fun _ hk => trivial),bb HB⟩
 ·replace c5 := Bool.eq_false_iff.mpr c5
  subst c5
  rw [if_neg (show ¬ (false = true) by decide)] at H
  simp only [Option.some.injEq,Prod.mk.injEq] at H
  obtain ⟨rfl,rfl⟩ := H
  go_enter Try.func46,Try.ntmps46
  go_wp2_with (first|((with_reducible refine gate_callee (f := 63) rfl ?_);refine goesL_ (some 10) rfl rfl Try.func63 (by kernel_rfl) rfl #[.slice A1 l1.length c1] rfl (by (try simp only [List.map_toArray,List.map_cons,List.map_nil]);first|done|rfl|(simp only [List.length_drop,List.length_take];rfl)) ?_;(with_reducible refine (privityref05_Places.calls k _ _ l1 t440 _ ?side1 ?side2 A3.out).mono ?_);(case side1 => repeat (first|exact HR1.out|(with_reducible refine Kd.C_alloc ?_ _)|(with_reducible refine Kd.C_drewN ?_ _)|(with_reducible refine Kd.C_drew ?_)));(case side2 => exact HC1.out);rintro e w20 ⟨v441,rfl,ho0,hb⟩;refine ⟨_,rfl,?_⟩;have n0_ := am (Kd.R_lower ho0 (below_size (bb HB)));have n1_ := am (below_step (bb HB) hb);clear HB;have HO442 := n0_;have HB := n1_;clear n0_ n1_;(try clear hb);(try clear hb2);(try clear hk);(try clear hi);(try clear ho0);obtain ⟨Ao21,co21,eo21⟩ := Kd.R_slice HO442.out;subst eo21)|((with_reducible refine gate_callee (f := 62) rfl ?_);refine goesL_ (some 12) rfl rfl Try.func62 (by kernel_rfl) rfl #[.slice Ao21 t440.length co21] rfl (by (try simp only [List.map_toArray,List.map_cons,List.map_nil]);first|done|rfl|(simp only [List.length_drop,List.length_take];rfl)) ?_;(with_reducible refine (privityref05_Unlike.calls k _ _ t440 false _ ?side1 ?side2 A4.out).mono ?_);(case side1 => exact cr HO442);(case side2 => exact (Kd.R_reads' HO442.out).2.1);rintro e w' ⟨rfl,⟨nd,rfl⟩⟩;refine ⟨_,rfl,?_⟩))
  go_ret2
  exact ⟨_,by first|rfl|(simp [errW_none,errW_some] <;> rfl)|(simp [*,errW_none,errW_some] <;> rfl),by first|exact Kd.R_nil _ _ _ _ _|exact Kd.N_nil _ _ _ _ _|exact Kd.V_nil _ _ _ _ _|exact Kd.Q_nil _ _ _ _ _|exact Kd.S_nil _ _ _ _ _,bb HB⟩
mutual
def privityref09_FitSecret.j0 : Nat → Int → Int → List (S49) → Int → Bool → Option (List Int × Int)
 | 0,_,_,_,_,_ => none
 | k + 1,x0,x1,x2,x3,x34 => if x34 = true then (some (([] : List Int),1)) else ((some (([(⟨0,x3⟩ : S49)] : List (S49)) : List (S49))).bind fun y455 => (if y455.length + x2.length < 8796093022208 then (privityref09_FitSecret.l0 k x0 x1 x2 (y455 ++ x2) 1) else (none)))
def privityref09_FitSecret.l0 : Nat → Int → Int → List (S49) → List (S49) → Int → Option (List Int × Int)
 | 0,_,_,_,_,_ => none
 | k + 1,x0,x1,x2,x10,x11 => if (x10.length : Int) < (wrap64 (x1 + 1)) then (privityref09_FitSecret.l1 k x0 x1 x2 x10 x11 false 0) else ((privityref05_Polynomial.f k x0 x10).bind fun bt465 => (privityref09_FitSecret.l2 k x1 bt465.1))
def privityref09_FitSecret.l1 : Nat → Int → Int → List (S49) → List (S49) → Int → Bool → Int → Option (List Int × Int)
 | 0,_,_,_,_,_,_,_ => none
 | k + 1,x0,x1,x2,x10,x11,x12,x13 => if x13 < (x2.length : Int) then (if x12 = true then (privityref09_FitSecret.l1 k x0 x1 x2 x10 x11 true (wrap64 (x13 + 1))) else (if 0 ≤ x13 then (privityref09_FitSecret.l1 k x0 x1 x2 x10 x11 (((rd_T49 x2 x13).f0) == x11) (wrap64 (x13 + 1))) else (none))) else (if x12 = true then (privityref09_FitSecret.l0 k x0 x1 x2 x10 (IntKind.u64.wrap (x11 + 1))) else (if x10.length < 8796093022208 then (privityref09_FitSecret.l0 k x0 x1 x2 (x10 ++ [(⟨x11,0⟩ : S49)]) (IntKind.u64.wrap (x11 + 1))) else (none)))
def privityref09_FitSecret.l2 : Nat → Int → List Int → Option (List Int × Int)
 | 0,_,_ => none
 | k + 1,x1,x14 => if (x14.length : Int) < (wrap64 (x1 + 1)) then (if x14.length < 17592186044416 then (privityref09_FitSecret.l2 k x1 (x14 ++ [0])) else (none)) else (some (x14,0))
end
def privityref09_FitSecret.f (k : Nat) (a0 : Int) (a1 : Int) (l2 : List (S49)) (a3 : Int) : Option (List Int × Int) := if a1 < 0 then (privityref09_FitSecret.j0 k a0 a1 l2 a3 true) else ((privityref09_Places.f k l2).bind fun t454 => (if t454 = true then (if (l2.length : Int) > a1 then (privityref09_FitSecret.j0 k a0 a1 l2 a3 true) else (privityref09_FitSecret.j0 k a0 a1 l2 a3 (decide ((IntKind.u64.wrap (a1)) ≥ a0)))) else (privityref09_FitSecret.j0 k a0 a1 l2 a3 true)))
set_option maxHeartbeats 8000000 in
set_option maxRecDepth 100000 in
theorem privityref09_FitSecret.calls (k : Nat) (a0 : Int) (a1 : Int) (A2 : Option Addr) (c2 : Nat) (l2 : List (S49)) (a3 : Int) (r1 : List Int) (r2 : Int) (w : World) (hr2 : Kd.C k49 w A2 l2.length l2) (hc2 : l2.length ≤ c2) (h : privityref09_FitSecret.f k a0 a1 l2 a3 = some (r1,r2)) :
  Calls Try.prog 30 #[.int .u64 a0,.int .i64 a1,.slice A2 l2.length c2,.int .u64 a3] w fun e w' => ∃ v0_ : Value,e = .returned (.tuple #[v0_,.int .i64 r2]) ∧ Kd.R (Kd.int .u64) 22 w' w.heap.size (fun _ => True) v0_ r1 ∧ Below w.heap.size w w' := by
 have hu49 := Try.underlying49
 have HR2 := am hr2
 have HC2 := am hc2
 clear hr2 hc2
 have HB := am (Below.refl w.heap.size w)
 have H : (if a1 < 0 then (privityref09_FitSecret.j0 k a0 a1 l2 a3 true) else ((privityref09_Places.f k l2).bind fun t454 => (if t454 = true then (if (l2.length : Int) > a1 then (privityref09_FitSecret.j0 k a0 a1 l2 a3 true) else (privityref09_FitSecret.j0 k a0 a1 l2 a3 (decide ((IntKind.u64.wrap (a1)) ≥ a0)))) else (privityref09_FitSecret.j0 k a0 a1 l2 a3 true)))) = some (r1,r2) := h
 clear h
 have HC5 := am H
 clear H
 go_enter Try.func30,Try.ntmps30
 go_upto_region 1 with (fail)
 go_cut [34] (fun v34 wc => ∃ (kq : Nat) (x34_4 : Bool),v34 = .bool x34_4 ∧ Aside0 (privityref09_FitSecret.j0 kq a0 a1 l2 a3 x34_4 = some (r1,r2)) ∧ Aside0 (kq ≤ k) ∧ Aside0 (Below w.heap.size w wc))
 case first =>
  have H := HC5.out
  clear HC5
  by_cases c6 : a1 < 0
  ·rw [if_pos c6] at H
   have c6b0 : decide (a1 < 0) = true := decide_eq_true c6
   clear c6
   (first|rw [c6b0]|(simp only [i64_w,i32_w];rw [c6b0])|skip)
   have H' := am H
   clear H
   go_wp2
   go_meet
   case rel => exact ⟨_,(true),(by first|rfl|(simp;done)|(simp [*];done)),H',⟨by first|omega|exact Nat.le_refl _⟩,⟨bb HB⟩⟩
  ·rw [if_neg c6] at H
   have c6b0 : decide (a1 < 0) = false := decide_eq_false c6
   clear c6
   (first|rw [c6b0]|(simp only [i64_w,i32_w];rw [c6b0])|skip)
   replace H := Option.bind_eq_some_iff.mp H
   obtain ⟨t454,A70,H⟩ := H
   try dsimp only at H
   have A7 := am A70
   clear A70
   by_cases c8 : t454 = true
   ·subst c8
    rw [if_pos rfl] at H
    by_cases c9 : (l2.length : Int) > a1
    ·rw [if_pos c9] at H
     have c9b0 : decide (a1 < (l2.length : Int)) = true := decide_eq_true c9
     clear c9
     have H' := am H
     clear H
     go_wp2_with (first|(go_at_call 45;(with_reducible refine (privityref09_Places.calls k _ _ l2 true _ ?side1 ?side2 A7.out).mono ?_);(case side1 => exact cb HR2 HB);(case side2 => exact HC2.out);rintro e w10 ⟨rfl,hb⟩;have n0_ := am (below_step (bb HB) hb);clear HB;have HB := n0_;clear n0_;(try clear hb);(try clear hb2);(try clear hk);(try clear hi)))
     go_meet
     case rel => exact ⟨_,(true),(by first|rfl|(simp;done)|(simp [*];done)),H',⟨by first|omega|exact Nat.le_refl _⟩,⟨bb HB⟩⟩
    ·rw [if_neg c9] at H
     have c9b0 : decide (a1 < (l2.length : Int)) = false := decide_eq_false c9
     clear c9
     have H' := am H
     clear H
     go_wp2_with (first|(go_at_call 45;(with_reducible refine (privityref09_Places.calls k _ _ l2 true _ ?side1 ?side2 A7.out).mono ?_);(case side1 => exact cb HR2 HB);(case side2 => exact HC2.out);rintro e w11 ⟨rfl,hb⟩;have n0_ := am (below_step (bb HB) hb);clear HB;have HB := n0_;clear n0_;(try clear hb);(try clear hb2);(try clear hk);(try clear hi)))
     go_meet
     case rel => exact ⟨_,(decide ((IntKind.u64.wrap (a1)) ≥ a0)),(by first|rfl|(simp;done)|(simp [*];done)),H',⟨by first|omega|exact Nat.le_refl _⟩,⟨bb HB⟩⟩
   ·replace c8 := Bool.eq_false_iff.mpr c8
    subst c8
    rw [if_neg (show ¬ (false = true) by decide)] at H
    have H' := am H
    clear H
    go_wp2_with (first|(go_at_call 45;(with_reducible refine (privityref09_Places.calls k _ _ l2 false _ ?side1 ?side2 A7.out).mono ?_);(case side1 => exact cb HR2 HB);(case side2 => exact HC2.out);rintro e w12 ⟨rfl,hb⟩;have n0_ := am (below_step (bb HB) hb);clear HB;have HB := n0_;clear n0_;(try clear hb);(try clear hb2);(try clear hk);(try clear hi)))
    go_meet
    case rel => exact ⟨_,(true),(by first|rfl|(simp;done)|(simp [*];done)),H',⟨by first|omega|exact Nat.le_refl _⟩,⟨bb HB⟩⟩
 case rest =>
  clear HC5
  try clear c2
  try clear p2
  try clear c3
  try clear c6
  try clear c6b0
  try clear c8
  try clear c9
  try clear c9b0
  obtain ⟨kq,x34_4,rfl,HA,HJ4,HB⟩ := hcut
  cases kq with
  | zero => exact absurd HA.out (by simp [privityref09_FitSecret.j0])
  | succ kj4 =>
   have H := HA.out
   clear HA
   simp only [privityref09_FitSecret.j0] at H
   by_cases c13 : x34_4 = true
   ·subst c13
    rw [if_pos rfl] at H
    simp only [Option.some.injEq,Prod.mk.injEq] at H
    obtain ⟨rfl,rfl⟩ := H
    go_wp2
    go_ret2
    exact ⟨_,by first|rfl|(simp [errW_none,errW_some] <;> rfl)|(simp [*,errW_none,errW_some] <;> rfl),by first|exact Kd.R_nil _ _ _ _ _|exact Kd.N_nil _ _ _ _ _|exact Kd.V_nil _ _ _ _ _|exact Kd.Q_nil _ _ _ _ _|exact Kd.S_nil _ _ _ _ _,bb HB⟩
   ·replace c13 := Bool.eq_false_iff.mpr c13
    subst c13
    rw [if_neg (show ¬ (false = true) by decide)] at H
    obtain ⟨y455,hy455⟩ : ∃ y_ : List (S49),y_ = (([(⟨0,a3⟩ : S49)] : List (S49))) := ⟨_,rfl⟩
    replace H : (if y455.length + l2.length < 8796093022208 then (privityref09_FitSecret.l0 kj4 a0 a1 l2 (y455 ++ l2) 1) else (none)) = some (r1,r2) := by first|(rw [hy455];with_reducible exact H)|(have H2_ := (Option.bind_some _ _).symm.trans H;rw [hy455];with_reducible exact H2_)|(have H2_ := (Option.bind_some _ _).symm.trans H;with_reducible exact H2_)|with_reducible exact H|(rw [hy455];exact H)|exact H
    have Ny455 := am hy455
    clear hy455
    by_cases c14 : y455.length + l2.length < 8796093022208
    ·rw [if_pos c14] at H
     have LMc14 := am c14
     clear c14
     obtain ⟨y458,hy458⟩ : ∃ y_ : List (S49),y_ = (y455 ++ l2) := ⟨_,rfl⟩
     replace H : (privityref09_FitSecret.l0 kj4 a0 a1 l2 y458 1) = some (r1,r2) := by first|(rw [hy458];with_reducible exact H)|(have H2_ := (Option.bind_some _ _).symm.trans H;rw [hy458];with_reducible exact H2_)|(have H2_ := (Option.bind_some _ _).symm.trans H;with_reducible exact H2_)|with_reducible exact H|(rw [hy458];exact H)|exact H
     have Ny458 := am hy458
     clear hy458
     have H' := am H
     clear H
     go_wp2_with (first|((with_reducible refine gate_dst (N := 37) rfl ?_);(try (refine gate_guard (by rfl) ?_;dsimp only));refine Kd.R_lit k49 _ 49 ?hg (N := 37) ?hd (xs := ([(⟨0,a3⟩ : S49)] : List (S49))) (inner := [.int .u64 0,.int .u64 a3]) (ok := fun _ => True) (okp := fun _ => True) ?hr ?hp (fun _ hk => hk) trivial (Below.refl _ _) (Nat.le_refl _) (by simp) ?_;(case hd => rfl);(case hg => rfl);(case hr => first|(go_simp;done)|(go_simp;rfl));(case hp => exact (Reps.c2 (show Kd.M k49 _ _ _ (⟨0,a3⟩ : S49) [.int .u64 0,.int .u64 a3] from (k49_mkM _ _ _ (⟨0,a3⟩ : S49) )) (Reps.none _ _)));intro v456 w15 ho16 hb hg_ hnew_;clear hg_ hnew_;(first|rw [← Ny455.out] at ho16|(simp only [Int.reduceToNat] at ho16;rw [← Ny455.out] at ho16));have n0_ := am (Kd.R_lower ho16 (below_size (bb HB)));have n1_ := am (below_step (bb HB) hb);clear HB;have HO457 := n0_;have HB := n1_;clear n0_ n1_;clear hb ho16)|((with_reducible refine gate_builtin (b := .append) (xs := #[.tmp 37,.tmp 38]) rfl ?_);(try (refine gate_guard (by rfl) ?_;dsimp only));at_builtin;refine Kd.R_append_rows k49 (w0 := w) w.heap.size rfl (.tmp 37) (.tmp 38) 47 49 (.agg #[(.int .u64 0),(.int .u64 0)]) 16 rfl Try.underlying47 info49 rfl (by decide) (by omega) v456 y455 l2 _ _ _ (fun _ => True) (fun _ => False) rfl rfl ?aO ?aR (fun _ _ h => h) (fun _ h => h.elim) ?aF ?aB ?aS ?aL ?_;(case aR => repeat (first|exact (Kd.C_below HR2.out HB.out)|(with_reducible refine Kd.C_alloc ?_ _)|(with_reducible refine Kd.C_drewN ?_ _)|(with_reducible refine Kd.C_drew ?_)));(case aB => exact (bb HB));(case aF => exact (fun _ _ => trivial));(case aO => exact (rr HO457));(case aS => exact (below_size (bb HB)));(case aL => have := LMc14.out;omega);intro v459 w17 ho hb hg hat;rw [← Ny458.out] at ho;have n0_ := am (hb);have n1_ := am (ho);clear HB HO457;have HB := n0_;have HO460 := n1_;clear n0_ n1_;clear ho hb hg hat))
     go_loopg [10,11] kj4 (fun kq v10 v11 w' => ∃ (x10_2 : List (S49)) (x11_2 : Int),v11 = .int .u64 x11_2 ∧ Aside0 (privityref09_FitSecret.l0 kq a0 a1 l2 x10_2 x11_2 = some (r1,r2)) ∧ Aside0 (kq ≤ kj4) ∧ Aside0 (Kd.R k49 49 w' w.heap.size (fun _ => True) v10 x10_2) ∧ Aside0 (Below w.heap.size w w'))
     case atStart => exact ⟨(y458),(1),(by first|rfl|(simp;done)|(simp [*];done)),H',⟨Nat.le_refl _⟩,⟨by (with_reducible repeat (first|apply Kd.R_alloc|apply Kd.R_drewN|apply Kd.R_drew));exact HO460.out⟩,⟨bb HB⟩⟩
     case round =>
      clear H'
      try clear c1
      try clear c2
      try clear p2
      try clear c3
      try clear c6
      try clear c6b0
      try clear c8
      try clear c9
      try clear c9b0
      try clear c13
      try clear c14
      try clear p2
      obtain ⟨x10_2,x11_2,rfl,HA,HK2,HO_10,HB⟩ := hrel
      cases gk with
      | zero => exact absurd HA.out (by simp [privityref09_FitSecret.l0])
      | succ k2 =>
       have H := HA.out
       clear HA
       simp only [privityref09_FitSecret.l0] at H
       by_cases c18 : (x10_2.length : Int) < (wrap64 (a1 + 1))
       ·rw [if_pos c18] at H
        have c18b0 : decide ((x10_2.length : Int) < (wrap64 (a1 + 1))) = true := decide_eq_true c18
        clear c18
        have H' := am H
        clear H
        obtain ⟨Ao19,co19,eo19⟩ := Kd.R_slice HO_10.out
        subst eo19
        go_wp2
        go_loopg [12,13] k2 (fun kq v12 v13 w' => ∃ (x12_3 : Bool) (x13_3 : Int),v12 = .bool x12_3 ∧ v13 = .int .i64 x13_3 ∧ Aside0 (privityref09_FitSecret.l1 kq a0 a1 l2 x10_2 x11_2 x12_3 x13_3 = some (r1,r2)) ∧ Aside0 (kq ≤ k2) ∧ Aside0 (Kd.R k49 49 w' w.heap.size (fun _ => True) (.slice Ao19 x10_2.length co19) x10_2) ∧ Aside0 (Below w.heap.size w w'))
        case atStart => exact ⟨(false),(0),(by first|rfl|(simp;done)|(simp [*];done)),(by first|rfl|(simp;done)|(simp [*];done)),H',⟨Nat.le_refl _⟩,⟨by (with_reducible repeat (first|apply Kd.R_alloc|apply Kd.R_drewN|apply Kd.R_drew));exact HO_10.out⟩,⟨bb HB⟩⟩
        case round =>
         clear H'
         try clear c1
         try clear c2
         try clear p2
         try clear c3
         try clear c6
         try clear c6b0
         try clear p6
         try clear c8
         try clear c9
         try clear c9b0
         try clear c13
         try clear c14
         try clear c18
         try clear c18b0
         try clear p2
         obtain ⟨x12_3,x13_3,rfl,rfl,HA,HK3,HO_10,HB⟩ := hrel
         cases gk with
         | zero => exact absurd HA.out (by simp [privityref09_FitSecret.l1])
         | succ k3 =>
          have H := HA.out
          clear HA
          simp only [privityref09_FitSecret.l1] at H
          by_cases c20 : x13_3 < (l2.length : Int)
          ·rw [if_pos c20] at H
           have c20b0 : decide (x13_3 < (l2.length : Int)) = true := decide_eq_true c20
           clear c20
           by_cases c21 : x12_3 = true
           ·subst c21
            rw [if_pos rfl] at H
            have H' := am H
            clear H
            go_wp2
            go_roundg k3
            case measure => have := HJ4.out;have := HK2.out;have := HK3.out;omega
            case rel => exact ⟨(true),(wrap64 (x13_3 + 1)),(by first|rfl|(simp;done)|(simp [*];done)),(by first|rfl|(simp;done)|(simp [*];done)),H',⟨by have := HJ4.out;have := HK2.out;have := HK3.out;omega⟩,⟨by (with_reducible repeat (first|apply Kd.R_alloc|apply Kd.R_drewN|apply Kd.R_drew));exact HO_10.out⟩,⟨bb HB⟩⟩
           ·replace c21 := Bool.eq_false_iff.mpr c21
            subst c21
            rw [if_neg (show ¬ (false = true) by decide)] at H
            by_cases c22 : 0 ≤ x13_3
            ·rw [if_pos c22] at H
             have c22b0 : decide (0 ≤ x13_3) = true := decide_eq_true c22
             clear c22
             have H' := am H
             clear H
             have p461 : 0 ≤ (x13_3 : Int) := od
             have q461 : x13_3 < (l2.length : Int) := od
             obtain ⟨ad461,e461,hx461_0,hx461_1⟩ := at_T49 HR2.out x13_3 p461 q461
             cases e461
             replace hx461_0 := (HB.out.cell (World.block_lt_of_cell? w _ hx461_0)).trans hx461_0
             replace hx461_1 := (HB.out.cell (World.block_lt_of_cell? w _ hx461_1)).trans hx461_1
             replace p461 := eq_true p461
             replace q461 := eq_true q461
             go_wp2
             go_roundg k3
             case measure => have := HJ4.out;have := HK2.out;have := HK3.out;omega
             case rel => exact ⟨((((rd_T49 l2 x13_3).f0) == x11_2)),(wrap64 (x13_3 + 1)),(by first|rfl|(simp;done)|(simp [*];done)),(by first|rfl|(simp;done)|(simp [*];done)),H',⟨by have := HJ4.out;have := HK2.out;have := HK3.out;omega⟩,⟨by (with_reducible repeat (first|apply Kd.R_alloc|apply Kd.R_drewN|apply Kd.R_drew));exact HO_10.out⟩,⟨bb HB⟩⟩
            ·rw [if_neg c22] at H
             exact absurd H (by simp)
          ·rw [if_neg c20] at H
           have c20b0 : decide (x13_3 < (l2.length : Int)) = false := decide_eq_false c20
           clear c20
           by_cases c23 : x12_3 = true
           ·subst c23
            rw [if_pos rfl] at H
            have H' := am H
            clear H
            go_wp2
            go_roundg k3
            case measure => have := HJ4.out;have := HK2.out;have := HK3.out;omega
            case rel => exact ⟨(x10_2),(IntKind.u64.wrap (x11_2 + 1)),(by first|rfl|(simp;done)|(simp [*];done)),H',⟨by have := HJ4.out;have := HK2.out;have := HK3.out;omega⟩,⟨by (with_reducible repeat (first|apply Kd.R_alloc|apply Kd.R_drewN|apply Kd.R_drew));exact HO_10.out⟩,⟨bb HB⟩⟩
           ·replace c23 := Bool.eq_false_iff.mpr c23
            subst c23
            rw [if_neg (show ¬ (false = true) by decide)] at H
            by_cases c24 : x10_2.length < 8796093022208
            ·rw [if_pos c24] at H
             have LMc24 := am c24
             clear c24
             obtain ⟨y462,hy462⟩ : ∃ y_ : List (S49),y_ = (x10_2 ++ [(⟨x11_2,0⟩ : S49)]) := ⟨_,rfl⟩
             replace H : (privityref09_FitSecret.l0 k3 a0 a1 l2 y462 (IntKind.u64.wrap (x11_2 + 1))) = some (r1,r2) := by first|(rw [hy462];with_reducible exact H)|(have H2_ := (Option.bind_some _ _).symm.trans H;rw [hy462];with_reducible exact H2_)|(have H2_ := (Option.bind_some _ _).symm.trans H;with_reducible exact H2_)|with_reducible exact H|(rw [hy462];exact H)|exact H
             have Ny462 := am hy462
             clear hy462
             have H' := am H
             clear H
             go_wp2_with (first|((with_reducible refine gate_builtin (b := .append) (xs := #[.tmp 65,.tmp 68]) rfl ?_);(try (refine gate_guard (by rfl) ?_;dsimp only));at_builtin;refine Kd.R_append k49 (w0 := w) w.heap.size rfl (.tmp 65) (.tmp 68) 47 49 (.agg #[(.int .u64 0),(.int .u64 0)]) 16 rfl Try.underlying47 info49 rfl (by decide) (by omega) (.slice Ao19 x10_2.length co19) x10_2 (⟨x11_2,0⟩ : S49) [.int .u64 x11_2,.int .u64 0] (fun _ => True) (fun _ => False) rfl rfl ?aP (fun _ hk => hk.elim) ?aF ?aO ?aB ?aS ?aL ?_;(case aP => exact k49_mkM _ _ _ (⟨x11_2,0⟩ : S49));(case aB => exact (bb HB));(case aF => exact (fun _ _ => trivial));(case aO => exact (rr HO_10));(case aS => exact (below_size (bb HB)));(case aL => have := LMc24.out;omega);intro v463 w25 ho hb hg hat;rw [← Ny462.out] at ho;have n0_ := am (hb);have n1_ := am (ho);clear HB HO_10;have HB := n0_;have HO464 := n1_;clear n0_ n1_;clear ho hb hg hat))
             go_roundg k3
             case measure => have := HJ4.out;have := HK2.out;have := HK3.out;omega
             case rel => exact ⟨(y462),(IntKind.u64.wrap (x11_2 + 1)),(by first|rfl|(simp;done)|(simp [*];done)),H',⟨by have := HJ4.out;have := HK2.out;have := HK3.out;omega⟩,⟨by (with_reducible repeat (first|apply Kd.R_alloc|apply Kd.R_drewN|apply Kd.R_drew));exact HO464.out⟩,⟨bb HB⟩⟩
            ·rw [if_neg c24] at H
             exact absurd H (by simp)
       ·rw [if_neg c18] at H
        have c18b0 : decide ((x10_2.length : Int) < (wrap64 (a1 + 1))) = false := decide_eq_false c18
        clear c18
        replace H := Option.bind_eq_some_iff.mp H
        obtain ⟨⟨t465,t466⟩,A260,H⟩ := H
        try dsimp only at H
        have A26 := am A260
        clear A260
        have H' := am H
        clear H
        obtain ⟨Ao27,co27,eo27⟩ := Kd.R_slice HO_10.out
        subst eo27
        go_wp2_with (first|((with_reducible refine gate_callee (f := 46) rfl ?_);refine goesL_ (some 73) rfl rfl Try.func46 (by kernel_rfl) rfl #[.int .u64 a0,.slice Ao27 x10_2.length co27] rfl (by (try simp only [List.map_toArray,List.map_cons,List.map_nil]);first|done|rfl|(simp only [List.length_drop,List.length_take];rfl)) ?_;(with_reducible refine (privityref05_Polynomial.calls k2 a0 _ _ x10_2 t465 t466 _ ?side1 ?side2 A26.out).mono ?_);(case side1 => exact cr HO_10);(case side2 => exact (Kd.R_reads' HO_10.out).2.1);rintro e w28 ⟨v467,rfl,ho0,hb⟩;refine ⟨_,rfl,?_⟩;have n0_ := am (Kd.R_below (rr HO_10) hb);have n1_ := am (Kd.R_lower ho0 (below_size (bb HB)));have n2_ := am (below_step (bb HB) hb);clear HO_10 HB;have HO_10 := n0_;have HO468 := n1_;have HB := n2_;clear n0_ n1_ n2_;(try clear hb);(try clear hb2);(try clear hk);(try clear hi);(try clear ho0)))
        go_loopg [14] k2 (fun kq v14 w' => ∃ (x14_3 : List Int),Aside0 (privityref09_FitSecret.l2 kq a1 x14_3 = some (r1,r2)) ∧ Aside0 (kq ≤ k2) ∧ Aside0 (Kd.R (Kd.int .u64) 22 w' w.heap.size (fun _ => True) v14 x14_3) ∧ Aside0 (Below w.heap.size w w'))
        case atStart => exact ⟨(t465),H',⟨Nat.le_refl _⟩,⟨by (with_reducible repeat (first|apply Kd.R_alloc|apply Kd.R_drewN|apply Kd.R_drew));exact HO468.out⟩,⟨bb HB⟩⟩
        case round =>
         clear H'
         try clear c1
         try clear c2
         try clear p2
         try clear c3
         try clear c4
         try clear p4
         try clear q4
         try clear hx4
         try clear c6
         try clear c6b0
         try clear p6
         try clear c8
         try clear c9
         try clear c9b0
         try clear c13
         try clear c14
         try clear c18
         try clear c18b0
         try clear c20
         try clear c20b0
         try clear c21
         try clear c22
         try clear c22b0
         try clear c23
         try clear c24
         try clear hx461_0
         try clear hx461_1
         try clear p2
         try clear p461
         try clear p6
         try clear q461
         obtain ⟨x14_3,HA,HK3,HO_14,HB⟩ := hrel
         cases gk with
         | zero => exact absurd HA.out (by simp [privityref09_FitSecret.l2])
         | succ k3 =>
          have H := HA.out
          clear HA
          simp only [privityref09_FitSecret.l2] at H
          by_cases c29 : (x14_3.length : Int) < (wrap64 (a1 + 1))
          ·rw [if_pos c29] at H
           have c29b0 : decide ((x14_3.length : Int) < (wrap64 (a1 + 1))) = true := decide_eq_true c29
           clear c29
           by_cases c30 : x14_3.length < 17592186044416
           ·rw [if_pos c30] at H
            have LMc30 := am c30
            clear c30
            obtain ⟨y469,hy469⟩ : ∃ y_ : List Int,y_ = (x14_3 ++ [0]) := ⟨_,rfl⟩
            replace H : (privityref09_FitSecret.l2 k3 a1 y469) = some (r1,r2) := by first|(rw [hy469];with_reducible exact H)|(have H2_ := (Option.bind_some _ _).symm.trans H;rw [hy469];with_reducible exact H2_)|(have H2_ := (Option.bind_some _ _).symm.trans H;with_reducible exact H2_)|with_reducible exact H|(rw [hy469];exact H)|exact H
            have Ny469 := am hy469
            clear hy469
            have H' := am H
            clear H
            obtain ⟨Ao31,co31,eo31⟩ := Kd.R_slice HO_14.out
            subst eo31
            go_wp2_with (first|((with_reducible refine gate_builtin (b := .append) (xs := #[.tmp 81,.tmp 82]) rfl ?_);(try (refine gate_guard (by rfl) ?_;dsimp only));at_builtin;refine Kd.R_append (Kd.int .u64) (w0 := w) w.heap.size rfl (.tmp 81) (.tmp 82) 41 22 (.int .u64 0) 8 rfl Try.underlying41 info22 rfl (by decide) (by omega) (.slice Ao31 x14_3.length co31) x14_3 0 [.int .u64 0] (fun _ => True) (fun _ => False) rfl rfl ?aP (fun _ hk => hk.elim) ?aF ?aO ?aB ?aS ?aL ?_;(case aP => exact rfl);(case aB => exact (bb HB));(case aF => exact (fun _ _ => trivial));(case aO => exact (rr HO_14));(case aS => exact (below_size (bb HB)));(case aL => have := LMc30.out;omega);intro v470 w32 ho hb hg hat;rw [← Ny469.out] at ho;have n0_ := am (hb);have n1_ := am (ho);clear HB HO_14;have HB := n0_;have HO471 := n1_;clear n0_ n1_;clear ho hb hg hat))
            go_roundg k3
            case measure => have := HJ4.out;have := HK2.out;have := HK3.out;omega
            case rel => exact ⟨(y469),H',⟨by have := HJ4.out;have := HK2.out;have := HK3.out;omega⟩,⟨by (with_reducible repeat (first|apply Kd.R_alloc|apply Kd.R_drewN|apply Kd.R_drew));exact HO471.out⟩,⟨bb HB⟩⟩
           ·rw [if_neg c30] at H
            exact absurd H (by simp)
          ·rw [if_neg c29] at H
           have c29b0 : decide ((x14_3.length : Int) < (wrap64 (a1 + 1))) = false := decide_eq_false c29
           clear c29
           simp only [Option.some.injEq,Prod.mk.injEq] at H
           obtain ⟨rfl,rfl⟩ := H
           obtain ⟨Ao33,co33,eo33⟩ := Kd.R_slice HO_14.out
           subst eo33
           go_wp2
           go_ret2
           exact ⟨_,by first|rfl|(simp [errW_none,errW_some] <;> rfl)|(simp [*,errW_none,errW_some] <;> rfl),by (with_reducible repeat (first|apply Kd.R_alloc|apply Kd.R_drewN|apply Kd.R_drew));exact HO_14.out,bb HB⟩
    ·rw [if_neg c14] at H
     exact absurd H (by simp)
def privitylaw09_ShamirFitSecretMatchesReference.j0 : Nat → Int → Int → Bool → List (S49) → Int → Option (Bool)
 | 0,_,_,_,_,_ => none
 | k + 1,x0,x1,x38,x473000,x473001 => if x38 = true then (some true) else ((shamir_FitSecret.f x0 x1 x473000 x473001).bind fun bt476 => ((privityref09_FitSecret.f k x0 x1 x473000 x473001).bind fun bt480 => (if bt476.2 = bt480.2 then ((privityref05_Same.f k bt476.1 bt480.1).bind fun t484 => (some t484)) else (some false))))
def privitylaw09_ShamirFitSecretMatchesReference.f (k : Nat) (a0 : Int) (a1 : Int) (l2_0 : List (S49)) (a2_1 : Int) : Option (Bool) := (privitylaw09_awake.f k).bind fun t473 => (if t473 = true then ((privityref01_Supported.f k a0).bind fun t474 => (if t474 = true then (if a1 > 20 then (privitylaw09_ShamirFitSecretMatchesReference.j0 k a0 a1 true l2_0 a2_1) else (if (l2_0.length : Int) > 12 then (privitylaw09_ShamirFitSecretMatchesReference.j0 k a0 a1 true l2_0 a2_1) else ((privityref05_Points.f k a0 l2_0).bind fun t475 => (if t475 = true then (privitylaw09_ShamirFitSecretMatchesReference.j0 k a0 a1 (decide (a2_1 ≥ a0)) l2_0 a2_1) else (privitylaw09_ShamirFitSecretMatchesReference.j0 k a0 a1 true l2_0 a2_1))))) else (privitylaw09_ShamirFitSecretMatchesReference.j0 k a0 a1 true l2_0 a2_1))) else (some false))
set_option maxHeartbeats 8000000 in
set_option maxRecDepth 100000 in
theorem privitylaw09_ShamirFitSecretMatchesReference.calls (k : Nat) (a0 : Int) (a1 : Int) (A2_0 : Option Addr) (c2_0 : Nat) (l2_0 : List (S49)) (a2_1 : Int) (r : Bool) (w : World) (hr2_0 : Kd.C k49 w A2_0 l2_0.length l2_0) (hc2_0 : l2_0.length ≤ c2_0) (hr1_ : r = true) (h : privitylaw09_ShamirFitSecretMatchesReference.f k a0 a1 l2_0 a2_1 = some r) :
  Calls Try.prog 5 #[.int .u64 a0,.int .i64 a1,.agg #[.slice A2_0 l2_0.length c2_0,.int .u64 a2_1]] w fun e w' => e = .returned (.bool r) ∧ Below w.heap.size w w' := by
 have HRT_ := am hr1_
 clear hr1_
 have hu56 := Try.underlying56
 have HR2_0 := am hr2_0
 have HC2_0 := am hc2_0
 clear hr2_0 hc2_0
 have HB := am (Below.refl w.heap.size w)
 have H : ((privitylaw09_awake.f k).bind fun t473 => (if t473 = true then ((privityref01_Supported.f k a0).bind fun t474 => (if t474 = true then (if a1 > 20 then (privitylaw09_ShamirFitSecretMatchesReference.j0 k a0 a1 true l2_0 a2_1) else (if (l2_0.length : Int) > 12 then (privitylaw09_ShamirFitSecretMatchesReference.j0 k a0 a1 true l2_0 a2_1) else ((privityref05_Points.f k a0 l2_0).bind fun t475 => (if t475 = true then (privitylaw09_ShamirFitSecretMatchesReference.j0 k a0 a1 (decide (a2_1 ≥ a0)) l2_0 a2_1) else (privitylaw09_ShamirFitSecretMatchesReference.j0 k a0 a1 true l2_0 a2_1))))) else (privitylaw09_ShamirFitSecretMatchesReference.j0 k a0 a1 true l2_0 a2_1))) else (some false))) = some r := h
 clear h
 replace H := Option.bind_eq_some_iff.mp H
 obtain ⟨t473,A40,H⟩ := H
 try dsimp only at H
 have A4 := am A40
 clear A40
 by_cases c5 : t473 = true
 ·subst c5
  rw [if_pos rfl] at H
  have HC6 := am H
  clear H
  go_enter Try.func5,Try.ntmps5
  go_upto_region 3 with (first|((with_reducible refine gate_dst (N := 5) rfl ?_);(try (refine gate_guard (by rfl) ?_;dsimp only));refine box_event ?hg (N := 5) ?hd (cs := #[.slice A2_0 l2_0.length c2_0,.int .u64 a2_1]) (t := 56) ?hr ?_;(case hd => rfl);(case hg => rfl);(case hr => first|(go_simp;done)|(go_simp;rfl));intro gb472 hg w7 hbox hb;have n0_ := am (below_step (bb HB) hb);have n1_ := am (hbox);have n2_ := am ((by rw [hg];exact (below_size (bb HB)) : w.heap.size ≤ gb472));have n3_ := am ((by rw [hg];exact (below_size (bb HB)) : w.heap.size ≤ gb472));clear HB;have HB := n0_;have BK472 := n1_;have GW472 := n2_;have GE472 := n3_;clear n0_ n1_ n2_ n3_;clear hb hbox hg)|((with_reducible refine gate_callee (f := 6) rfl ?_);refine goesL_ (some 11) rfl rfl Try.func6 (by kernel_rfl) rfl #[] rfl (by (try simp only [List.map_toArray,List.map_cons,List.map_nil]);first|done|rfl|(simp only [List.length_drop,List.length_take];rfl)) ?_;(with_reducible refine (privitylaw09_awake.calls k  true _ A4.out).mono ?_);rintro e w8 ⟨rfl,hb⟩;refine ⟨_,rfl,?_⟩;have n0_ := am (kb BK472 hb);have n1_ := am (below_step (bg HB GE472) hb);clear BK472 HB;have BK472 := n0_;have HB := n1_;clear n0_ n1_;(try clear hb);(try clear hb2);(try clear hk);(try clear hi)))
  (try simp only [Act.put,List.setIfInBounds_toArray,List.set_cons_zero,List.set_cons_succ])
  go_cut [38] (fun v38 wc => ∃ (kq : Nat) (x38_5 : Bool),v38 = .bool x38_5 ∧ Aside0 (privitylaw09_ShamirFitSecretMatchesReference.j0 kq a0 a1 x38_5 l2_0 a2_1 = some r) ∧ Aside0 (kq ≤ k) ∧ Aside0 (wc.heap[gb472]? = some (.cells #[(.slice A2_0 l2_0.length c2_0),.int .u64 a2_1] 56 (0,0))) ∧ Aside0 (Below w.heap.size w wc))
  case first =>
   have H := HC6.out
   clear HC6
   replace H := Option.bind_eq_some_iff.mp H
   obtain ⟨t474,A90,H⟩ := H
   try dsimp only at H
   have A9 := am A90
   clear A90
   by_cases c10 : t474 = true
   ·subst c10
    rw [if_pos rfl] at H
    by_cases c11 : a1 > 20
    ·rw [if_pos c11] at H
     have c11b0 : decide (20 < a1) = true := decide_eq_true c11
     clear c11
     (first|rw [c11b0]|(simp only [i64_w,i32_w];rw [c11b0])|skip)
     have H' := am H
     clear H
     go_wp2_with (first|((with_reducible refine gate_callee (f := 7) rfl ?_);refine goesL_ (some 14) rfl rfl Try.func7 (by kernel_rfl) rfl #[.int .u64 a0] rfl (by (try simp only [List.map_toArray,List.map_cons,List.map_nil]);first|done|rfl|(simp only [List.length_drop,List.length_take];rfl)) ?_;(with_reducible refine (privityref01_Supported.calls k a0 true _ A9.out).mono ?_);rintro e w12 ⟨rfl,hb⟩;refine ⟨_,rfl,?_⟩;have n0_ := am (kb BK472 hb);have n1_ := am (below_step (bg HB GE472) hb);clear BK472 HB;have BK472 := n0_;have HB := n1_;clear n0_ n1_;(try clear hb);(try clear hb2);(try clear hk);(try clear hi)))
     go_meet
     case rel => exact ⟨_,(true),(by first|rfl|(simp;done)|(simp [*];done)),H',⟨by first|omega|exact Nat.le_refl _⟩,⟨kx BK472⟩,⟨bg HB GE472⟩⟩
    ·rw [if_neg c11] at H
     have c11b0 : decide (20 < a1) = false := decide_eq_false c11
     clear c11
     (first|rw [c11b0]|(simp only [i64_w,i32_w];rw [c11b0])|skip)
     by_cases c13 : (l2_0.length : Int) > 12
     ·rw [if_pos c13] at H
      have c13b0 : decide (12 < (l2_0.length : Int)) = true := decide_eq_true c13
      have c13b1 : decide (12 < l2_0.length) = true := decide_eq_true (by omega)
      clear c13
      have H' := am H
      clear H
      go_wp2_with (first|((with_reducible refine gate_callee (f := 7) rfl ?_);refine goesL_ (some 14) rfl rfl Try.func7 (by kernel_rfl) rfl #[.int .u64 a0] rfl (by (try simp only [List.map_toArray,List.map_cons,List.map_nil]);first|done|rfl|(simp only [List.length_drop,List.length_take];rfl)) ?_;(with_reducible refine (privityref01_Supported.calls k a0 true _ A9.out).mono ?_);rintro e w14 ⟨rfl,hb⟩;refine ⟨_,rfl,?_⟩;have n0_ := am (kb BK472 hb);have n1_ := am (below_step (bg HB GE472) hb);clear BK472 HB;have BK472 := n0_;have HB := n1_;clear n0_ n1_;(try clear hb);(try clear hb2);(try clear hk);(try clear hi);have hcz15_0 := bc BK472 0;have hcz15_1 := bc BK472 1;have hfz15_0 := bf BK472 0;have hfz15_1 := bf BK472 1))
      go_meet
      case rel => exact ⟨_,(true),(by first|rfl|(simp;done)|(simp [*];done)),H',⟨by first|omega|exact Nat.le_refl _⟩,⟨kx BK472⟩,⟨bg HB GE472⟩⟩
     ·rw [if_neg c13] at H
      have c13b0 : decide (12 < (l2_0.length : Int)) = false := decide_eq_false c13
      have c13b1 : decide (12 < l2_0.length) = false := decide_eq_false (by omega)
      clear c13
      replace H := Option.bind_eq_some_iff.mp H
      obtain ⟨t475,A160,H⟩ := H
      try dsimp only at H
      have A16 := am A160
      clear A160
      by_cases c17 : t475 = true
      ·subst c17
       rw [if_pos rfl] at H
       have H' := am H
       clear H
       go_wp2_with (first|((with_reducible refine gate_callee (f := 7) rfl ?_);refine goesL_ (some 14) rfl rfl Try.func7 (by kernel_rfl) rfl #[.int .u64 a0] rfl (by (try simp only [List.map_toArray,List.map_cons,List.map_nil]);first|done|rfl|(simp only [List.length_drop,List.length_take];rfl)) ?_;(with_reducible refine (privityref01_Supported.calls k a0 true _ A9.out).mono ?_);rintro e w18 ⟨rfl,hb⟩;refine ⟨_,rfl,?_⟩;have n0_ := am (kb BK472 hb);have n1_ := am (below_step (bg HB GE472) hb);clear BK472 HB;have BK472 := n0_;have HB := n1_;clear n0_ n1_;(try clear hb);(try clear hb2);(try clear hk);(try clear hi);have hcz19_0 := bc BK472 0;have hcz19_1 := bc BK472 1;have hfz19_0 := bf BK472 0;have hfz19_1 := bf BK472 1)|(go_at_call 28;(with_reducible refine (privityref05_Points.calls k a0 _ _ l2_0 true _ ?side1 ?side2 A16.out).mono ?_);(case side1 => exact cb HR2_0 HB);(case side2 => exact HC2_0.out);rintro e w' ⟨rfl,⟨nd,rfl⟩⟩))
       go_meet
       case rel => exact ⟨_,(decide (a2_1 ≥ a0)),(by first|rfl|(simp;done)|(simp [*];done)),H',⟨by first|omega|exact Nat.le_refl _⟩,⟨kx BK472⟩,⟨bg HB GE472⟩⟩
      ·replace c17 := Bool.eq_false_iff.mpr c17
       subst c17
       rw [if_neg (show ¬ (false = true) by decide)] at H
       have H' := am H
       clear H
       go_wp2_with (first|((with_reducible refine gate_callee (f := 7) rfl ?_);refine goesL_ (some 14) rfl rfl Try.func7 (by kernel_rfl) rfl #[.int .u64 a0] rfl (by (try simp only [List.map_toArray,List.map_cons,List.map_nil]);first|done|rfl|(simp only [List.length_drop,List.length_take];rfl)) ?_;(with_reducible refine (privityref01_Supported.calls k a0 true _ A9.out).mono ?_);rintro e w20 ⟨rfl,hb⟩;refine ⟨_,rfl,?_⟩;have n0_ := am (kb BK472 hb);have n1_ := am (below_step (bg HB GE472) hb);clear BK472 HB;have BK472 := n0_;have HB := n1_;clear n0_ n1_;(try clear hb);(try clear hb2);(try clear hk);(try clear hi);have hcz21_0 := bc BK472 0;have hcz21_1 := bc BK472 1;have hfz21_0 := bf BK472 0;have hfz21_1 := bf BK472 1)|(go_at_call 28;(with_reducible refine (privityref05_Points.calls k a0 _ _ l2_0 false _ ?side1 ?side2 A16.out).mono ?_);(case side1 => exact cb HR2_0 HB);(case side2 => exact HC2_0.out);rintro e w' ⟨rfl,⟨nd,rfl⟩⟩))
       go_meet
       case rel => exact ⟨_,(true),(by first|rfl|(simp;done)|(simp [*];done)),H',⟨by first|omega|exact Nat.le_refl _⟩,⟨kx BK472⟩,⟨bg HB GE472⟩⟩
   ·replace c10 := Bool.eq_false_iff.mpr c10
    subst c10
    rw [if_neg (show ¬ (false = true) by decide)] at H
    have H' := am H
    clear H
    go_wp2_with (first|((with_reducible refine gate_callee (f := 7) rfl ?_);refine goesL_ (some 14) rfl rfl Try.func7 (by kernel_rfl) rfl #[.int .u64 a0] rfl (by (try simp only [List.map_toArray,List.map_cons,List.map_nil]);first|done|rfl|(simp only [List.length_drop,List.length_take];rfl)) ?_;(with_reducible refine (privityref01_Supported.calls k a0 false _ A9.out).mono ?_);rintro e w22 ⟨rfl,hb⟩;refine ⟨_,rfl,?_⟩;have n0_ := am (kb BK472 hb);have n1_ := am (below_step (bg HB GE472) hb);clear BK472 HB;have BK472 := n0_;have HB := n1_;clear n0_ n1_;(try clear hb);(try clear hb2);(try clear hk);(try clear hi)))
    go_meet
    case rel => exact ⟨_,(true),(by first|rfl|(simp;done)|(simp [*];done)),H',⟨by first|omega|exact Nat.le_refl _⟩,⟨kx BK472⟩,⟨bg HB GE472⟩⟩
  case rest =>
   clear HC6
   try clear c1
   try clear c2
   try clear p2
   try clear c5
   try clear c6
   try clear c7
   try clear c10
   try clear c11
   try clear c11b0
   try clear c13
   try clear c13b0
   try clear c13b1
   try clear c17
   try clear hcz15_0
   try clear hcz15_1
   try clear hcz19_0
   try clear hcz19_1
   try clear hcz21_0
   try clear hcz21_1
   try clear hfz15_0
   try clear hfz15_1
   try clear hfz19_0
   try clear hfz19_1
   try clear hfz21_0
   try clear hfz21_1
   obtain ⟨kq,x38_5,rfl,HA,HJ5,BK472,HB⟩ := hcut
   cases kq with
   | zero => exact absurd HA.out (by simp [privitylaw09_ShamirFitSecretMatchesReference.j0])
   | succ kj5 =>
    have H := HA.out
    clear HA
    simp only [privitylaw09_ShamirFitSecretMatchesReference.j0] at H
    by_cases c23 : x38_5 = true
    ·subst c23
     rw [if_pos rfl] at H
     obtain rfl := Option.some.inj H
     go_wp2
     go_ret
     exact ⟨by first|rfl|(simp [errW_none,errW_some] <;> rfl)|(simp [*,errW_none,errW_some] <;> rfl),bg HB GE472⟩
    ·replace c23 := Bool.eq_false_iff.mpr c23
     subst c23
     rw [if_neg (show ¬ (false = true) by decide)] at H
     replace H := Option.bind_eq_some_iff.mp H
     obtain ⟨⟨t476,t477⟩,A240,H⟩ := H
     try dsimp only at H
     have A24 := am A240
     clear A240
     replace H := Option.bind_eq_some_iff.mp H
     obtain ⟨⟨t480,t481⟩,A250,H⟩ := H
     try dsimp only at H
     have A25 := am A250
     clear A250
     by_cases c26 : t477 = t481
     ·rw [if_pos c26] at H
      have c26b0 : (t477 == t481) = true := beq_iff_eq.mpr c26
      have c26b1 : (t477 != t481) = false := bne_eq_false_iff_eq.mpr c26
      clear c26
      replace H := Option.bind_eq_some_iff.mp H
      obtain ⟨t484,A270,H⟩ := H
      try dsimp only at H
      have A27 := am A270
      clear A270
      obtain rfl := Option.some.inj H
      have hcz28_0 := bc BK472 0
      have hcz28_1 := bc BK472 1
      have hfz28_0 := bf BK472 0
      have hfz28_1 := bf BK472 1
      go_wp2_with (first|((with_reducible refine gate_callee (f := 29) rfl ?_);refine goesL_ (some 46) rfl rfl Try.func29 (by kernel_rfl) rfl #[.int .u64 a0,.int .i64 a1,.slice A2_0 l2_0.length c2_0,.int .u64 a2_1] rfl (by (try simp only [List.map_toArray,List.map_cons,List.map_nil]);first|done|rfl|(simp only [List.length_drop,List.length_take];rfl)) ?_;(with_reducible refine (shamir_FitSecret.calls a0 a1 _ _ l2_0 a2_1 t476 t477 _ ?side1 ?side2 A24.out).mono ?_);(case side1 => exact cb HR2_0 HB);(case side2 => exact HC2_0.out);rintro e w29 ⟨v478,rfl,ho0,hb⟩;refine ⟨_,rfl,?_⟩;have n0_ := am (Kd.R_lower ho0 (below_size (bg HB GE472)));have n1_ := am (kb BK472 hb);have n2_ := am (below_step (bg HB GE472) hb);clear BK472 HB;have HO479 := n0_;have BK472 := n1_;have HB := n2_;clear n0_ n1_ n2_;(try clear hb);(try clear hb2);(try clear hk);(try clear hi);(try clear ho0);have hcz30_0 := bc BK472 0;have hcz30_1 := bc BK472 1;have hfz30_0 := bf BK472 0;have hfz30_1 := bf BK472 1)|((with_reducible refine gate_callee (f := 30) rfl ?_);refine goesL_ (some 56) rfl rfl Try.func30 (by kernel_rfl) rfl #[.int .u64 a0,.int .i64 a1,.slice A2_0 l2_0.length c2_0,.int .u64 a2_1] rfl (by (try simp only [List.map_toArray,List.map_cons,List.map_nil]);first|done|rfl|(simp only [List.length_drop,List.length_take];rfl)) ?_;(with_reducible refine (privityref09_FitSecret.calls kj5 a0 a1 _ _ l2_0 a2_1 t480 t481 _ ?side1 ?side2 A25.out).mono ?_);(case side1 => exact cb HR2_0 HB);(case side2 => exact HC2_0.out);rintro e w31 ⟨v482,rfl,ho0,hb⟩;refine ⟨_,rfl,?_⟩;have n0_ := am (Kd.R_elder' (rr HO479) (Kd.R_base ho0) hb);have n1_ := am (Kd.R_lower (Kd.R_new' ho0 (Kd.R_lt (rr HO479))) (below_size (bg HB GE472)));have n2_ := am (kb BK472 hb);have n3_ := am (below_step (bg HB GE472) hb);clear HO479 BK472 HB;have HO479 := n0_;have HO483 := n1_;have BK472 := n2_;have HB := n3_;clear n0_ n1_ n2_ n3_;(try clear hb);(try clear hb2);(try clear hk);(try clear hi);(try clear ho0);obtain ⟨Ao32,co32,eo32⟩ := Kd.R_slice HO479.out;subst eo32;obtain ⟨Ao33,co33,eo33⟩ := Kd.R_slice HO483.out;subst eo33)|(go_at_call 31;(with_reducible refine (privityref05_Same.calls kj5 _ _ t476 _ _ t480 t484 _ ?side1 ?side2 ?side3 ?side4 A27.out).mono ?_);(case side1 => exact cr HO479);(case side2 => exact (Kd.R_reads' HO479.out).2.1);(case side3 => exact cr HO483);(case side4 => exact (Kd.R_reads' HO483.out).2.1);rintro e w' ⟨rfl,⟨nd,rfl⟩⟩))
      go_ret
      exact ⟨by first|rfl|(simp [errW_none,errW_some] <;> rfl)|(simp [*,errW_none,errW_some] <;> rfl),bg HB GE472⟩
     ·rw [if_neg c26] at H
      have c26b0 : (t477 == t481) = false := beq_eq_false_iff_ne.mpr c26
      have c26b1 : (t477 != t481) = true := bne_iff_ne.mpr c26
      exact absurd (Option.some.inj H) (by rw [HRT_.out];simp)
 ·replace c5 := Bool.eq_false_iff.mpr c5
  subst c5
  rw [if_neg (show ¬ (false = true) by decide)] at H
  exact absurd (Option.some.inj H) (by rw [HRT_.out];simp)
end Go.Proofs.Ytjnkkfdlcbcelaa.Pr
end
section
namespace Go.Proofs.Ytjnkkfdlcbcelaa.E
open Go.RowKit Go.Proofs.Ytjnkkfdlcbcelaa.Pr Go.Proofs.Ytjnkkfdlcbcelaa.Hw Go.Proofs.YtjnkkfdlcbcelaaW.PrintWords Go.Proofs.YtjnkkfdlcbcelaaW.PrintLast Go.Proofs.YtjnkkfdlcbcelaaW.PrintMore
theorem wcap {n : Int} (h : 0 ≤ n) (h2 : n < 9223372036854775808) : wrap64 n = n := by unfold wrap64;omega
theorem wnat {n : Nat} (h : n < 1099511627776) : wrap64 ((n : Int) + 1) = ((n + 1 : Nat) : Int) := by rw [wcap (by omega) (by omega)];omega
theorem up {Q : Nat → Prop} {n : Nat} (hn : Q n) (hs : ∀ i,i < n → Q (i + 1) → Q i) : Q 0 := by
 have : ∀ d,d ≤ n → Q (n - d) := by
  intro d
  induction d with
  | zero => intro _;exact hn
  | succ d ih =>
   intro h
   have h1 := ih (by omega)
   refine hs (n - (d + 1)) (by omega) ?_
   rwa [show n - (d + 1) + 1 = n - d from by omega]
 have := this n (Nat.le_refl _)
 rwa [Nat.sub_self] at this
theorem exponent_eq (p : Int) : privityref01_Exponent.f 10 p = if p = 31 then some 5 else if p = 127 then some 7 else if p = 8191 then some 13 else if p = 131071 then some 17 else if p = 524287 then some 19 else if p = 2147483647 then some 31 else if p = 2305843009213693951 then some 61 else some 0 := by kernel_rfl
theorem supported_ev (p : Int) : Ev (fun k => privityref01_Supported.f k p) (supB p) := by
 refine Ev.of (fun k => privityref01_Supported.mono _ _) (k := 10) ?_
 show (privityref01_Exponent.f 10 p).bind _ = _
 rw [exponent_eq]
 unfold supB
 by_cases h1 : p = 31
 ·subst h1;rfl
 by_cases h2 : p = 127
 ·subst h2;rfl
 by_cases h3 : p = 8191
 ·subst h3;rfl
 by_cases h4 : p = 131071
 ·subst h4;rfl
 by_cases h5 : p = 524287
 ·subst h5;rfl
 by_cases h6 : p = 2147483647
 ·subst h6;rfl
 by_cases h7 : p = 2305843009213693951
 ·subst h7;rfl
 rw [if_neg h1,if_neg h2,if_neg h3,if_neg h4,if_neg h5,if_neg h6,if_neg h7]
 simp [h1,h2,h3,h4,h5,h6,h7]
theorem tmod_pos {a p : Int} (h : 0 ≤ a) : Int.tmod a p = a % p := Int.tmod_eq_emod_of_nonneg h
theorem radd_eq {p : Int} (hp : Supp p) {a b : Int} (ha : Res p a) (hb : Res p b) : privityref01_Add.f p a b = some ((a + b) % p) := by
 have := hp.bd
 obtain ⟨a0,a1⟩ := ha
 obtain ⟨b0,b1⟩ := hb
 unfold privityref01_Add.f
 rw [if_neg (by omega),wrapU_id (by omega) (by omega),tmod_pos (by omega)]
theorem rneg_eq {p : Int} (hp : Supp p) {a : Int} (ha : Res p a) : privityref01_Neg.f p a = some (-a % p) := by
 have := hp.bd
 obtain ⟨a0,a1⟩ := ha
 unfold privityref01_Neg.f
 rw [if_neg (by omega),wrapU_id (by omega) (by omega),tmod_pos (by omega),show p - a = -a + p * 1 from by omega,Int.add_mul_emod_self_left]
theorem rsub_eq {p : Int} (hp : Supp p) {a b : Int} (ha : Res p a) (hb : Res p b) : privityref01_Sub.f p a b = some ((a - b) % p) := by
 have := hp.bd
 obtain ⟨a0,a1⟩ := ha
 obtain ⟨b0,b1⟩ := hb
 unfold privityref01_Sub.f
 rw [if_neg (by omega),wrapU_id (n := a + p) (by omega) (by omega),wrapU_id (by omega) (by omega),tmod_pos (by omega),show a + p - b = a - b + p * 1 from by omega,Int.add_mul_emod_self_left]
theorem rmul_l0 {p : Int} (hp : Supp p) : ∀ (n : Nat) (a out : Int),n < 18446744073709551616 → Res p a → Res p out → Ev (fun k => privityref01_Mul.l0 k p a n out) ((out + a * n) % p) := by
 intro n
 induction n using Nat.strongRecOn with
 | _ n ih =>
  intro a out hn ha ho
  have hb := hp.bd
  obtain ⟨a0,a1⟩ := ha
  obtain ⟨o0,o1⟩ := ho
  by_cases h0 : n = 0
  ·subst h0
   refine Ev.of (fun k => (privityref01_Mul.mono_l k) _ _ _ _) (k := 1) ?_
   simp only [privityref01_Mul.l0]
   rw [if_neg (by omega),Int.natCast_zero,Int.mul_zero,Int.add_zero,Int.emod_eq_of_lt o0 o1]
  ·have e1 : Int.tmod (n : Int) 2 = n % 2 := tmod_pos (by omega)
   have e2 : IntKind.u64.wrap (Int.tdiv (n : Int) 2) = ((n / 2 : Nat) : Int) := by
    rw [Int.tdiv_eq_ediv_of_nonneg (by omega),wrapU_id (by omega) (by omega)];omega
   have e3 : IntKind.u64.wrap (a + a) = a + a := wrapU_id (by omega) (by omega)
   have e4 : IntKind.u64.wrap (out + a) = out + a := wrapU_id (by omega) (by omega)
   have hN : (n : Int) = 2 * ((n / 2 : Nat) : Int) + n % 2 := by omega
   by_cases hodd : n % 2 = 1
   ·have h := ih (n / 2) (by omega) ((a + a) % p) ((out + a) % p) (by omega) (Res.mod hp _) (Res.mod hp _)
    refine Ev.step (fun k => ?_) (f := fun k => privityref01_Mul.l0 k p ((a + a) % p) ((n / 2 : Nat) : Int) ((out + a) % p)) ?_
    ·simp only [privityref01_Mul.l0]
     rw [if_pos (by omega),if_pos (by omega),if_neg (by omega),e2,e3,e4,tmod_pos (by omega),tmod_pos (by omega)]
    ·rw [show (out + a * n) % p = ((out + a) % p + (a + a) % p * ((n / 2 : Nat) : Int)) % p from ?_]
     ·exact h
     ·rw [addm (modm p (out + a)) (mulm (modm p (a + a)) rfl)]
      congr 1
      have : (n : Int) = 2 * ((n / 2 : Nat) : Int) + 1 := by omega
      generalize ((n / 2 : Nat) : Int) = m at *
      rw [this];grind
   ·have h := ih (n / 2) (by omega) ((a + a) % p) out (by omega) (Res.mod hp _) ⟨o0,o1⟩
    refine Ev.step (fun k => ?_) (f := fun k => privityref01_Mul.l0 k p ((a + a) % p) ((n / 2 : Nat) : Int) out) ?_
    ·simp only [privityref01_Mul.l0]
     rw [if_pos (by omega),if_neg (by omega),if_neg (by omega),e2,e3,tmod_pos (by omega)]
    ·rw [show (out + a * n) % p = (out + (a + a) % p * ((n / 2 : Nat) : Int)) % p from ?_]
     ·exact h
     ·rw [addm (a := out) rfl (mulm (modm p (a + a)) rfl)]
      congr 1
      have : (n : Int) = 2 * ((n / 2 : Nat) : Int) := by omega
      generalize ((n / 2 : Nat) : Int) = m at *
      rw [this];grind
theorem rmul_ev {p : Int} (hp : Supp p) {a b : Int} (ha : Res p a) (hb : Res p b) : Ev (fun k => privityref01_Mul.f k p a b) (a * b % p) := by
 have h := hp.bd
 have := rmul_l0 hp b.toNat a 0 (by have := hb.1;have := hb.2;omega) ha ⟨by omega,by omega⟩
 rw [Int.toNat_of_nonneg hb.1,Int.zero_add] at this
 exact this
theorem rpow_l0 {p : Int} (h : Supp p) : ∀ (n : Nat) (a out : Int),n < 18446744073709551616 → Res p a → Res p out → Ev (fun k => privityref01_Pow.l0 k p a n out) (out * a ^ n % p) := by
 intro n
 induction n using Nat.strongRecOn with
 | _ n ih =>
  intro a out hn ha ho
  by_cases h0 : n = 0
  ·subst h0
   refine Ev.of (fun k => (privityref01_Pow.mono_l k) _ _ _ _) (k := 1) ?_
   simp only [privityref01_Pow.l0]
   rw [if_neg (by omega),Int.pow_zero,Int.mul_one,ho.eq]
  ·have hsq := rmul_ev h ha ha
   have hrec := fun out' ho' => ih (n / 2) (by omega) (a * a % p) out' (by omega) (Res.mod h _) ho'
   have eh := pow_two_half a n
   have e1 := pow_mod_base (a * a) p (n / 2)
   have t1 : Int.tmod (n : Int) 2 = n % 2 := tmod_pos (by omega)
   have t2 : IntKind.u64.wrap (Int.tdiv (n : Int) 2) = ((n / 2 : Nat) : Int) := by
    rw [Int.tdiv_eq_ediv_of_nonneg (by omega),wrapU_id (by omega) (by omega)];omega
   by_cases hodd : n % 2 = 1
   ·refine Ev.step (f := fun k => (privityref01_Mul.f k p out a).bind fun t244 => ((privityref01_Mul.f k p a a).bind fun t245 => (privityref01_Pow.l0 k p t245 ((n / 2 : Nat) : Int) t244))) (fun k => ?_) ?_
    ·simp only [privityref01_Pow.l0]
     rw [if_pos (by omega),if_pos (by omega),t2]
    ·refine Ev.bind (rmul_ev h ho ha) (Ev.bind hsq ?_)
     have := hrec (out * a % p) (Res.mod h _)
     rw [show out * a ^ n % p = out * a % p * (a * a % p) ^ (n / 2) % p from ?_]
     ·exact this
     ·rw [mulm (Int.emod_emod_of_dvd (out * a) (Int.dvd_refl p)) e1,eh,hodd,Int.pow_one,Int.mul_assoc,Int.mul_comm a ((a * a) ^ (n / 2))]
   ·refine Ev.step (f := fun k => (privityref01_Mul.f k p a a).bind fun t246 => (privityref01_Pow.l0 k p t246 ((n / 2 : Nat) : Int) out)) (fun k => ?_) ?_
    ·simp only [privityref01_Pow.l0]
     rw [if_pos (by omega),if_neg (by omega),t2]
    ·refine Ev.bind hsq ?_
     have := hrec out ho
     rw [show out * a ^ n % p = out * (a * a % p) ^ (n / 2) % p from ?_]
     ·exact this
     ·rw [mulm (a := out) rfl e1,eh,show n % 2 = 0 from by omega,Int.pow_zero,Int.mul_one]
theorem rinv_ev {p : Int} (h : Supp p) {a : Int} (ha : Res p a) (h0 : a ≠ 0) : Ev (fun k => privityref01_Inverse.f k p a) (invp p a,0) := by
 have := h.bd
 have e := rpow_l0 h (p - 2).toNat a 1 (by omega) ha ⟨by omega,by omega⟩
 rw [Int.one_mul,show ((p - 2).toNat : Int) = p - 2 from Int.toNat_of_nonneg (by omega)] at e
 refine (Ev.bind (f := fun k t => some (t,0)) e (Ev.now _)).congr fun k => ?_
 show (if a = 0 then _ else (privityref01_Pow.f k p a (IntKind.u64.wrap (p - 2))).bind _) = _
 rw [if_neg h0,wrapU_id (by omega) (by omega)]
 rfl
end Go.Proofs.Ytjnkkfdlcbcelaa.E
end
section
namespace Go.Proofs.Ytjnkkfdlcbcelaa.E
open Go.RowKit Go.Proofs.Ytjnkkfdlcbcelaa.Pr Go.Proofs.Ytjnkkfdlcbcelaa.Hw Go.Proofs.Ytjnkkfdlcbcelaa.Pl Go.Proofs.YtjnkkfdlcbcelaaW.PrintWords Go.Proofs.YtjnkkfdlcbcelaaW.PrintLast Go.Proofs.YtjnkkfdlcbcelaaW.PrintMore
theorem rtrim_l0 (l : List Int) (hl : l.length ≤ 1099511627776) : ∀ (m : Nat),m ≤ l.length → (∀ j,m ≤ j → l.getD j 0 = 0) → Ev (fun k => privityref04_Trim.l0 k l (m : Int)) (trimL l) := by
 have hend : ∀ m : Nat,(trimL l).length = m → m ≤ l.length → ((some (([] : List Int) : List Int)).bind fun y250 => (if 0 ≤ (m : Int) then (if (m : Int) ≤ (l.length : Int) then (if y250.length + (l.take ((m : Int) : Int).toNat).length < 17592186044416 then (some (y250 ++ (l.take ((m : Int) : Int).toNat))) else (none)) else (none)) else (none))) = some (trimL l) := by
  intro m hm hle
  rw [Option.bind_some,if_pos (by omega),if_pos (by omega),Int.toNat_natCast,← hm,trimL_take,if_pos (by have := trimL_length l;simp;omega)]
  rfl
 intro m
 induction m with
 | zero =>
  intro _ hz
  have : trimL l = [] := (trimL_nil_iff l).2 fun i => hz i (Nat.zero_le _)
  refine Ev.step (fun k => ?_) (Ev.now _)
  simp only [privityref04_Trim.l0]
  rw [if_neg (by omega)]
  exact hend 0 (by rw [this];rfl) (Nat.zero_le _)
 | succ m ih =>
  intro hm hz
  have e : wrap64 (((m + 1 : Nat) : Int) - 1) = (m : Int) := by rw [wrap64];omega
  by_cases h0 : l.getD m 0 = 0
  ·refine Ev.step (fun k => ?_) (ih (by omega) (fun j hj => by
    by_cases e : j = m
    ·rw [e];exact h0
    ·exact hz j (by omega)))
   simp only [privityref04_Trim.l0]
   rw [if_pos (by omega),e,if_pos (by omega),if_pos (by omega),rd_nat,if_pos h0]
  ·refine Ev.step (fun k => ?_) (Ev.now _)
   simp only [privityref04_Trim.l0]
   rw [if_pos (by omega),e,if_pos (by omega),if_pos (by omega),rd_nat,if_neg h0]
   refine hend (m + 1) ?_ hm
   have hne : trimL l ≠ [] := fun e => h0 ((trimL_nil_iff l).1 e m)
   have hp : 0 < (trimL l).length := List.length_pos_iff.2 hne
   have h2 := trimL_last l hne
   rw [trimL_getD] at h2
   have h3 : (trimL l).length - 1 < m + 1 := Nat.lt_of_not_le fun h => h2 (hz _ h)
   have h4 : m < (trimL l).length := Nat.lt_of_not_le fun h => h0 (by rw [← trimL_getD,List.getD_eq_getElem?_getD,List.getElem?_eq_none h];rfl)
   omega
theorem getD_out (l : List Int) (j : Nat) (h : l.length ≤ j) : l.getD j 0 = 0 := by rw [List.getD_eq_getElem?_getD,List.getElem?_eq_none h];rfl
theorem rtrim_ev (l : List Int) (hl : l.length ≤ 1099511627776) : Ev (fun k => privityref04_Trim.f k l) (trimL l) :=
 rtrim_l0 l hl l.length (Nat.le_refl _) (fun j hj => getD_out l j hj)
theorem rcoef_eq (l : List Int) (i : Nat) : privityref04_Coefficient.f l (i : Int) = some (l.getD i 0) := by
 unfold privityref04_Coefficient.f
 rw [if_neg (by omega)]
 by_cases h : i < l.length
 ·rw [if_neg (by omega),if_pos (by omega),if_pos (by omega),rd_nat]
 ·rw [if_pos (by omega),getD_out l i (by omega)]
theorem res_getD {p : Int} (hp : Supp p) {l : List Int} (hl : ∀ x ∈ l,Res p x) (i : Nat) : Res p (l.getD i 0) := by
 have hb := hp.bd
 by_cases hi : i < l.length
 ·rw [Hw.getD_in _ _ hi];exact hl _ (List.getElem_mem hi)
 ·rw [getD_out l i (by omega)];exact ⟨Int.le_refl 0,by show (0 : Int) < p;omega⟩
theorem grow_getD (l : List Int) (n j : Nat) : (grow l n).getD j 0 = l.getD j 0 := by
 unfold grow
 by_cases h : j < l.length
 ·rw [List.getD_eq_getElem?_getD,List.getD_eq_getElem?_getD,List.getElem?_append_left h]
 ·rw [getD_out l j (by omega),List.getD_eq_getElem?_getD,List.getElem?_append_right (by omega)]
  by_cases h2 : j - l.length < n - l.length
  ·rw [List.getElem?_replicate,if_pos h2];rfl
  ·rw [List.getElem?_replicate,if_neg h2];rfl
theorem putL_getD (p : Int) (l : List Int) (i : Nat) (k : Int) (j : Nat) : (putL p l i k).getD j 0 = if j = i then (l.getD i 0 + k) % p else l.getD j 0 := by
 have hg : i < (grow l (i + 1)).length := by unfold grow;simp;omega
 unfold putL
 rw [List.getD_eq_getElem?_getD,List.getElem?_set]
 by_cases h : i = j
 ·subst h;rw [if_pos rfl,if_pos hg,if_pos rfl,grow_getD];rfl
 ·rw [if_neg h,if_neg (fun e => h e.symm),← List.getD_eq_getElem?_getD,grow_getD]
theorem putsL_getD (p : Int) (m l : List Int) (j : Nat) : ∀ n,(putsL p m l n).getD j 0 = if j < n then (m.getD j 0 + l.getD j 0) % p else m.getD j 0
 | 0 => by rw [if_neg (by omega)];rfl
 | n + 1 => by
  rw [putsL,putL_getD,putsL_getD p m l n n,putsL_getD p m l j n]
  by_cases h : j = n
  ·subst h;rw [if_pos rfl,if_neg (by omega),if_pos (by omega)]
  ·rw [if_neg h]
   by_cases h2 : j < n
   ·rw [if_pos h2,if_pos (by omega)]
   ·rw [if_neg h2,if_neg (by omega)]
theorem addP_getD {p : Int} (hp : Supp p) {a b : List Int} (ha : ∀ x ∈ a,Res p x) (hb : ∀ x ∈ b,Res p x) (j : Nat) : (addP p a b).getD j 0 = (a.getD j 0 + b.getD j 0) % p := by
 have h0 : ([] : List Int).getD j 0 = 0 := rfl
 have ra := (res_getD hp ha j).eq
 have rb := (res_getD hp hb j).eq
 unfold addP
 rw [putsL_getD,putsL_getD,h0,Int.zero_add,ra]
 by_cases h1 : j < b.length
 ·rw [if_pos h1]
  by_cases h2 : j < a.length
  ·rw [if_pos h2]
  ·rw [if_neg h2,getD_out a j (by omega)]
 ·rw [if_neg h1,getD_out b j (by omega),Int.add_zero,ra]
  by_cases h2 : j < a.length
  ·rw [if_pos h2]
  ·rw [if_neg h2,getD_out a j (by omega)]
def raddL (p : Int) (a b : List Int) (n : Nat) : List Int := (List.range n).map fun i => (a.getD i 0 + b.getD i 0) % p
theorem raddL_next (p : Int) (a b : List Int) (n : Nat) : raddL p a b n ++ [(a.getD n 0 + b.getD n 0) % p] = raddL p a b (n + 1) := by
 unfold raddL;rw [List.range_succ,List.map_append];rfl
theorem raddL_length (p : Int) (a b : List Int) (n : Nat) : (raddL p a b n).length = n := by unfold raddL;simp
theorem raddL_getD (p : Int) (a b : List Int) (n j : Nat) : (raddL p a b n).getD j 0 = if j < n then (a.getD j 0 + b.getD j 0) % p else 0 := by
 unfold raddL
 by_cases h : j < n
 ·rw [if_pos h,List.getD_eq_getElem?_getD,List.getElem?_map,List.getElem?_range h];rfl
 ·rw [if_neg h,getD_out _ _ (by simp;omega)]
theorem rradd_trim {p : Int} (hp : Supp p) {a b : List Int} (ha : ∀ x ∈ a,Res p x) (hb : ∀ x ∈ b,Res p x) : trimL (raddL p a b (max a.length b.length)) = trimL (addP p a b) := by
 refine trimL_ext fun i => ?_
 rw [raddL_getD,addP_getD hp ha hb]
 by_cases h : i < max a.length b.length
 ·rw [if_pos h]
 ·rw [if_neg h,getD_out a i (by omega),getD_out b i (by omega)];simp
theorem rradd_ev {p : Int} (hp : Supp p) {a b : List Int} (ha : ∀ x ∈ a,Res p x) (hb : ∀ x ∈ b,Res p x) (la : a.length ≤ 1000000000) (lb : b.length ≤ 1000000000) : Ev (fun k => privityref04_Add.f k p a b) (trimL (addP p a b)) := by
 rw [← rradd_trim hp ha hb]
 refine up (Q := fun i => Ev (fun k => privityref04_Add.l0 k p a b (raddL p a b i) (i : Int)) (trimL (raddL p a b (max a.length b.length)))) (n := max a.length b.length) ?_ ?_
 ·refine Ev.step (f := fun k => privityref04_Add.j1 k p a b (raddL p a b (max a.length b.length)) ((max a.length b.length : Nat) : Int) false) (fun k => ?_) ?_
  ·simp only [privityref04_Add.l0]
   rw [if_neg (by omega),decide_eq_false (by omega)]
  ·refine Ev.step (f := fun k => (privityref04_Trim.f k (raddL p a b (max a.length b.length))).bind fun t => some t) (fun k => ?_) (Ev.bind (rtrim_ev _ (by rw [raddL_length];omega)) (Ev.now _))
   simp only [privityref04_Add.j1]
   rw [if_neg (by simp)]
 ·intro i hi h
  rw [← raddL_next] at h
  have hj : Ev (fun k => privityref04_Add.j1 k p a b (raddL p a b i) (i : Int) true) (trimL (raddL p a b (max a.length b.length))) := by
   refine Ev.step (fun k => ?_) h
   simp only [privityref04_Add.j1]
   rw [if_pos trivial,rcoef_eq,rcoef_eq]
   show (privityref01_Add.f p _ _).bind _ = _
   rw [radd_eq hp (res_getD hp ha i) (res_getD hp hb i)]
   show (if _ then _ else _) = _
   rw [if_pos (by rw [raddL_length];omega),wnat (by omega)]
  by_cases h1 : i < a.length
  ·refine Ev.step (fun k => ?_) hj
   simp only [privityref04_Add.l0]
   rw [if_pos (by omega)]
  ·refine Ev.step (fun k => ?_) hj
   simp only [privityref04_Add.l0]
   rw [if_neg (by omega),decide_eq_true (by omega)]
theorem map_take_next (l : List Int) (f : Int → Int) (i : Nat) (hi : i < l.length) : (l.take i).map f ++ [f (l.getD i 0)] = (l.take (i + 1)).map f := by
 rw [List.take_succ_eq_append_getElem hi,List.map_append,Hw.getD_in _ _ hi];rfl
theorem rscale_ev {p : Int} (hp : Supp p) {kk : Int} (hk : Res p kk) (l : List Int) (hl : ∀ x ∈ l,Res p x) (hll : l.length ≤ 1000000000) : Ev (fun k => privityref04_Scale.f k p kk l) (trimL (l.map fun v => kk * v % p)) := by
 refine up (Q := fun i => Ev (fun k => privityref04_Scale.l0 k p kk l ((l.take i).map fun v => kk * v % p) (i : Int)) (trimL (l.map fun v => kk * v % p))) (n := l.length) ?_ ?_
 ·rw [List.take_length]
  refine Ev.step (f := fun k => (privityref04_Trim.f k (l.map fun v => kk * v % p)).bind fun t => some t) (fun k => ?_) (Ev.bind (rtrim_ev _ (by rw [List.length_map];omega)) (Ev.now _))
  simp only [privityref04_Scale.l0]
  rw [if_neg (by omega)]
 ·intro i hi h
  rw [← map_take_next l (fun v => kk * v % p) i hi] at h
  refine Ev.step (f := fun k => (privityref01_Mul.f k p kk (l.getD i 0)).bind fun t361 => (if ((l.take i).map fun v => kk * v % p).length < 17592186044416 then (privityref04_Scale.l0 k p kk l (((l.take i).map fun v => kk * v % p) ++ [t361]) ((i + 1 : Nat) : Int)) else (none))) (fun k => ?_) (Ev.bind (rmul_ev hp hk (res_getD hp hl i)) ?_)
  ·simp only [privityref04_Scale.l0]
   rw [if_pos (by omega),if_pos (by omega),rd_nat,wnat (by omega)]
  ·refine h.congr fun k => ?_
   rw [if_pos (by simp;omega)]
theorem list_ext_getD {a b : List Int} (hl : a.length = b.length) (h : ∀ i,a.getD i 0 = b.getD i 0) : a = b := by
 apply List.ext_getElem hl
 intro i h1 h2
 have := h i
 rwa [Hw.getD_in _ _ h1,Hw.getD_in _ _ h2] at this
theorem grow_length (l : List Int) (n : Nat) : (grow l n).length = max l.length n := by unfold grow;simp;omega
theorem put_grow (p : Int) (l : List Int) (N i : Nat) (k : Int) (hl : l.length ≤ N) (hi : i < N) : (grow l N).set i (((grow l N).getD i 0 + k) % p) = grow (putL p l i k) N := by
 refine list_ext_getD ?_ fun j => ?_
 ·rw [List.length_set,grow_length,grow_length,putL_length];omega
 ·rw [grow_getD (putL p l i k),putL_getD,List.getD_eq_getElem?_getD,List.getElem?_set]
  by_cases h : i = j
  ·subst h;rw [if_pos rfl,if_pos (by rw [grow_length];omega),if_pos rfl,grow_getD];rfl
  ·rw [if_neg h,if_neg (fun e => h e.symm),← List.getD_eq_getElem?_getD,grow_getD]
theorem rowL_len (p : Int) (m : List Int) (u : Int) (b : List Int) (i : Nat) : ∀ n,(rowL p m u b i n).length = if n = 0 then m.length else max m.length (i + n)
 | 0 => rfl
 | n + 1 => by
  rw [rowL,putL_length,rowL_len p m u b i n,if_neg (Nat.succ_ne_zero n)]
  by_cases h : n = 0
  ·rw [if_pos h];omega
  ·rw [if_neg h];omega
theorem mulsL_len (p : Int) (a b : List Int) (hb : 0 < b.length) : ∀ n,(mulsL p a b n).length = if n = 0 then 0 else n + b.length - 1
 | 0 => rfl
 | n + 1 => by
  rw [mulsL,rowL_len,mulsL_len p a b hb n,if_neg (by omega : ¬ b.length = 0),if_neg (Nat.succ_ne_zero n)]
  by_cases h : n = 0
  ·rw [if_pos h];omega
  ·rw [if_neg h];omega
theorem mulsL_nil (p : Int) (a : List Int) : ∀ n,mulsL p a [] n = []
 | 0 => rfl
 | n + 1 => by rw [mulsL,mulsL_nil p a n];rfl
theorem trimL_grow (l : List Int) (n : Nat) : trimL (grow l n) = trimL l := trimL_ext fun i => grow_getD l n i
theorem grow_nil (n : Nat) : grow [] n = List.replicate n 0 := by unfold grow;simp
theorem rmulL_ev {p : Int} (hp : Supp p) {a b : List Int} (ha : ∀ x ∈ a,Res p x) (hb : ∀ x ∈ b,Res p x) (la : a.length ≤ 1000000) (lb : b.length ≤ 1000000) : Ev (fun k => privityref04_Mul.f k p a b) (trimL (mulsL p a b a.length)) := by
 by_cases h0 : a.length = 0
 ·have : a = [] := List.eq_nil_of_length_eq_zero h0
  subst this
  refine Ev.step (f := fun k => some []) (fun k => ?_) (Ev.now _)
  simp only [privityref04_Mul.f]
  rw [if_pos (by rfl)]
  simp only [privityref04_Mul.j0]
  rw [if_pos trivial]
 by_cases h1 : b.length = 0
 ·have : b = [] := List.eq_nil_of_length_eq_zero h1
  subst this
  rw [mulsL_nil]
  refine Ev.step (f := fun k => some []) (fun k => ?_) (Ev.now _)
  simp only [privityref04_Mul.f]
  rw [if_neg (by omega)]
  simp only [privityref04_Mul.j0]
  rw [if_pos (by rfl)]
 have hw : wrap64 (wrap64 ((a.length : Int) + (b.length : Int)) - 1) = ((a.length + b.length - 1 : Nat) : Int) := by rw [wcap (n := (a.length : Int) + (b.length : Int)) (by omega) (by omega),wcap (by omega) (by omega)];omega
 have main : Ev (fun k => privityref04_Mul.l0 k p a b (grow (mulsL p a b 0) (a.length + b.length - 1)) ((0 : Nat) : Int)) (trimL (mulsL p a b a.length)) := by
  refine up (Q := fun i => Ev (fun k => privityref04_Mul.l0 k p a b (grow (mulsL p a b i) (a.length + b.length - 1)) (i : Int)) (trimL (mulsL p a b a.length))) (n := a.length) ?_ ?_
  ·refine Ev.step (f := fun k => (privityref04_Trim.f k (grow (mulsL p a b a.length) (a.length + b.length - 1))).bind fun t => some t) (fun k => ?_) ?_
   ·simp only [privityref04_Mul.l0]
    rw [if_neg (by omega)]
   ·have := rtrim_ev (grow (mulsL p a b a.length) (a.length + b.length - 1)) (by rw [grow_length,mulsL_len _ _ _ (by omega),if_neg h0];omega)
    rw [trimL_grow] at this
    exact Ev.bind this (Ev.now _)
  ·intro i hi h
   have row : Ev (fun k => privityref04_Mul.l1 k p a b (grow (rowL p (mulsL p a b i) (rd a i) b i 0) (a.length + b.length - 1)) (i : Int) ((0 : Nat) : Int)) (trimL (mulsL p a b a.length)) := by
    refine up (Q := fun j => Ev (fun k => privityref04_Mul.l1 k p a b (grow (rowL p (mulsL p a b i) (rd a i) b i j) (a.length + b.length - 1)) (i : Int) (j : Int)) (trimL (mulsL p a b a.length))) (n := b.length) ?_ ?_
    ·refine Ev.step (fun k => ?_) h
     simp only [privityref04_Mul.l1]
     rw [if_neg (by omega),wnat (by omega)]
     rfl
    ·intro j hj h2
     have hlen : (rowL p (mulsL p a b i) (rd a i) b i j).length ≤ a.length + b.length - 1 := by
      rw [rowL_len,mulsL_len _ _ _ (by omega)];split <;> split <;> omega
     have e : wrap64 ((i : Int) + (j : Int)) = ((i + j : Nat) : Int) := by rw [wcap (by omega) (by omega)];omega
     have hres : ∀ x ∈ grow (rowL p (mulsL p a b i) (rd a i) b i j) (a.length + b.length - 1),Res p x := grow_res hp (rowL_res hp (mulsL_res hp _ _ _) _ _ _ _) _
     rw [rowL,← put_grow p _ _ _ _ hlen (by omega)] at h2
     refine Ev.step (f := fun k => (privityref01_Mul.f k p (a.getD i 0) (b.getD j 0)).bind fun t266 => ((privityref01_Add.f p ((grow (rowL p (mulsL p a b i) (rd a i) b i j) (a.length + b.length - 1)).getD (i + j) 0) t266).bind fun t267 => (privityref04_Mul.l1 k p a b ((grow (rowL p (mulsL p a b i) (rd a i) b i j) (a.length + b.length - 1)).set (i + j) t267) (i : Int) ((j + 1 : Nat) : Int)))) (fun k => ?_) (Ev.bind (rmul_ev hp (res_getD hp ha i) (res_getD hp hb j)) ?_)
     ·simp only [privityref04_Mul.l1]
      rw [if_pos (by omega),e,if_pos (by omega),if_pos (by rw [grow_length];omega),if_pos (by omega),if_pos (by omega),if_pos (by omega),rd_nat,rd_nat,rd_nat,Int.toNat_natCast,wnat (by omega)]
     ·rw [radd_eq hp (res_getD hp hres _) (Res.mod hp _)]
      refine Ev.bind (g := fun _ => some _) (Ev.now _) ?_
      rw [rd_nat a i,rd_nat b j] at h2
      exact h2
   refine Ev.step (fun k => ?_) row
   simp only [privityref04_Mul.l0]
   rw [if_pos (by omega)];rfl
 rw [show mulsL p a b 0 = [] from rfl,grow_nil] at main
 have h2 : Ev (fun k => privityref04_Mul.j0 k p a b false) (trimL (mulsL p a b a.length)) := by
  refine Ev.step (fun k => ?_) main
  simp only [privityref04_Mul.j0]
  rw [if_neg (by simp),hw,if_pos (by omega),Int.toNat_natCast,if_pos (by omega)];rfl
 refine h2.congr fun k => ?_
 unfold privityref04_Mul.f
 rw [if_neg (by omega),show ((b.length : Int) == 0) = false from by rw [beq_eq_false_iff_ne];omega]
theorem allLoop {F : Nat → Int → Option Bool} {n : Nat} {Q : Nat → Prop} [DecidablePred Q] (hend : ∀ k,F (k + 1) (n : Int) = some true) (hyes : ∀ i,i < n → Q i → ∀ r,Ev (fun k => F k ((i + 1 : Nat) : Int)) r → Ev (fun k => F k (i : Int)) r)
  (hno : ∀ i,i < n → ¬ Q i → Ev (fun k => F k (i : Int)) false) (r : Bool) (hr : r = true ↔ ∀ i,i < n → Q i) : Ev (fun k => F k ((0 : Nat) : Int)) r := by
 have main : ∀ d i,i + d = n → ∀ r : Bool,(r = true ↔ ∀ j,i ≤ j → j < n → Q j) → Ev (fun k => F k (i : Int)) r := by
  intro d
  induction d with
  | zero =>
   intro i hi r hr
   have : i = n := by omega
   subst this
   have : r = true := hr.2 (fun j h1 h2 => by omega)
   subst this
   exact Ev.step (fun k => hend k) (Ev.now _)
  | succ d ih =>
   intro i hi r hr
   by_cases h : Q i
   ·refine hyes i (by omega) h r (ih (i + 1) (by omega) r ⟨fun e j h1 h2 => hr.1 e j (by omega) h2,fun e => hr.2 fun j h1 h2 => ?_⟩)
    by_cases e2 : j = i
    ·rw [e2];exact h
    ·exact e j (by omega) h2
   ·have : r = false := by
     cases r with
     | false => rfl
     | true => exact absurd (hr.1 rfl i (Nat.le_refl _) (by omega)) h
    subst this
    exact hno i (by omega) h
 exact main n 0 (by omega) r ⟨fun e j _ h2 => hr.1 e j h2,fun e => hr.2 fun j h => e j (Nat.zero_le _) h⟩
theorem same_ev (a b : List Int) (ha : a.length ≤ 1000000000) : Ev (fun k => privityref05_Same.f k a b) (decide (a = b)) := by
 by_cases hl : a.length = b.length
 ·have h := allLoop (F := fun k i => privityref05_Same.l0 k a b i) (n := a.length) (Q := fun i => a.getD i 0 = b.getD i 0) (fun k => ?_) (fun i hi hq r h => ?_) (fun i hi hq => ?_) (decide (a = b)) ?_
  ·refine h.congr fun k => ?_
   unfold privityref05_Same.f
   rw [if_pos (by omega)];rfl
  ·simp only [privityref05_Same.l0]
   rw [if_neg (by omega)]
  ·refine Ev.step (fun k => ?_) h
   simp only [privityref05_Same.l0]
   rw [if_pos (by omega),if_pos (by omega),if_pos (by omega),rd_nat,rd_nat,if_pos hq,wnat (by omega)]
  ·refine Ev.step (fun k => ?_) (Ev.now _)
   simp only [privityref05_Same.l0]
   rw [if_pos (by omega),if_pos (by omega),if_pos (by omega),rd_nat,rd_nat,if_neg hq]
  ·rw [decide_eq_true_iff]
   refine ⟨fun e i _ => by rw [e],fun h => list_ext_getD hl fun i => ?_⟩
   by_cases hi : i < a.length
   ·exact h i hi
   ·rw [getD_out a i (by omega),getD_out b i (by omega)]
 ·have : decide (a = b) = false := decide_eq_false fun e => hl (by rw [e])
  rw [this]
  refine Ev.congr (fun k => ?_) (Ev.now _)
  unfold privityref05_Same.f
  rw [if_neg (by omega)]
def belowP (p : Int) (l : List S49) : Bool := l.all fun x => decide (x.f0 < p) && decide (x.f1 < p)
theorem points_ev (p : Int) (l : List S49) (hl : l.length ≤ 1000000000) : Ev (fun k => privityref05_Points.f k p l) (belowP p l) := by
 have h := allLoop (F := fun k i => privityref05_Points.l0 k p l i) (n := l.length) (Q := fun i => (rd_T49 l (i : Int)).f0 < p ∧ (rd_T49 l (i : Int)).f1 < p) (fun k => ?_) (fun i hi hq r h => ?_) (fun i hi hq => ?_) (belowP p l) ?_
 ·exact h
 ·simp only [privityref05_Points.l0]
  rw [if_neg (by omega)]
 ·refine Ev.step (fun k => ?_) h
  simp only [privityref05_Points.l0]
  rw [if_pos (by omega),if_pos (by omega),if_neg (by omega),if_neg (by omega),wnat (by omega)]
 ·refine Ev.step (fun k => ?_) (Ev.now _)
  simp only [privityref05_Points.l0]
  rw [if_pos (by omega),if_pos (by omega)]
  by_cases h1 : (rd_T49 l (i : Int)).f0 < p
  ·rw [if_neg (by omega),if_pos (by omega)]
  ·rw [if_pos (by omega)]
 ·unfold belowP
  rw [List.all_eq_true]
  refine ⟨fun h i hi => ?_,fun h x hx => ?_⟩
  ·rw [rdT_nat _ _ hi];simpa using h _ (List.getElem_mem hi)
  ·obtain ⟨i,hi,rfl⟩ := List.getElem_of_mem hx
   have := h i hi
   rw [rdT_nat _ _ hi] at this
   simpa using this
theorem points_res {p : Int} {l : List S49} (h : belowP p l = true) (hw : ∀ x ∈ l,0 ≤ x.f0 ∧ 0 ≤ x.f1) : PtsOk p l := by
 intro x hx
 have := List.all_eq_true.1 h x hx
 simp only [Bool.and_eq_true,decide_eq_true_eq] at this
 exact ⟨⟨(hw x hx).1,this.1⟩,⟨(hw x hx).2,this.2⟩⟩
theorem places_ev (l : List S49) (hl : l.length ≤ 1000000000) : Ev (fun k => privityref05_Places.f k l) (xsOf l) := by
 have := up (Q := fun i => Ev (fun k => privityref05_Places.l0 k l (xsOf (l.take i)) (i : Int)) (xsOf l)) (n := l.length) ?_ ?_
 ·exact this
 ·rw [List.take_length]
  refine Ev.step (fun k => ?_) (Ev.now _)
  simp only [privityref05_Places.l0]
  rw [if_neg (by omega)]
 ·intro i hi h
  rw [← xsOf_next l i hi] at h
  refine Ev.step (fun k => ?_) h
  simp only [privityref05_Places.l0]
  rw [if_pos (by omega),if_pos (by omega),if_pos (by rw [xsOf_take_length l i (by omega)];omega),wnat (by omega)]
theorem unlike_ev (l : List Int) (hl : l.length ≤ 1000000000) : Ev (fun k => privityref05_Unlike.f k l) (decide l.Nodup) := by
 have h := allLoop (F := fun k i => privityref05_Unlike.l0 k l i) (n := l.length) (Q := fun i => ∀ j,j < i → l.getD i 0 ≠ l.getD j 0) (fun k => ?_) (fun i hi hq r h => ?_) (fun i hi hq => ?_) (decide l.Nodup) ?_
 ·exact h
 ·simp only [privityref05_Unlike.l0]
  rw [if_neg (by omega)]
 ·have row : Ev (fun k => privityref05_Unlike.l1 k l (i : Int) ((0 : Nat) : Int)) r := by
   refine up (Q := fun j => Ev (fun k => privityref05_Unlike.l1 k l (i : Int) (j : Int)) r) (n := i) ?_ ?_
   ·refine Ev.step (fun k => ?_) h
    simp only [privityref05_Unlike.l1]
    rw [if_neg (by omega),wnat (by omega)]
   ·intro j hj h2
    refine Ev.step (fun k => ?_) h2
    simp only [privityref05_Unlike.l1]
    rw [if_pos (by omega),if_pos (by omega),if_pos (by omega),if_pos (by omega),if_pos (by omega),rd_nat,rd_nat,if_neg (hq j hj),wnat (by omega)]
  refine Ev.step (fun k => ?_) row
  simp only [privityref05_Unlike.l0]
  rw [if_pos (by omega)];rfl
 ·have row : Ev (fun k => privityref05_Unlike.l1 k l (i : Int) ((0 : Nat) : Int)) false := by
   obtain ⟨j,hj,he⟩ : ∃ j,j < i ∧ l.getD i 0 = l.getD j 0 := by
    apply Classical.byContradiction
    intro hc
    exact hq fun j hj e => hc ⟨j,hj,e⟩
   refine up (Q := fun j => Ev (fun k => privityref05_Unlike.l1 k l (i : Int) (j : Int)) false) (n := j) ?_ ?_
   ·refine Ev.step (fun k => ?_) (Ev.now _)
    simp only [privityref05_Unlike.l1]
    rw [if_pos (by omega),if_pos (by omega),if_pos (by omega),if_pos (by omega),if_pos (by omega),rd_nat,rd_nat,if_pos he]
   ·intro j' hj' h2
    by_cases e : l.getD i 0 = l.getD j' 0
    ·refine Ev.step (fun k => ?_) (Ev.now _)
     simp only [privityref05_Unlike.l1]
     rw [if_pos (by omega),if_pos (by omega),if_pos (by omega),if_pos (by omega),if_pos (by omega),rd_nat,rd_nat,if_pos e]
    ·refine Ev.step (fun k => ?_) h2
     simp only [privityref05_Unlike.l1]
     rw [if_pos (by omega),if_pos (by omega),if_pos (by omega),if_pos (by omega),if_pos (by omega),rd_nat,rd_nat,if_neg e,wnat (by omega)]
  refine Ev.step (fun k => ?_) row
  simp only [privityref05_Unlike.l0]
  rw [if_pos (by omega)];rfl
 ·rw [decide_eq_true_iff,List.nodup_iff_pairwise_ne,List.pairwise_iff_getElem]
  refine ⟨fun h i hi j hj e => ?_,fun h i j hi hj hij e => ?_⟩
  ·rw [Hw.getD_in _ _ hi,Hw.getD_in _ _ (by omega)] at e
   exact h j i (by omega) hi hj e.symm
  ·have := h j hj i hij
   rw [Hw.getD_in _ _ hi,Hw.getD_in _ _ hj] at this
   exact this e.symm
def rstep (p X : Int) (f : List Int) (o : Int) : List Int := trimL (mulsL p f [-o % p * invp p ((X - o) % p) % p,invp p ((X - o) % p)] f.length)
def baseL (p : Int) (xs : List Int) (i n : Nat) : List Int := (othersN xs i n).foldl (rstep p (rd xs i)) [1]
theorem mulsL_two_length {p : Int} (f : List Int) (o u : Int) : ∀ n,(mulsL p f [o,u] n).length ≤ n + 1 := by
 intro n
 induction n with
 | zero => simp [mulsL]
 | succ n ih =>
  show (rowL p (mulsL p f [o,u] n) (rd f n) [o,u] n 2).length ≤ _
  simp only [rowL,putL_length,Nat.add_zero];omega
theorem rstep_fold {p : Int} (hp : Supp p) (X : Int) : ∀ (l : List Int) (f : List Int),(∀ x ∈ f,Res p x) → (∀ x ∈ l.foldl (rstep p X) f,Res p x) ∧ (l.foldl (rstep p X) f).length ≤ f.length + l.length
 | [],f,h => ⟨h,by simp⟩
 | o :: l,f,h => by
  have ih := rstep_fold hp X l (rstep p X f o) (fun x hx => mulsL_res hp _ _ _ x (trimL_mem hx))
  refine ⟨ih.1,?_⟩
  have h3 : (rstep p X f o).length ≤ f.length + 1 := Nat.le_trans (trimL_length _) (mulsL_two_length f _ _ _)
  have := ih.2
  simp only [List.foldl_cons,List.length_cons] at *
  omega
theorem baseL_ok {p : Int} (hp : Supp p) (xs : List Int) (i n : Nat) : (∀ x ∈ baseL p xs i n,Res p x) ∧ (baseL p xs i n).length ≤ 1 + (othersN xs i n).length := rstep_fold hp _ _ _ (one_res hp)
theorem baseL_len {p : Int} (hp : Supp p) (xs : List Int) (i : Nat) (hi : i < xs.length) : (baseL p xs i xs.length).length ≤ xs.length := by
 have := (baseL_ok hp xs i xs.length).2
 rw [othersN_len,if_pos hi] at this
 omega
theorem base_ev {p : Int} (hp : Supp p) {xs : List Int} (hx : ∀ x ∈ xs,Res p x) (hn : xs.Nodup) (hl : xs.length ≤ 100000) (i : Nat) (hi : i < xs.length) : Ev (fun k => privityref05_base.f k p xs (i : Int)) (baseL p xs i xs.length) := by
 refine up (Q := fun j => Ev (fun k => privityref05_base.l0 k p xs (i : Int) (baseL p xs i j) (j : Int)) (baseL p xs i xs.length)) (n := xs.length) ?_ ?_
 ·refine Ev.step (fun k => ?_) (Ev.now _)
  simp only [privityref05_base.l0]
  rw [if_neg (by omega)]
 ·intro j hj h
  by_cases hij : j = i
  ·have e : baseL p xs i (j + 1) = baseL p xs i j := by unfold baseL;rw [othersN,if_pos hij]
   rw [e] at h
   refine Ev.step (fun k => ?_) h
   simp only [privityref05_base.l0]
   rw [if_pos (by omega),if_pos (by omega),wnat (by omega)]
  ·have e : baseL p xs i (j + 1) = rstep p (rd xs i) (baseL p xs i j) (rd xs j) := by unfold baseL;rw [othersN,if_neg hij,List.foldl_append];rfl
   rw [e] at h
   have hX := rd_res' hx i hi
   have hO := rd_res' hx j hj
   have hne : rd xs i ≠ rd xs j := by
    intro e
    have h1 := othersN_ne hn i hi xs.length (Nat.le_refl _) (rd xs j) (othersN_has xs i j hij _ hj)
    exact h1 e
   have hs := sub_ne' hp hX hO hne
   have hb := baseL_ok hp xs i j
   have hln := othersN_length xs i j
   have hinv := inv_res hp ((rd xs i - rd xs j) % p)
   refine Ev.step (f := fun k => (privityref01_Sub.f p (rd xs i) (rd xs j)).bind fun t274 => ((privityref01_Inverse.f k p t274).bind fun bt275 => ((privityref01_Neg.f p (rd xs j)).bind fun t278 => ((privityref01_Mul.f k p t278 bt275.1).bind fun t279 => ((privityref04_Mul.f k p (baseL p xs i j) (([t279,bt275.1] : List Int))).bind fun t283 => (privityref05_base.l0 k p xs (i : Int) t283 ((j + 1 : Nat) : Int))))))) (fun k => ?_) ?_
   ·simp only [privityref05_base.l0]
    rw [if_pos (by omega),if_neg (by omega),if_pos (by omega),if_pos (by omega),if_pos (by omega),wnat (by omega)]
   ·rw [rsub_eq hp hX hO]
    refine Ev.bind (g := fun _ => some _) (Ev.now _) (Ev.bind (rinv_ev hp (Res.mod hp _) hs) ?_)
    rw [rneg_eq hp hO]
    refine Ev.bind (g := fun _ => some _) (Ev.now _) (Ev.bind (rmul_ev hp (Res.mod hp _) hinv) (Ev.bind (rmulL_ev hp hb.1 ?_ (by omega) (by simp)) h))
    intro x hx
    simp only [List.mem_cons,List.not_mem_nil,or_false] at hx
    rcases hx with rfl|rfl
    ·exact Res.mod hp _
    ·exact hinv
section
variable {p : Int} (hp : Supp p) [NeZero p.toNat]
include hp in
theorem rstep_ev (y : Fin p.toNat) {X : Int} (hX : Res p X) : ∀ (l : List Int) (f : List Int),(∀ o ∈ l,Res p o ∧ X ≠ o) → ev y (M p (l.foldl (rstep p X) f)) * lin (T p X) (M p l) = ev y (M p f) * lin y (M p l)
 | [],f,_ => rfl
 | o :: l,f,h => by
  have ih := rstep_ev y hX l (rstep p X f o) (fun x hx => h x (List.mem_cons_of_mem _ hx))
  have hs := sub_ne' hp hX (h o (by simp)).1 (h o (by simp)).2
  have hi := T_inv hp (Res.mod hp (X - o)) hs
  rw [T_mod hp,T_sub] at hi
  have e1 : ev y (M p (rstep p X f o)) = ev y (M p f) * ((y - T p o) * T p (invp p ((X - o) % p))) := by
   unfold rstep
   rw [ev_trimL,ev_muls hp,M_take_all]
   simp only [M,List.map_cons,List.map_nil,ev,T_mod hp,T_mul,T_neg]
   grind
  simp only [List.foldl_cons,M,List.map_cons,lin] at *
  rw [e1] at ih
  generalize lin (T p X) (l.map (T p)) = L at *
  generalize lin y (l.map (T p)) = K at *
  generalize ev y ((l.foldl (rstep p X) (rstep p X f o)).map (T p)) = E at *
  grind
include hp in
theorem baseL_ev {xs : List Int} (hx : ∀ x ∈ xs,Res p x) (hn : xs.Nodup) (i : Nat) (hi : i < xs.length) (y : Fin p.toNat) : ev y (M p (baseL p xs i xs.length)) = lin y (oth p xs i) * dinv p xs i := by
 have h := rstep_ev hp y (rd_res' hx i hi) (othersN xs i xs.length) [1] (fun o ho => ⟨othersN_res hx i _ (Nat.le_refl _) o ho,othersN_ne hn i hi _ (Nat.le_refl _) o ho⟩)
 have d := dinv_spec hp hx hn i hi
 have e1 : ev y (M p [1]) = 1 := by simp only [M,List.map_cons,List.map_nil,ev,T_one];grind
 rw [e1] at h
 unfold baseL oth at *
 generalize lin (T p (rd xs i)) (M p (othersN xs i xs.length)) = D at *
 grind
end
def rpolS (p : Int) (pts : List S49) : Nat → List Int
 | 0 => []
 | n + 1 => trimL (addP p (rpolS p pts n) (trimL ((baseL p (xsOf pts) n pts.length).map fun v => (rd_T49 pts (n : Int)).f1 * v % p)))
theorem scale_res {p : Int} (hp : Supp p) (k : Int) (l : List Int) : ∀ x ∈ trimL (l.map fun v => k * v % p),Res p x := by
 intro x hx
 obtain ⟨y,_,rfl⟩ := List.mem_map.1 (trimL_mem hx)
 exact Res.mod hp _
theorem rpolS_ok {p : Int} (hp : Supp p) {pts : List S49} : ∀ n,n ≤ pts.length → (∀ x ∈ rpolS p pts n,Res p x) ∧ (rpolS p pts n).length ≤ pts.length
 | 0,_ => ⟨fun x hx => (by cases hx),by simp [rpolS]⟩
 | n + 1,h => by
  have hxl : (xsOf pts).length = pts.length := by simp [xsOf]
  have ih := rpolS_ok hp (pts := pts) n (by omega)
  refine ⟨fun x hx => addP_res hp _ _ x (trimL_mem hx),Nat.le_trans (trimL_length _) ?_⟩
  rw [addP_length]
  have h1 := trimL_length ((baseL p (xsOf pts) n pts.length).map fun v => (rd_T49 pts (n : Int)).f1 * v % p)
  rw [List.length_map] at h1
  have h2 := baseL_len hp (xsOf pts) n (by omega)
  rw [hxl] at h2
  omega
theorem rpolS_eq {p : Int} (hp : Supp p) {pts : List S49} (hx : PtsOk p pts) (hn : (xsOf pts).Nodup) : rpolS p pts pts.length = polL p pts := by
 haveI := nz hp
 have hxl : (xsOf pts).length = pts.length := by simp [xsOf]
 have he : ∀ (y : Fin p.toNat) (n : Nat),n ≤ pts.length → ev y (M p (rpolS p pts n)) = sumF (fun i => T p (rd_T49 pts (i : Int)).f1 * (lin y (oth p (xsOf pts) i) * dinv p (xsOf pts) i)) n := by
  intro y n
  induction n with
  | zero => intro _;rfl
  | succ n ih =>
   intro h
   rw [rpolS,ev_trimL,ev_addP hp,ih (by omega),ev_trimL,ev_scaleL hp]
   have := baseL_ev hp hx.xs hn n (by omega) y
   rw [hxl] at this
   rw [this];rfl
 have ht : trimL (rpolS p pts pts.length) = rpolS p pts pts.length := by
  cases pts.length with
  | zero => rfl
  | succ n => exact trimL_trimL _
 have ok := rpolS_ok hp (pts := pts) pts.length (Nat.le_refl _)
 rw [← ht,← polL_trim]
 refine uniq hp hx.xs hn ok.1 (polL_res hp hx) (by omega) (by rw [hxl];exact polL_len hp) (fun x hxx => ?_)
 refine T_inj hp (evI_res hp _ _) (evI_res hp _ _) ?_
 rw [ev_evI hp,ev_evI hp,he _ _ (Nat.le_refl _),polL_ev hp hx hn]
theorem rpol_ev {p : Int} (hp : Supp p) {pts : List S49} (hx : PtsOk p pts) (hl : pts.length ≤ 100000) : Ev (fun k => privityref05_Polynomial.f k p pts) (if (xsOf pts).Nodup then polL p pts else [],if (xsOf pts).Nodup then 0 else 1) := by
 have hxl : (xsOf pts).length = pts.length := by simp [xsOf]
 have hpl := places_ev pts (by omega)
 have hu := unlike_ev (xsOf pts) (by omega)
 by_cases hn : (xsOf pts).Nodup
 ·rw [if_pos hn,if_pos hn]
  rw [decide_eq_true hn] at hu
  have main := up (Q := fun i => Ev (fun k => privityref05_Polynomial.l0 k p pts (xsOf pts) (rpolS p pts i) (i : Int)) (polL p pts,0)) (n := pts.length) ?_ ?_
  ·refine (Ev.bind (f := fun k t368 => (privityref05_Unlike.f k t368).bind fun t371 => (if t371 = true then (privityref05_Polynomial.l0 k p pts t368 ([] : List Int) 0) else (some (([] : List Int),1)))) hpl (Ev.bind hu ?_)).congr fun k => rfl
   exact main.congr fun k => if_pos rfl
  ·refine Ev.step (fun k => ?_) (Ev.now _)
   simp only [privityref05_Polynomial.l0]
   rw [if_neg (by omega),rpolS_eq hp hx hn]
  ·intro i hi h
   have hb := baseL_ok hp (xsOf pts) i pts.length
   have hln := baseL_len hp (xsOf pts) i (by omega)
   rw [hxl] at hln
   have hbe := base_ev hp hx.xs hn (by omega) i (by omega)
   rw [hxl] at hbe
   have ok := rpolS_ok hp (pts := pts) i (by omega)
   have ls := trimL_length ((baseL p (xsOf pts) i pts.length).map fun v => (rd_T49 pts (i : Int)).f1 * v % p)
   rw [List.length_map] at ls
   refine Ev.step (f := fun k => (privityref05_base.f k p (xsOf pts) (i : Int)).bind fun t373 => ((privityref04_Scale.f k p ((rd_T49 pts (i : Int)).f1) t373).bind fun t376 => ((privityref04_Add.f k p (rpolS p pts i) t376).bind fun t379 => (privityref05_Polynomial.l0 k p pts (xsOf pts) t379 ((i + 1 : Nat) : Int))))) (fun k => ?_) (Ev.bind hbe (Ev.bind (rscale_ev hp (hx.at_ i hi).2 _ hb.1 (by omega)) (Ev.bind (rradd_ev hp ok.1 (scale_res hp _ _) (by omega) (by omega)) h)))
   simp only [privityref05_Polynomial.l0]
   rw [if_pos (by omega),if_pos (by omega),wnat (by omega)]
 ·rw [if_neg hn,if_neg hn]
  rw [decide_eq_false hn] at hu
  refine (Ev.bind (f := fun k t368 => (privityref05_Unlike.f k t368).bind fun t371 => (if t371 = true then (privityref05_Polynomial.l0 k p pts t368 ([] : List Int) 0) else (some (([] : List Int),1)))) hpl (Ev.bind hu ?_)).congr fun k => rfl
  exact (Ev.now _).congr fun k => if_neg (by simp)
theorem wf64 {x : Int} (h : (Lit.int .u64 x).wf = true) : 0 ≤ x ∧ x < 18446744073709551616 := by
 have h1 : IntKind.u64.min ≤ x ∧ x ≤ IntKind.u64.max := by simpa [Lit.wf] using h
 have e1 : IntKind.u64.min = 0 := by decide
 have e2 : IntKind.u64.max = 18446744073709551615 := by decide
 omega
theorem ev_if {α : Type} {A : Nat → Option Bool} {b : Bool} (hA : Ev A b) {X Y : Nat → Option α} {r : α} (hx : b = true → Ev X r) (hy : b = false → Ev Y r) : Ev (fun k => (A k).bind fun t => if t = true then X k else Y k) r := by
 refine Ev.bind (f := fun k t => if t = true then X k else Y k) hA ?_
 cases b with
 | true => exact (hx rfl).congr fun k => if_pos rfl
 | false => exact (hy rfl).congr fun k => if_neg (by simp)
theorem ev_ite {α : Type} {c : Prop} [Decidable c] {X Y : Nat → Option α} {r : α} (hx : c → Ev X r) (hy : ¬ c → Ev Y r) : Ev (fun k => if c then X k else Y k) r := by
 by_cases h : c
 ·exact (hx h).congr fun k => if_pos h
 ·exact (hy h).congr fun k => if_neg h
theorem ev_now_bind {α β : Type} {x : Option α} {a : α} (hx : x = some a) {f : Nat → α → Option β} {r : β} (h : Ev (fun k => f k a) r) : Ev (fun k => x.bind (f k)) r := by subst hx;exact h
theorem awake09 : Ev (fun k => privitylaw09_awake.f k) true := Ev.of (fun k => privitylaw09_awake.mono _) (k := 40) (by kernel_rfl)
theorem fitRun_ok {p : Int} (hp : Supp p) {t : Nat} (htp : (t : Int) < p) : ∀ (k : Nat) (all : List S49) (x : Nat),FitI p t all x → k + x = t + 2 →
  (∃ x',FitI p t (fitRun t k all (x : Int)) x') ∧ (fitRun t k all (x : Int)).length = t + 1 ∧ (∃ m,fitRun t k all (x : Int) = all ++ m ∧ ∀ y ∈ m,y.f1 = 0) := by
 intro k
 induction k with
 | zero =>
  intro all x h he
  have h1 := h.xlen
  have h2 := h.len
  omega
 | succ k ih =>
  intro all x h he
  rw [fitRun]
  by_cases hl : all.length ≤ t
  ·rw [if_pos hl]
   have ec : ((x : Int) + 1) = ((x + 1 : Nat) : Int) := by omega
   rw [ec]
   by_cases hx : (x : Int) ∈ xsOf all
   ·rw [if_pos hx]
    exact ih all (x + 1) (h.skip hx) (by omega)
   ·rw [if_neg hx]
    obtain ⟨h1,h2,m,h3,h4⟩ := ih _ (x + 1) (h.add hp hx hl htp) (by omega)
    refine ⟨h1,h2,_ :: m,by rw [h3,List.append_assoc];rfl,fun y hy => ?_⟩
    rcases List.mem_cons.1 hy with rfl|hy
    ·rfl
    ·exact h4 y hy
  ·rw [if_neg hl]
   have := h.len
   exact ⟨⟨x,h⟩,by omega,[],by simp,fun y hy => by cases hy⟩
theorem fitAll_ok {p : Int} (hp : Supp p) {t : Nat} (htp : (t : Int) < p) {pts : List S49} (hx : PtsOk p pts) (hnd : (0 :: xsOf pts).Nodup) (hl : pts.length ≤ t) {s : Int} (hs : Res p s) :
  PtsOk p (fitAll p t pts s) ∧ (xsOf (fitAll p t pts s)).Nodup ∧ (fitAll p t pts s).length = t + 1 ∧ ∃ m,fitAll p t pts s = (⟨0,s⟩ :: pts) ++ m ∧ ∀ y ∈ m,y.f1 = 0 := by
 obtain ⟨⟨x,h1⟩,h2,h3⟩ := fitRun_ok hp htp (t + 1) _ 1 (fit_start hp hx hnd hl hs) (by omega)
 exact ⟨h1.ok,h1.nd,h2,h3⟩
section
variable {p : Int} (hp : Supp p) {t : Nat} (htp : (t : Int) < p) {pts : List S49} (hx : PtsOk p pts) (hnd : (0 :: xsOf pts).Nodup) (hl : pts.length ≤ t) {s : Int} (hs : Res p s)
include hp htp hx hnd hl hs
theorem fitL_length : (fitL p t pts s).length = t + 1 := by
 have h := fitAll_ok hp htp hx hnd hl hs
 have := polL_len hp (pts := fitAll p t pts s)
 unfold fitL
 rw [List.length_append,List.length_replicate];omega
end
end Go.Proofs.Ytjnkkfdlcbcelaa.E
end
section
namespace Go.Proofs.Ytjnkkfdlcbcelaa.Pure
open Go.RowKit Go.Proofs.Ytjnkkfdlcbcelaa.Pr Go.Proofs.Ytjnkkfdlcbcelaa.Hw Go.Proofs.Ytjnkkfdlcbcelaa.E Go.Proofs.YtjnkkfdlcbcelaaW.PrintWords Go.Proofs.YtjnkkfdlcbcelaaW.PrintLast Go.Proofs.YtjnkkfdlcbcelaaW.PrintMore
theorem places09_ev (l : List S49) (hl : l.length ≤ 1000000000) : Ev (fun k => privityref09_Places.f k l) (decide (0 :: xsOf l).Nodup) := by
 have hxl : (xsOf l).length = l.length := by simp [xsOf]
 by_cases h0 : (0 : Int) ∈ xsOf l
 ·rw [decide_eq_false (fun h => (List.nodup_cons.1 h).1 h0)]
  obtain ⟨i,hi,e⟩ := List.getElem_of_mem h0
  have hi' : i < l.length := by omega
  have e' : (rd_T49 l (i : Int)).f0 = 0 := by rw [rdT_nat l i hi'];simpa [xsOf] using e
  refine up (Q := fun j => Ev (fun k => privityref09_Places.l0 k l (j : Int)) false) (n := i) ?_ ?_
  ·refine Ev.step (fun k => ?_) (Ev.now _)
   simp only [privityref09_Places.l0]
   rw [if_pos (by omega),if_pos (by omega),if_pos e']
  ·intro j hj h
   by_cases ej : (rd_T49 l (j : Int)).f0 = 0
   ·refine Ev.step (fun k => ?_) (Ev.now _)
    simp only [privityref09_Places.l0]
    rw [if_pos (by omega),if_pos (by omega),if_pos ej]
   ·refine Ev.step (fun k => ?_) h
    simp only [privityref09_Places.l0]
    rw [if_pos (by omega),if_pos (by omega),if_neg ej,wnat (by omega)]
 ·rw [show decide (0 :: xsOf l).Nodup = decide (xsOf l).Nodup from decide_eq_decide.2 ⟨fun h => (List.nodup_cons.1 h).2,fun h => List.nodup_cons.2 ⟨h0,h⟩⟩]
  refine up (Q := fun j => Ev (fun k => privityref09_Places.l0 k l (j : Int)) (decide (xsOf l).Nodup)) (n := l.length) ?_ ?_
  ·refine Ev.step (f := fun k => (privityref05_Places.f k l).bind fun t => (privityref05_Unlike.f k t).bind fun t2 => some t2) (fun k => ?_) (Ev.bind (places_ev l hl) (Ev.bind (unlike_ev (xsOf l) (by omega)) (Ev.now _)))
   simp only [privityref09_Places.l0]
   rw [if_neg (by omega)]
  ·intro j hj h
   have ej : ¬ (rd_T49 l (j : Int)).f0 = 0 := fun e => h0 (by
    rw [rdT_nat l j hj] at e
    exact List.mem_map.2 ⟨l[j],List.getElem_mem hj,e⟩)
   refine Ev.step (fun k => ?_) h
   simp only [privityref09_Places.l0]
   rw [if_pos (by omega),if_pos (by omega),if_neg ej,wnat (by omega)]
theorem pad_ev (t : Nat) (ht : t ≤ 100000) : ∀ (n : Nat) (f : List Int),f.length + n = t + 1 → Ev (fun k => privityref09_FitSecret.l2 k (t : Int) f) (f ++ List.replicate n 0,0)
 | 0,f,h => by
  refine Ev.step (f := fun _ => some (f ++ List.replicate 0 0,0)) (fun k => ?_) (Ev.now _)
  simp only [privityref09_FitSecret.l2]
  rw [if_neg (by rw [wnat (by omega)];omega),List.replicate_zero,List.append_nil]
 | n + 1,f,h => by
  have := pad_ev t ht n (f ++ [0]) (by simp;omega)
  rw [List.append_assoc,show [0] ++ List.replicate n 0 = List.replicate (n + 1) (0 : Int) from by rw [List.replicate_succ];rfl] at this
  refine Ev.step (fun k => ?_) this
  simp only [privityref09_FitSecret.l2]
  rw [if_pos (by rw [wnat (by omega)];omega),if_pos (by omega)]
theorem there_ev (p : Int) (t : Nat) (pts all : List S49) (x : Nat) (hpl : pts.length ≤ 100000) (hal : all.length ≤ 100000) (hx : x < 1099511627776) {R : List Int × Int}
  (hy : (x : Int) ∈ xsOf pts → Ev (fun k => privityref09_FitSecret.l0 k p (t : Int) pts all ((x + 1 : Nat) : Int)) R)
  (hn : (x : Int) ∉ xsOf pts → Ev (fun k => privityref09_FitSecret.l0 k p (t : Int) pts (all ++ [(⟨(x : Int),0⟩ : S49)]) ((x + 1 : Nat) : Int)) R) :
  Ev (fun k => privityref09_FitSecret.l1 k p (t : Int) pts all (x : Int) false ((0 : Nat) : Int)) R := by
 have hw : IntKind.u64.wrap ((x : Int) + 1) = ((x + 1 : Nat) : Int) := by rw [wrapU_id (by omega) (by omega)];omega
 have hs : decide ((x : Int) ∈ xsOf (pts.take 0)) = false := by simp [xsOf]
 rw [← hs]
 refine up (Q := fun j => Ev (fun k => privityref09_FitSecret.l1 k p (t : Int) pts all (x : Int) (decide ((x : Int) ∈ xsOf (pts.take j))) (j : Int)) R) (n := pts.length) ?_ ?_
 ·rw [List.take_length]
  by_cases h : (x : Int) ∈ xsOf pts
  ·rw [decide_eq_true h]
   refine Ev.step (fun k => ?_) (hy h)
   simp only [privityref09_FitSecret.l1]
   rw [if_neg (by omega),if_pos trivial,hw]
  ·rw [decide_eq_false h]
   refine Ev.step (fun k => ?_) (hn h)
   simp only [privityref09_FitSecret.l1]
   rw [if_neg (by omega),if_neg (by simp),if_pos (by omega),hw]
 ·intro j hj h
  have hnx := xsOf_next pts j hj
  by_cases ha : (x : Int) ∈ xsOf (pts.take j)
  ·rw [decide_eq_true (show (x : Int) ∈ xsOf (pts.take (j + 1)) from by rw [← hnx];exact List.mem_append_left _ ha)] at h
   rw [decide_eq_true ha]
   refine Ev.step (fun k => ?_) h
   simp only [privityref09_FitSecret.l1]
   rw [if_pos (by omega),if_pos trivial,wnat (by omega)]
  ·rw [decide_eq_false ha]
   have e : decide ((x : Int) ∈ xsOf (pts.take (j + 1))) = ((rd_T49 pts (j : Int)).f0 == (x : Int)) := by
    rw [← hnx,Bool.eq_iff_iff,decide_eq_true_iff,beq_iff_eq]
    constructor
    ·intro h2
     rcases List.mem_append.1 h2 with h3|h3
     ·exact absurd h3 ha
     ·simp only [List.mem_cons,List.not_mem_nil,or_false] at h3;exact h3.symm
    ·intro h2
     exact List.mem_append_right _ (by rw [h2];simp)
   rw [e] at h
   refine Ev.step (fun k => ?_) h
   simp only [privityref09_FitSecret.l1]
   rw [if_pos (by omega),if_neg (by simp),if_pos (by omega),wnat (by omega)]
theorem run_ev {p : Int} (hp : Supp p) {t : Nat} (htp : (t : Int) < p) (ht : t ≤ 10000) {pts : List S49} (hpl : pts.length ≤ 100000) : ∀ (n : Nat) (all : List S49) (x : Nat),FitI p t all x → n + x = t + 2 → (∀ y : Int,(x : Int) ≤ y → (y ∈ xsOf all ↔ y ∈ xsOf pts)) → ∀ R,R = fitRun t n all (x : Int) →
  Ev (fun k => privityref09_FitSecret.l0 k p (t : Int) pts all (x : Int)) (polL p R ++ List.replicate (t + 1 - (polL p R).length) 0,0) := by
 intro n
 induction n with
 | zero =>
  intro all x h he
  have h1 := h.xlen
  have h2 := h.len
  omega
 | succ n ih =>
  intro all x h he hm R hR
  rw [fitRun] at hR
  have hxl := h.xlen
  have hle := h.len
  by_cases hl : all.length ≤ t
  ·rw [if_pos hl,show ((x : Int) + 1) = ((x + 1 : Nat) : Int) from by omega] at hR
   refine Ev.step (f := fun k => privityref09_FitSecret.l1 k p (t : Int) pts all (x : Int) false ((0 : Nat) : Int)) (fun k => ?_) (there_ev p t pts all x hpl (by omega) (by omega) (fun hy => ?_) (fun hn => ?_))
   ·simp only [privityref09_FitSecret.l0]
    rw [if_pos (by rw [wnat (by omega)];omega)];rfl
   ·have hx := (hm (x : Int) (by omega)).2 hy
    rw [if_pos hx] at hR
    exact ih all (x + 1) (h.skip hx) (by omega) (fun y hy => hm y (by omega)) R hR
   ·have hx : (x : Int) ∉ xsOf all := fun hx => hn ((hm (x : Int) (by omega)).1 hx)
    rw [if_neg hx] at hR
    refine ih _ (x + 1) (h.add hp hx hl htp) (by omega) (fun y hy => ?_) R hR
    rw [← hm y (by omega)]
    have e : xsOf (all ++ [(⟨(x : Int),0⟩ : S49)]) = xsOf all ++ [(x : Int)] := by simp [xsOf]
    rw [e]
    constructor
    ·intro h2
     rcases List.mem_append.1 h2 with h3|h3
     ·exact h3
     ·simp only [List.mem_cons,List.not_mem_nil,or_false] at h3;omega
    ·exact fun h2 => List.mem_append_left _ h2
  ·rw [if_neg hl] at hR
   rw [hR]
   clear hR
   have hq := polL_len hp (pts := all)
   have hr := rpol_ev hp h.ok (by omega)
   rw [if_pos h.nd,if_pos h.nd] at hr
   refine Ev.step (f := fun k => (privityref05_Polynomial.f k p all).bind fun b => privityref09_FitSecret.l2 k (t : Int) b.1) (fun k => ?_) (Ev.bind (f := fun k (b : List Int × Int) => privityref09_FitSecret.l2 k (t : Int) b.1) hr (pad_ev t (by omega) _ _ (by show (polL p all).length + _ = _;omega)))
   simp only [privityref09_FitSecret.l0]
   rw [if_neg (by rw [wnat (by omega)];omega)]
theorem rfit_bad (p t : Int) (pts : List S49) (s : Int) : Ev (fun k => privityref09_FitSecret.j0 k p t pts s true) ([],1) :=
 Ev.step (f := fun _ => some ([],1)) (fun k => by simp only [privityref09_FitSecret.j0];rw [if_pos trivial]) (Ev.now _)
theorem rfit_ev {p : Int} (hp : Supp p) (t : Int) (t0 : -9223372036854775808 ≤ t) (t1 : t ≤ 20) {pts : List S49} (hx : PtsOk p pts) (hpl : pts.length ≤ 100000) {s : Int} (hs : Res p s) :
  Ev (fun k => privityref09_FitSecret.f k p t pts s) (if fitBad p t pts = true then ([],1) else (fitL p t.toNat pts s,0)) := by
 have hpb := hp.bd
 unfold privityref09_FitSecret.f
 refine ev_ite (fun h => ?_) (fun h => ?_)
 ·rw [if_pos (fitBad_iff.2 (Or.inl h))];exact rfit_bad p t pts s
 refine ev_if (places09_ev pts (by omega)) (fun h2 => ev_ite (fun h3 => ?_) (fun h3 => ?_)) (fun h2 => ?_)
 ·rw [if_pos (fitBad_iff.2 (Or.inr (Or.inr (Or.inl h3))))];exact rfit_bad p t pts s
 ·rw [wrapU_id (by omega) (by omega)]
  by_cases h4 : t ≥ p
  ·rw [if_pos (fitBad_iff.2 (Or.inr (Or.inr (Or.inr h4)))),decide_eq_true h4];exact rfit_bad p t pts s
  ·have hb : ¬ fitBad p t pts = true := fun hb => by
    rcases fitBad_iff.1 hb with hb|hb|hb|hb
    ·exact h hb
    ·exact hb (of_decide_eq_true h2)
    ·exact h3 hb
    ·exact h4 hb
   rw [if_neg hb,decide_eq_false h4]
   obtain ⟨n,rfl⟩ : ∃ n : Nat,t = (n : Int) := ⟨t.toNat,by omega⟩
   rw [Int.toNat_natCast]
   have hnd := of_decide_eq_true h2
   have hr := run_ev hp (t := n) (by omega) (by omega) hpl (n + 1) ([(⟨0,s⟩ : S49)] ++ pts) 1 (fit_start hp hx hnd (by omega) hs) (by omega) (fun y hy => by
    rw [show xsOf ([(⟨0,s⟩ : S49)] ++ pts) = 0 :: xsOf pts from rfl,List.mem_cons]
    exact ⟨fun h => h.resolve_left (by omega),Or.inr⟩) (fitAll p n pts s) rfl
   refine Ev.step (f := fun k => privityref09_FitSecret.l0 k p (n : Int) pts ([(⟨0,s⟩ : S49)] ++ pts) ((1 : Nat) : Int)) (fun k => ?_) hr
   simp only [privityref09_FitSecret.j0]
   rw [if_neg (by simp),Option.bind_some,if_pos (by simp;omega)];rfl
 ·rw [if_pos (fitBad_iff.2 (Or.inr (Or.inl (of_decide_eq_false h2))))];exact rfit_bad p t pts s
theorem sfit_eq {p : Int} (hp : Supp p) (t : Int) (t0 : -9223372036854775808 ≤ t) (t1 : t ≤ 20) {pts : List S49} (hx : PtsOk p pts) (hpl : pts.length ≤ 100000) {s : Int} (hs : Res p s) :
  shamir_FitSecret.f p t pts s = some (if fitBad p t pts = true then ([],1) else (fitL p t.toNat pts s,0)) := by
 unfold shamir_FitSecret.f
 rw [if_pos (supB_iff.2 hp),if_pos (ptsB_iff.2 hx),if_pos (resB_iff.2 hs),if_pos (by omega),if_pos (by omega),if_pos (by omega)]
 by_cases hb : fitBad p t pts = true
 ·rw [if_pos hb,if_pos hb]
 ·rw [if_neg hb,if_neg hb,if_pos (by omega)]
theorem fmr_skip (p t : Int) (pts : List S49) (s : Int) : Ev (fun k => privitylaw09_ShamirFitSecretMatchesReference.j0 k p t true pts s) true :=
 Ev.step (f := fun _ => some true) (fun k => by simp only [privitylaw09_ShamirFitSecretMatchesReference.j0];rw [if_pos trivial]) (Ev.now _)
theorem wfi64 {x : Int} (h : (Lit.int .i64 x).wf = true) : -9223372036854775808 ≤ x ∧ x < 9223372036854775808 := by
 have h1 : IntKind.i64.min ≤ x ∧ x ≤ IntKind.i64.max := by simpa [Lit.wf] using h
 have e1 : IntKind.i64.min = -9223372036854775808 := by decide
 have e2 : IntKind.i64.max = 9223372036854775807 := by decide
 omega
theorem ShamirFitSecretMatchesReference (p t : Int) (pts : List S49) (s : Int) (wp : (Lit.int .u64 p).wf = true) (wt : (Lit.int .i64 t).wf = true) (wx : ∀ x ∈ pts,((Lit.int .u64 x.f0).wf = true) ∧ ((Lit.int .u64 x.f1).wf = true)) (ws : (Lit.int .u64 s).wf = true) :
  ∃ k,privitylaw09_ShamirFitSecretMatchesReference.f k p t pts s = some true := by
 refine Ev.rounds (r := true) ?_
 have ht := wfi64 wt
 unfold privitylaw09_ShamirFitSecretMatchesReference.f
 refine ev_if awake09 (fun _ => ev_if (supported_ev p) (fun hs => ev_ite (fun _ => fmr_skip p t pts s) fun h1 => ev_ite (fun _ => fmr_skip p t pts s) fun h2 =>
  ev_if (points_ev p pts (by omega)) (fun hb1 => ?_) fun _ => fmr_skip p t pts s) fun _ => fmr_skip p t pts s) (fun h => by cases h)
 by_cases hsp : s ≥ p
 ·rw [decide_eq_true hsp];exact fmr_skip p t pts s
 ·rw [decide_eq_false hsp]
  have hp := supB_of hs
  have hx := points_res hb1 (fun x hx => ⟨(wf64 (wx x hx).1).1,(wf64 (wx x hx).2).1⟩)
  have hss : Res p s := ⟨(wf64 ws).1,by omega⟩
  obtain ⟨R,hR⟩ : ∃ R : List Int × Int,R = (if fitBad p t pts = true then ([],1) else (fitL p t.toNat pts s,0)) := ⟨_,rfl⟩
  have hlen : R.1.length ≤ 100000 := by
   rw [hR]
   split
   ·simp
   ·rename_i hb
    have hn : ¬ (t < 0 ∨ ¬ (0 :: xsOf pts).Nodup ∨ t < (pts.length : Int) ∨ p ≤ t) := fun hx => hb (fitBad_iff.2 hx)
    have := fitL_length hp (t := t.toNat) (by omega) hx (Classical.byContradiction fun hx => hn (Or.inr (Or.inl hx))) (by omega) hss
    show (fitL p t.toNat pts s).length ≤ _
    omega
  have e1 := sfit_eq hp t ht.1 (by omega) hx (by omega) hss
  have e2 := rfit_ev hp t ht.1 (by omega) hx (by omega) hss
  rw [← hR] at e1 e2
  refine Ev.step (f := fun k => (shamir_FitSecret.f p t pts s).bind fun bt476 => ((privityref09_FitSecret.f k p t pts s).bind fun bt480 => (if bt476.2 = bt480.2 then ((privityref05_Same.f k bt476.1 bt480.1).bind fun t484 => (some t484)) else (some false)))) (fun k => ?_) ?_
  ·simp only [privitylaw09_ShamirFitSecretMatchesReference.j0]
   rw [if_neg (by simp)]
  ·refine ev_now_bind e1 (Ev.bind (f := fun k (bt480 : List Int × Int) => (if R.2 = bt480.2 then ((privityref05_Same.f k R.1 bt480.1).bind fun t484 => (some t484)) else (some false))) e2 ?_)
   refine Ev.congr (fun k => if_pos rfl) ?_
   have hse := same_ev R.1 R.1 (by omega)
   rw [decide_eq_true rfl] at hse
   exact Ev.bind hse (Ev.now _)
end Go.Proofs.Ytjnkkfdlcbcelaa.Pure
end
section
namespace Go.Proofs.Ytjnkkfdlcbcelaa.Op
open Go.RowKit Go.Proofs.YtjnkkfdlcbcelaaW.PrintWords
def OpenK {α : Type} (P : Program) (t : TypeId) (d : Kd α) (Q : α → Prop) : Prop :=
 ∀ {H : Type} {enc : TypeId × Value → H} {w : World} {base : Nat} {sp : Nat → Bool} {hd : Bool} {fuel : Nat} {cs : List Value} {x : DataW H × List MemPlace},DataW.trod enc P w base sp hd fuel t cs = some x → ∃ v : α,d.K w v cs ∧ Q v
theorem openInt {P : Program} {t : TypeId} {k : IntKind} (ht : P.underlying t = some (.int k)) : OpenK P t (Kd.int k) (fun n => (Lit.int k n).wf = true) := by
 intro H enc w base sp hd fuel cs x h
 obtain ⟨n,rfl,_,hw⟩ := DataW.trod_int ht h
 exact ⟨n,rfl,hw⟩
theorem exists_list {α : Type} {R : Nat → α → Prop} : ∀ (n : Nat),(∀ i,i < n → ∃ v,R i v) → ∃ l : List α,l.length = n ∧ ∀ i v,l[i]? = some v → R i v
 | 0,_ => ⟨[],rfl,fun i v h => by simp at h⟩
 | n + 1,h => by
  obtain ⟨l,hl,hr⟩ := exists_list n (fun i hi => h i (by omega))
  obtain ⟨v,hv⟩ := h n (by omega)
  refine ⟨l ++ [v],by simp [hl],fun i u hu => ?_⟩
  by_cases hi : i < n
  ·rw [List.getElem?_append_left (by omega)] at hu
   exact hr i u hu
  ·rw [List.getElem?_append_right (by omega)] at hu
   by_cases h0 : i - l.length = 0
   ·rw [h0] at hu
    simp only [List.getElem?_cons_zero,Option.some.injEq] at hu
    rw [← hu,show i = n from by omega];exact hv
   ·rw [List.getElem?_eq_none (by simp;omega)] at hu;cases hu
theorem openSlice {α : Type} {P : Program} {t e : TypeId} {d : Kd α} {Q : α → Prop} (ht : P.underlying t = some (.slice e)) (hc : P.cellsOf e = d.sz) (he : OpenK P e d Q) : OpenK P t (Kd.slice e d) (fun l => ∀ x ∈ l,Q x) := by
 intro H enc w base sp hd fuel cs x h
 rcases DataW.trod_slice ht h with ⟨rfl,_⟩|⟨a,len,cap,elems,rest,n,_,rfl,_,_,hlc,hm,hlen,hel,_,_⟩
 ·exact ⟨[],⟨none,0,rfl,Nat.le_refl _,rfl,Nat.zero_le _,fun h => absurd h (Nat.lt_irrefl 0)⟩,fun x hx => by cases hx⟩
 ·have each : ∀ i,i < len → ∃ v,(∃ c,c.length = d.sz ∧ d.K w v c ∧ ∀ j u,c[j]? = some u → w.cell? (a.add (i * d.sz + j)) = some u) ∧ Q v := by
   intro i hi
   have h1 := hel i hi
   rw [List.getElem?_eq_getElem (by omega),hc] at h1
   obtain ⟨c,hcs,htr⟩ := Option.bind_eq_some_iff.1 h1
   obtain ⟨v,hk,hq⟩ := he htr
   refine ⟨v,⟨c,d.K_len hk,hk,fun j u hu => ?_⟩,hq⟩
   have h2 := World.cells?_some hcs
   have hj := (List.getElem?_eq_some_iff.1 hu).1
   have h3 := h2.2.2 j (by rw [← d.K_len hk];exact hj)
   rw [hu] at h3
   rw [← h3,← Addr.add_add]
  obtain ⟨l,hl,hr⟩ := exists_list len each
  refine ⟨l,⟨some a,cap,by rw [hl],by omega,rfl,by rw [hl];simp only [maxLen] at hm;omega,fun _ => ⟨a,rfl,fun j p hj => (hr j p hj).1⟩⟩,fun x hx => ?_⟩
  obtain ⟨i,hi,rfl⟩ := List.getElem_of_mem hx
  exact (hr i _ (List.getElem?_eq_getElem hi)).2
theorem openFields {P : Program} {H : Type} {enc : TypeId × Value → H} {w : World} {base : Nat} {sp : Nat → Bool} {hd : Bool} {fuel : Nat} {t : TypeId} {cs : List Value} {x : DataW H × List MemPlace} {fs : Array Field} (ht : P.underlying t = some (.struct fs))
  (h : DataW.trod enc P w base sp hd fuel t cs = some x) : cs.length = P.cellsOf t ∧ ∀ (i : Nat) (f : Field),fs[i]? = some f → ∃ n y,DataW.trod enc P w base sp hd n f.type ((cs.drop f.offset).take (P.cellsOf f.type)) = some y := by
 obtain ⟨xs,n,_,_,hl,hlen,hf⟩ := DataW.trod_struct ht h
 refine ⟨hl,fun i f hi => ?_⟩
 have h1 := hf i f hi
 have h2 : i < fs.size := (Array.getElem?_eq_some_iff.1 hi).1
 rw [List.getElem?_eq_getElem (by omega)] at h1
 exact ⟨n,_,h1⟩
end Go.Proofs.Ytjnkkfdlcbcelaa.Op
end
section
/- The row of the law ShamirFitSecretMatchesReference, out of its plain law and the walk. -/
namespace Go.Proofs.Ytjnkkfdlcbcelaa.shamirFitSecretMatchesReference
open Go.ChangeShapes Go.WideShapes Go.ChangeAt Go.RowKit Go.Proofs.Ytjnkkfdlcbcelaa.Pr Go.Proofs.YtjnkkfdlcbcelaaW.PrintWords
theorem own : ownKnob Try.prog.godebug = none := by kernel_rfl
theorem laidOut : laidOutB Try.prog = true := by kernel_rfl
set_option maxRecDepth 100000 in
theorem open49 : Op.OpenK Try.prog 49 k49 (fun x_ => ((Lit.int .u64 x_.f0).wf = true) ∧ ((Lit.int .u64 x_.f1).wf = true)) := by
  intro H enc w base sp hd fuel cs x h
  obtain ⟨hl, hf⟩ := Op.openFields Try.underlying49 h
  have hN : Try.prog.cellsOf 49 = 2 := by kernel_rfl
  rw [hN] at hl
  obtain ⟨c0_, c1_, rfl⟩ : ∃ c0_ c1_, cs = [c0_, c1_] := by
    match cs, hl with
    | [c0_, c1_], _ => exact ⟨_, _, rfl⟩
  obtain ⟨n0_, y0_, e0_⟩ := hf 0 _ rfl
  have g0_ := (Op.openInt (k := .u64) Try.underlying22) e0_
  obtain ⟨v0_, m0_, q0_⟩ := g0_
  obtain ⟨n1_, y1_, e1_⟩ := hf 1 _ rfl
  have g1_ := (Op.openInt (k := .u64) Try.underlying22) e1_
  obtain ⟨v1_, m1_, q1_⟩ := g1_
  exact ⟨⟨v0_, v1_⟩, ⟨_, _, rfl, m0_, m1_⟩, ⟨q0_, q1_⟩⟩
set_option maxRecDepth 100000 in
theorem arr2 (cs : Array Value) (h : cs.size = 2) : ∃ c0_ c1_, cs = #[c0_, c1_] := by
  obtain ⟨l_⟩ := cs
  match l_, h with
  | [c0_, c1_], _ => exact ⟨_, _, rfl⟩
set_option maxHeartbeats 4000000 in
set_option maxRecDepth 100000 in
theorem lifted (os : Os) (started : os.Started) (H : Type) (enc : TypeId × Value → H) :
    ReturnsInHanded {} Try.checked os 5 .any (Rows.shamirFitSecretMatchesReferenceSpec.pre6 enc Try.prog Try.f5 Rows.shamirFitSecretMatchesReferenceRow.domain false) (Rows.shamirFitSecretMatchesReferenceSpec.post enc Try.prog Try.f5 false true false false) := by
  refine returnsInHanded_of_change_sized (C := Try.checked) own started (by kernel_rfl) Try.func5
    (ChangeSpec.witness6 (enc := enc) (C := Try.checked) false ⟨#[], #[.int .u64 0, .int .i64 0, .agg #[.slice none 0 0, .int .u64 0]], []⟩ 8 (by kernel_rfl) (by kernel_rfl) (by kernel_rfl) (by kernel_rfl)) ?_
  intro W base args ds gs before hval0 hW hcnd hsz0 _
  have hval : ∀ (j : Nat) t v, Try.f5.params[j]? = some t → args[j]? = some v → Value.okWide Try.prog W .any base t v := hval0
  have hW' := hW
  obtain ⟨p, q, hA0, hV, rfl, hfz, hnd⟩ := hW
  have hA : DataW.TrodAll enc Try.prog W 0 (fun _ => true) true Try.f5.params.toList args.toList ds p := hA0
  rw [Try.params5] at hA hval
  obtain ⟨v0, vs0, d0, ds0, p0, q0, hargs, rfl, rfl, h0, r0⟩ := trodAll_cons hA
  obtain ⟨v1, vs1, d1, ds1, p1, q1, rfl, rfl, rfl, h1, r1⟩ := trodAll_cons r0
  obtain ⟨v2, vs2, d2, ds2, p2, q2, rfl, rfl, rfl, h2, r2⟩ := trodAll_cons r1
  obtain ⟨rfl, rfl, rfl⟩ := trodAll_nil r2
  obtain rfl : args = #[v0, v1, v2] := by cases args; simp_all
  obtain ⟨rfl, rfl⟩ := trodVars_none hV
  have k0 := h0
  have lt0 : ∀ x ∈ p0, x.block < W.heap.size := by obtain ⟨m, hm⟩ := k0; exact DataW.trod_lt m _ _ _ hm
  obtain ⟨a0, rfl, rfl, rfl, w0⟩ := open_int Try.underlying22 (hval 0 22 v0 rfl rfl) h0
  have k1 := h1
  have lt1 : ∀ x ∈ p1, x.block < W.heap.size := by obtain ⟨m, hm⟩ := k1; exact DataW.trod_lt m _ _ _ hm
  obtain ⟨a1, rfl, rfl, rfl, w1⟩ := open_int Try.underlying3 (hval 1 3 v1 rfl rfl) h1
  have k2 := h2
  have lt2 : ∀ x ∈ p2, x.block < W.heap.size := by obtain ⟨m, hm⟩ := k2; exact DataW.trod_lt m _ _ _ hm
  obtain ⟨cs2, rfl, hs2⟩ := okWide_struct Try.underlying56 (hval 2 56 v2 rfl rfl)
  have hN2 : Try.prog.cellsOf 56 = 2 := by kernel_rfl
  rw [hN2] at hs2
  obtain ⟨x2_0, x2_1, rfl⟩ := arr2 cs2 hs2
  obtain ⟨fu2, hf2⟩ := h2
  have hg2 : DataW.trod enc Try.prog W 0 (fun _ => true) true fu2 56 [x2_0, x2_1] = some (d2, p2) := hf2
  have f2 := (Op.openFields Try.underlying56 hg2).2
  obtain ⟨n2_0, y2_0, e2_0⟩ := f2 0 _ rfl
  have b2_0 : DataW.trod enc Try.prog W 0 (fun _ => true) true n2_0 47 [x2_0] = some y2_0 := e2_0
  obtain ⟨z2_0, ⟨A2_0, c2_0, e2_0, hc2_0, g2_0⟩, w2_0⟩ := (Op.openSlice (d := k49) Try.underlying47 (by kernel_rfl) open49) b2_0
  cases e2_0
  obtain ⟨n2_1, y2_1, e2_1⟩ := f2 1 _ rfl
  have b2_1 : DataW.trod enc Try.prog W 0 (fun _ => true) true n2_1 22 [x2_1] = some y2_1 := e2_1
  obtain ⟨a2_1, e2_1, w2_1⟩ := (Op.openInt (k := .u64) Try.underlying22) b2_1
  cases e2_1
  clear hA0 hval0 hsz0
  obtain ⟨kk, hk⟩ := Pure.ShamirFitSecretMatchesReference a0 a1 z2_0 a2_1 w0 w1 w2_0 w2_1
  refine (privitylaw09_ShamirFitSecretMatchesReference.calls kk a0 a1 _ _ z2_0 a2_1 true W g2_0 hc2_0 rfl hk).mono fun e W' ⟨he, bel⟩ => ?_
  subst he
  exact ⟨_, rfl, _, _, _, [], _, [], hW', trodAll_mk1 (shut_bool Try.underlying4 _), (trodAll_cons_mk (shut_int Try.underlying22 w0) (trodAll_cons_mk (shut_int Try.underlying3 w1) (trodAll_cons_mk (Below.trod laidOut (by kernel_rfl) (of_decide_eq_true (by kernel_rfl)) k2 bel lt2) trodAll_mk0))), rfl, bel.frame _, fun h => by cases h⟩
theorem over : Rows.shamirFitSecretMatchesReferenceRow.holds Try.pinned (OpenSpec.ofChange Rows.shamirFitSecretMatchesReferenceSpec) :=
  OpenClaim.holds_of_wide 5 Try.f5 rfl rfl rfl rfl rfl rfl rfl ⟨rfl, rfl, rfl, rfl, rfl⟩ rfl rfl rfl rfl rfl (by kernel_rfl) Try.func5 (by kernel_rfl)
    (of_decide_eq_true (by kernel_rfl)) (by unfold Func.isWrapper; first | (rw [if_pos (by decide +kernel)]; kernel_rfl) | (rw [if_neg (by decide +kernel)]; exact ⟨rfl, rfl⟩))
    (fun os started H enc _ => lifted os started H enc)
theorem proved : Rows.ShamirFitSecretMatchesReferenceSaid := over
#print axioms proved
end Go.Proofs.Ytjnkkfdlcbcelaa.shamirFitSecretMatchesReference
namespace Go.Proofs.Ytjnkkfdlcbcelaa
/-- The row, under a short name, for the claim. -/
theorem shamirFitSecretMatchesReference_holds : Rows.ShamirFitSecretMatchesReferenceSaid := shamirFitSecretMatchesReference.proved
end Go.Proofs.Ytjnkkfdlcbcelaa
end
