/- Part 5 of the proof's texts, joined in build order. -/
import Derived.Test.YtejeelpnmdfibaaZTSh1
import Derived.Test.YtejeelpnmdfibaaZTSh2
import Derived.Test.YtejeelpnmdfibaaZTSh3
import Derived.Test.YtejeelpnmdfibaaZTSh4
section
namespace Go.Proofs.Ytejeelpnmdfibaa.Pr
open Go.RowKit Go.Proofs.YtejeelpnmdfibaaW.PrintWords Go.Proofs.YtejeelpnmdfibaaW.PrintLast Go.Proofs.YtejeelpnmdfibaaW.PrintMore
attribute [local go_sem] max2_int min2_int max_two min_two max_three min_three max_four min_four
set_option linter.unusedVariables false
set_option linter.unusedSimpArgs false
open Go.Proofs.Ytejeelpnmdfibaa.Hw
def privityref12_VanishingPolynomial.l0 : Nat → List Int → List Int → Int → Int → Int → Int → Option (List Int)
 | 0,_,_,_,_,_,_ => none
 | k + 1,x5,x6,x7,x567000,x567001,x567002 => if x7 < (x6.length : Int) then (if 0 ≤ x7 then ((privityref01_Inverse.f k x567000 (IntKind.u64.wrap (rd x6 x7))).bind fun bt574 => ((privityref01_Neg.f x567000 bt574.1).bind fun t576 => ((privityref04_Mul.f k x567000 x5 (([1,t576] : List Int))).bind fun t580 => (privityref12_VanishingPolynomial.l0 k t580 x6 (wrap64 (x7 + 1)) x567000 x567001 x567002)))) else (none)) else (some x5)
def privityref12_VanishingPolynomial.f (k : Nat) (a0_0 : Int) (a0_1 : Int) (a0_2 : Int) (l1 : List Int) : Option (List Int) := (privityref12_ExtendCoalition.f k a0_0 a0_1 a0_2 l1).bind fun t570 => (privityref12_VanishingPolynomial.l0 k (([1] : List Int)) t570 0 a0_0 a0_1 a0_2)
def privityref12_VanishingPolynomial.T6 : Bool × List (List Nat × List Nat) := (true,[([],[]),([0],[0]),([],[]),([],[]),([2,3],[2,3]),([4],[4]),([5],[5]),([1,6],[1,6]),([7],[7]),([8],[8]),([8],[8]),([9,7,0,1,2,3,4,5,6,7,8,9],[9]),([10,11,0,1,2,3,4,5,6,7,8,9,10,11],[10])])
def privityref12_VanishingPolynomial.B6 : List Nat := [0,1,0,0,12,28,60,127,255,511,511,1023,4095]
theorem privityref12_VanishingPolynomial.tab6 : rtab .any (opsOf Try.f49 6) = privityref12_VanishingPolynomial.T6 := by kernel_rfl
theorem privityref12_VanishingPolynomial.bits6 : waitsOk privityref12_VanishingPolynomial.T6.2 privityref12_VanishingPolynomial.B6 = true := by kernel_rfl
def privityref12_VanishingPolynomial.T7 : Bool × List (List Nat × List Nat) := (true,[([],[]),([0],[0]),([],[]),([],[]),([3],[3]),([],[]),([4,5],[4,5]),([6],[6]),([1,2,7,6],[1,2,7]),([8,8,0,1,2,3,4,5,6,7,8],[2,8])])
def privityref12_VanishingPolynomial.B7 : List Nat := [0,1,0,0,8,0,56,120,255,511]
theorem privityref12_VanishingPolynomial.tab7 : rtab .any (opsOf Try.f49 7) = privityref12_VanishingPolynomial.T7 := by kernel_rfl
theorem privityref12_VanishingPolynomial.bits7 : waitsOk privityref12_VanishingPolynomial.T7.2 privityref12_VanishingPolynomial.B7 = true := by kernel_rfl
set_option maxHeartbeats 8000000 in
set_option maxRecDepth 100000 in
theorem privityref12_VanishingPolynomial.calls (k : Nat) (a0_0 : Int) (a0_1 : Int) (a0_2 : Int) (A1 : Option Addr) (c1 : Nat) (l1 : List Int) (r : List Int) (w : World) (hr1 : Kd.C (Kd.int .i64) w A1 l1.length l1) (hc1 : l1.length ≤ c1) (h : privityref12_VanishingPolynomial.f k a0_0 a0_1 a0_2 l1 = some r) :
  Calls Try.prog 49 #[.agg #[.int .u64 a0_0,.int .i64 a0_1,.int .i64 a0_2],.slice A1 l1.length c1] w fun e w' => ∃ v0_ : Value,e = .returned (v0_) ∧ Kd.R (Kd.int .u64) 22 w' w.heap.size (fun _ => True) v0_ r ∧ Below w.heap.size w w' := by
 have hu24 := Try.underlying24
 have HR1 := Aside0.mk hr1
 have HC1 := Aside0.mk hc1
 clear hr1 hc1
 have HB := Aside0.mk (Below.refl w.heap.size w)
 have H : ((privityref12_ExtendCoalition.f k a0_0 a0_1 a0_2 l1).bind fun t570 => (privityref12_VanishingPolynomial.l0 k (([1] : List Int)) t570 0 a0_0 a0_1 a0_2)) = some r := h
 clear h
 obtain ⟨y567,hy567⟩ : ∃ y_ : List Int,y_ = (([1] : List Int)) := ⟨_,rfl⟩
 replace H : ((privityref12_ExtendCoalition.f k a0_0 a0_1 a0_2 l1).bind fun t570 => (privityref12_VanishingPolynomial.l0 k y567 t570 0 a0_0 a0_1 a0_2)) = some r := by first|(rw [hy567];with_reducible exact H)|(have H2_ := (Option.bind_some _ _).symm.trans H;rw [hy567];with_reducible exact H2_)|(have H2_ := (Option.bind_some _ _).symm.trans H;with_reducible exact H2_)|with_reducible exact H|(rw [hy567];exact H)|exact H
 have Ny567 := Aside0.mk hy567
 clear hy567
 replace H := Option.bind_eq_some_iff.mp H
 obtain ⟨t570,A30,H⟩ := H
 try dsimp only at H
 have A3 := Aside0.mk A30
 clear A30
 have H' := Aside0.mk H
 clear H
 go_enter Try.func49,Try.ntmps49
 go_wp2_with (first|((with_reducible refine gate_dst (N := 2) rfl ?_);refine box_event ?hg (N := 2) ?hd (cs := #[.int .u64 a0_0,.int .i64 a0_1,.int .i64 a0_2]) (t := 24) ?hr ?_;(case hd => rfl);(case hg => rfl);(case hr => first|(go_simp;done)|(go_simp;rfl));intro gb566 hg w4 hbox hb;have n0_ := Aside0.mk (below_step (bb HB) hb);have n1_ := Aside0.mk (hbox);have n2_ := Aside0.mk ((by rw [hg];exact (below_size (bb HB)) : w.heap.size ≤ gb566));have n3_ := Aside0.mk ((by rw [hg];exact (below_size (bb HB)) : w.heap.size ≤ gb566));clear HB;have HB := n0_;have BK566 := n1_;have GW566 := n2_;have GE566 := n3_;clear n0_ n1_ n2_ n3_;clear hb hbox hg)|((with_reducible refine gate_dst (N := 10) rfl ?_);refine Kd.R_lit (Kd.int .u64) _ 22 ?hg (N := 10) ?hd (xs := ([1] : List Int)) (inner := [.int .u64 1]) (ok := fun _ => True) (okp := fun _ => True) ?hr ?hp (fun _ hk => hk) trivial (Below.refl _ _) (Nat.le_refl _) (by simp) ?_;(case hd => rfl);(case hg => rfl);(case hr => first|(go_simp;done)|(go_simp;rfl));(case hp => exact (Reps.one (show Kd.M (Kd.int .u64) _ _ _ 1 [.int .u64 1] from rfl) (Reps.none _ _)));intro v568 w5 ho6 hb hg_ hnew_;clear hg_ hnew_;(first|rw [← Ny567.out] at ho6|(simp only [Int.reduceToNat] at ho6;rw [← Ny567.out] at ho6));have n0_ := Aside0.mk (Kd.R_lower ho6 (below_size (bg HB GE566)));have n1_ := Aside0.mk (kb BK566 hb);have n2_ := Aside0.mk (below_step (bg HB GE566) hb);clear BK566 HB;have HO569 := n0_;have BK566 := n1_;have HB := n2_;clear n0_ n1_ n2_;clear hb ho6;have hcz7_0 := bc BK566 0;have hcz7_1 := bc BK566 1;have hcz7_2 := bc BK566 2;have hfz7_0 := blk_frozen BK566.out 0;have hfz7_1 := blk_frozen BK566.out 1;have hfz7_2 := blk_frozen BK566.out 2)|((with_reducible refine gate_callee (f := 21) rfl ?_);refine goesL_ (some 13) rfl rfl Try.func21 (by kernel_rfl) rfl #[.agg #[.int .u64 a0_0,.int .i64 a0_1,.int .i64 a0_2],.slice A1 l1.length c1] rfl (by (try simp only [List.map_toArray,List.map_cons,List.map_nil]);first|done|rfl|(simp only [List.length_drop,List.length_take];rfl)) ?_;(with_reducible refine (privityref12_ExtendCoalition.calls k a0_0 a0_1 a0_2 _ _ l1 t570 _ ?side1 ?side2 A3.out).mono ?_);(case side1 => exact cb HR1 HB);(case side2 => exact HC1.out);rintro e w8 ⟨v571,rfl,ho0,hb⟩;refine ⟨_,rfl,?_⟩;have n0_ := Aside0.mk (Kd.R_below (rr HO569) hb);have n1_ := Aside0.mk (Kd.R_lower ho0 (below_size (bg HB GE566)));have n2_ := Aside0.mk (kb BK566 hb);have n3_ := Aside0.mk (below_step (bg HB GE566) hb);clear HO569 BK566 HB;have HO569 := n0_;have HO572 := n1_;have BK566 := n2_;have HB := n3_;clear n0_ n1_ n2_ n3_;(try clear hb);(try clear hb2);(try clear hk);(try clear hi);(try clear ho0)))
 go_loopg [5,7] k (fun kq v5 v7 w' => ∃ (x5_1 : List Int) (x7_1 : Int),v7 = .int .i64 x7_1 ∧ Aside0 (privityref12_VanishingPolynomial.l0 kq x5_1 t570 x7_1 a0_0 a0_1 a0_2 = some r) ∧ Aside0 (kq ≤ k) ∧ Aside0 (Kd.R (Kd.int .u64) 22 w' w.heap.size (fun _ => True) v5 x5_1) ∧ Aside0 (Kd.R (Kd.int .i64) 3 w' w.heap.size (fun _ => True) v571 t570) ∧ Aside0 (w'.heap[gb566]? = some (.cells #[.int .u64 a0_0,.int .i64 a0_1,.int .i64 a0_2] 24 (0,0))) ∧ Aside0 (Below w.heap.size w w'))
 case atStart => exact ⟨(y567),(0),(by first|rfl|(simp;done)|(simp [*];done)),H',⟨Nat.le_refl _⟩,⟨by (with_reducible repeat (first|apply Kd.R_alloc|apply Kd.R_drewN|apply Kd.R_drew));exact HO569.out⟩,⟨by (with_reducible repeat (first|apply Kd.R_alloc|apply Kd.R_drewN|apply Kd.R_drew));exact HO572.out⟩,⟨by (with_reducible repeat (first|refine blk_drewN ?_ _|refine blk_drew ?_|refine blk_alloc ?_ _));exact BK566.out⟩,⟨by repeat (first|(with_reducible first|exact HB.out|apply below_alloc|apply pw_below_drewN|apply below_drew1|refine below_set ?_ GE566.out)|exact HB.out)⟩⟩
 case round =>
  clear H'
  try clear c1
  try clear c2
  try clear p2
  try clear c4
  try clear hcz7_0
  try clear hcz7_1
  try clear hcz7_2
  try clear hfz7_0
  try clear hfz7_1
  try clear hfz7_2
  obtain ⟨x5_1,x7_1,rfl,HA,HK1,HO_5,HO_6,BK566,HB⟩ := hrel
  cases gk with
  | zero => exact absurd HA.out (by simp [privityref12_VanishingPolynomial.l0])
  | succ k1 =>
   have H := HA.out
   clear HA
   simp only [privityref12_VanishingPolynomial.l0] at H
   by_cases c9 : x7_1 < (t570.length : Int)
   ·rw [if_pos c9] at H
    have c9b0 : decide (x7_1 < (t570.length : Int)) = true := decide_eq_true c9
    clear c9
    by_cases c10 : 0 ≤ x7_1
    ·rw [if_pos c10] at H
     have c10b0 : decide (0 ≤ x7_1) = true := decide_eq_true c10
     clear c10
     replace H := Option.bind_eq_some_iff.mp H
     obtain ⟨⟨t574,t575⟩,A110,H⟩ := H
     try dsimp only at H
     have A11 := Aside0.mk A110
     clear A110
     replace H := Option.bind_eq_some_iff.mp H
     obtain ⟨t576,A120,H⟩ := H
     try dsimp only at H
     have A12 := Aside0.mk A120
     clear A120
     obtain ⟨y577,hy577⟩ : ∃ y_ : List Int,y_ = (([1,t576] : List Int)) := ⟨_,rfl⟩
     replace H : ((privityref04_Mul.f k1 a0_0 x5_1 y577).bind fun t580 => (privityref12_VanishingPolynomial.l0 k1 t580 t570 (wrap64 (x7_1 + 1)) a0_0 a0_1 a0_2)) = some r := by first|(rw [hy577];with_reducible exact H)|(have H2_ := (Option.bind_some _ _).symm.trans H;rw [hy577];with_reducible exact H2_)|(have H2_ := (Option.bind_some _ _).symm.trans H;with_reducible exact H2_)|with_reducible exact H|(rw [hy577];exact H)|exact H
     have Ny577 := Aside0.mk hy577
     clear hy577
     replace H := Option.bind_eq_some_iff.mp H
     obtain ⟨t580,A130,H⟩ := H
     try dsimp only at H
     have A13 := Aside0.mk A130
     clear A130
     have H' := Aside0.mk H
     clear H
     obtain ⟨Ao14,co14,eo14⟩ := Kd.R_slice HO_6.out
     subst eo14
     try go_wp2
     have n0_ := Aside0.mk (Kd.R_drew HO_5.out)
     have n1_ := Aside0.mk (Kd.R_drew HO_6.out)
     have n2_ := Aside0.mk (blk_drew BK566.out)
     have n3_ := Aside0.mk (below_drew1 HB.out)
     clear HO_5
     clear HO_6
     clear BK566
     clear HB
     have HO_5 := n0_
     have HO_6 := n1_
     have BK566 := n2_
     have HB := n3_
     clear n0_ n1_ n2_ n3_
     have p573 : 0 ≤ (x7_1 : Int) := of_decide_eq_true (by first|(with_reducible assumption)|assumption)
     have q573 : x7_1 < (t570.length : Int) := of_decide_eq_true (by first|(with_reducible assumption)|assumption)
     obtain ⟨ad573,e573,hx573_0⟩ := Kd.at_int (Kd.R_reads' HO_6.out).2.2 x7_1 p573 q573
     cases e573
     replace p573 := eq_true p573
     replace q573 := eq_true q573
     refine start_ (n := 13) (S := fun w' => w'.cell? ⟨gb566,0,none⟩ = some (.int .u64 a0_0) ∧ w'.cell? ⟨gb566,1,none⟩ = some (.int .i64 a0_1) ∧ w'.cell? ⟨gb566,2,none⟩ = some (.int .i64 a0_2) ∧ w'.cell? (ad573.add (x7_1).toNat) = some (.int .i64 (rd t570 x7_1))) (ds := []) (bz 13 0) (by kernel_rfl) rfl rfl ⟨(blk_cell BK566.out 0).trans rfl,(blk_cell BK566.out 1).trans rfl,(blk_cell BK566.out 2).trans rfl,hx573_0⟩ (fun hHeld => ?_);refine with_tabW privityref12_VanishingPolynomial.tab6 privityref12_VanishingPolynomial.bits6 (fun HT_ HW_ => ?_)
     generalize wr.drew = w15 at HO_5 HO_6 BK566 HB hx573_0 hHeld ⊢
     refine pk 0 21 (bz 13 1) HT_ ?_
     refine pk 2 23 (bz 13 5) HT_ ?_
     refine pk 3 24 (bz 13 13) HT_ ?_
     refine pk 4 25 (bz 13 29) HT_ ?_
     refine tk 1 22 (bz 13 31) HT_ HW_ hHeld ?_
     refine tk 5 26 (bz 13 63) HT_ HW_ hHeld ?_
     refine pk 6 27 (bz 13 127) HT_ ?_
     refine one_ (i := 7) (N := some 28) (bz 13 255) rfl rfl (one_of HT_.out (by kernel_rfl)) (by decide) (fun K hK => ?_)
     refine goes_ Try.func76 (by kernel_rfl) rfl #[.int .u64 a0_0,.int .u64 (IntKind.u64.wrap (rd t570 x7_1))] (by rfl) rfl rfl (by (try simp only [List.map_toArray,List.map_cons,List.map_nil]);first|done|rfl|(simp only [List.length_drop,List.length_take];rfl)) ?_
     with_reducible refine (privityref01_Inverse.calls k1 a0_0 (IntKind.u64.wrap (rd t570 x7_1)) t574 t575 _ A11.out).mono ?_
     rintro e w' ⟨rfl,⟨nd,rfl⟩⟩
     refine ⟨_,rfl,?_⟩
     refine hK.out _ _ ⟨(blk_cell BK566.out 0).trans rfl,(blk_cell BK566.out 1).trans rfl,(blk_cell BK566.out 2).trans rfl,hHeld.2.2.2⟩ (fun hHeld => ?_)
     clear hK K
     refine nm 28 ?_
     refine pk 8 20 (bz 13 511) HT_ ?_
     refine pk 9 29 (bz 13 1023) HT_ ?_
     refine pk 10 30 (bz 13 2047) HT_ ?_
     refine pk 11 8 (bz 13 4095) HT_ ?_
     refine pk 12 9 (bz 13 8191) HT_ ?_
     refine done_ (done_of HT_.out (by kernel_rfl)) ?_
     try go_wp2
     (try (rw [drewN_self w15];generalize hq_ : World.drewN w15 _ = w15;have n0_ : Aside0 (Kd.R (Kd.int .u64) 22 w15 w.heap.size (fun _ => True) u5 x5_1) := ⟨by rw [← hq_];exact (rr HO_5)⟩;have n1_ : Aside0 (Kd.R (Kd.int .i64) 3 w15 w.heap.size (fun _ => True) (.slice (some ad573) t570.length co14) t570) := ⟨by rw [← hq_];exact (rr HO_6)⟩;have n2_ : Aside0 (w15.heap[gb566]? = some (.cells #[.int .u64 a0_0,.int .i64 a0_1,.int .i64 a0_2] 24 (0,0))) := ⟨by rw [← hq_];exact (by (with_reducible repeat (first|refine blk_drewN ?_ _|refine blk_drew ?_|refine blk_alloc ?_ _));exact BK566.out)⟩;have n3_ : Aside0 (Below w.heap.size w w15) := ⟨by rw [← hq_];exact (bg HB GE566)⟩;clear HO_5 HO_6 BK566 HB hq_;have HO_5 := n0_;have HO_6 := n1_;have BK566 := n2_;have HB := n3_;clear n0_ n1_ n2_ n3_))
     have n0_ := Aside0.mk (Kd.R_drew HO_5.out)
     have n1_ := Aside0.mk (Kd.R_drew HO_6.out)
     have n2_ := Aside0.mk (blk_drew BK566.out)
     have n3_ := Aside0.mk (below_drew1 HB.out)
     clear HO_5
     clear HO_6
     clear BK566
     clear HB
     have HO_5 := n0_
     have HO_6 := n1_
     have BK566 := n2_
     have HB := n3_
     clear n0_ n1_ n2_ n3_
     refine start_ (n := 10) (S := fun w' => w'.cell? ⟨gb566,0,none⟩ = some (.int .u64 a0_0) ∧ w'.cell? ⟨gb566,1,none⟩ = some (.int .i64 a0_1) ∧ w'.cell? ⟨gb566,2,none⟩ = some (.int .i64 a0_2)) (ds := []) (bz 10 0) (by kernel_rfl) rfl rfl ⟨(blk_cell BK566.out 0).trans rfl,(blk_cell BK566.out 1).trans rfl,(blk_cell BK566.out 2).trans rfl⟩ (fun hHeld => ?_);refine with_tabW privityref12_VanishingPolynomial.tab7 privityref12_VanishingPolynomial.bits7 (fun HT_ HW_ => ?_)
     generalize w15.drew = w16 at HO_5 HO_6 BK566 HB hHeld ⊢
     refine pk 0 31 (bz 10 1) HT_ ?_
     refine pk 2 33 (bz 10 5) HT_ ?_
     refine pk 3 34 (bz 10 13) HT_ ?_
     refine pk 5 36 (bz 10 45) HT_ ?_
     refine tk 1 32 (bz 10 47) HT_ HW_ hHeld ?_
     refine tk 4 35 (bz 10 63) HT_ HW_ hHeld ?_
     refine one_ (i := 6) (N := some 37) (bz 10 127) rfl rfl (one_of HT_.out (by kernel_rfl)) (by decide) (fun K hK => ?_)
     refine goes_ Try.func78 (by kernel_rfl) rfl #[.int .u64 a0_0,.int .u64 t574] (by rfl) rfl rfl (by (try simp only [List.map_toArray,List.map_cons,List.map_nil]);first|done|rfl|(simp only [List.length_drop,List.length_take];rfl)) ?_
     with_reducible refine (privityref01_Neg.calls a0_0 t574 t576 _ A12.out).mono ?_
     rintro e w' ⟨rfl,⟨nd,rfl⟩⟩
     refine ⟨_,rfl,?_⟩
     refine hK.out _ _ ⟨(blk_cell BK566.out 0).trans rfl,(blk_cell BK566.out 1).trans rfl,(blk_cell BK566.out 2).trans rfl⟩ (fun hHeld => ?_)
     clear hK K
     refine nm 37 ?_
     refine one_ (i := 7) (N := some 38) (bz 10 255) rfl rfl (one_of HT_.out (by kernel_rfl)) (by decide) (fun K hK => ?_)
     refine Kd.R_lit_step (Kd.int .u64) _ 22 ?hg (N := 38) ?hd (xs := ([1,t576] : List Int)) (inner := [.int .u64 1,.int .u64 t576]) (ok := fun _ => True) (okp := fun _ => True) ?hr ?hp (fun _ hk => hk) trivial (Below.refl _ _) (Nat.le_refl _) (by simp) ?_;(case hd => rfl);(case hg => rfl);(case hr => first|(go_simp;done)|(go_simp;rfl));(case hp => exact (Reps.one (show Kd.M (Kd.int .u64) _ _ _ 1 [.int .u64 1] from rfl) (Reps.one (show Kd.M (Kd.int .u64) _ _ _ t576 [.int .u64 t576] from rfl) (Reps.none _ _))))
     intro v578 w17 ho18 hb hg_ hnew_
     clear hg_ hnew_
     (first|rw [← Ny577.out] at ho18|(simp only [Int.reduceToNat] at ho18;rw [← Ny577.out] at ho18))
     have n0_ := Aside0.mk (Kd.R_elder' (rr HO_5) (Kd.R_base ho18) hb)
     have n1_ := Aside0.mk (Kd.R_below (rr HO_6) hb)
     have n2_ := Aside0.mk (Kd.R_lower (Kd.R_new' ho18 (Kd.R_lt (rr HO_5))) (below_size (bg HB GE566)))
     have n3_ := Aside0.mk (kb BK566 hb)
     have n4_ := Aside0.mk (below_step (bg HB GE566) hb)
     clear HO_5
     clear HO_6
     clear BK566
     clear HB
     have HO_5 := n0_
     have HO_6 := n1_
     have HO579 := n2_
     have BK566 := n3_
     have HB := n4_
     clear n0_ n1_ n2_ n3_ n4_
     clear hb ho18
     obtain ⟨Ao19,co19,eo19⟩ := Kd.R_slice HO_5.out
     (first|subst eo19|(injection eo19 with f1_ f2_ f3_;have f4_ := f1_.symm;have f5_ := f3_.symm;clear f1_ f2_ f3_;subst f4_;subst f5_))
     obtain ⟨Ao20,co20,eo20⟩ := Kd.R_slice HO579.out
     (first|subst eo20|(injection eo20 with f1_ f2_ f3_;have f4_ := f1_.symm;have f5_ := f3_.symm;clear f1_ f2_ f3_;subst f4_;subst f5_))
     refine hK.out _ _ ⟨(blk_cell BK566.out 0).trans rfl,(blk_cell BK566.out 1).trans rfl,(blk_cell BK566.out 2).trans rfl⟩ (fun hHeld => ?_)
     clear hK K
     refine nm 38 ?_
     refine one_ (i := 8) (N := some 39) (bz 10 511) rfl rfl (one_of HT_.out (by kernel_rfl)) (by decide) (fun K hK => ?_)
     refine goes_ Try.func77 (by kernel_rfl) rfl #[.int .u64 a0_0,.slice Ao19 x5_1.length co19,.slice Ao20 y577.length co20] (by rfl) rfl rfl (by (try simp only [List.map_toArray,List.map_cons,List.map_nil]);first|done|rfl|(simp only [List.length_drop,List.length_take];rfl)) ?_
     with_reducible refine (privityref04_Mul.calls k1 a0_0 _ _ x5_1 _ _ y577 t580 _ ?side1 ?side2 ?side3 ?side4 A13.out).mono ?_
     (case side1 => exact cr HO_5)
     (case side2 => exact (Kd.R_reads' HO_5.out).2.1)
     (case side3 => exact cr HO579)
     (case side4 => exact (Kd.R_reads' HO579.out).2.1)
     rintro e w21 ⟨v581,rfl,ho0,hb⟩
     refine ⟨_,rfl,?_⟩
     have n0_ := Aside0.mk (Kd.R_elder' (rr HO_5) (Kd.R_base ho0) hb)
     have n1_ := Aside0.mk (Kd.R_below (rr HO_6) hb)
     have n2_ := Aside0.mk (Kd.R_elder' (rr HO579) (Kd.R_base ho0) hb)
     have n3_ := Aside0.mk (Kd.R_lower (Kd.R_new' (Kd.R_new' ho0 (Kd.R_lt (rr HO_5))) (Kd.R_lt (rr HO579))) (below_size (bg HB GE566)))
     have n4_ := Aside0.mk (kb BK566 hb)
     have n5_ := Aside0.mk (below_step (bg HB GE566) hb)
     clear HO_5
     clear HO_6
     clear HO579
     clear BK566
     clear HB
     have HO_5 := n0_
     have HO_6 := n1_
     have HO579 := n2_
     have HO582 := n3_
     have BK566 := n4_
     have HB := n5_
     clear n0_ n1_ n2_ n3_ n4_ n5_
     (try clear hb)
     (try clear hb2)
     (try clear hk)
     (try clear hi)
     (try clear ho0)
     refine hK.out _ _ ⟨(blk_cell BK566.out 0).trans rfl,(blk_cell BK566.out 1).trans rfl,(blk_cell BK566.out 2).trans rfl⟩ (fun hHeld => ?_)
     clear hK K
     refine nm 39 ?_
     refine pk 9 5 (bz 10 1023) HT_ ?_
     refine done_ (done_of HT_.out (by kernel_rfl)) ?_
     try go_wp2
     go_roundg k1
     case measure => have := HK1.out;omega
     case rel => exact ⟨(t580),(wrap64 (x7_1 + 1)),(by first|rfl|(simp;done)|(simp [*];done)),H',⟨by have := HK1.out;omega⟩,⟨by (with_reducible repeat (first|apply Kd.R_alloc|apply Kd.R_drewN|apply Kd.R_drew));exact Kd.R_mono HO582.out (fun _ hk => trivial)⟩,⟨by (with_reducible repeat (first|apply Kd.R_alloc|apply Kd.R_drewN|apply Kd.R_drew));exact HO_6.out⟩,⟨by (with_reducible repeat (first|refine blk_drewN ?_ _|refine blk_drew ?_|refine blk_alloc ?_ _));exact BK566.out⟩,⟨by repeat (first|(with_reducible first|exact HB.out|apply below_alloc|apply pw_below_drewN|apply below_drew1|refine below_set ?_ GE566.out)|exact HB.out)⟩⟩
    ·rw [if_neg c10] at H
     exact absurd H (by simp)
   ·rw [if_neg c9] at H
    have c9b0 : decide (x7_1 < (t570.length : Int)) = false := decide_eq_false c9
    clear c9
    obtain rfl := Option.some.inj H
    obtain ⟨Ao22,co22,eo22⟩ := Kd.R_slice HO_6.out
    subst eo22
    go_wp2
    go_ret
    exact ⟨_,by first|rfl|(simp [errW_none,errW_some] <;> rfl)|(simp [*,errW_none,errW_some] <;> rfl),by (with_reducible repeat (first|apply Kd.R_alloc|apply Kd.R_drewN|apply Kd.R_drew));exact HO_5.out,by repeat (first|(with_reducible first|exact HB.out|apply below_alloc|apply pw_below_drewN|apply below_drew1|refine below_set ?_ GE566.out)|exact HB.out)⟩
def privityref43_Sharing.f (k : Nat) (a0_0 : Int) (a0_1 : Int) (a0_2 : Int) (l1 : List Int) (a2 : Int) (l3 : List Int) (l4 : List Int) : Option (List Int × List Int) := (privityref12_VanishingPolynomial.f k a0_0 a0_1 a0_2 l1).bind fun t584 => ((privityref43_moved.f k a0_0 t584 a2 l3 l4).bind fun bt587 => (some (bt587.1,bt587.2)))
def privityref43_Sharing.T1 : Bool × List (List Nat × List Nat) := (true,[([],[]),([0],[0]),([],[]),([],[]),([2,3],[2,3]),([],[]),([],[]),([],[]),([1,4,5,6,7,4],[1,4,5,6,7]),([8],[8]),([8],[8]),([9,8,0,1,2,3,4,5,6,7,8,9,10],[9]),([10,11,0,1,2,3,4,5,6,7,8,9,10,11],[10])])
def privityref43_Sharing.B1 : List Nat := [0,1,0,0,12,0,0,0,255,511,511,2047,4095]
theorem privityref43_Sharing.tab1 : rtab .any (opsOf Try.f23 1) = privityref43_Sharing.T1 := by kernel_rfl
theorem privityref43_Sharing.bits1 : waitsOk privityref43_Sharing.T1.2 privityref43_Sharing.B1 = true := by kernel_rfl
set_option maxHeartbeats 8000000 in
set_option maxRecDepth 100000 in
theorem privityref43_Sharing.calls (k : Nat) (a0_0 : Int) (a0_1 : Int) (a0_2 : Int) (A1 : Option Addr) (c1 : Nat) (l1 : List Int) (a2 : Int) (A3 : Option Addr) (c3 : Nat) (l3 : List Int) (A4 : Option Addr) (c4 : Nat) (l4 : List Int) (r1 : List Int) (r2 : List Int) (w : World) (hr1 : Kd.C (Kd.int .i64) w A1 l1.length l1) (hc1 : l1.length ≤ c1) (hr3 : Kd.C (Kd.int .u64) w A3 l3.length l3) (hc3 : l3.length ≤ c3) (hr4 : Kd.C (Kd.int .u64) w A4 l4.length l4) (hc4 : l4.length ≤ c4) (h : privityref43_Sharing.f k a0_0 a0_1 a0_2 l1 a2 l3 l4 = some (r1,r2)) :
  Calls Try.prog 23 #[.agg #[.int .u64 a0_0,.int .i64 a0_1,.int .i64 a0_2],.slice A1 l1.length c1,.int .u64 a2,.slice A3 l3.length c3,.slice A4 l4.length c4] w fun e w' => ∃ v0_ v1_ : Value,e = .returned (.tuple #[v0_,v1_]) ∧ Kd.R (Kd.int .u64) 22 w' w.heap.size (fun k_ => some k_ ≠ (v1_ : Value).ownBlock) v0_ r1 ∧ Kd.R (Kd.int .u64) 22 w' w.heap.size (fun k_ => some k_ ≠ (v0_ : Value).ownBlock) v1_ r2 ∧ Below w.heap.size w w' := by
 have hu24 := Try.underlying24
 have HR1 := Aside0.mk hr1
 have HC1 := Aside0.mk hc1
 clear hr1 hc1
 have HR3 := Aside0.mk hr3
 have HC3 := Aside0.mk hc3
 clear hr3 hc3
 have HR4 := Aside0.mk hr4
 have HC4 := Aside0.mk hc4
 clear hr4 hc4
 have HB := Aside0.mk (Below.refl w.heap.size w)
 have H : ((privityref12_VanishingPolynomial.f k a0_0 a0_1 a0_2 l1).bind fun t584 => ((privityref43_moved.f k a0_0 t584 a2 l3 l4).bind fun bt587 => (some (bt587.1,bt587.2)))) = some (r1,r2) := h
 clear h
 replace H := Option.bind_eq_some_iff.mp H
 obtain ⟨t584,A60,H⟩ := H
 try dsimp only at H
 have A6 := Aside0.mk A60
 clear A60
 replace H := Option.bind_eq_some_iff.mp H
 obtain ⟨⟨t587,t588⟩,A70,H⟩ := H
 try dsimp only at H
 have A7 := Aside0.mk A70
 clear A70
 simp only [Option.some.injEq,Prod.mk.injEq] at H
 obtain ⟨rfl,rfl⟩ := H
 go_enter Try.func23,Try.ntmps23
 try go_wp2_with (first|((with_reducible refine gate_dst (N := 5) rfl ?_);refine box_event ?hg (N := 5) ?hd (cs := #[.int .u64 a0_0,.int .i64 a0_1,.int .i64 a0_2]) (t := 24) ?hr ?_;(case hd => rfl);(case hg => rfl);(case hr => first|(go_simp;done)|(go_simp;rfl));intro gb583 hg w8 hbox hb;have n0_ := Aside0.mk (below_step (bb HB) hb);have n1_ := Aside0.mk (hbox);have n2_ := Aside0.mk ((by rw [hg];exact (below_size (bb HB)) : w.heap.size ≤ gb583));have n3_ := Aside0.mk ((by rw [hg];exact (below_size (bb HB)) : w.heap.size ≤ gb583));clear HB;have HB := n0_;have BK583 := n1_;have GW583 := n2_;have GE583 := n3_;clear n0_ n1_ n2_ n3_;clear hb hbox hg))
 have n0_ := Aside0.mk (blk_drew BK583.out)
 have n1_ := Aside0.mk (below_drew1 HB.out)
 clear BK583
 clear HB
 have BK583 := n0_
 have HB := n1_
 clear n0_ n1_
 refine start_ (n := 13) (S := fun w' => w'.cell? ⟨gb583,0,none⟩ = some (.int .u64 a0_0) ∧ w'.cell? ⟨gb583,1,none⟩ = some (.int .i64 a0_1) ∧ w'.cell? ⟨gb583,2,none⟩ = some (.int .i64 a0_2)) (ds := []) (bz 13 0) (by kernel_rfl) rfl rfl ⟨(blk_cell BK583.out 0).trans rfl,(blk_cell BK583.out 1).trans rfl,(blk_cell BK583.out 2).trans rfl⟩ (fun hHeld => ?_);refine with_tabW privityref43_Sharing.tab1 privityref43_Sharing.bits1 (fun HT_ HW_ => ?_)
 generalize w8.drew = w9 at BK583 HB hHeld ⊢
 refine pk 0 12 (bz 13 1) HT_ ?_
 refine pk 3 15 (bz 13 9) HT_ ?_
 refine pk 5 17 (bz 13 41) HT_ ?_
 refine pk 6 18 (bz 13 105) HT_ ?_
 refine pk 7 19 (bz 13 233) HT_ ?_
 refine tk 1 13 (bz 13 235) HT_ HW_ hHeld ?_
 refine tk 2 14 (bz 13 239) HT_ HW_ hHeld ?_
 refine one_ (i := 4) (N := some 16) (bz 13 255) rfl rfl (one_of HT_.out (by kernel_rfl)) (by decide) (fun K hK => ?_)
 refine goes_ Try.func49 (by kernel_rfl) rfl #[.agg #[.int .u64 a0_0,.int .i64 a0_1,.int .i64 a0_2],.slice A1 l1.length c1] (by rfl) rfl rfl (by (try simp only [List.map_toArray,List.map_cons,List.map_nil]);first|done|rfl|(simp only [List.length_drop,List.length_take];rfl)) ?_
 with_reducible refine (privityref12_VanishingPolynomial.calls k a0_0 a0_1 a0_2 _ _ l1 t584 _ ?side1 ?side2 A6.out).mono ?_
 (case side1 => exact cb HR1 HB)
 (case side2 => exact HC1.out)
 rintro e w10 ⟨v585,rfl,ho0,hb⟩
 refine ⟨_,rfl,?_⟩
 have n0_ := Aside0.mk (Kd.R_lower ho0 (below_size (bg HB GE583)))
 have n1_ := Aside0.mk (kb BK583 hb)
 have n2_ := Aside0.mk (below_step (bg HB GE583) hb)
 clear BK583
 clear HB
 have HO586 := n0_
 have BK583 := n1_
 have HB := n2_
 clear n0_ n1_ n2_
 (try clear hb)
 (try clear hb2)
 (try clear hk)
 (try clear hi)
 (try clear ho0)
 obtain ⟨Ao11,co11,eo11⟩ := Kd.R_slice HO586.out
 (first|subst eo11|(injection eo11 with f1_ f2_ f3_;have f4_ := f1_.symm;have f5_ := f3_.symm;clear f1_ f2_ f3_;subst f4_;subst f5_))
 refine hK.out _ _ ⟨(blk_cell BK583.out 0).trans rfl,(blk_cell BK583.out 1).trans rfl,(blk_cell BK583.out 2).trans rfl⟩ (fun hHeld => ?_)
 clear hK K
 refine nm 16 ?_
 refine one_ (i := 8) (N := some 20) (bz 13 511) rfl rfl (one_of HT_.out (by kernel_rfl)) (by decide) (fun K hK => ?_)
 refine goes_ Try.func48 (by kernel_rfl) rfl #[.int .u64 a0_0,.slice Ao11 t584.length co11,.int .u64 a2,.slice A3 l3.length c3,.slice A4 l4.length c4] (by rfl) rfl rfl (by (try simp only [List.map_toArray,List.map_cons,List.map_nil]);first|done|rfl|(simp only [List.length_drop,List.length_take];rfl)) ?_
 with_reducible refine (privityref43_moved.calls k a0_0 _ _ t584 a2 _ _ l3 _ _ l4 t587 t588 _ ?side1 ?side2 ?side3 ?side4 ?side5 ?side6 A7.out).mono ?_
 (case side1 => exact cr HO586)
 (case side2 => exact (Kd.R_reads' HO586.out).2.1)
 (case side3 => exact cb HR3 HB)
 (case side4 => exact HC3.out)
 (case side5 => exact cb HR4 HB)
 (case side6 => exact HC4.out)
 rintro e w12 ⟨v589,v591,rfl,ho0,ho1,hb⟩
 refine ⟨_,rfl,?_⟩
 have n0_ := Aside0.mk (Kd.R_mono (Kd.R_told (Kd.R_told (Kd.R_old (rr HO586) hb) (Kd.R_base ho0)) (Kd.R_base ho1)) (fun _ h_ => h_.1))
 have n1_ := Aside0.mk (Kd.R_lower (Kd.R_new' ho0 (Kd.R_lt (rr HO586))) (below_size (bg HB GE583)))
 have n2_ := Aside0.mk (Kd.R_lower (Kd.R_new' ho1 (Kd.R_lt (rr HO586))) (below_size (bg HB GE583)))
 have n3_ := Aside0.mk (kb BK583 hb)
 have n4_ := Aside0.mk (below_step (bg HB GE583) hb)
 clear HO586
 clear BK583
 clear HB
 have HO586 := n0_
 have HO590 := n1_
 have HO592 := n2_
 have BK583 := n3_
 have HB := n4_
 clear n0_ n1_ n2_ n3_ n4_
 (try clear hb)
 (try clear hb2)
 (try clear hk)
 (try clear hi)
 (try clear ho0)
 (try clear ho1)
 refine hK.out _ _ ⟨(blk_cell BK583.out 0).trans rfl,(blk_cell BK583.out 1).trans rfl,(blk_cell BK583.out 2).trans rfl⟩ (fun hHeld => ?_)
 clear hK K
 refine nm 20 ?_
 refine pk 9 21 (bz 13 1023) HT_ ?_
 refine pk 10 22 (bz 13 2047) HT_ ?_
 refine pk 11 10 (bz 13 4095) HT_ ?_
 refine pk 12 11 (bz 13 8191) HT_ ?_
 refine done_ (done_of HT_.out (by kernel_rfl)) ?_
 try go_wp2
 go_ret2
 exact ⟨_,_,by first|rfl|(simp [errW_none,errW_some] <;> rfl)|(simp [*,errW_none,errW_some] <;> rfl),by (with_reducible repeat (first|apply Kd.R_alloc|apply Kd.R_drewN|apply Kd.R_drew));exact Kd.R_mono HO590.out (fun _ hk => hk.1),by (with_reducible repeat (first|apply Kd.R_alloc|apply Kd.R_drewN|apply Kd.R_drew));exact Kd.R_mono HO592.out (fun _ hk => hk.1),by repeat (first|(with_reducible first|exact HB.out|apply below_alloc|apply pw_below_drewN|apply below_drew1|refine below_set ?_ GE583.out)|exact HB.out)⟩
def privitylaw43_triple.f (k : Nat) (a0_0 : Int) (a0_1 : Int) (a0_2 : Int) (l0_3 : List Int) (a0_4 : Int) (a0_5 : Int) (l0_6 : List Int) : Option (List Int × List Int) := (privitylaw43_cut.f k a0_0 a0_1 a0_2 l0_3 a0_4 a0_5 l0_6 0 (wrap64 ((wrap64 (2 * (wrap64 (a0_2 + 1)))) + (wrap64 (a0_2 * a0_2))))).bind fun t594 => ((privitylaw43_cut.f k a0_0 a0_1 a0_2 l0_3 a0_4 a0_5 l0_6 (wrap64 ((wrap64 (2 * (wrap64 (a0_2 + 1)))) + (wrap64 (a0_2 * a0_2)))) (wrap64 (Int.tdiv (wrap64 ((wrap64 ((wrap64 (a0_2 + 3)) * a0_2)) * (wrap64 (a0_2 + 1)))) 2))).bind fun t597 => (some (t594,t597)))
def privitylaw43_triple.T3 : Bool × List (List Nat × List Nat) := (true,[([],[]),([],[]),([0,1],[0,1]),([],[]),([],[]),([],[]),([5],[5]),([],[]),([6,7],[6,7]),([],[]),([9],[9]),([8,10],[8,10]),([11],[11]),([3,4,12,2],[3,4,12]),([2,13,0,1,2],[2]),([13,14,0,1,2,3,4,5,6,7,8,9,10,11,12,13,14],[13])])
def privitylaw43_triple.B3 : List Nat := [0,0,3,0,0,0,32,0,224,0,512,2016,4064,8191,16383,32767]
theorem privitylaw43_triple.tab3 : rtab .any (opsOf Try.f24 3) = privitylaw43_triple.T3 := by kernel_rfl
theorem privitylaw43_triple.bits3 : waitsOk privitylaw43_triple.T3.2 privitylaw43_triple.B3 = true := by kernel_rfl
set_option maxHeartbeats 8000000 in
set_option maxRecDepth 100000 in
theorem privitylaw43_triple.calls (k : Nat) (a0_0 : Int) (a0_1 : Int) (a0_2 : Int) (A0_3 : Option Addr) (c0_3 : Nat) (l0_3 : List Int) (a0_4 : Int) (a0_5 : Int) (A0_6 : Option Addr) (c0_6 : Nat) (l0_6 : List Int) (r1 : List Int) (r2 : List Int) (w : World) (hr0_3 : Kd.C (Kd.int .i64) w A0_3 l0_3.length l0_3) (hc0_3 : l0_3.length ≤ c0_3) (hr0_6 : Kd.C (Kd.int .u64) w A0_6 l0_6.length l0_6) (hc0_6 : l0_6.length ≤ c0_6) (h : privitylaw43_triple.f k a0_0 a0_1 a0_2 l0_3 a0_4 a0_5 l0_6 = some (r1,r2)) :
  Calls Try.prog 24 #[.agg #[.int .u64 a0_0,.int .i64 a0_1,.int .i64 a0_2,.slice A0_3 l0_3.length c0_3,.int .u64 a0_4,.int .u64 a0_5,.slice A0_6 l0_6.length c0_6]] w fun e w' => ∃ v0_ v1_ : Value,e = .returned (.tuple #[v0_,v1_]) ∧ Kd.R (Kd.int .u64) 22 w' w.heap.size (fun k_ => some k_ ≠ (v1_ : Value).ownBlock) v0_ r1 ∧ Kd.R (Kd.int .u64) 22 w' w.heap.size (fun k_ => some k_ ≠ (v0_ : Value).ownBlock) v1_ r2 ∧ Below w.heap.size w w' := by
 have hu28 := Try.underlying28
 have HR0_3 := Aside0.mk hr0_3
 have HC0_3 := Aside0.mk hc0_3
 clear hr0_3 hc0_3
 have HR0_6 := Aside0.mk hr0_6
 have HC0_6 := Aside0.mk hc0_6
 clear hr0_6 hc0_6
 have HB := Aside0.mk (Below.refl w.heap.size w)
 have H : ((privitylaw43_cut.f k a0_0 a0_1 a0_2 l0_3 a0_4 a0_5 l0_6 0 (wrap64 ((wrap64 (2 * (wrap64 (a0_2 + 1)))) + (wrap64 (a0_2 * a0_2))))).bind fun t594 => ((privitylaw43_cut.f k a0_0 a0_1 a0_2 l0_3 a0_4 a0_5 l0_6 (wrap64 ((wrap64 (2 * (wrap64 (a0_2 + 1)))) + (wrap64 (a0_2 * a0_2)))) (wrap64 (Int.tdiv (wrap64 ((wrap64 ((wrap64 (a0_2 + 3)) * a0_2)) * (wrap64 (a0_2 + 1)))) 2))).bind fun t597 => (some (t594,t597)))) = some (r1,r2) := h
 clear h
 replace H := Option.bind_eq_some_iff.mp H
 obtain ⟨t594,A20,H⟩ := H
 try dsimp only at H
 have A2 := Aside0.mk A20
 clear A20
 replace H := Option.bind_eq_some_iff.mp H
 obtain ⟨t597,A30,H⟩ := H
 try dsimp only at H
 have A3 := Aside0.mk A30
 clear A30
 simp only [Option.some.injEq,Prod.mk.injEq] at H
 obtain ⟨rfl,rfl⟩ := H
 go_enter Try.func24,Try.ntmps24
 try go_wp2_with (first|((with_reducible refine gate_dst (N := 1) rfl ?_);refine box_event ?hg (N := 1) ?hd (cs := #[.int .u64 a0_0,.int .i64 a0_1,.int .i64 a0_2,.slice A0_3 l0_3.length c0_3,.int .u64 a0_4,.int .u64 a0_5,.slice A0_6 l0_6.length c0_6]) (t := 28) ?hr ?_;(case hd => rfl);(case hg => rfl);(case hr => first|(go_simp;done)|(go_simp;rfl));intro gb593 hg w4 hbox hb;have n0_ := Aside0.mk (below_step (bb HB) hb);have n1_ := Aside0.mk (hbox);have n2_ := Aside0.mk ((by rw [hg];exact (below_size (bb HB)) : w.heap.size ≤ gb593));have n3_ := Aside0.mk ((by rw [hg];exact (below_size (bb HB)) : w.heap.size ≤ gb593));clear HB;have HB := n0_;have BK593 := n1_;have GW593 := n2_;have GE593 := n3_;clear n0_ n1_ n2_ n3_;clear hb hbox hg;have hcz5_0 := bc BK593 0;have hcz5_1 := bc BK593 1;have hcz5_2 := bc BK593 2;have hcz5_3 := bc BK593 3;have hcz5_4 := bc BK593 4;have hcz5_5 := bc BK593 5;have hcz5_6 := bc BK593 6;have hfz5_0 := blk_frozen BK593.out 0;have hfz5_1 := blk_frozen BK593.out 1;have hfz5_2 := blk_frozen BK593.out 2;have hfz5_3 := blk_frozen BK593.out 3;have hfz5_4 := blk_frozen BK593.out 4;have hfz5_5 := blk_frozen BK593.out 5;have hfz5_6 := blk_frozen BK593.out 6))
 have n0_ := Aside0.mk (blk_drew BK593.out)
 have n1_ := Aside0.mk (below_drew1 HB.out)
 clear BK593
 clear HB
 have BK593 := n0_
 have HB := n1_
 clear n0_ n1_
 refine start_ (n := 16) (S := fun w' => w'.cell? ⟨gb593,0,none⟩ = some (.int .u64 a0_0) ∧ w'.cell? ⟨gb593,1,none⟩ = some (.int .i64 a0_1) ∧ w'.cell? ⟨gb593,2,none⟩ = some (.int .i64 a0_2) ∧ w'.cell? ⟨gb593,3,none⟩ = some (.slice A0_3 l0_3.length c0_3) ∧ w'.cell? ⟨gb593,4,none⟩ = some (.int .u64 a0_4) ∧ w'.cell? ⟨gb593,5,none⟩ = some (.int .u64 a0_5) ∧ w'.cell? ⟨gb593,6,none⟩ = some (.slice A0_6 l0_6.length c0_6)) (ds := []) (bz 16 0) (by kernel_rfl) rfl rfl ⟨(blk_cell BK593.out 0).trans rfl,(blk_cell BK593.out 1).trans rfl,(blk_cell BK593.out 2).trans rfl,(blk_cell BK593.out 3).trans rfl,(blk_cell BK593.out 4).trans rfl,(blk_cell BK593.out 5).trans rfl,(blk_cell BK593.out 6).trans rfl⟩ (fun hHeld => ?_);refine with_tabW privitylaw43_triple.tab3 privitylaw43_triple.bits3 (fun HT_ HW_ => ?_)
 generalize w4.drew = w6 at BK593 HB hHeld ⊢
 refine pk 1 17 (bz 16 2) HT_ ?_
 refine pk 4 20 (bz 16 18) HT_ ?_
 refine pk 5 21 (bz 16 50) HT_ ?_
 refine pk 6 22 (bz 16 114) HT_ ?_
 refine pk 7 23 (bz 16 242) HT_ ?_
 refine pk 8 24 (bz 16 498) HT_ ?_
 refine pk 9 25 (bz 16 1010) HT_ ?_
 refine pk 10 26 (bz 16 2034) HT_ ?_
 refine pk 11 27 (bz 16 4082) HT_ ?_
 refine pk 12 28 (bz 16 8178) HT_ ?_
 refine tk 0 16 (bz 16 8179) HT_ HW_ hHeld ?_
 refine tk 3 19 (bz 16 8187) HT_ HW_ hHeld ?_
 refine one_ (i := 2) (N := some 18) (bz 16 8191) rfl rfl (one_of HT_.out (by kernel_rfl)) (by decide) (fun K hK => ?_)
 refine goes_ Try.func42 (by kernel_rfl) rfl #[.agg #[.int .u64 a0_0,.int .i64 a0_1,.int .i64 a0_2,.slice A0_3 l0_3.length c0_3,.int .u64 a0_4,.int .u64 a0_5,.slice A0_6 l0_6.length c0_6],.int .i64 0,.int .i64 (wrap64 ((wrap64 (2 * (wrap64 (a0_2 + 1)))) + (wrap64 (a0_2 * a0_2))))] (by rfl) rfl rfl (by (try simp only [List.map_toArray,List.map_cons,List.map_nil]);first|done|rfl|(simp only [List.length_drop,List.length_take];rfl)) ?_
 with_reducible refine (privitylaw43_cut.calls k a0_0 a0_1 a0_2 _ _ l0_3 a0_4 a0_5 _ _ l0_6 0 (wrap64 ((wrap64 (2 * (wrap64 (a0_2 + 1)))) + (wrap64 (a0_2 * a0_2)))) t594 _ ?side1 ?side2 ?side3 ?side4 A2.out).mono ?_
 (case side1 => exact cb HR0_3 HB)
 (case side2 => exact HC0_3.out)
 (case side3 => exact cb HR0_6 HB)
 (case side4 => exact HC0_6.out)
 rintro e w7 ⟨v595,rfl,ho0,hb⟩
 refine ⟨_,rfl,?_⟩
 have n0_ := Aside0.mk (Kd.R_lower ho0 (below_size (bg HB GE593)))
 have n1_ := Aside0.mk (kb BK593 hb)
 have n2_ := Aside0.mk (below_step (bg HB GE593) hb)
 clear BK593
 clear HB
 have HO596 := n0_
 have BK593 := n1_
 have HB := n2_
 clear n0_ n1_ n2_
 (try clear hb)
 (try clear hb2)
 (try clear hk)
 (try clear hi)
 (try clear ho0)
 refine hK.out _ _ ⟨(blk_cell BK593.out 0).trans rfl,(blk_cell BK593.out 1).trans rfl,(blk_cell BK593.out 2).trans rfl,(blk_cell BK593.out 3).trans rfl,(blk_cell BK593.out 4).trans rfl,(blk_cell BK593.out 5).trans rfl,(blk_cell BK593.out 6).trans rfl⟩ (fun hHeld => ?_)
 clear hK K
 refine nm 18 ?_
 refine one_ (i := 13) (N := some 29) (bz 16 16383) rfl rfl (one_of HT_.out (by kernel_rfl)) (by decide) (fun K hK => ?_)
 refine goes_ Try.func42 (by kernel_rfl) rfl #[.agg #[.int .u64 a0_0,.int .i64 a0_1,.int .i64 a0_2,.slice A0_3 l0_3.length c0_3,.int .u64 a0_4,.int .u64 a0_5,.slice A0_6 l0_6.length c0_6],.int .i64 (wrap64 ((wrap64 (2 * (wrap64 (a0_2 + 1)))) + (wrap64 (a0_2 * a0_2)))),.int .i64 (wrap64 (Int.tdiv (wrap64 ((wrap64 ((wrap64 (a0_2 + 3)) * a0_2)) * (wrap64 (a0_2 + 1)))) 2))] (by rfl) rfl rfl (by (try simp only [List.map_toArray,List.map_cons,List.map_nil]);first|done|rfl|(simp only [List.length_drop,List.length_take];rfl)) ?_
 with_reducible refine (privitylaw43_cut.calls k a0_0 a0_1 a0_2 _ _ l0_3 a0_4 a0_5 _ _ l0_6 (wrap64 ((wrap64 (2 * (wrap64 (a0_2 + 1)))) + (wrap64 (a0_2 * a0_2)))) (wrap64 (Int.tdiv (wrap64 ((wrap64 ((wrap64 (a0_2 + 3)) * a0_2)) * (wrap64 (a0_2 + 1)))) 2)) t597 _ ?side1 ?side2 ?side3 ?side4 A3.out).mono ?_
 (case side1 => exact cb HR0_3 HB)
 (case side2 => exact HC0_3.out)
 (case side3 => exact cb HR0_6 HB)
 (case side4 => exact HC0_6.out)
 rintro e w8 ⟨v598,rfl,ho0,hb⟩
 refine ⟨_,rfl,?_⟩
 have n0_ := Aside0.mk (Kd.R_elder' (rr HO596) (Kd.R_base ho0) hb)
 have n1_ := Aside0.mk (Kd.R_lower (Kd.R_new' ho0 (Kd.R_lt (rr HO596))) (below_size (bg HB GE593)))
 have n2_ := Aside0.mk (kb BK593 hb)
 have n3_ := Aside0.mk (below_step (bg HB GE593) hb)
 clear HO596
 clear BK593
 clear HB
 have HO596 := n0_
 have HO599 := n1_
 have BK593 := n2_
 have HB := n3_
 clear n0_ n1_ n2_ n3_
 (try clear hb)
 (try clear hb2)
 (try clear hk)
 (try clear hi)
 (try clear ho0)
 refine hK.out _ _ ⟨(blk_cell BK593.out 0).trans rfl,(blk_cell BK593.out 1).trans rfl,(blk_cell BK593.out 2).trans rfl,(blk_cell BK593.out 3).trans rfl,(blk_cell BK593.out 4).trans rfl,(blk_cell BK593.out 5).trans rfl,(blk_cell BK593.out 6).trans rfl⟩ (fun hHeld => ?_)
 clear hK K
 refine nm 29 ?_
 refine pk 14 2 (bz 16 32767) HT_ ?_
 refine pk 15 3 (bz 16 65535) HT_ ?_
 refine done_ (done_of HT_.out (by kernel_rfl)) ?_
 try go_wp2
 go_ret2
 exact ⟨_,_,by first|rfl|(simp [errW_none,errW_some] <;> rfl)|(simp [*,errW_none,errW_some] <;> rfl),by (with_reducible repeat (first|apply Kd.R_alloc|apply Kd.R_drewN|apply Kd.R_drew));exact Kd.R_mono HO596.out (fun _ hk => hk.2),by (with_reducible repeat (first|apply Kd.R_alloc|apply Kd.R_drewN|apply Kd.R_drew));exact Kd.R_mono HO599.out (fun _ hk => hk.2),by repeat (first|(with_reducible first|exact HB.out|apply below_alloc|apply pw_below_drewN|apply below_drew1|refine below_set ?_ GE593.out)|exact HB.out)⟩
def privityref04_DivMod.l0 : Nat → Int → List Int → List Int → Int → List Int → Option (List Int × List Int × Int)
 | 0,_,_,_,_,_ => none
 | k + 1,x0,x2,x9,x10,x12 => if (x9.length : Int) ≥ (x2.length : Int) then (if 0 ≤ (wrap64 ((wrap64 ((x9.length : Int) - (x2.length : Int))) + 1)) then (if (wrap64 ((wrap64 ((x9.length : Int) - (x2.length : Int))) + 1) : Int).toNat ≤ 35184372088832 then ((some (List.replicate (wrap64 ((wrap64 ((x9.length : Int) - (x2.length : Int))) + 1) : Int).toNat 0 : List Int)).bind fun y633 => (if 0 ≤ (wrap64 ((x9.length : Int) - 1)) then (if (wrap64 ((x9.length : Int) - 1)) < (x9.length : Int) then ((privityref01_Mul.f k x0 (rd x9 (wrap64 ((x9.length : Int) - 1))) x10).bind fun t637 => (if 0 ≤ (wrap64 ((y633.length : Int) - 1)) then (if (wrap64 ((y633.length : Int) - 1)) < (y633.length : Int) then ((some (y633.set ((wrap64 ((y633.length : Int) - 1)) : Int).toNat t637 : List Int)).bind fun y638 => ((privityref04_Add.f k x0 x12 y638).bind fun t639 => ((privityref04_Mul.f k x0 y638 x2).bind fun t642 => ((privityref04_Sub.f k x0 x9 t642).bind fun t645 => (privityref04_DivMod.l0 k x0 x2 t645 x10 t639))))) else (none)) else (none))) else (none)) else (none))) else (none)) else (none)) else (some (x12,x9,0))
def privityref04_DivMod.f (k : Nat) (a0 : Int) (l1 : List Int) (l2 : List Int) : Option (List Int × List Int × Int) := (privityref04_Trim.f k l2).bind fun t624 => (if (t624.length : Int) = 0 then (some (([] : List Int),([] : List Int),8)) else ((privityref04_Trim.f k l1).bind fun t627 => (if 0 ≤ (wrap64 ((t624.length : Int) - 1)) then (if (wrap64 ((t624.length : Int) - 1)) < (t624.length : Int) then ((privityref01_Inverse.f k a0 (rd t624 (wrap64 ((t624.length : Int) - 1)))).bind fun bt631 => (privityref04_DivMod.l0 k a0 t624 t627 bt631.1 ([] : List Int))) else (none)) else (none))))
set_option maxHeartbeats 8000000 in
set_option maxRecDepth 100000 in
theorem privityref04_DivMod.calls (k : Nat) (a0 : Int) (A1 : Option Addr) (c1 : Nat) (l1 : List Int) (A2 : Option Addr) (c2 : Nat) (l2 : List Int) (r1 : List Int) (r2 : List Int) (r3 : Int) (w : World) (hr1 : Kd.C (Kd.int .u64) w A1 l1.length l1) (hc1 : l1.length ≤ c1) (hr2 : Kd.C (Kd.int .u64) w A2 l2.length l2) (hc2 : l2.length ≤ c2) (h : privityref04_DivMod.f k a0 l1 l2 = some (r1,r2,r3)) :
  Calls Try.prog 87 #[.int .u64 a0,.slice A1 l1.length c1,.slice A2 l2.length c2] w fun e w' => ∃ v0_ v1_ : Value,e = .returned (.tuple #[v0_,v1_,.int .i64 r3]) ∧ Kd.R (Kd.int .u64) 22 w' w.heap.size (fun k_ => some k_ ≠ (v1_ : Value).ownBlock) v0_ r1 ∧ Kd.R (Kd.int .u64) 22 w' w.heap.size (fun k_ => some k_ ≠ (v0_ : Value).ownBlock) v1_ r2 ∧ Below w.heap.size w w' := by
 have HR1 := Aside0.mk hr1
 have HC1 := Aside0.mk hc1
 clear hr1 hc1
 have HR2 := Aside0.mk hr2
 have HC2 := Aside0.mk hc2
 clear hr2 hc2
 have HB := Aside0.mk (Below.refl w.heap.size w)
 have H : ((privityref04_Trim.f k l2).bind fun t624 => (if (t624.length : Int) = 0 then (some (([] : List Int),([] : List Int),8)) else ((privityref04_Trim.f k l1).bind fun t627 => (if 0 ≤ (wrap64 ((t624.length : Int) - 1)) then (if (wrap64 ((t624.length : Int) - 1)) < (t624.length : Int) then ((privityref01_Inverse.f k a0 (rd t624 (wrap64 ((t624.length : Int) - 1)))).bind fun bt631 => (privityref04_DivMod.l0 k a0 t624 t627 bt631.1 ([] : List Int))) else (none)) else (none))))) = some (r1,r2,r3) := h
 clear h
 replace H := Option.bind_eq_some_iff.mp H
 obtain ⟨t624,A40,H⟩ := H
 try dsimp only at H
 have A4 := Aside0.mk A40
 clear A40
 by_cases c5 : (t624.length : Int) = 0
 ·rw [if_pos c5] at H
  have c5b0 : ((t624.length : Int) == 0) = true := beq_iff_eq.mpr c5
  have c5b1 : ((t624.length : Int) != 0) = false := bne_eq_false_iff_eq.mpr c5
  clear c5
  simp only [Option.some.injEq,Prod.mk.injEq] at H
  obtain ⟨rfl,rfl,rfl⟩ := H
  go_enter Try.func87,Try.ntmps87
  go_wp2_with (first|((with_reducible refine gate_callee (f := 89) rfl ?_);refine goesL_ (some 15) rfl rfl Try.func89 (by kernel_rfl) rfl #[.slice A2 l2.length c2] rfl (by (try simp only [List.map_toArray,List.map_cons,List.map_nil]);first|done|rfl|(simp only [List.length_drop,List.length_take];rfl)) ?_;(with_reducible refine (privityref04_Trim.calls k _ _ l2 t624 _ ?side1 ?side2 A4.out).mono ?_);(case side1 => repeat (first|exact HR2.out|(with_reducible refine Kd.C_alloc ?_ _)|(with_reducible refine Kd.C_drewN ?_ _)|(with_reducible refine Kd.C_drew ?_)));(case side2 => exact HC2.out);rintro e w6 ⟨v625,rfl,ho0,hb⟩;refine ⟨_,rfl,?_⟩;have n0_ := Aside0.mk (Kd.R_lower ho0 (below_size (bb HB)));have n1_ := Aside0.mk (below_step (bb HB) hb);clear HB;have HO626 := n0_;have HB := n1_;clear n0_ n1_;(try clear hb);(try clear hb2);(try clear hk);(try clear hi);(try clear ho0);obtain ⟨Ao7,co7,eo7⟩ := Kd.R_slice HO626.out;subst eo7))
  go_ret3
  exact ⟨_,_,by first|rfl|(simp [errW_none,errW_some] <;> rfl)|(simp [*,errW_none,errW_some] <;> rfl),by first|exact Kd.R_nil _ _ _ _ _|exact Kd.N_nil _ _ _ _ _|exact Kd.V_nil _ _ _ _ _|exact Kd.Q_nil _ _ _ _ _|exact Kd.S_nil _ _ _ _ _,by first|exact Kd.R_nil _ _ _ _ _|exact Kd.N_nil _ _ _ _ _|exact Kd.V_nil _ _ _ _ _|exact Kd.Q_nil _ _ _ _ _|exact Kd.S_nil _ _ _ _ _,by repeat (first|(with_reducible first|exact HB.out|apply below_alloc|apply pw_below_drewN|apply below_drew1)|exact HB.out)⟩
 ·rw [if_neg c5] at H
  have c5b0 : ((t624.length : Int) == 0) = false := beq_eq_false_iff_ne.mpr c5
  have c5b1 : ((t624.length : Int) != 0) = true := bne_iff_ne.mpr c5
  have c5b2 : ¬ (t624 = []) := fun h_ => c5 (by rw [h_];rfl)
  replace H := Option.bind_eq_some_iff.mp H
  obtain ⟨t627,A80,H⟩ := H
  try dsimp only at H
  have A8 := Aside0.mk A80
  clear A80
  obtain ⟨ji9,hji9⟩ : ∃ j_ : Int,(wrap64 ((t624.length : Int) - 1)) = j_ := ⟨_,rfl⟩
  first|rw [hji9] at H|simp only [hji9] at H
  (try rw [hji9] at A4)
  (try rw [hji9] at A8)
  have hji9w : (IntKind.i64.wrap ((t624.length : Int) - 1)) = ji9 := (i64_w _).trans hji9
  by_cases c10 : 0 ≤ (ji9)
  ·rw [if_pos c10] at H
   have c10b0 : decide (0 ≤ (ji9)) = true := decide_eq_true c10
   clear c10
   by_cases c11 : (ji9) < (t624.length : Int)
   ·rw [if_pos c11] at H
    have c11b0 : decide ((ji9) < (t624.length : Int)) = true := decide_eq_true c11
    clear c11
    replace H := Option.bind_eq_some_iff.mp H
    obtain ⟨⟨t631,t632⟩,A120,H⟩ := H
    try dsimp only at H
    have A12 := Aside0.mk A120
    clear A120
    have H' := Aside0.mk H
    clear H
    go_enter Try.func87,Try.ntmps87
    go_wp2_with (first|((with_reducible refine gate_callee (f := 89) rfl ?_);refine goesL_ (some 15) rfl rfl Try.func89 (by kernel_rfl) rfl #[.slice A2 l2.length c2] rfl (by (try simp only [List.map_toArray,List.map_cons,List.map_nil]);first|done|rfl|(simp only [List.length_drop,List.length_take];rfl)) ?_;(with_reducible refine (privityref04_Trim.calls k _ _ l2 t624 _ ?side1 ?side2 A4.out).mono ?_);(case side1 => repeat (first|exact HR2.out|(with_reducible refine Kd.C_alloc ?_ _)|(with_reducible refine Kd.C_drewN ?_ _)|(with_reducible refine Kd.C_drew ?_)));(case side2 => exact HC2.out);rintro e w13 ⟨v625,rfl,ho0,hb⟩;refine ⟨_,rfl,?_⟩;have n0_ := Aside0.mk (Kd.R_lower ho0 (below_size (bb HB)));have n1_ := Aside0.mk (below_step (bb HB) hb);clear HB;have HO626 := n0_;have HB := n1_;clear n0_ n1_;(try clear hb);(try clear hb2);(try clear hk);(try clear hi);(try clear ho0);obtain ⟨Ao14,co14,eo14⟩ := Kd.R_slice HO626.out;subst eo14)|((with_reducible refine gate_callee (f := 89) rfl ?_);refine goesL_ (some 20) rfl rfl Try.func89 (by kernel_rfl) rfl #[.slice A1 l1.length c1] rfl (by (try simp only [List.map_toArray,List.map_cons,List.map_nil]);first|done|rfl|(simp only [List.length_drop,List.length_take];rfl)) ?_;(with_reducible refine (privityref04_Trim.calls k _ _ l1 t627 _ ?side1 ?side2 A8.out).mono ?_);(case side1 => exact cb HR1 HB);(case side2 => exact HC1.out);rintro e w15 ⟨v628,rfl,ho0,hb⟩;refine ⟨_,rfl,?_⟩;have n0_ := Aside0.mk (Kd.R_elder' (rr HO626) (Kd.R_base ho0) hb);have n1_ := Aside0.mk (Kd.R_lower (Kd.R_new' ho0 (Kd.R_lt (rr HO626))) (below_size (bb HB)));have n2_ := Aside0.mk (below_step (bb HB) hb);clear HO626 HB;have HO626 := n0_;have HO629 := n1_;have HB := n2_;clear n0_ n1_ n2_;(try clear hb);(try clear hb2);(try clear hk);(try clear hi);(try clear ho0);have p630 : 0 ≤ ((ji9) : Int) := of_decide_eq_true (by first|(with_reducible assumption)|assumption);have q630 : (ji9) < (t624.length : Int) := of_decide_eq_true (by first|(with_reducible assumption)|assumption);obtain ⟨ad630,e630,hx630_0⟩ := Kd.at_int (Kd.R_reads' HO626.out).2.2 (ji9) p630 q630;cases e630;replace p630 := eq_true p630;replace q630 := eq_true q630)|((with_reducible refine gate_callee (f := 76) rfl ?_);refine goesL_ (some 29) rfl rfl Try.func76 (by kernel_rfl) rfl #[.int .u64 a0,.int .u64 (rd t624 (ji9))] rfl (by (try simp only [List.map_toArray,List.map_cons,List.map_nil]);first|done|(simp only [hji9];rfl)|rfl|(simp only [List.length_drop,List.length_take];rfl)) ?_;(with_reducible refine (privityref01_Inverse.calls k a0 (rd t624 (ji9)) t631 t632 _ A12.out).mono ?_);rintro e w' ⟨rfl,⟨nd,rfl⟩⟩;refine ⟨_,rfl,?_⟩))
    go_loopg [9,12] k (fun kq v9 v12 w' => ∃ (x2_1 : List Int) (x9_1 : List Int) (x12_1 : List Int),Aside0 (privityref04_DivMod.l0 kq a0 x2_1 x9_1 t631 x12_1 = some (r1,r2,r3)) ∧ Aside0 (kq ≤ k) ∧ Aside0 (Kd.R (Kd.int .u64) 22 w' w.heap.size (fun k_ => some k_ ≠ (v9 : Value).ownBlock ∧ some k_ ≠ (v12 : Value).ownBlock) (.slice (some ad630) t624.length co14) x2_1) ∧ Aside0 (Kd.R (Kd.int .u64) 22 w' w.heap.size (fun k_ => some k_ ≠ ((.slice (some ad630) t624.length co14) : Value).ownBlock ∧ some k_ ≠ (v12 : Value).ownBlock) v9 x9_1) ∧ Aside0 (Kd.R (Kd.int .u64) 22 w' w.heap.size (fun k_ => some k_ ≠ ((.slice (some ad630) t624.length co14) : Value).ownBlock ∧ some k_ ≠ (v9 : Value).ownBlock) v12 x12_1) ∧ Aside0 (Below w.heap.size w w'))
    case atStart => exact ⟨(t624),(t627),(([] : List Int)),H',⟨Nat.le_refl _⟩,⟨by (with_reducible repeat (first|apply Kd.R_alloc|apply Kd.R_drewN|apply Kd.R_drew));exact Kd.R_mono HO626.out (fun _ hk => ⟨hk.2,(by simp [Value.ownBlock])⟩)⟩,⟨by (with_reducible repeat (first|apply Kd.R_alloc|apply Kd.R_drewN|apply Kd.R_drew));exact Kd.R_mono HO629.out (fun _ hk => ⟨hk.2,(by simp [Value.ownBlock])⟩)⟩,⟨by first|exact Kd.R_nil _ _ _ _ _|exact Kd.N_nil _ _ _ _ _|exact Kd.V_nil _ _ _ _ _|exact Kd.Q_nil _ _ _ _ _|exact Kd.S_nil _ _ _ _ _⟩,⟨by repeat (first|(with_reducible first|exact HB.out|apply below_alloc|apply pw_below_drewN|apply below_drew1)|exact HB.out)⟩⟩
    case round =>
     clear H'
     try clear c1
     try clear c2
     try clear p2
     try clear c5
     try clear c5b0
     try clear c5b1
     try clear c5b2
     try clear p6
     try clear q6
     try clear hx6
     try clear c7
     try clear c8
     try clear c10
     try clear c10b0
     try clear c11
     try clear c11b0
     try clear hx630_0
     try clear p630
     try clear q630
     obtain ⟨x2_1,x9_1,x12_1,HA,HK1,HO_2,HO_9,HO_12,HB⟩ := hrel
     have hl2_1 := (Kd.R_reads' HO_2.out).1
     rw [hl2_1] at HO_2
     (try simp only [hl2_1])
     (try simp only [hl2_1] at HO_9)
     (try simp only [hl2_1] at HO_12)
     cases gk with
     | zero => exact absurd HA.out (by simp [privityref04_DivMod.l0])
     | succ k1 =>
      have H := HA.out
      clear HA
      simp only [privityref04_DivMod.l0] at H
      by_cases c16 : (x9_1.length : Int) ≥ (x2_1.length : Int)
      ·rw [if_pos c16] at H
       have c16b0 : decide ((x2_1.length : Int) ≤ (x9_1.length : Int)) = true := decide_eq_true c16
       have c16b1 : decide (x2_1.length ≤ x9_1.length) = true := decide_eq_true (Int.ofNat_le.mp c16)
       clear c16
       obtain ⟨ji17,hji17⟩ : ∃ j_ : Int,(wrap64 ((wrap64 ((x9_1.length : Int) - (x2_1.length : Int))) + 1)) = j_ := ⟨_,rfl⟩
       first|rw [hji17] at H|simp only [hji17] at H
       have hji17w : (IntKind.i64.wrap ((wrap64 ((x9_1.length : Int) - (x2_1.length : Int))) + 1)) = ji17 := (i64_w _).trans hji17
       by_cases c18 : 0 ≤ (ji17)
       ·rw [if_pos c18] at H
        have c18b0 := eq_true c18
        have c18b1 : decide (0 ≤ (ji17)) = true := decide_eq_true c18
        clear c18
        by_cases c19 : (ji17 : Int).toNat ≤ 35184372088832
        ·rw [if_pos c19] at H
         have c19b0 := eq_true c19
         have c19b1 : decide ((ji17 : Int).toNat ≤ 35184372088832) = true := decide_eq_true c19
         clear c19
         obtain ⟨y633,hy633⟩ : ∃ y_ : List Int,y_ = (List.replicate (ji17 : Int).toNat 0) := ⟨_,rfl⟩
         replace H : (if 0 ≤ (wrap64 ((x9_1.length : Int) - 1)) then (if (wrap64 ((x9_1.length : Int) - 1)) < (x9_1.length : Int) then ((privityref01_Mul.f k1 a0 (rd x9_1 (wrap64 ((x9_1.length : Int) - 1))) t631).bind fun t637 => (if 0 ≤ (wrap64 ((y633.length : Int) - 1)) then (if (wrap64 ((y633.length : Int) - 1)) < (y633.length : Int) then ((some (y633.set ((wrap64 ((y633.length : Int) - 1)) : Int).toNat t637 : List Int)).bind fun y638 => ((privityref04_Add.f k1 a0 x12_1 y638).bind fun t639 => ((privityref04_Mul.f k1 a0 y638 x2_1).bind fun t642 => ((privityref04_Sub.f k1 a0 x9_1 t642).bind fun t645 => (privityref04_DivMod.l0 k1 a0 x2_1 t645 t631 t639))))) else (none)) else (none))) else (none)) else (none)) = some (r1,r2,r3) := by first|(rw [hy633];with_reducible exact H)|(have H2_ := (Option.bind_some _ _).symm.trans H;rw [hy633];with_reducible exact H2_)|(have H2_ := (Option.bind_some _ _).symm.trans H;with_reducible exact H2_)|with_reducible exact H|(rw [hy633];exact H)|exact H
         have Ny633 := Aside0.mk hy633
         clear hy633
         obtain ⟨ji20,hji20⟩ : ∃ j_ : Int,(wrap64 ((x9_1.length : Int) - 1)) = j_ := ⟨_,rfl⟩
         first|rw [hji20] at H|simp only [hji20] at H
         have hji20w : (IntKind.i64.wrap ((x9_1.length : Int) - 1)) = ji20 := (i64_w _).trans hji20
         by_cases c21 : 0 ≤ (ji20)
         ·rw [if_pos c21] at H
          have c21b0 : decide (0 ≤ (ji20)) = true := decide_eq_true c21
          clear c21
          by_cases c22 : (ji20) < (x9_1.length : Int)
          ·rw [if_pos c22] at H
           have c22b0 : decide ((ji20) < (x9_1.length : Int)) = true := decide_eq_true c22
           clear c22
           replace H := Option.bind_eq_some_iff.mp H
           obtain ⟨t637,A230,H⟩ := H
           try dsimp only at H
           have A23 := Aside0.mk A230
           clear A230
           obtain ⟨ji24,hji24⟩ : ∃ j_ : Int,(wrap64 ((y633.length : Int) - 1)) = j_ := ⟨_,rfl⟩
           first|rw [hji24] at H|simp only [hji24] at H
           (try rw [hji24] at A23)
           have hji24w : (IntKind.i64.wrap ((y633.length : Int) - 1)) = ji24 := (i64_w _).trans hji24
           by_cases c25 : 0 ≤ (ji24)
           ·rw [if_pos c25] at H
            have c25b0 : decide (0 ≤ (ji24)) = true := decide_eq_true c25
            clear c25
            by_cases c26 : (ji24) < (y633.length : Int)
            ·rw [if_pos c26] at H
             have c26b0 : decide ((ji24) < (y633.length : Int)) = true := decide_eq_true c26
             clear c26
             obtain ⟨y638,hy638⟩ : ∃ y_ : List Int,y_ = (y633.set ((ji24) : Int).toNat t637) := ⟨_,rfl⟩
             replace H : ((privityref04_Add.f k1 a0 x12_1 y638).bind fun t639 => ((privityref04_Mul.f k1 a0 y638 x2_1).bind fun t642 => ((privityref04_Sub.f k1 a0 x9_1 t642).bind fun t645 => (privityref04_DivMod.l0 k1 a0 x2_1 t645 t631 t639)))) = some (r1,r2,r3) := by first|(rw [hy638];with_reducible exact H)|(have H2_ := (Option.bind_some _ _).symm.trans H;rw [hy638];with_reducible exact H2_)|(have H2_ := (Option.bind_some _ _).symm.trans H;with_reducible exact H2_)|with_reducible exact H|(rw [hy638];exact H)|exact H
             have Ny638 := Aside0.mk hy638
             clear hy638
             replace H := Option.bind_eq_some_iff.mp H
             obtain ⟨t639,A280,H⟩ := H
             try dsimp only at H
             have A28 := Aside0.mk A280
             clear A280
             replace H := Option.bind_eq_some_iff.mp H
             obtain ⟨t642,A290,H⟩ := H
             try dsimp only at H
             have A29 := Aside0.mk A290
             clear A290
             replace H := Option.bind_eq_some_iff.mp H
             obtain ⟨t645,A300,H⟩ := H
             try dsimp only at H
             have A30 := Aside0.mk A300
             clear A300
             have H' := Aside0.mk H
             clear H
             obtain ⟨Ao31,co31,eo31⟩ := Kd.R_slice HO_9.out
             subst eo31
             go_wp2_with (first|((with_reducible refine gate_dst (N := 43) rfl ?_);refine Kd.R_make (Kd.int .u64) _ 22 rfl (N := 43) rfl 26 _ _ rfl ji17 rfl rfl Try.underlying26 (.int .u64 0) 8 info22 rfl (by decide) (by omega) 0 (ok := fun _ => True) (okp := fun _ => True) rfl (fun _ hk => hk) trivial (of_decide_eq_true (by first|(with_reducible assumption)|assumption)) (Nat.le_trans (Nat.mul_le_mul_right _ (of_decide_eq_true (by first|(with_reducible assumption)|assumption) : ji17.toNat ≤ 35184372088832)) (by omega)) (Below.refl _ _) (Nat.le_refl _) ?_;intro v634 w32 ho33 hb hg_ hnew_;clear hg_ hnew_;(first|rw [← Ny633.out] at ho33|(simp only [Int.reduceToNat] at ho33;rw [← Ny633.out] at ho33));have n0_ := Aside0.mk (Kd.R_elder' (rr HO_2) (Kd.R_base ho33) hb);have n1_ := Aside0.mk (Kd.R_elder' (rr HO_9) (Kd.R_base ho33) hb);have n2_ := Aside0.mk (Kd.R_elder' (rr HO_12) (Kd.R_base ho33) hb);have n3_ := Aside0.mk (Kd.R_lower (Kd.R_new' (Kd.R_new' (Kd.R_new' ho33 (Kd.R_lt (rr HO_2))) (Kd.R_lt (rr HO_9))) (Kd.R_lt (rr HO_12))) (below_size (bb HB)));have n4_ := Aside0.mk (below_step (bb HB) hb);clear HO_2 HO_9 HO_12 HB;have HO_2 := n0_;have HO_9 := n1_;have HO_12 := n2_;have HO635 := n3_;have HB := n4_;clear n0_ n1_ n2_ n3_ n4_;clear hb ho33;obtain ⟨Ao34,co34,eo34⟩ := Kd.R_slice HO635.out;subst eo34;have p636 : 0 ≤ ((ji20) : Int) := of_decide_eq_true (by first|(with_reducible assumption)|assumption);have q636 : (ji20) < (x9_1.length : Int) := of_decide_eq_true (by first|(with_reducible assumption)|assumption);obtain ⟨ad636,e636,hx636_0⟩ := Kd.at_int (Kd.R_reads' HO_9.out).2.2 (ji20) p636 q636;cases e636;replace p636 := eq_true p636;replace q636 := eq_true q636)|((with_reducible refine gate_callee (f := 31) rfl ?_);refine goesL_ (some 56) rfl rfl Try.func31 (by kernel_rfl) rfl #[.int .u64 a0,.int .u64 (rd x9_1 (ji20)),.int .u64 t631] rfl (by (try simp only [List.map_toArray,List.map_cons,List.map_nil]);first|done|(simp only [hji20];rfl)|rfl|(simp only [List.length_drop,List.length_take];rfl)) ?_;(with_reducible refine (privityref01_Mul.calls k1 a0 (rd x9_1 (ji20)) t631 t637 _ A23.out).mono ?_);rintro e w' ⟨rfl,⟨nd,rfl⟩⟩;refine ⟨_,rfl,?_⟩;(try (rw [drewN_self w32];generalize hq_ : World.drewN w32 _ = w32;have n0_ : Aside0 (Kd.R (Kd.int .u64) 22 w32 w.heap.size (fun k_ => some k_ ≠ (u12 : Value).ownBlock ∧ some k_ ≠ (.slice (some ad630) x2_1.length co14 : Value).ownBlock ∧ some k_ ≠ (.slice (some ad636) x9_1.length co31 : Value).ownBlock) (.slice Ao34 y633.length co34) y633) := ⟨by rw [← hq_];exact (by (with_reducible repeat (first|apply Kd.R_alloc|apply Kd.R_drewN|apply Kd.R_drew));exact Kd.R_mono HO635.out (fun _ hk => by first|exact ⟨hk.2,⟨hk.1.1.2,hk.1.2⟩⟩|(and_intros <;> first|with_reducible exact hk.1|with_reducible exact hk.2|with_reducible exact hk.1.1|with_reducible exact hk.1.2|with_reducible exact hk.2.1|with_reducible exact hk.2.2|with_reducible exact hk.1.1.1|with_reducible exact hk.1.1.2|with_reducible exact hk.2.2.1|with_reducible exact hk.2.2.2|with_reducible exact hk.1.2.1|with_reducible exact hk.1.2.2|with_reducible exact hk.2.1.1|with_reducible exact hk.2.1.2)))⟩;have n1_ : Aside0 (Kd.R (Kd.int .u64) 22 w32 w.heap.size (fun k_ => some k_ ≠ (.slice Ao34 y633.length co34 : Value).ownBlock ∧ some k_ ≠ (.slice (some ad630) x2_1.length co14 : Value).ownBlock ∧ some k_ ≠ (.slice (some ad636) x9_1.length co31 : Value).ownBlock) u12 x12_1) := ⟨by rw [← hq_];exact (by (with_reducible repeat (first|apply Kd.R_alloc|apply Kd.R_drewN|apply Kd.R_drew));exact Kd.R_mono HO_12.out (fun _ hk => by first|exact ⟨hk.2,⟨hk.1.1,hk.1.2⟩⟩|(and_intros <;> first|with_reducible exact hk.1|with_reducible exact hk.2|with_reducible exact hk.1.1|with_reducible exact hk.1.2|with_reducible exact hk.2.1|with_reducible exact hk.2.2|with_reducible exact hk.1.1.1|with_reducible exact hk.1.1.2|with_reducible exact hk.2.2.1|with_reducible exact hk.2.2.2|with_reducible exact hk.1.2.1|with_reducible exact hk.1.2.2|with_reducible exact hk.2.1.1|with_reducible exact hk.2.1.2)))⟩;have n2_ : Aside0 (Kd.R (Kd.int .u64) 22 w32 w.heap.size (fun k_ => some k_ ≠ (.slice Ao34 y633.length co34 : Value).ownBlock ∧ some k_ ≠ (u12 : Value).ownBlock ∧ some k_ ≠ (.slice (some ad636) x9_1.length co31 : Value).ownBlock) (.slice (some ad630) x2_1.length co14) x2_1) := ⟨by rw [← hq_];exact (by (with_reducible repeat (first|apply Kd.R_alloc|apply Kd.R_drewN|apply Kd.R_drew));exact Kd.R_mono HO_2.out (fun _ hk => by first|exact ⟨hk.2,⟨hk.1.2,hk.1.1⟩⟩|(and_intros <;> first|with_reducible exact hk.1|with_reducible exact hk.2|with_reducible exact hk.1.1|with_reducible exact hk.1.2|with_reducible exact hk.2.1|with_reducible exact hk.2.2|with_reducible exact hk.1.1.1|with_reducible exact hk.1.1.2|with_reducible exact hk.2.2.1|with_reducible exact hk.2.2.2|with_reducible exact hk.1.2.1|with_reducible exact hk.1.2.2|with_reducible exact hk.2.1.1|with_reducible exact hk.2.1.2)))⟩;have n3_ : Aside0 (Kd.R (Kd.int .u64) 22 w32 w.heap.size (fun k_ => some k_ ≠ (.slice Ao34 y633.length co34 : Value).ownBlock ∧ some k_ ≠ (u12 : Value).ownBlock ∧ some k_ ≠ (.slice (some ad630) x2_1.length co14 : Value).ownBlock) (.slice (some ad636) x9_1.length co31) x9_1) := ⟨by rw [← hq_];exact (by (with_reducible repeat (first|apply Kd.R_alloc|apply Kd.R_drewN|apply Kd.R_drew));exact Kd.R_mono HO_9.out (fun _ hk => by first|exact ⟨hk.2,⟨hk.1.2,hk.1.1⟩⟩|(and_intros <;> first|with_reducible exact hk.1|with_reducible exact hk.2|with_reducible exact hk.1.1|with_reducible exact hk.1.2|with_reducible exact hk.2.1|with_reducible exact hk.2.2|with_reducible exact hk.1.1.1|with_reducible exact hk.1.1.2|with_reducible exact hk.2.2.1|with_reducible exact hk.2.2.2|with_reducible exact hk.1.2.1|with_reducible exact hk.1.2.2|with_reducible exact hk.2.1.1|with_reducible exact hk.2.1.2)))⟩;have n4_ : Aside0 (Below w.heap.size w w32) := ⟨by rw [← hq_];exact (bb HB)⟩;clear HO635 HO_12 HO_2 HO_9 HB hq_;have HO635 := n0_;have HO_12 := n1_;have HO_2 := n2_;have HO_9 := n3_;have HB := n4_;clear n0_ n1_ n2_ n3_ n4_));have p27 : 0 ≤ ((ji24) : Int) := of_decide_eq_true (by first|(with_reducible assumption)|assumption);have q27 : ((ji24) : Int) < ((y633.length : Int) : Int) := of_decide_eq_true (by first|(with_reducible assumption)|assumption);obtain ⟨go27,co27,eo27,gb27,gl27,cl27,HG27⟩ := Kd.R_form HO635.out (by omega);(first|cases eo27|(injection eo27 with ea_ en_ ec_;(first|subst ea_|(injection ea_ with ea_;subst ea_));subst ec_;clear en_));have GB27 := Aside0.mk gb27;have GG27 := Aside0.mk HG27;clear gb27 gl27 HG27;obtain ⟨hx27_0,hf27_0⟩ := Kd.R_celln 0 HO635.out ((ji24) : Int) p27 q27;replace p27 := eq_true p27;replace q27 := eq_true q27;have n_ := Aside0.mk (Kd.R_mono (ok' := (fun k_ => some k_ ≠ (.slice (some ad630) x2_1.length co14 : Value).ownBlock ∧ some k_ ≠ (.slice (some ad636) x9_1.length co31 : Value).ownBlock ∧ some k_ ≠ (u12 : Value).ownBlock)) HO635.out (fun k_ hk => by first|exact ⟨hk.1.1.2,⟨hk.1.2,hk.2⟩⟩|(and_intros <;> first|with_reducible exact hk.1|with_reducible exact hk.2|with_reducible exact hk.1.1|with_reducible exact hk.1.2|with_reducible exact hk.2.1|with_reducible exact hk.2.2|with_reducible exact hk.1.1.1|with_reducible exact hk.1.1.2|with_reducible exact hk.2.2.1|with_reducible exact hk.2.2.2|with_reducible exact hk.1.2.1|with_reducible exact hk.1.2.2|with_reducible exact hk.2.1.1|with_reducible exact hk.2.1.2)));clear HO635;have HO635 := n_;clear n_;obtain ⟨hy35_,hz35_⟩ := Kd.R_celln 0 HO635.out ((ji24) : Int) (of_decide_eq_true (by first|(with_reducible assumption)|assumption)) (of_decide_eq_true (by first|(with_reducible assumption)|assumption));have HP35 := Kd.R_putg HO635.out ((ji24) : Int) t637)|((with_reducible refine gate_store (t := 22) (p := 57) rfl ?_);refine store_event (t := 22) (p := 57) (v := ?vo_w36) (w1 := (w32.setCell ⟨go27,((ji24) : Int).toNat,none⟩ (.int .u64 t637))) ?hg ?ho ?hn ?hr ?_;(case ho => rfl);(case hg => rfl);(case hn => rfl);(case hr => first|(go_simp;done)|(go_simp;rfl));intro w36 hw;have hg : w32.grownBy w36 (some go27) := (by rw [hw];exact HP35.2);have hp_ : Kd.R (Kd.int .u64) 22 w36 w.heap.size (fun k_ => some k_ ≠ (.slice (some ad630) x2_1.length co14 : Value).ownBlock ∧ some k_ ≠ (.slice (some ad636) x9_1.length co31 : Value).ownBlock ∧ some k_ ≠ (u12 : Value).ownBlock) (.slice (some ⟨go27,0,none⟩) y633.length co34) y638 := (by rw [hw,Ny638.out];exact HP35.1);clear HP35;have n0_ := Aside0.mk (Kd.R_after (v := (.slice (some ⟨go27,0,none⟩) y633.length co34)) (v1 := (.slice (some ⟨go27,0,none⟩) y633.length co34)) (ok := (fun k_ => some k_ ≠ (.slice (some ad636) x9_1.length co31 : Value).ownBlock ∧ some k_ ≠ (u12 : Value).ownBlock)) (by (with_reducible repeat (first|apply Kd.R_alloc|apply Kd.R_drewN|apply Kd.R_drew));first|exact HO_2.out|exact Kd.R_mono HO_2.out (fun k_ hk => by and_intros <;> first|with_reducible exact hk.1|with_reducible exact hk.2|with_reducible exact hk.1.1|with_reducible exact hk.1.2|with_reducible exact hk.2.1|with_reducible exact hk.2.2|with_reducible exact hk.1.1.1|with_reducible exact hk.1.1.2|with_reducible exact hk.2.2.1|with_reducible exact hk.2.2.2|with_reducible exact hk.1.2.1|with_reducible exact hk.1.2.2|with_reducible exact hk.2.1.1|with_reducible exact hk.2.1.2)) hg (.inl rfl));have n1_ := Aside0.mk (Kd.R_after (v := (.slice (some ⟨go27,0,none⟩) y633.length co34)) (v1 := (.slice (some ⟨go27,0,none⟩) y633.length co34)) (ok := (fun k_ => some k_ ≠ (.slice (some ad630) x2_1.length co14 : Value).ownBlock ∧ some k_ ≠ (u12 : Value).ownBlock)) (by (with_reducible repeat (first|apply Kd.R_alloc|apply Kd.R_drewN|apply Kd.R_drew));first|exact HO_9.out|exact Kd.R_mono HO_9.out (fun k_ hk => by and_intros <;> first|with_reducible exact hk.1|with_reducible exact hk.2|with_reducible exact hk.1.1|with_reducible exact hk.1.2|with_reducible exact hk.2.1|with_reducible exact hk.2.2|with_reducible exact hk.1.1.1|with_reducible exact hk.1.1.2|with_reducible exact hk.2.2.1|with_reducible exact hk.2.2.2|with_reducible exact hk.1.2.1|with_reducible exact hk.1.2.2|with_reducible exact hk.2.1.1|with_reducible exact hk.2.1.2)) hg (.inl rfl));have n2_ := Aside0.mk (Kd.R_after (v := (.slice (some ⟨go27,0,none⟩) y633.length co34)) (v1 := (.slice (some ⟨go27,0,none⟩) y633.length co34)) (ok := (fun k_ => some k_ ≠ (.slice (some ad630) x2_1.length co14 : Value).ownBlock ∧ some k_ ≠ (.slice (some ad636) x9_1.length co31 : Value).ownBlock)) (by (with_reducible repeat (first|apply Kd.R_alloc|apply Kd.R_drewN|apply Kd.R_drew));first|exact HO_12.out|exact Kd.R_mono HO_12.out (fun k_ hk => by and_intros <;> first|with_reducible exact hk.1|with_reducible exact hk.2|with_reducible exact hk.1.1|with_reducible exact hk.1.2|with_reducible exact hk.2.1|with_reducible exact hk.2.2|with_reducible exact hk.1.1.1|with_reducible exact hk.1.1.2|with_reducible exact hk.2.2.1|with_reducible exact hk.2.2.2|with_reducible exact hk.1.2.1|with_reducible exact hk.1.2.2|with_reducible exact hk.2.1.1|with_reducible exact hk.2.1.2)) hg (.inl rfl));have n3_ := Aside0.mk (hp_);have n4_ := Aside0.mk ((by rw [hw];exact below_set (HB.out) GB27.out : Below w.heap.size w w36));clear HO_2 HO_9 HO_12 HO635 HB;have HO_2 := n0_;have HO_9 := n1_;have HO_12 := n2_;have HO635 := n3_;have HB := n4_;clear n0_ n1_ n2_ n3_ n4_;clear hg hw hp_;obtain ⟨Ao37,co37,eo37⟩ := Kd.R_slice HO_12.out;subst eo37)|((with_reducible refine gate_callee (f := 59) rfl ?_);refine goesL_ (some 61) rfl rfl Try.func59 (by kernel_rfl) rfl #[.int .u64 a0,.slice Ao37 x12_1.length co37,.slice (some ⟨go27,0,none⟩) y638.length co34] rfl (by (try simp only [List.map_toArray,List.map_cons,List.map_nil]);first|done|(rw [show y638.length = y633.length from (Kd.R_reads' HO635.out).1.symm] <;> rfl)|rfl|(simp only [List.length_drop,List.length_take];rfl)) ?_;(with_reducible refine (privityref04_Add.calls k1 a0 _ _ x12_1 _ _ y638 t639 _ ?side1 ?side2 ?side3 ?side4 A28.out).mono ?_);(case side1 => exact cr HO_12);(case side2 => exact (Kd.R_reads' HO_12.out).2.1);(case side3 => exact cr HO635);(case side4 => rw [show y638.length = y633.length from (Kd.R_reads' HO635.out).1.symm];exact (Kd.R_reads' HO635.out).2.1);rintro e w38 ⟨v640,rfl,ho0,hb⟩;refine ⟨_,rfl,?_⟩;have n0_ := Aside0.mk (Kd.R_elder' (rr HO_2) (Kd.R_base ho0) hb);have n1_ := Aside0.mk (Kd.R_elder' (rr HO_9) (Kd.R_base ho0) hb);have n2_ := Aside0.mk (Kd.R_elder' (rr HO_12) (Kd.R_base ho0) hb);have n3_ := Aside0.mk (Kd.R_elder' (rr HO635) (Kd.R_base ho0) hb);have n4_ := Aside0.mk (Kd.R_lower (Kd.R_new' (Kd.R_new' (Kd.R_new' (Kd.R_new' ho0 (Kd.R_lt (rr HO_2))) (Kd.R_lt (rr HO_9))) (Kd.R_lt (rr HO_12))) (Kd.R_lt (rr HO635))) (below_size (bb HB)));have n5_ := Aside0.mk (below_step (bb HB) hb);clear HO_2 HO_9 HO_12 HO635 HB;have HO_2 := n0_;have HO_9 := n1_;have HO_12 := n2_;have HO635 := n3_;have HO641 := n4_;have HB := n5_;clear n0_ n1_ n2_ n3_ n4_ n5_;(try clear hb);(try clear hb2);(try clear hk);(try clear hi);(try clear ho0))|((with_reducible refine gate_callee (f := 77) rfl ?_);refine goesL_ (some 67) rfl rfl Try.func77 (by kernel_rfl) rfl #[.int .u64 a0,.slice (some ⟨go27,0,none⟩) y638.length co34,.slice (some ad630) x2_1.length co14] rfl (by (try simp only [List.map_toArray,List.map_cons,List.map_nil]);first|done|(rw [show y638.length = y633.length from (Kd.R_reads' HO635.out).1.symm] <;> rfl)|rfl|(simp only [List.length_drop,List.length_take];rfl)) ?_;(with_reducible refine (privityref04_Mul.calls k1 a0 _ _ y638 _ _ x2_1 t642 _ ?side1 ?side2 ?side3 ?side4 A29.out).mono ?_);(case side1 => exact cr HO635);(case side2 => rw [show y638.length = y633.length from (Kd.R_reads' HO635.out).1.symm];exact (Kd.R_reads' HO635.out).2.1);(case side3 => exact cr HO_2);(case side4 => exact (Kd.R_reads' HO_2.out).2.1);rintro e w39 ⟨v643,rfl,ho0,hb⟩;refine ⟨_,rfl,?_⟩;have n0_ := Aside0.mk (Kd.R_elder' (rr HO_2) (Kd.R_base ho0) hb);have n1_ := Aside0.mk (Kd.R_elder' (rr HO_9) (Kd.R_base ho0) hb);have n2_ := Aside0.mk (Kd.R_elder' (rr HO_12) (Kd.R_base ho0) hb);have n3_ := Aside0.mk (Kd.R_elder' (rr HO635) (Kd.R_base ho0) hb);have n4_ := Aside0.mk (Kd.R_elder' (rr HO641) (Kd.R_base ho0) hb);have n5_ := Aside0.mk (Kd.R_lower (Kd.R_new' (Kd.R_new' (Kd.R_new' (Kd.R_new' (Kd.R_new' ho0 (Kd.R_lt (rr HO_2))) (Kd.R_lt (rr HO_9))) (Kd.R_lt (rr HO_12))) (Kd.R_lt (rr HO635))) (Kd.R_lt (rr HO641))) (below_size (bb HB)));have n6_ := Aside0.mk (below_step (bb HB) hb);clear HO_2 HO_9 HO_12 HO635 HO641 HB;have HO_2 := n0_;have HO_9 := n1_;have HO_12 := n2_;have HO635 := n3_;have HO641 := n4_;have HO644 := n5_;have HB := n6_;clear n0_ n1_ n2_ n3_ n4_ n5_ n6_;(try clear hb);(try clear hb2);(try clear hk);(try clear hi);(try clear ho0);obtain ⟨Ao40,co40,eo40⟩ := Kd.R_slice HO644.out;subst eo40)|((with_reducible refine gate_callee (f := 88) rfl ?_);refine goesL_ (some 68) rfl rfl Try.func88 (by kernel_rfl) rfl #[.int .u64 a0,.slice (some ad636) x9_1.length co31,.slice Ao40 t642.length co40] rfl (by (try simp only [List.map_toArray,List.map_cons,List.map_nil]);first|done|rfl|(simp only [List.length_drop,List.length_take];rfl)) ?_;(with_reducible refine (privityref04_Sub.calls k1 a0 _ _ x9_1 _ _ t642 t645 _ ?side1 ?side2 ?side3 ?side4 A30.out).mono ?_);(case side1 => exact cr HO_9);(case side2 => exact (Kd.R_reads' HO_9.out).2.1);(case side3 => exact cr HO644);(case side4 => exact (Kd.R_reads' HO644.out).2.1);rintro e w41 ⟨v646,rfl,ho0,hb⟩;refine ⟨_,rfl,?_⟩;have n0_ := Aside0.mk (Kd.R_elder' (rr HO_2) (Kd.R_base ho0) hb);have n1_ := Aside0.mk (Kd.R_elder' (rr HO_9) (Kd.R_base ho0) hb);have n2_ := Aside0.mk (Kd.R_elder' (rr HO_12) (Kd.R_base ho0) hb);have n3_ := Aside0.mk (Kd.R_elder' (rr HO635) (Kd.R_base ho0) hb);have n4_ := Aside0.mk (Kd.R_elder' (rr HO641) (Kd.R_base ho0) hb);have n5_ := Aside0.mk (Kd.R_elder' (rr HO644) (Kd.R_base ho0) hb);have n6_ := Aside0.mk (Kd.R_lower (Kd.R_new' (Kd.R_new' (Kd.R_new' (Kd.R_new' (Kd.R_new' (Kd.R_new' ho0 (Kd.R_lt (rr HO_2))) (Kd.R_lt (rr HO_9))) (Kd.R_lt (rr HO_12))) (Kd.R_lt (rr HO635))) (Kd.R_lt (rr HO641))) (Kd.R_lt (rr HO644))) (below_size (bb HB)));have n7_ := Aside0.mk (below_step (bb HB) hb);clear HO_2 HO_9 HO_12 HO635 HO641 HO644 HB;have HO_2 := n0_;have HO_9 := n1_;have HO_12 := n2_;have HO635 := n3_;have HO641 := n4_;have HO644 := n5_;have HO647 := n6_;have HB := n7_;clear n0_ n1_ n2_ n3_ n4_ n5_ n6_ n7_;(try clear hb);(try clear hb2);(try clear hk);(try clear hi);(try clear ho0)))
             (try simp only [← hl2_1])
             go_roundg k1
             case measure => have := HK1.out;omega
             case rel => exact ⟨(x2_1),(t645),(t639),H',⟨by have := HK1.out;omega⟩,⟨by (try simp only [hl2_1]);(with_reducible repeat (first|apply Kd.R_alloc|apply Kd.R_drewN|apply Kd.R_drew));exact Kd.R_mono HO_2.out (fun _ hk => by first|exact ⟨hk.2,hk.1.1.2⟩|(and_intros <;> first|with_reducible exact hk.1|with_reducible exact hk.2|with_reducible exact hk.1.1|with_reducible exact hk.1.2|with_reducible exact hk.2.1|with_reducible exact hk.2.2|with_reducible exact hk.1.1.1|with_reducible exact hk.1.1.2|with_reducible exact hk.2.2.1|with_reducible exact hk.2.2.2|with_reducible exact hk.1.2.1|with_reducible exact hk.1.2.2|with_reducible exact hk.2.1.1|with_reducible exact hk.2.1.2))⟩,⟨by (try simp only [hl2_1]);(with_reducible repeat (first|apply Kd.R_alloc|apply Kd.R_drewN|apply Kd.R_drew));exact Kd.R_mono HO647.out (fun _ hk => by first|exact ⟨hk.1.1.1.1.1.2,hk.1.2⟩|(and_intros <;> first|with_reducible exact hk.1|with_reducible exact hk.2|with_reducible exact hk.1.1|with_reducible exact hk.1.2|with_reducible exact hk.2.1|with_reducible exact hk.2.2|with_reducible exact hk.1.1.1|with_reducible exact hk.1.1.2|with_reducible exact hk.2.2.1|with_reducible exact hk.2.2.2|with_reducible exact hk.1.2.1|with_reducible exact hk.1.2.2|with_reducible exact hk.2.1.1|with_reducible exact hk.2.1.2))⟩,⟨by (try simp only [hl2_1]);(with_reducible repeat (first|apply Kd.R_alloc|apply Kd.R_drewN|apply Kd.R_drew));exact Kd.R_mono HO641.out (fun _ hk => by first|exact ⟨hk.1.1.1.1.1.2,hk.2⟩|(and_intros <;> first|with_reducible exact hk.1|with_reducible exact hk.2|with_reducible exact hk.1.1|with_reducible exact hk.1.2|with_reducible exact hk.2.1|with_reducible exact hk.2.2|with_reducible exact hk.1.1.1|with_reducible exact hk.1.1.2|with_reducible exact hk.2.2.1|with_reducible exact hk.2.2.2|with_reducible exact hk.1.2.1|with_reducible exact hk.1.2.2|with_reducible exact hk.2.1.1|with_reducible exact hk.2.1.2))⟩,⟨by repeat (first|(with_reducible first|exact HB.out|apply below_alloc|apply pw_below_drewN|apply below_drew1)|exact HB.out)⟩⟩
            ·rw [if_neg c26] at H
             exact absurd H (by simp)
           ·rw [if_neg c25] at H
            exact absurd H (by simp)
          ·rw [if_neg c22] at H
           exact absurd H (by simp)
         ·rw [if_neg c21] at H
          exact absurd H (by simp)
        ·rw [if_neg c19] at H
         exact absurd H (by simp)
       ·rw [if_neg c18] at H
        exact absurd H (by simp)
      ·rw [if_neg c16] at H
       have c16b0 : decide ((x2_1.length : Int) ≤ (x9_1.length : Int)) = false := decide_eq_false c16
       have c16b1 : decide (x2_1.length ≤ x9_1.length) = false := decide_eq_false (fun h => c16 (Int.ofNat_le.mpr h))
       clear c16
       simp only [Option.some.injEq,Prod.mk.injEq] at H
       obtain ⟨rfl,rfl,rfl⟩ := H
       obtain ⟨Ao42,co42,eo42⟩ := Kd.R_slice HO_9.out
       subst eo42
       go_wp2
       go_ret3
       exact ⟨_,_,by first|rfl|(simp [errW_none,errW_some] <;> rfl)|(simp only [← hji9];first|rfl|(simp [errW_none,errW_some] <;> rfl))|(simp [*,errW_none,errW_some] <;> rfl),by (with_reducible repeat (first|apply Kd.R_alloc|apply Kd.R_drewN|apply Kd.R_drew));exact Kd.R_mono HO_12.out (fun _ hk => hk.2),by (with_reducible repeat (first|apply Kd.R_alloc|apply Kd.R_drewN|apply Kd.R_drew));exact Kd.R_mono HO_9.out (fun _ hk => hk.2),by repeat (first|(with_reducible first|exact HB.out|apply below_alloc|apply pw_below_drewN|apply below_drew1)|exact HB.out)⟩
   ·rw [if_neg c11] at H
    exact absurd H (by simp)
  ·rw [if_neg c10] at H
   exact absurd H (by simp)
def privityref43_Quotient.f (k : Nat) (a0 : Int) (l1 : List Int) (l2 : List Int) (l3 : List Int) (a4 : Int) (a5 : Int) : Option (List Int) := (privityref04_Scale.f k a0 a4 l1).bind fun t648 => ((privityref04_Add.f k a0 l2 t648).bind fun t651 => ((privityref04_Scale.f k a0 a5 l1).bind fun t654 => ((privityref04_Add.f k a0 l3 t654).bind fun t657 => ((privityref04_Mul.f k a0 t651 t657).bind fun t660 => ((privityref04_Mul.f k a0 l2 l3).bind fun t663 => ((privityref04_Sub.f k a0 t660 t663).bind fun t666 => ((privityref04_DivMod.f k a0 t666 l1).bind fun bt669 => (some bt669.1))))))))
set_option maxHeartbeats 8000000 in
set_option maxRecDepth 100000 in
theorem privityref43_Quotient.calls (k : Nat) (a0 : Int) (A1 : Option Addr) (c1 : Nat) (l1 : List Int) (A2 : Option Addr) (c2 : Nat) (l2 : List Int) (A3 : Option Addr) (c3 : Nat) (l3 : List Int) (a4 : Int) (a5 : Int) (r : List Int) (w : World) (hr1 : Kd.C (Kd.int .u64) w A1 l1.length l1) (hc1 : l1.length ≤ c1) (hr2 : Kd.C (Kd.int .u64) w A2 l2.length l2) (hc2 : l2.length ≤ c2) (hr3 : Kd.C (Kd.int .u64) w A3 l3.length l3) (hc3 : l3.length ≤ c3) (h : privityref43_Quotient.f k a0 l1 l2 l3 a4 a5 = some r) :
  Calls Try.prog 56 #[.int .u64 a0,.slice A1 l1.length c1,.slice A2 l2.length c2,.slice A3 l3.length c3,.int .u64 a4,.int .u64 a5] w fun e w' => ∃ v0_ : Value,e = .returned (v0_) ∧ Kd.R (Kd.int .u64) 22 w' w.heap.size (fun _ => True) v0_ r ∧ Below w.heap.size w w' := by
 have HR1 := Aside0.mk hr1
 have HC1 := Aside0.mk hc1
 clear hr1 hc1
 have HR2 := Aside0.mk hr2
 have HC2 := Aside0.mk hc2
 clear hr2 hc2
 have HR3 := Aside0.mk hr3
 have HC3 := Aside0.mk hc3
 clear hr3 hc3
 have HB := Aside0.mk (Below.refl w.heap.size w)
 have H : ((privityref04_Scale.f k a0 a4 l1).bind fun t648 => ((privityref04_Add.f k a0 l2 t648).bind fun t651 => ((privityref04_Scale.f k a0 a5 l1).bind fun t654 => ((privityref04_Add.f k a0 l3 t654).bind fun t657 => ((privityref04_Mul.f k a0 t651 t657).bind fun t660 => ((privityref04_Mul.f k a0 l2 l3).bind fun t663 => ((privityref04_Sub.f k a0 t660 t663).bind fun t666 => ((privityref04_DivMod.f k a0 t666 l1).bind fun bt669 => (some bt669.1))))))))) = some r := h
 clear h
 replace H := Option.bind_eq_some_iff.mp H
 obtain ⟨t648,A70,H⟩ := H
 try dsimp only at H
 have A7 := Aside0.mk A70
 clear A70
 replace H := Option.bind_eq_some_iff.mp H
 obtain ⟨t651,A80,H⟩ := H
 try dsimp only at H
 have A8 := Aside0.mk A80
 clear A80
 replace H := Option.bind_eq_some_iff.mp H
 obtain ⟨t654,A90,H⟩ := H
 try dsimp only at H
 have A9 := Aside0.mk A90
 clear A90
 replace H := Option.bind_eq_some_iff.mp H
 obtain ⟨t657,A100,H⟩ := H
 try dsimp only at H
 have A10 := Aside0.mk A100
 clear A100
 replace H := Option.bind_eq_some_iff.mp H
 obtain ⟨t660,A110,H⟩ := H
 try dsimp only at H
 have A11 := Aside0.mk A110
 clear A110
 replace H := Option.bind_eq_some_iff.mp H
 obtain ⟨t663,A120,H⟩ := H
 try dsimp only at H
 have A12 := Aside0.mk A120
 clear A120
 replace H := Option.bind_eq_some_iff.mp H
 obtain ⟨t666,A130,H⟩ := H
 try dsimp only at H
 have A13 := Aside0.mk A130
 clear A130
 replace H := Option.bind_eq_some_iff.mp H
 obtain ⟨⟨t669,t670,t671⟩,A140,H⟩ := H
 try dsimp only at H
 have A14 := Aside0.mk A140
 clear A140
 obtain rfl := Option.some.inj H
 go_enter Try.func56,Try.ntmps56
 go_wp2_with (first|((with_reducible refine gate_callee (f := 60) rfl ?_);refine goesL_ (some 23) rfl rfl Try.func60 (by kernel_rfl) rfl #[.int .u64 a0,.int .u64 a4,.slice A1 l1.length c1] rfl (by (try simp only [List.map_toArray,List.map_cons,List.map_nil]);first|done|rfl|(simp only [List.length_drop,List.length_take];rfl)) ?_;(with_reducible refine (privityref04_Scale.calls k a0 a4 _ _ l1 t648 _ ?side1 ?side2 A7.out).mono ?_);(case side1 => repeat (first|exact HR1.out|(with_reducible refine Kd.C_alloc ?_ _)|(with_reducible refine Kd.C_drewN ?_ _)|(with_reducible refine Kd.C_drew ?_)));(case side2 => exact HC1.out);rintro e w15 ⟨v649,rfl,ho0,hb⟩;refine ⟨_,rfl,?_⟩;have n0_ := Aside0.mk (Kd.R_lower ho0 (below_size (bb HB)));have n1_ := Aside0.mk (below_step (bb HB) hb);clear HB;have HO650 := n0_;have HB := n1_;clear n0_ n1_;(try clear hb);(try clear hb2);(try clear hk);(try clear hi);(try clear ho0);obtain ⟨Ao16,co16,eo16⟩ := Kd.R_slice HO650.out;subst eo16)|((with_reducible refine gate_callee (f := 59) rfl ?_);refine goesL_ (some 24) rfl rfl Try.func59 (by kernel_rfl) rfl #[.int .u64 a0,.slice A2 l2.length c2,.slice Ao16 t648.length co16] rfl (by (try simp only [List.map_toArray,List.map_cons,List.map_nil]);first|done|rfl|(simp only [List.length_drop,List.length_take];rfl)) ?_;(with_reducible refine (privityref04_Add.calls k a0 _ _ l2 _ _ t648 t651 _ ?side1 ?side2 ?side3 ?side4 A8.out).mono ?_);(case side1 => exact cb HR2 HB);(case side2 => exact HC2.out);(case side3 => exact cr HO650);(case side4 => exact (Kd.R_reads' HO650.out).2.1);rintro e w17 ⟨v652,rfl,ho0,hb⟩;refine ⟨_,rfl,?_⟩;have n0_ := Aside0.mk (Kd.R_elder' (rr HO650) (Kd.R_base ho0) hb);have n1_ := Aside0.mk (Kd.R_lower (Kd.R_new' ho0 (Kd.R_lt (rr HO650))) (below_size (bb HB)));have n2_ := Aside0.mk (below_step (bb HB) hb);clear HO650 HB;have HO650 := n0_;have HO653 := n1_;have HB := n2_;clear n0_ n1_ n2_;(try clear hb);(try clear hb2);(try clear hk);(try clear hi);(try clear ho0))|((with_reducible refine gate_callee (f := 60) rfl ?_);refine goesL_ (some 30) rfl rfl Try.func60 (by kernel_rfl) rfl #[.int .u64 a0,.int .u64 a5,.slice A1 l1.length c1] rfl (by (try simp only [List.map_toArray,List.map_cons,List.map_nil]);first|done|rfl|(simp only [List.length_drop,List.length_take];rfl)) ?_;(with_reducible refine (privityref04_Scale.calls k a0 a5 _ _ l1 t654 _ ?side1 ?side2 A9.out).mono ?_);(case side1 => exact cb HR1 HB);(case side2 => exact HC1.out);rintro e w18 ⟨v655,rfl,ho0,hb⟩;refine ⟨_,rfl,?_⟩;have n0_ := Aside0.mk (Kd.R_elder' (rr HO650) (Kd.R_base ho0) hb);have n1_ := Aside0.mk (Kd.R_elder' (rr HO653) (Kd.R_base ho0) hb);have n2_ := Aside0.mk (Kd.R_lower (Kd.R_new' (Kd.R_new' ho0 (Kd.R_lt (rr HO650))) (Kd.R_lt (rr HO653))) (below_size (bb HB)));have n3_ := Aside0.mk (below_step (bb HB) hb);clear HO650 HO653 HB;have HO650 := n0_;have HO653 := n1_;have HO656 := n2_;have HB := n3_;clear n0_ n1_ n2_ n3_;(try clear hb);(try clear hb2);(try clear hk);(try clear hi);(try clear ho0);obtain ⟨Ao19,co19,eo19⟩ := Kd.R_slice HO656.out;subst eo19)|((with_reducible refine gate_callee (f := 59) rfl ?_);refine goesL_ (some 31) rfl rfl Try.func59 (by kernel_rfl) rfl #[.int .u64 a0,.slice A3 l3.length c3,.slice Ao19 t654.length co19] rfl (by (try simp only [List.map_toArray,List.map_cons,List.map_nil]);first|done|rfl|(simp only [List.length_drop,List.length_take];rfl)) ?_;(with_reducible refine (privityref04_Add.calls k a0 _ _ l3 _ _ t654 t657 _ ?side1 ?side2 ?side3 ?side4 A10.out).mono ?_);(case side1 => exact cb HR3 HB);(case side2 => exact HC3.out);(case side3 => exact cr HO656);(case side4 => exact (Kd.R_reads' HO656.out).2.1);rintro e w20 ⟨v658,rfl,ho0,hb⟩;refine ⟨_,rfl,?_⟩;have n0_ := Aside0.mk (Kd.R_elder' (rr HO650) (Kd.R_base ho0) hb);have n1_ := Aside0.mk (Kd.R_elder' (rr HO653) (Kd.R_base ho0) hb);have n2_ := Aside0.mk (Kd.R_elder' (rr HO656) (Kd.R_base ho0) hb);have n3_ := Aside0.mk (Kd.R_lower (Kd.R_new' (Kd.R_new' (Kd.R_new' ho0 (Kd.R_lt (rr HO650))) (Kd.R_lt (rr HO653))) (Kd.R_lt (rr HO656))) (below_size (bb HB)));have n4_ := Aside0.mk (below_step (bb HB) hb);clear HO650 HO653 HO656 HB;have HO650 := n0_;have HO653 := n1_;have HO656 := n2_;have HO659 := n3_;have HB := n4_;clear n0_ n1_ n2_ n3_ n4_;(try clear hb);(try clear hb2);(try clear hk);(try clear hi);(try clear ho0);obtain ⟨Ao21,co21,eo21⟩ := Kd.R_slice HO653.out;subst eo21;obtain ⟨Ao22,co22,eo22⟩ := Kd.R_slice HO659.out;subst eo22)|((with_reducible refine gate_callee (f := 77) rfl ?_);refine goesL_ (some 38) rfl rfl Try.func77 (by kernel_rfl) rfl #[.int .u64 a0,.slice Ao21 t651.length co21,.slice Ao22 t657.length co22] rfl (by (try simp only [List.map_toArray,List.map_cons,List.map_nil]);first|done|rfl|(simp only [List.length_drop,List.length_take];rfl)) ?_;(with_reducible refine (privityref04_Mul.calls k a0 _ _ t651 _ _ t657 t660 _ ?side1 ?side2 ?side3 ?side4 A11.out).mono ?_);(case side1 => exact cr HO653);(case side2 => exact (Kd.R_reads' HO653.out).2.1);(case side3 => exact cr HO659);(case side4 => exact (Kd.R_reads' HO659.out).2.1);rintro e w23 ⟨v661,rfl,ho0,hb⟩;refine ⟨_,rfl,?_⟩;have n0_ := Aside0.mk (Kd.R_elder' (rr HO650) (Kd.R_base ho0) hb);have n1_ := Aside0.mk (Kd.R_elder' (rr HO653) (Kd.R_base ho0) hb);have n2_ := Aside0.mk (Kd.R_elder' (rr HO656) (Kd.R_base ho0) hb);have n3_ := Aside0.mk (Kd.R_elder' (rr HO659) (Kd.R_base ho0) hb);have n4_ := Aside0.mk (Kd.R_lower (Kd.R_new' (Kd.R_new' (Kd.R_new' (Kd.R_new' ho0 (Kd.R_lt (rr HO650))) (Kd.R_lt (rr HO653))) (Kd.R_lt (rr HO656))) (Kd.R_lt (rr HO659))) (below_size (bb HB)));have n5_ := Aside0.mk (below_step (bb HB) hb);clear HO650 HO653 HO656 HO659 HB;have HO650 := n0_;have HO653 := n1_;have HO656 := n2_;have HO659 := n3_;have HO662 := n4_;have HB := n5_;clear n0_ n1_ n2_ n3_ n4_ n5_;(try clear hb);(try clear hb2);(try clear hk);(try clear hi);(try clear ho0))|((with_reducible refine gate_callee (f := 77) rfl ?_);refine goesL_ (some 42) rfl rfl Try.func77 (by kernel_rfl) rfl #[.int .u64 a0,.slice A2 l2.length c2,.slice A3 l3.length c3] rfl (by (try simp only [List.map_toArray,List.map_cons,List.map_nil]);first|done|rfl|(simp only [List.length_drop,List.length_take];rfl)) ?_;(with_reducible refine (privityref04_Mul.calls k a0 _ _ l2 _ _ l3 t663 _ ?side1 ?side2 ?side3 ?side4 A12.out).mono ?_);(case side1 => exact cb HR2 HB);(case side2 => exact HC2.out);(case side3 => exact cb HR3 HB);(case side4 => exact HC3.out);rintro e w24 ⟨v664,rfl,ho0,hb⟩;refine ⟨_,rfl,?_⟩;have n0_ := Aside0.mk (Kd.R_elder' (rr HO650) (Kd.R_base ho0) hb);have n1_ := Aside0.mk (Kd.R_elder' (rr HO653) (Kd.R_base ho0) hb);have n2_ := Aside0.mk (Kd.R_elder' (rr HO656) (Kd.R_base ho0) hb);have n3_ := Aside0.mk (Kd.R_elder' (rr HO659) (Kd.R_base ho0) hb);have n4_ := Aside0.mk (Kd.R_elder' (rr HO662) (Kd.R_base ho0) hb);have n5_ := Aside0.mk (Kd.R_lower (Kd.R_new' (Kd.R_new' (Kd.R_new' (Kd.R_new' (Kd.R_new' ho0 (Kd.R_lt (rr HO650))) (Kd.R_lt (rr HO653))) (Kd.R_lt (rr HO656))) (Kd.R_lt (rr HO659))) (Kd.R_lt (rr HO662))) (below_size (bb HB)));have n6_ := Aside0.mk (below_step (bb HB) hb);clear HO650 HO653 HO656 HO659 HO662 HB;have HO650 := n0_;have HO653 := n1_;have HO656 := n2_;have HO659 := n3_;have HO662 := n4_;have HO665 := n5_;have HB := n6_;clear n0_ n1_ n2_ n3_ n4_ n5_ n6_;(try clear hb);(try clear hb2);(try clear hk);(try clear hi);(try clear ho0);obtain ⟨Ao25,co25,eo25⟩ := Kd.R_slice HO662.out;subst eo25;obtain ⟨Ao26,co26,eo26⟩ := Kd.R_slice HO665.out;subst eo26)|((with_reducible refine gate_callee (f := 88) rfl ?_);refine goesL_ (some 43) rfl rfl Try.func88 (by kernel_rfl) rfl #[.int .u64 a0,.slice Ao25 t660.length co25,.slice Ao26 t663.length co26] rfl (by (try simp only [List.map_toArray,List.map_cons,List.map_nil]);first|done|rfl|(simp only [List.length_drop,List.length_take];rfl)) ?_;(with_reducible refine (privityref04_Sub.calls k a0 _ _ t660 _ _ t663 t666 _ ?side1 ?side2 ?side3 ?side4 A13.out).mono ?_);(case side1 => exact cr HO662);(case side2 => exact (Kd.R_reads' HO662.out).2.1);(case side3 => exact cr HO665);(case side4 => exact (Kd.R_reads' HO665.out).2.1);rintro e w27 ⟨v667,rfl,ho0,hb⟩;refine ⟨_,rfl,?_⟩;have n0_ := Aside0.mk (Kd.R_elder' (rr HO650) (Kd.R_base ho0) hb);have n1_ := Aside0.mk (Kd.R_elder' (rr HO653) (Kd.R_base ho0) hb);have n2_ := Aside0.mk (Kd.R_elder' (rr HO656) (Kd.R_base ho0) hb);have n3_ := Aside0.mk (Kd.R_elder' (rr HO659) (Kd.R_base ho0) hb);have n4_ := Aside0.mk (Kd.R_elder' (rr HO662) (Kd.R_base ho0) hb);have n5_ := Aside0.mk (Kd.R_elder' (rr HO665) (Kd.R_base ho0) hb);have n6_ := Aside0.mk (Kd.R_lower (Kd.R_new' (Kd.R_new' (Kd.R_new' (Kd.R_new' (Kd.R_new' (Kd.R_new' ho0 (Kd.R_lt (rr HO650))) (Kd.R_lt (rr HO653))) (Kd.R_lt (rr HO656))) (Kd.R_lt (rr HO659))) (Kd.R_lt (rr HO662))) (Kd.R_lt (rr HO665))) (below_size (bb HB)));have n7_ := Aside0.mk (below_step (bb HB) hb);clear HO650 HO653 HO656 HO659 HO662 HO665 HB;have HO650 := n0_;have HO653 := n1_;have HO656 := n2_;have HO659 := n3_;have HO662 := n4_;have HO665 := n5_;have HO668 := n6_;have HB := n7_;clear n0_ n1_ n2_ n3_ n4_ n5_ n6_ n7_;(try clear hb);(try clear hb2);(try clear hk);(try clear hi);(try clear ho0);obtain ⟨Ao28,co28,eo28⟩ := Kd.R_slice HO668.out;subst eo28)|((with_reducible refine gate_callee (f := 87) rfl ?_);refine goesL_ (some 45) rfl rfl Try.func87 (by kernel_rfl) rfl #[.int .u64 a0,.slice Ao28 t666.length co28,.slice A1 l1.length c1] rfl (by (try simp only [List.map_toArray,List.map_cons,List.map_nil]);first|done|rfl|(simp only [List.length_drop,List.length_take];rfl)) ?_;(with_reducible refine (privityref04_DivMod.calls k a0 _ _ t666 _ _ l1 t669 t670 t671 _ ?side1 ?side2 ?side3 ?side4 A14.out).mono ?_);(case side1 => exact cr HO668);(case side2 => exact (Kd.R_reads' HO668.out).2.1);(case side3 => exact cb HR1 HB);(case side4 => exact HC1.out);rintro e w29 ⟨v672,v674,rfl,ho0,ho1,hb⟩;refine ⟨_,rfl,?_⟩;have n0_ := Aside0.mk (Kd.R_mono (Kd.R_told (Kd.R_told (Kd.R_old (rr HO650) hb) (Kd.R_base ho0)) (Kd.R_base ho1)) (fun _ h_ => h_.1));have n1_ := Aside0.mk (Kd.R_mono (Kd.R_told (Kd.R_told (Kd.R_old (rr HO653) hb) (Kd.R_base ho0)) (Kd.R_base ho1)) (fun _ h_ => h_.1));have n2_ := Aside0.mk (Kd.R_mono (Kd.R_told (Kd.R_told (Kd.R_old (rr HO656) hb) (Kd.R_base ho0)) (Kd.R_base ho1)) (fun _ h_ => h_.1));have n3_ := Aside0.mk (Kd.R_mono (Kd.R_told (Kd.R_told (Kd.R_old (rr HO659) hb) (Kd.R_base ho0)) (Kd.R_base ho1)) (fun _ h_ => h_.1));have n4_ := Aside0.mk (Kd.R_mono (Kd.R_told (Kd.R_told (Kd.R_old (rr HO662) hb) (Kd.R_base ho0)) (Kd.R_base ho1)) (fun _ h_ => h_.1));have n5_ := Aside0.mk (Kd.R_mono (Kd.R_told (Kd.R_told (Kd.R_old (rr HO665) hb) (Kd.R_base ho0)) (Kd.R_base ho1)) (fun _ h_ => h_.1));have n6_ := Aside0.mk (Kd.R_mono (Kd.R_told (Kd.R_told (Kd.R_old (rr HO668) hb) (Kd.R_base ho0)) (Kd.R_base ho1)) (fun _ h_ => h_.1));have n7_ := Aside0.mk (Kd.R_lower (Kd.R_new' (Kd.R_new' (Kd.R_new' (Kd.R_new' (Kd.R_new' (Kd.R_new' (Kd.R_new' ho0 (Kd.R_lt (rr HO650))) (Kd.R_lt (rr HO653))) (Kd.R_lt (rr HO656))) (Kd.R_lt (rr HO659))) (Kd.R_lt (rr HO662))) (Kd.R_lt (rr HO665))) (Kd.R_lt (rr HO668))) (below_size (bb HB)));have n8_ := Aside0.mk (Kd.R_lower (Kd.R_new' (Kd.R_new' (Kd.R_new' (Kd.R_new' (Kd.R_new' (Kd.R_new' (Kd.R_new' ho1 (Kd.R_lt (rr HO650))) (Kd.R_lt (rr HO653))) (Kd.R_lt (rr HO656))) (Kd.R_lt (rr HO659))) (Kd.R_lt (rr HO662))) (Kd.R_lt (rr HO665))) (Kd.R_lt (rr HO668))) (below_size (bb HB)));have n9_ := Aside0.mk (below_step (bb HB) hb);clear HO650 HO653 HO656 HO659 HO662 HO665 HO668 HB;have HO650 := n0_;have HO653 := n1_;have HO656 := n2_;have HO659 := n3_;have HO662 := n4_;have HO665 := n5_;have HO668 := n6_;have HO673 := n7_;have HO675 := n8_;have HB := n9_;clear n0_ n1_ n2_ n3_ n4_ n5_ n6_ n7_ n8_ n9_;(try clear hb);(try clear hb2);(try clear hk);(try clear hi);(try clear ho0);(try clear ho1)))
 go_ret
 exact ⟨_,by first|rfl|(simp [errW_none,errW_some] <;> rfl)|(simp [*,errW_none,errW_some] <;> rfl),by (with_reducible repeat (first|apply Kd.R_alloc|apply Kd.R_drewN|apply Kd.R_drew));exact Kd.R_mono HO673.out (fun _ hk => trivial),by repeat (first|(with_reducible first|exact HB.out|apply below_alloc|apply pw_below_drewN|apply below_drew1)|exact HB.out)⟩
def privityref43_Fit.l0 : Nat → List Int → Int → List Int → Int → Option (List Int)
 | 0,_,_,_,_ => none
 | k + 1,x0,x1,x5,x6 => if x6 < x1 then ((privityref04_Coefficient.f x0 x6).bind fun t676 => (if x5.length < 17592186044416 then (privityref43_Fit.l0 k x0 x1 (x5 ++ [t676]) (wrap64 (x6 + 1))) else (none))) else (some x5)
def privityref43_Fit.f (k : Nat) (l0 : List Int) (a1 : Int) : Option (List Int) := privityref43_Fit.l0 k l0 a1 ([] : List Int) 0
set_option maxHeartbeats 8000000 in
set_option maxRecDepth 100000 in
theorem privityref43_Fit.calls (k : Nat) (A0 : Option Addr) (c0 : Nat) (l0 : List Int) (a1 : Int) (r : List Int) (w : World) (hr0 : Kd.C (Kd.int .u64) w A0 l0.length l0) (hc0 : l0.length ≤ c0) (h : privityref43_Fit.f k l0 a1 = some r) :
  Calls Try.prog 58 #[.slice A0 l0.length c0,.int .i64 a1] w fun e w' => ∃ v0_ : Value,e = .returned (v0_) ∧ Kd.R (Kd.int .u64) 22 w' w.heap.size (fun _ => True) v0_ r ∧ Below w.heap.size w w' := by
 have HR0 := Aside0.mk hr0
 have HC0 := Aside0.mk hc0
 clear hr0 hc0
 have HB := Aside0.mk (Below.refl w.heap.size w)
 have H : (privityref43_Fit.l0 k l0 a1 ([] : List Int) 0) = some r := h
 clear h
 have H' := Aside0.mk H
 clear H
 go_enter Try.func58,Try.ntmps58
 go_wp2
 go_loopg [5,6] k (fun kq v5 v6 w' => ∃ (x5_1 : List Int) (x6_1 : Int),v6 = .int .i64 x6_1 ∧ Aside0 (privityref43_Fit.l0 kq l0 a1 x5_1 x6_1 = some r) ∧ Aside0 (kq ≤ k) ∧ Aside0 (Kd.R (Kd.int .u64) 22 w' w.heap.size (fun _ => True) v5 x5_1) ∧ Aside0 (Below w.heap.size w w'))
 case atStart => exact ⟨(([] : List Int)),(0),(by first|rfl|(simp;done)|(simp [*];done)),H',⟨Nat.le_refl _⟩,⟨by first|exact Kd.R_nil _ _ _ _ _|exact Kd.N_nil _ _ _ _ _|exact Kd.V_nil _ _ _ _ _|exact Kd.Q_nil _ _ _ _ _|exact Kd.S_nil _ _ _ _ _⟩,⟨by repeat (first|(with_reducible first|exact HB.out|apply below_alloc|apply pw_below_drewN|apply below_drew1)|exact HB.out)⟩⟩
 case round =>
  clear H'
  try clear p2
  obtain ⟨x5_1,x6_1,rfl,HA,HK1,HO_5,HB⟩ := hrel
  cases gk with
  | zero => exact absurd HA.out (by simp [privityref43_Fit.l0])
  | succ k1 =>
   have H := HA.out
   clear HA
   simp only [privityref43_Fit.l0] at H
   by_cases c3 : x6_1 < a1
   ·rw [if_pos c3] at H
    have c3b0 : decide (x6_1 < a1) = true := decide_eq_true c3
    clear c3
    replace H := Option.bind_eq_some_iff.mp H
    obtain ⟨t676,A40,H⟩ := H
    try dsimp only at H
    have A4 := Aside0.mk A40
    clear A40
    by_cases c5 : x5_1.length < 17592186044416
    ·rw [if_pos c5] at H
     have LMc5 := Aside0.mk c5
     clear c5
     obtain ⟨y677,hy677⟩ : ∃ y_ : List Int,y_ = (x5_1 ++ [t676]) := ⟨_,rfl⟩
     replace H : (privityref43_Fit.l0 k1 l0 a1 y677 (wrap64 (x6_1 + 1))) = some r := by first|(rw [hy677];with_reducible exact H)|(have H2_ := (Option.bind_some _ _).symm.trans H;rw [hy677];with_reducible exact H2_)|(have H2_ := (Option.bind_some _ _).symm.trans H;with_reducible exact H2_)|with_reducible exact H|(rw [hy677];exact H)|exact H
     have Ny677 := Aside0.mk hy677
     clear hy677
     have H' := Aside0.mk H
     clear H
     go_wp2_with (first|((with_reducible refine gate_callee (f := 57) rfl ?_);refine goesL_ (some 15) rfl rfl Try.func57 (by kernel_rfl) rfl #[.slice A0 l0.length c0,.int .i64 x6_1] rfl (by (try simp only [List.map_toArray,List.map_cons,List.map_nil]);first|done|rfl|(simp only [List.length_drop,List.length_take];rfl)) ?_;(with_reducible refine (privityref04_Coefficient.calls _ _ l0 x6_1 t676 _ ?side1 ?side2 A4.out).mono ?_);(case side1 => exact cb HR0 HB);(case side2 => exact HC0.out);rintro e w' ⟨rfl,⟨nd,rfl⟩⟩;refine ⟨_,rfl,?_⟩)|((with_reducible refine gate_builtin (b := .append) (xs := #[.tmp 12,.tmp 16]) rfl ?_);at_builtin;refine Kd.R_append (Kd.int .u64) (w0 := w) w.heap.size rfl (.tmp 12) (.tmp 16) 26 22 (.int .u64 0) 8 rfl Try.underlying26 info22 rfl (by decide) (by omega) u5 x5_1 t676 [.int .u64 t676] (fun _ => True) (fun _ => False) rfl rfl ?aP (fun _ hk => hk.elim) ?aF ?aO ?aB ?aS ?aL ?_;(case aP => exact rfl);(case aB => exact (bb HB));(case aF => exact (fun _ _ => trivial));(case aO => exact (rr HO_5));(case aS => exact (below_size (bb HB)));(case aL => have := LMc5.out;omega);intro v678 w6 ho hb hg hat;rw [← Ny677.out] at ho;have n0_ := Aside0.mk (hb);have n1_ := Aside0.mk (ho);clear HB HO_5;have HB := n0_;have HO679 := n1_;clear n0_ n1_;clear ho hb hg hat))
     go_roundg k1
     case measure => have := HK1.out;omega
     case rel => exact ⟨(y677),(wrap64 (x6_1 + 1)),(by first|rfl|(simp;done)|(simp [*];done)),H',⟨by have := HK1.out;omega⟩,⟨by (with_reducible repeat (first|apply Kd.R_alloc|apply Kd.R_drewN|apply Kd.R_drew));exact HO679.out⟩,⟨by repeat (first|(with_reducible first|exact HB.out|apply below_alloc|apply pw_below_drewN|apply below_drew1)|exact HB.out)⟩⟩
    ·rw [if_neg c5] at H
     exact absurd H (by simp)
   ·rw [if_neg c3] at H
    have c3b0 : decide (x6_1 < a1) = false := decide_eq_false c3
    clear c3
    obtain rfl := Option.some.inj H
    go_wp2
    go_ret
    exact ⟨_,by first|rfl|(simp [errW_none,errW_some] <;> rfl)|(simp [*,errW_none,errW_some] <;> rfl),by (with_reducible repeat (first|apply Kd.R_alloc|apply Kd.R_drewN|apply Kd.R_drew));exact HO_5.out,by repeat (first|(with_reducible first|exact HB.out|apply below_alloc|apply pw_below_drewN|apply below_drew1)|exact HB.out)⟩
end Go.Proofs.Ytejeelpnmdfibaa.Pr
end
