/- Part 3 of the proof's texts, joined in build order. -/
import Derived.Test.YtejeelpnmdfibaaZTSh1
import Derived.Test.YtejeelpnmdfibaaZTSh2
import Derived.Test.YtejeelpnmdfibaaZTSh0
import Derived.Laws.CopyOwn
import Derived.Deep.WholeRow
section
namespace Go.Proofs.Ytejeelpnmdfibaa.Pr
open Go.RowKit Go.Proofs.YtejeelpnmdfibaaW.PrintWords Go.Proofs.YtejeelpnmdfibaaW.PrintLast Go.Proofs.YtejeelpnmdfibaaW.PrintMore
attribute [local go_sem] max2_int min2_int max_two min_two max_three min_three max_four min_four
set_option linter.unusedVariables false
set_option linter.unusedSimpArgs false
open Go.Proofs.Ytejeelpnmdfibaa.Hw
def privityref01_Pow.l0 : Nat → Int → Int → Int → Int → Option (Int)
 | 0,_,_,_,_ => none
 | k + 1,x0,x1,x2,x7 => if x2 > 0 then (if (Int.tmod x2 2) = 1 then ((privityref01_Mul.f k x0 x7 x1).bind fun t535 => ((privityref01_Mul.f k x0 x1 x1).bind fun t536 => (privityref01_Pow.l0 k x0 t536 (IntKind.u64.wrap (Int.tdiv x2 2)) t535))) else ((privityref01_Mul.f k x0 x1 x1).bind fun t537 => (privityref01_Pow.l0 k x0 t537 (IntKind.u64.wrap (Int.tdiv x2 2)) x7))) else (some x7)
def privityref01_Pow.f (k : Nat) (a0 : Int) (a1 : Int) (a2 : Int) : Option (Int) := privityref01_Pow.l0 k a0 a1 a2 1
theorem privityref01_Pow.mono_l : ∀ k,(∀ y0 y1 y2 y3,LeO (privityref01_Pow.l0 k y0 y1 y2 y3) (privityref01_Pow.l0 (k + 1) y0 y1 y2 y3))
 | 0 => fun _ _ _ _ r h => by simp [privityref01_Pow.l0] at h
 | k + 1 => by
  have ih0 := privityref01_Pow.mono_l k
  ·intro y0 y1 y2 y3
   unfold privityref01_Pow.l0
   repeat' first
   | (with_reducible exact ih0 _ _ _ _)
   | (with_reducible exact privityref01_Mul.mono _ _ _ _)
   | (with_reducible exact LeO.refl _)
   | (with_reducible exact LeO.none _)
   | (with_reducible refine LeO.ite ?_ ?_)
   | (with_reducible refine LeO.bind ?_ (fun _ => ?_))
   | exact ih0 _ _ _ _
   | exact privityref01_Mul.mono _ _ _ _
   | exact LeO.none _
   | refine LeO.ite ?_ ?_
   | refine LeO.bind ?_ (fun _ => ?_)
set_option maxHeartbeats 8000000 in
set_option maxRecDepth 100000 in
theorem privityref01_Pow.calls (k : Nat) (a0 : Int) (a1 : Int) (a2 : Int) (r : Int) (w : World) (h : privityref01_Pow.f k a0 a1 a2 = some r) :
  Calls Try.prog 100 #[.int .u64 a0,.int .u64 a1,.int .u64 a2] w fun e w' => e = .returned (.int .u64 r) ∧ Drawn0 w w' := by
 have H : (privityref01_Pow.l0 k a0 a1 a2 1) = some r := h
 clear h
 have H' := Aside0.mk H
 clear H
 go_enter Try.func100,Try.ntmps100
 go_wp2
 go_loopg [1,2,7] k (fun kq v1 v2 v7 w' => ∃ (x1_1 : Int) (x2_1 : Int) (x7_1 : Int),v1 = .int .u64 x1_1 ∧ v2 = .int .u64 x2_1 ∧ v7 = .int .u64 x7_1 ∧ Aside0 (privityref01_Pow.l0 kq a0 x1_1 x2_1 x7_1 = some r) ∧ Aside0 (kq ≤ k) ∧ Drawn0 w w')
 case atStart => exact ⟨(a1),(a2),(1),(by first|rfl|(simp;done)|(simp [*];done)),(by first|rfl|(simp;done)|(simp [*];done)),(by first|rfl|(simp;done)|(simp [*];done)),H',⟨Nat.le_refl _⟩,by repeat (first|exact Drawn0.refl _|apply Drawn0.step)⟩
 case round =>
  clear H'
  try clear c1
  try clear p2
  obtain ⟨x1_1,x2_1,x7_1,rfl,rfl,rfl,HA,HK1,⟨m1,rfl⟩⟩ := hrel
  cases gk with
  | zero => exact absurd HA.out (by simp [privityref01_Pow.l0])
  | succ k1 =>
   have H := HA.out
   clear HA
   simp only [privityref01_Pow.l0] at H
   by_cases c4 : x2_1 > 0
   ·rw [if_pos c4] at H
    have c4b0 : decide (0 < x2_1) = true := decide_eq_true c4
    clear c4
    by_cases c5 : (Int.tmod x2_1 2) = 1
    ·rw [if_pos c5] at H
     have c5b0 : ((Int.tmod x2_1 2) == 1) = true := beq_iff_eq.mpr c5
     have c5b1 : ((Int.tmod x2_1 2) != 1) = false := bne_eq_false_iff_eq.mpr c5
     clear c5
     replace H := Option.bind_eq_some_iff.mp H
     obtain ⟨t535,A60,H⟩ := H
     try dsimp only at H
     have A6 := Aside0.mk A60
     clear A60
     replace H := Option.bind_eq_some_iff.mp H
     obtain ⟨t536,A70,H⟩ := H
     try dsimp only at H
     have A7 := Aside0.mk A70
     clear A70
     have H' := Aside0.mk H
     clear H
     go_wp2_with (first|((with_reducible refine gate_callee (f := 31) rfl ?_);refine goesL_ (some 16) rfl rfl Try.func31 (by kernel_rfl) rfl #[.int .u64 a0,.int .u64 x7_1,.int .u64 x1_1] rfl (by (try simp only [List.map_toArray,List.map_cons,List.map_nil]);first|done|rfl|(simp only [List.length_drop,List.length_take];rfl)) ?_;(with_reducible refine (privityref01_Mul.calls k1 a0 x7_1 x1_1 t535 _ A6.out).mono ?_);rintro e w' ⟨rfl,⟨nd,rfl⟩⟩;refine ⟨_,rfl,?_⟩)|((with_reducible refine gate_callee (f := 31) rfl ?_);refine goesL_ (some 20) rfl rfl Try.func31 (by kernel_rfl) rfl #[.int .u64 a0,.int .u64 x1_1,.int .u64 x1_1] rfl (by (try simp only [List.map_toArray,List.map_cons,List.map_nil]);first|done|rfl|(simp only [List.length_drop,List.length_take];rfl)) ?_;(with_reducible refine (privityref01_Mul.calls k1 a0 x1_1 x1_1 t536 _ A7.out).mono ?_);rintro e w' ⟨rfl,⟨nd,rfl⟩⟩;refine ⟨_,rfl,?_⟩))
     go_roundg k1
     case measure => have := HK1.out;omega
     case rel => exact ⟨(t536),(IntKind.u64.wrap (Int.tdiv x2_1 2)),(t535),(by first|rfl|(simp;done)|(simp [*];done)),(by first|rfl|(simp;done)|(simp [*];done)),(by first|rfl|(simp;done)|(simp [*];done)),H',⟨by have := HK1.out;omega⟩,by repeat (first|exact Drawn0.refl _|apply Drawn0.step)⟩
    ·rw [if_neg c5] at H
     have c5b0 : ((Int.tmod x2_1 2) == 1) = false := beq_eq_false_iff_ne.mpr c5
     have c5b1 : ((Int.tmod x2_1 2) != 1) = true := bne_iff_ne.mpr c5
     replace H := Option.bind_eq_some_iff.mp H
     obtain ⟨t537,A80,H⟩ := H
     try dsimp only at H
     have A8 := Aside0.mk A80
     clear A80
     have H' := Aside0.mk H
     clear H
     go_wp2_with (first|((with_reducible refine gate_callee (f := 31) rfl ?_);refine goesL_ (some 20) rfl rfl Try.func31 (by kernel_rfl) rfl #[.int .u64 a0,.int .u64 x1_1,.int .u64 x1_1] rfl (by (try simp only [List.map_toArray,List.map_cons,List.map_nil]);first|done|rfl|(simp only [List.length_drop,List.length_take];rfl)) ?_;(with_reducible refine (privityref01_Mul.calls k1 a0 x1_1 x1_1 t537 _ A8.out).mono ?_);rintro e w' ⟨rfl,⟨nd,rfl⟩⟩;refine ⟨_,rfl,?_⟩))
     go_roundg k1
     case measure => have := HK1.out;omega
     case rel => exact ⟨(t537),(IntKind.u64.wrap (Int.tdiv x2_1 2)),(x7_1),(by first|rfl|(simp;done)|(simp [*];done)),(by first|rfl|(simp;done)|(simp [*];done)),(by first|rfl|(simp;done)|(simp [*];done)),H',⟨by have := HK1.out;omega⟩,by repeat (first|exact Drawn0.refl _|apply Drawn0.step)⟩
   ·rw [if_neg c4] at H
    have c4b0 : decide (0 < x2_1) = false := decide_eq_false c4
    clear c4
    obtain rfl := Option.some.inj H
    go_wp2
    go_ret
    exact ⟨by first|rfl|(simp;done)|(simp [*];done),by repeat (first|exact Drawn0.refl _|apply Drawn0.step)⟩
def privityref01_Inverse.f (k : Nat) (a0 : Int) (a1 : Int) : Option (Int × Int) := if a1 = 0 then (some (0,8)) else ((privityref01_Pow.f k a0 a1 (IntKind.u64.wrap (a0 - 2))).bind fun t538 => (some (t538,0)))
set_option maxHeartbeats 8000000 in
set_option maxRecDepth 100000 in
theorem privityref01_Inverse.calls (k : Nat) (a0 : Int) (a1 : Int) (r1 : Int) (r2 : Int) (w : World) (h : privityref01_Inverse.f k a0 a1 = some (r1,r2)) :
  Calls Try.prog 76 #[.int .u64 a0,.int .u64 a1] w fun e w' => e = .returned (.tuple #[.int .u64 r1,.int .i64 r2]) ∧ Drawn0 w w' := by
 have H : (if a1 = 0 then (some (0,8)) else ((privityref01_Pow.f k a0 a1 (IntKind.u64.wrap (a0 - 2))).bind fun t538 => (some (t538,0)))) = some (r1,r2) := h
 clear h
 by_cases c3 : a1 = 0
 ·rw [if_pos c3] at H
  have c3b0 : (a1 == 0) = true := beq_iff_eq.mpr c3
  have c3b1 : (a1 != 0) = false := bne_eq_false_iff_eq.mpr c3
  clear c3
  simp only [Option.some.injEq,Prod.mk.injEq] at H
  obtain ⟨rfl,rfl⟩ := H
  go_enter Try.func76,Try.ntmps76
  go_wp2
  go_ret2
  exact ⟨by first|rfl|(simp;done)|(simp [*];done),by repeat (first|exact Drawn0.refl _|apply Drawn0.step)⟩
 ·rw [if_neg c3] at H
  have c3b0 : (a1 == 0) = false := beq_eq_false_iff_ne.mpr c3
  have c3b1 : (a1 != 0) = true := bne_iff_ne.mpr c3
  replace H := Option.bind_eq_some_iff.mp H
  obtain ⟨t538,A40,H⟩ := H
  try dsimp only at H
  have A4 := Aside0.mk A40
  clear A40
  simp only [Option.some.injEq,Prod.mk.injEq] at H
  obtain ⟨rfl,rfl⟩ := H
  go_enter Try.func76,Try.ntmps76
  go_wp2_with (first|((with_reducible refine gate_callee (f := 100) rfl ?_);refine goesL_ (some 12) rfl rfl Try.func100 (by kernel_rfl) rfl #[.int .u64 a0,.int .u64 a1,.int .u64 (IntKind.u64.wrap (a0 - 2))] rfl (by (try simp only [List.map_toArray,List.map_cons,List.map_nil]);first|done|rfl|(simp only [List.length_drop,List.length_take];rfl)) ?_;(with_reducible refine (privityref01_Pow.calls k a0 a1 (IntKind.u64.wrap (a0 - 2)) t538 _ A4.out).mono ?_);rintro e w' ⟨rfl,⟨nd,rfl⟩⟩;refine ⟨_,rfl,?_⟩))
  go_ret2
  exact ⟨by first|rfl|(simp;done)|(simp [*];done),by repeat (first|exact Drawn0.refl _|apply Drawn0.step)⟩
def privityref04_Trim.l0 : Nat → List Int → Int → Option (List Int)
 | 0,_,_ => none
 | k + 1,x0,x3 => if x3 > 0 then (if 0 ≤ (wrap64 (x3 - 1)) then (if (wrap64 (x3 - 1)) < (x0.length : Int) then (if (rd x0 (wrap64 (x3 - 1))) = 0 then (privityref04_Trim.l0 k x0 (wrap64 (x3 - 1))) else ((some (([] : List Int) : List Int)).bind fun y540 => (if 0 ≤ x3 then (if x3 ≤ (x0.length : Int) then (if y540.length + (x0.take (x3 : Int).toNat).length < 17592186044416 then (some (y540 ++ (x0.take (x3 : Int).toNat))) else (none)) else (none)) else (none)))) else (none)) else (none)) else ((some (([] : List Int) : List Int)).bind fun y547 => (if 0 ≤ x3 then (if x3 ≤ (x0.length : Int) then (if y547.length + (x0.take (x3 : Int).toNat).length < 17592186044416 then (some (y547 ++ (x0.take (x3 : Int).toNat))) else (none)) else (none)) else (none)))
def privityref04_Trim.f (k : Nat) (l0 : List Int) : Option (List Int) := privityref04_Trim.l0 k l0 (l0.length : Int)
set_option maxHeartbeats 8000000 in
set_option maxRecDepth 100000 in
theorem privityref04_Trim.calls (k : Nat) (A0 : Option Addr) (c0 : Nat) (l0 : List Int) (r : List Int) (w : World) (hr0 : Kd.C (Kd.int .u64) w A0 l0.length l0) (hc0 : l0.length ≤ c0) (h : privityref04_Trim.f k l0 = some r) :
  Calls Try.prog 89 #[.slice A0 l0.length c0] w fun e w' => ∃ v0_ : Value,e = .returned (v0_) ∧ Kd.R (Kd.int .u64) 22 w' w.heap.size (fun _ => True) v0_ r ∧ Below w.heap.size w w' := by
 have HR0 := Aside0.mk hr0
 have HC0 := Aside0.mk hc0
 clear hr0 hc0
 have HB := Aside0.mk (Below.refl w.heap.size w)
 have H : (privityref04_Trim.l0 k l0 (l0.length : Int)) = some r := h
 clear h
 have H' := Aside0.mk H
 clear H
 go_enter Try.func89,Try.ntmps89
 go_wp2
 go_loopg [3] k (fun kq v3 w' => ∃ (x3_1 : Int),v3 = .int .i64 x3_1 ∧ Aside0 (privityref04_Trim.l0 kq l0 x3_1 = some r) ∧ Aside0 (kq ≤ k) ∧ Aside0 (Below w.heap.size w w'))
 case atStart => exact ⟨((l0.length : Int)),(by first|rfl|(simp;done)|(simp [*];done)),H',⟨Nat.le_refl _⟩,⟨by repeat (first|(with_reducible first|exact HB.out|apply below_alloc|apply pw_below_drewN|apply below_drew1)|exact HB.out)⟩⟩
 case round =>
  clear H'
  obtain ⟨x3_1,rfl,HA,HK1,HB⟩ := hrel
  cases gk with
  | zero => exact absurd HA.out (by simp [privityref04_Trim.l0])
  | succ k1 =>
   have H := HA.out
   clear HA
   simp only [privityref04_Trim.l0] at H
   by_cases c2 : x3_1 > 0
   ·rw [if_pos c2] at H
    have c2b0 : decide (0 < x3_1) = true := decide_eq_true c2
    clear c2
    obtain ⟨ji3,hji3⟩ : ∃ j_ : Int,(wrap64 (x3_1 - 1)) = j_ := ⟨_,rfl⟩
    first|rw [hji3] at H|simp only [hji3] at H
    have hji3w : (IntKind.i64.wrap (x3_1 - 1)) = ji3 := (i64_w _).trans hji3
    by_cases c4 : 0 ≤ (ji3)
    ·rw [if_pos c4] at H
     have c4b0 : decide (0 ≤ (ji3)) = true := decide_eq_true c4
     clear c4
     by_cases c5 : (ji3) < (l0.length : Int)
     ·rw [if_pos c5] at H
      have c5b0 : decide ((ji3) < (l0.length : Int)) = true := decide_eq_true c5
      clear c5
      by_cases c6 : (rd l0 (ji3)) = 0
      ·rw [if_pos c6] at H
       have c6b0 : ((rd l0 (ji3)) == 0) = true := beq_iff_eq.mpr c6
       have c6b1 : ((rd l0 (ji3)) != 0) = false := bne_eq_false_iff_eq.mpr c6
       clear c6
       have H' := Aside0.mk H
       clear H
       have p539 : 0 ≤ ((ji3) : Int) := of_decide_eq_true (by first|(with_reducible assumption)|assumption)
       have q539 : (ji3) < (l0.length : Int) := of_decide_eq_true (by first|(with_reducible assumption)|assumption)
       obtain ⟨ad539,e539,hx539_0⟩ := Kd.at_int HR0.out (ji3) p539 q539
       cases e539
       replace hx539_0 := (HB.out.cell (World.block_lt_of_cell? w _ hx539_0)).trans hx539_0
       replace p539 := eq_true p539
       replace q539 := eq_true q539
       go_wp2
       go_roundg k1
       case measure => have := HK1.out;omega
       case rel => exact ⟨(ji3),(by first|rfl|(simp;done)|(simp only [← hji3] <;> (first|rfl|simp))|(simp [*];done)),H',⟨by have := HK1.out;omega⟩,⟨by repeat (first|(with_reducible first|exact HB.out|apply below_alloc|apply pw_below_drewN|apply below_drew1)|exact HB.out)⟩⟩
      ·rw [if_neg c6] at H
       have c6b0 : ((rd l0 (ji3)) == 0) = false := beq_eq_false_iff_ne.mpr c6
       have c6b1 : ((rd l0 (ji3)) != 0) = true := bne_iff_ne.mpr c6
       obtain ⟨y540,hy540⟩ : ∃ y_ : List Int,y_ = (([] : List Int)) := ⟨_,rfl⟩
       replace H : (if 0 ≤ x3_1 then (if x3_1 ≤ (l0.length : Int) then (if y540.length + (l0.take (x3_1 : Int).toNat).length < 17592186044416 then (some (y540 ++ (l0.take (x3_1 : Int).toNat))) else (none)) else (none)) else (none)) = some r := by first|(rw [hy540];with_reducible exact H)|(have H2_ := (Option.bind_some _ _).symm.trans H;rw [hy540];with_reducible exact H2_)|(have H2_ := (Option.bind_some _ _).symm.trans H;with_reducible exact H2_)|with_reducible exact H|(rw [hy540];exact H)|exact H
       have Ny540 := Aside0.mk hy540
       clear hy540
       by_cases c7 : 0 ≤ x3_1
       ·rw [if_pos c7] at H
        have c7b0 := eq_true c7
        have c7b1 : decide (0 ≤ x3_1) = true := decide_eq_true c7
        clear c7
        by_cases c8 : x3_1 ≤ (l0.length : Int)
        ·rw [if_pos c8] at H
         have c8b0 := eq_true c8
         have c8b1 : decide (x3_1 ≤ (l0.length : Int)) = true := decide_eq_true c8
         clear c8
         by_cases c9 : y540.length + (l0.take (x3_1 : Int).toNat).length < 17592186044416
         ·rw [if_pos c9] at H
          have LMc9 := Aside0.mk c9
          clear c9
          obtain ⟨y544,hy544⟩ : ∃ y_ : List Int,y_ = (y540 ++ (l0.take (x3_1 : Int).toNat)) := ⟨_,rfl⟩
          replace H : (some y544) = some r := by first|(rw [hy544];with_reducible exact H)|(have H2_ := (Option.bind_some _ _).symm.trans H;rw [hy544];with_reducible exact H2_)|(have H2_ := (Option.bind_some _ _).symm.trans H;with_reducible exact H2_)|with_reducible exact H|(rw [hy544];exact H)|exact H
          have Ny544 := Aside0.mk hy544
          clear hy544
          obtain rfl := Option.some.inj H
          have p539 : 0 ≤ ((ji3) : Int) := of_decide_eq_true (by first|(with_reducible assumption)|assumption)
          have q539 : (ji3) < (l0.length : Int) := of_decide_eq_true (by first|(with_reducible assumption)|assumption)
          obtain ⟨ad539,e539,hx539_0⟩ := Kd.at_int HR0.out (ji3) p539 q539
          cases e539
          replace hx539_0 := (HB.out.cell (World.block_lt_of_cell? w _ hx539_0)).trans hx539_0
          replace p539 := eq_true p539
          replace q539 := eq_true q539
          go_wp2_with (first|((with_reducible refine gate_dst (N := 18) rfl ?_);refine Kd.R_lit (Kd.int .u64) _ 22 ?hg (N := 18) ?hd (xs := ([] : List Int)) (inner := []) (ok := fun _ => True) (okp := fun _ => True) ?hr ?hp (fun _ hk => hk) trivial (Below.refl _ _) (Nat.le_refl _) (by simp) ?_;(case hd => rfl);(case hg => rfl);(case hr => first|(go_simp;done)|(go_simp;rfl));(case hp => exact (Reps.none _ _));intro v541 w10 ho11 hb hg_ hnew_;clear hg_ hnew_;(first|rw [← Ny540.out] at ho11|(simp only [Int.reduceToNat] at ho11;rw [← Ny540.out] at ho11));have n0_ := Aside0.mk (Kd.R_lower ho11 (below_size (bb HB)));have n1_ := Aside0.mk (below_step (bb HB) hb);clear HB;have HO542 := n0_;have HB := n1_;clear n0_ n1_;clear hb ho11;obtain ⟨i012,hi012,_,hsz12,_⟩ := info_parts info22;obtain ⟨hcut12,hA12,hC12⟩ := print_take_of (P := Try.prog) (Value.int .u64) 0 26 22 .i64 Try.underlying26 hi012 hsz12 (some ad539) c0 l0 x3_1 (of_decide_eq_true (by first|(with_reducible assumption)|assumption)) (of_decide_eq_true (by first|(with_reducible assumption)|assumption)) HC0.out;have HR543 := Aside0.mk (Kd.C_of_reads (h1 := fun _ => rfl) (hA12 _ (Kd.reads_of_C HR0.out)));have HC543 := Aside0.mk hC12;clear hA12 hC12 hi012 hsz12)|((with_reducible refine gate_builtin (b := .append) (xs := #[.tmp 18,.tmp 21]) rfl ?_);at_builtin;refine Kd.R_append_rows (Kd.int .u64) (w0 := w) w.heap.size rfl (.tmp 18) (.tmp 21) 26 22 (.int .u64 0) 8 rfl Try.underlying26 info22 rfl (by decide) (by omega) v541 y540 (l0.take (x3_1 : Int).toNat) _ _ _ (fun _ => True) (fun _ => False) rfl rfl ?aO ?aR (fun _ _ h => h) (fun _ h => h.elim) ?aF ?aB ?aS ?aL ?_;(case aR => first|(refine cut_cast (show (l0.take (x3_1 : Int).toNat).length = x3_1.toNat from (by rw [List.length_take];have h_ : (x3_1 : Int) ≤ (l0.length : Int) := of_decide_eq_true (by first|(with_reducible assumption)|assumption);omega)) ?_;repeat (first|exact (Kd.C_below HR543.out HB.out)|(with_reducible refine Kd.C_alloc ?_ _)|(with_reducible refine Kd.C_drewN ?_ _)|(with_reducible refine Kd.C_drew ?_)))|(repeat (first|exact (Kd.C_below HR543.out HB.out)|(with_reducible refine Kd.C_alloc ?_ _)|(with_reducible refine Kd.C_drewN ?_ _)|(with_reducible refine Kd.C_drew ?_))));(case aB => exact (bb HB));(case aF => exact (fun _ _ => trivial));(case aO => exact (rr HO542));(case aS => exact (below_size (bb HB)));(case aL => have := LMc9.out;have hlx_ := (show (l0.take (x3_1 : Int).toNat).length = x3_1.toNat from (by rw [List.length_take];have h_ : (x3_1 : Int) ≤ (l0.length : Int) := of_decide_eq_true (by first|(with_reducible assumption)|assumption);omega));omega);intro v545 w13 ho hb hg hat;rw [← Ny544.out] at ho;have n0_ := Aside0.mk (hb);have n1_ := Aside0.mk (ho);clear HB HO542;have HB := n0_;have HO546 := n1_;clear n0_ n1_;clear ho hb hg hat))
          go_ret
          exact ⟨_,by first|rfl|(simp [errW_none,errW_some] <;> rfl)|(simp only [← hji3];first|rfl|(simp [errW_none,errW_some] <;> rfl))|(simp [*,errW_none,errW_some] <;> rfl),by (with_reducible repeat (first|apply Kd.R_alloc|apply Kd.R_drewN|apply Kd.R_drew));exact HO546.out,by repeat (first|(with_reducible first|exact HB.out|apply below_alloc|apply pw_below_drewN|apply below_drew1)|exact HB.out)⟩
         ·rw [if_neg c9] at H
          exact absurd H (by simp)
        ·rw [if_neg c8] at H
         exact absurd H (by simp)
       ·rw [if_neg c7] at H
        exact absurd H (by simp)
     ·rw [if_neg c5] at H
      exact absurd H (by simp)
    ·rw [if_neg c4] at H
     exact absurd H (by simp)
   ·rw [if_neg c2] at H
    have c2b0 : decide (0 < x3_1) = false := decide_eq_false c2
    clear c2
    obtain ⟨y547,hy547⟩ : ∃ y_ : List Int,y_ = (([] : List Int)) := ⟨_,rfl⟩
    replace H : (if 0 ≤ x3_1 then (if x3_1 ≤ (l0.length : Int) then (if y547.length + (l0.take (x3_1 : Int).toNat).length < 17592186044416 then (some (y547 ++ (l0.take (x3_1 : Int).toNat))) else (none)) else (none)) else (none)) = some r := by first|(rw [hy547];with_reducible exact H)|(have H2_ := (Option.bind_some _ _).symm.trans H;rw [hy547];with_reducible exact H2_)|(have H2_ := (Option.bind_some _ _).symm.trans H;with_reducible exact H2_)|with_reducible exact H|(rw [hy547];exact H)|exact H
    have Ny547 := Aside0.mk hy547
    clear hy547
    by_cases c14 : 0 ≤ x3_1
    ·rw [if_pos c14] at H
     have c14b0 := eq_true c14
     have c14b1 : decide (0 ≤ x3_1) = true := decide_eq_true c14
     clear c14
     by_cases c15 : x3_1 ≤ (l0.length : Int)
     ·rw [if_pos c15] at H
      have c15b0 := eq_true c15
      have c15b1 : decide (x3_1 ≤ (l0.length : Int)) = true := decide_eq_true c15
      clear c15
      by_cases c16 : y547.length + (l0.take (x3_1 : Int).toNat).length < 17592186044416
      ·rw [if_pos c16] at H
       have LMc16 := Aside0.mk c16
       clear c16
       obtain ⟨y551,hy551⟩ : ∃ y_ : List Int,y_ = (y547 ++ (l0.take (x3_1 : Int).toNat)) := ⟨_,rfl⟩
       replace H : (some y551) = some r := by first|(rw [hy551];with_reducible exact H)|(have H2_ := (Option.bind_some _ _).symm.trans H;rw [hy551];with_reducible exact H2_)|(have H2_ := (Option.bind_some _ _).symm.trans H;with_reducible exact H2_)|with_reducible exact H|(rw [hy551];exact H)|exact H
       have Ny551 := Aside0.mk hy551
       clear hy551
       obtain rfl := Option.some.inj H
       go_wp2_with (first|((with_reducible refine gate_dst (N := 18) rfl ?_);refine Kd.R_lit (Kd.int .u64) _ 22 ?hg (N := 18) ?hd (xs := ([] : List Int)) (inner := []) (ok := fun _ => True) (okp := fun _ => True) ?hr ?hp (fun _ hk => hk) trivial (Below.refl _ _) (Nat.le_refl _) (by simp) ?_;(case hd => rfl);(case hg => rfl);(case hr => first|(go_simp;done)|(go_simp;rfl));(case hp => exact (Reps.none _ _));intro v548 w17 ho18 hb hg_ hnew_;clear hg_ hnew_;(first|rw [← Ny547.out] at ho18|(simp only [Int.reduceToNat] at ho18;rw [← Ny547.out] at ho18));have n0_ := Aside0.mk (Kd.R_lower ho18 (below_size (bb HB)));have n1_ := Aside0.mk (below_step (bb HB) hb);clear HB;have HO549 := n0_;have HB := n1_;clear n0_ n1_;clear hb ho18;obtain ⟨i019,hi019,_,hsz19,_⟩ := info_parts info22;obtain ⟨hcut19,hA19,hC19⟩ := print_take_of (P := Try.prog) (Value.int .u64) 0 26 22 .i64 Try.underlying26 hi019 hsz19 A0 c0 l0 x3_1 (of_decide_eq_true (by first|(with_reducible assumption)|assumption)) (of_decide_eq_true (by first|(with_reducible assumption)|assumption)) HC0.out;have HR550 := Aside0.mk (Kd.C_of_reads (h1 := fun _ => rfl) (hA19 _ (Kd.reads_of_C HR0.out)));have HC550 := Aside0.mk hC19;clear hA19 hC19 hi019 hsz19)|((with_reducible refine gate_builtin (b := .append) (xs := #[.tmp 18,.tmp 21]) rfl ?_);at_builtin;refine Kd.R_append_rows (Kd.int .u64) (w0 := w) w.heap.size rfl (.tmp 18) (.tmp 21) 26 22 (.int .u64 0) 8 rfl Try.underlying26 info22 rfl (by decide) (by omega) v548 y547 (l0.take (x3_1 : Int).toNat) _ _ _ (fun _ => True) (fun _ => False) rfl rfl ?aO ?aR (fun _ _ h => h) (fun _ h => h.elim) ?aF ?aB ?aS ?aL ?_;(case aR => first|(refine cut_cast (show (l0.take (x3_1 : Int).toNat).length = x3_1.toNat from (by rw [List.length_take];have h_ : (x3_1 : Int) ≤ (l0.length : Int) := of_decide_eq_true (by first|(with_reducible assumption)|assumption);omega)) ?_;repeat (first|exact (Kd.C_below HR550.out HB.out)|(with_reducible refine Kd.C_alloc ?_ _)|(with_reducible refine Kd.C_drewN ?_ _)|(with_reducible refine Kd.C_drew ?_)))|(repeat (first|exact (Kd.C_below HR550.out HB.out)|(with_reducible refine Kd.C_alloc ?_ _)|(with_reducible refine Kd.C_drewN ?_ _)|(with_reducible refine Kd.C_drew ?_))));(case aB => exact (bb HB));(case aF => exact (fun _ _ => trivial));(case aO => exact (rr HO549));(case aS => exact (below_size (bb HB)));(case aL => have := LMc16.out;have hlx_ := (show (l0.take (x3_1 : Int).toNat).length = x3_1.toNat from (by rw [List.length_take];have h_ : (x3_1 : Int) ≤ (l0.length : Int) := of_decide_eq_true (by first|(with_reducible assumption)|assumption);omega));omega);intro v552 w20 ho hb hg hat;rw [← Ny551.out] at ho;have n0_ := Aside0.mk (hb);have n1_ := Aside0.mk (ho);clear HB HO549;have HB := n0_;have HO553 := n1_;clear n0_ n1_;clear ho hb hg hat))
       go_ret
       exact ⟨_,by first|rfl|(simp [errW_none,errW_some] <;> rfl)|(simp [*,errW_none,errW_some] <;> rfl),by (with_reducible repeat (first|apply Kd.R_alloc|apply Kd.R_drewN|apply Kd.R_drew));exact HO553.out,by repeat (first|(with_reducible first|exact HB.out|apply below_alloc|apply pw_below_drewN|apply below_drew1)|exact HB.out)⟩
      ·rw [if_neg c16] at H
       exact absurd H (by simp)
     ·rw [if_neg c15] at H
      exact absurd H (by simp)
    ·rw [if_neg c14] at H
     exact absurd H (by simp)
def privityref01_Neg.f (a0 : Int) (a1 : Int) : Option (Int) := if a0 = 0 then (none) else (some (Int.tmod (IntKind.u64.wrap (a0 - a1)) a0))
set_option maxHeartbeats 8000000 in
set_option maxRecDepth 100000 in
theorem privityref01_Neg.calls (a0 : Int) (a1 : Int) (r : Int) (w : World) (h : privityref01_Neg.f a0 a1 = some r) :
  Calls Try.prog 78 #[.int .u64 a0,.int .u64 a1] w fun e w' => e = .returned (.int .u64 r) ∧ Drawn0 w w' := by
 have H : (if a0 = 0 then (none) else (some (Int.tmod (IntKind.u64.wrap (a0 - a1)) a0))) = some r := h
 clear h
 by_cases c3 : a0 = 0
 ·rw [if_pos c3] at H
  exact absurd H (by simp)
 ·rw [if_neg c3] at H
  have c3b0 : (a0 == 0) = false := beq_eq_false_iff_ne.mpr c3
  have c3b1 : (a0 != 0) = true := bne_iff_ne.mpr c3
  obtain rfl := Option.some.inj H
  go_enter Try.func78,Try.ntmps78
  go_wp2
  go_ret
  exact ⟨by first|rfl|(simp;done)|(simp [*];done),by repeat (first|exact Drawn0.refl _|apply Drawn0.step)⟩
end Go.Proofs.Ytejeelpnmdfibaa.Pr
end
section
namespace Go.Proofs.Ytejeelpnmdfibaa.E
open Go.RowKit Go.Proofs.Ytejeelpnmdfibaa.Pr Go.Proofs.Ytejeelpnmdfibaa.Hw Go.Proofs.YtejeelpnmdfibaaW.PrintWords Go.Proofs.YtejeelpnmdfibaaW.PrintLast Go.Proofs.YtejeelpnmdfibaaW.PrintMore
set_option linter.unusedVariables false
set_option linter.unusedSimpArgs false
theorem wcap {n : Int} (h : 0 ≤ n) (h2 : n < 9223372036854775808) : wrap64 n = n := by unfold wrap64;omega
theorem wnat {n : Nat} (h : n < 1099511627776) : wrap64 ((n : Int) + 1) = ((n + 1 : Nat) : Int) := by rw [wcap (by omega) (by omega)];omega
theorem up {Q : Nat → Prop} {n : Nat} (hn : Q n) (hs : ∀ i,i < n → Q (i + 1) → Q i) : Q 0 := by
 have : ∀ d,d ≤ n → Q (n - d) := by
  intro d
  induction d with
  | zero => intro _;exact hn
  | succ d ih =>
   intro h
   have h1 := ih (by omega)
   refine hs (n - (d + 1)) (by omega) ?_
   rwa [show n - (d + 1) + 1 = n - d from by omega]
 have := this n (Nat.le_refl _)
 rwa [Nat.sub_self] at this
theorem exponent_eq (p : Int) : privityref01_Exponent.f 10 p = if p = 31 then some 5 else if p = 127 then some 7 else if p = 8191 then some 13 else if p = 131071 then some 17 else if p = 524287 then some 19 else if p = 2147483647 then some 31 else if p = 2305843009213693951 then some 61 else some 0 := by kernel_rfl
theorem supported_ev (p : Int) : Ev (fun k => privityref01_Supported.f k p) (supB p) := by
 refine Ev.of (fun k => privityref01_Supported.mono _ _) (k := 10) ?_
 show (privityref01_Exponent.f 10 p).bind _ = _
 rw [exponent_eq]
 unfold supB
 by_cases h1 : p = 31
 ·subst h1;rfl
 by_cases h2 : p = 127
 ·subst h2;rfl
 by_cases h3 : p = 8191
 ·subst h3;rfl
 by_cases h4 : p = 131071
 ·subst h4;rfl
 by_cases h5 : p = 524287
 ·subst h5;rfl
 by_cases h6 : p = 2147483647
 ·subst h6;rfl
 by_cases h7 : p = 2305843009213693951
 ·subst h7;rfl
 rw [if_neg h1,if_neg h2,if_neg h3,if_neg h4,if_neg h5,if_neg h6,if_neg h7]
 simp [h1,h2,h3,h4,h5,h6,h7]
theorem tmod_pos {a p : Int} (h : 0 ≤ a) : Int.tmod a p = a % p := Int.tmod_eq_emod_of_nonneg h
theorem radd_eq {p : Int} (hp : Supp p) {a b : Int} (ha : Res p a) (hb : Res p b) : privityref01_Add.f p a b = some ((a + b) % p) := by
 have := hp.bd
 obtain ⟨a0,a1⟩ := ha
 obtain ⟨b0,b1⟩ := hb
 unfold privityref01_Add.f
 rw [if_neg (by omega),wrapU_id (by omega) (by omega),tmod_pos (by omega)]
theorem rneg_eq {p : Int} (hp : Supp p) {a : Int} (ha : Res p a) : privityref01_Neg.f p a = some (-a % p) := by
 have := hp.bd
 obtain ⟨a0,a1⟩ := ha
 unfold privityref01_Neg.f
 rw [if_neg (by omega),wrapU_id (by omega) (by omega),tmod_pos (by omega),show p - a = -a + p * 1 from by omega,Int.add_mul_emod_self_left]
theorem rmul_l0 {p : Int} (hp : Supp p) : ∀ (n : Nat) (a out : Int),n < 18446744073709551616 → Res p a → Res p out → Ev (fun k => privityref01_Mul.l0 k p a n out) ((out + a * n) % p) := by
 intro n
 induction n using Nat.strongRecOn with
 | _ n ih =>
  intro a out hn ha ho
  have hb := hp.bd
  obtain ⟨a0,a1⟩ := ha
  obtain ⟨o0,o1⟩ := ho
  by_cases h0 : n = 0
  ·subst h0
   refine Ev.of (fun k => (privityref01_Mul.mono_l k) _ _ _ _) (k := 1) ?_
   simp only [privityref01_Mul.l0]
   rw [if_neg (by omega),Int.natCast_zero,Int.mul_zero,Int.add_zero,Int.emod_eq_of_lt o0 o1]
  ·have e1 : Int.tmod (n : Int) 2 = n % 2 := tmod_pos (by omega)
   have e2 : IntKind.u64.wrap (Int.tdiv (n : Int) 2) = ((n / 2 : Nat) : Int) := by
    rw [Int.tdiv_eq_ediv_of_nonneg (by omega),wrapU_id (by omega) (by omega)];omega
   have e3 : IntKind.u64.wrap (a + a) = a + a := wrapU_id (by omega) (by omega)
   have e4 : IntKind.u64.wrap (out + a) = out + a := wrapU_id (by omega) (by omega)
   have hN : (n : Int) = 2 * ((n / 2 : Nat) : Int) + n % 2 := by omega
   by_cases hodd : n % 2 = 1
   ·have h := ih (n / 2) (by omega) ((a + a) % p) ((out + a) % p) (by omega) (Res.mod hp _) (Res.mod hp _)
    refine Ev.step (fun k => ?_) (f := fun k => privityref01_Mul.l0 k p ((a + a) % p) ((n / 2 : Nat) : Int) ((out + a) % p)) ?_
    ·simp only [privityref01_Mul.l0]
     rw [if_pos (by omega),if_pos (by omega),if_neg (by omega),e2,e3,e4,tmod_pos (by omega),tmod_pos (by omega)]
    ·rw [show (out + a * n) % p = ((out + a) % p + (a + a) % p * ((n / 2 : Nat) : Int)) % p from ?_]
     ·exact h
     ·rw [addm (modm p (out + a)) (mulm (modm p (a + a)) rfl)]
      congr 1
      have : (n : Int) = 2 * ((n / 2 : Nat) : Int) + 1 := by omega
      generalize ((n / 2 : Nat) : Int) = m at *
      rw [this];grind
   ·have h := ih (n / 2) (by omega) ((a + a) % p) out (by omega) (Res.mod hp _) ⟨o0,o1⟩
    refine Ev.step (fun k => ?_) (f := fun k => privityref01_Mul.l0 k p ((a + a) % p) ((n / 2 : Nat) : Int) out) ?_
    ·simp only [privityref01_Mul.l0]
     rw [if_pos (by omega),if_neg (by omega),if_neg (by omega),e2,e3,tmod_pos (by omega)]
    ·rw [show (out + a * n) % p = (out + (a + a) % p * ((n / 2 : Nat) : Int)) % p from ?_]
     ·exact h
     ·rw [addm (a := out) rfl (mulm (modm p (a + a)) rfl)]
      congr 1
      have : (n : Int) = 2 * ((n / 2 : Nat) : Int) := by omega
      generalize ((n / 2 : Nat) : Int) = m at *
      rw [this];grind
theorem rmul_ev {p : Int} (hp : Supp p) {a b : Int} (ha : Res p a) (hb : Res p b) : Ev (fun k => privityref01_Mul.f k p a b) (a * b % p) := by
 have h := hp.bd
 have := rmul_l0 hp b.toNat a 0 (by have := hb.1;have := hb.2;omega) ha ⟨by omega,by omega⟩
 rw [Int.toNat_of_nonneg hb.1,Int.zero_add] at this
 exact this
theorem rpow_l0 {p : Int} (h : Supp p) : ∀ (n : Nat) (a out : Int),n < 18446744073709551616 → Res p a → Res p out → Ev (fun k => privityref01_Pow.l0 k p a n out) (out * a ^ n % p) := by
 intro n
 induction n using Nat.strongRecOn with
 | _ n ih =>
  intro a out hn ha ho
  by_cases h0 : n = 0
  ·subst h0
   refine Ev.of (fun k => (privityref01_Pow.mono_l k) _ _ _ _) (k := 1) ?_
   simp only [privityref01_Pow.l0]
   rw [if_neg (by omega),Int.pow_zero,Int.mul_one,ho.eq]
  ·have hsq := rmul_ev h ha ha
   have hrec := fun out' ho' => ih (n / 2) (by omega) (a * a % p) out' (by omega) (Res.mod h _) ho'
   have eh := pow_two_half a n
   have e1 := pow_mod_base (a * a) p (n / 2)
   have t1 : Int.tmod (n : Int) 2 = n % 2 := tmod_pos (by omega)
   have t2 : IntKind.u64.wrap (Int.tdiv (n : Int) 2) = ((n / 2 : Nat) : Int) := by
    rw [Int.tdiv_eq_ediv_of_nonneg (by omega),wrapU_id (by omega) (by omega)];omega
   by_cases hodd : n % 2 = 1
   ·refine Ev.step (f := fun k => (privityref01_Mul.f k p out a).bind fun t244 => ((privityref01_Mul.f k p a a).bind fun t245 => (privityref01_Pow.l0 k p t245 ((n / 2 : Nat) : Int) t244))) (fun k => ?_) ?_
    ·simp only [privityref01_Pow.l0]
     rw [if_pos (by omega),if_pos (by omega),t2]
    ·refine Ev.bind (rmul_ev h ho ha) (Ev.bind hsq ?_)
     have := hrec (out * a % p) (Res.mod h _)
     rw [show out * a ^ n % p = out * a % p * (a * a % p) ^ (n / 2) % p from ?_]
     ·exact this
     ·rw [mulm (Int.emod_emod_of_dvd (out * a) (Int.dvd_refl p)) e1,eh,hodd,Int.pow_one,Int.mul_assoc,Int.mul_comm a ((a * a) ^ (n / 2))]
   ·refine Ev.step (f := fun k => (privityref01_Mul.f k p a a).bind fun t246 => (privityref01_Pow.l0 k p t246 ((n / 2 : Nat) : Int) out)) (fun k => ?_) ?_
    ·simp only [privityref01_Pow.l0]
     rw [if_pos (by omega),if_neg (by omega),t2]
    ·refine Ev.bind hsq ?_
     have := hrec out ho
     rw [show out * a ^ n % p = out * (a * a % p) ^ (n / 2) % p from ?_]
     ·exact this
     ·rw [mulm (a := out) rfl e1,eh,show n % 2 = 0 from by omega,Int.pow_zero,Int.mul_one]
theorem rinv_ev {p : Int} (h : Supp p) {a : Int} (ha : Res p a) (h0 : a ≠ 0) : Ev (fun k => privityref01_Inverse.f k p a) (invp p a,0) := by
 have := h.bd
 have e := rpow_l0 h (p - 2).toNat a 1 (by omega) ha ⟨by omega,by omega⟩
 rw [Int.one_mul,show ((p - 2).toNat : Int) = p - 2 from Int.toNat_of_nonneg (by omega)] at e
 refine (Ev.bind (f := fun k t => some (t,0)) e (Ev.now _)).congr fun k => ?_
 show (if a = 0 then _ else (privityref01_Pow.f k p a (IntKind.u64.wrap (p - 2))).bind _) = _
 rw [if_neg h0,wrapU_id (by omega) (by omega)]
 rfl
end Go.Proofs.Ytejeelpnmdfibaa.E
end
section
namespace Go.Proofs.Ytejeelpnmdfibaa.E
open Go.RowKit Go.Proofs.Ytejeelpnmdfibaa.Pr Go.Proofs.Ytejeelpnmdfibaa.Hw Go.Proofs.Ytejeelpnmdfibaa.Pl Go.Proofs.YtejeelpnmdfibaaW.PrintWords Go.Proofs.YtejeelpnmdfibaaW.PrintLast Go.Proofs.YtejeelpnmdfibaaW.PrintMore
set_option linter.unusedVariables false
set_option linter.unusedSimpArgs false
theorem wf64 {x : Int} (h : (Lit.int .u64 x).wf = true) : 0 ≤ x ∧ x < 18446744073709551616 := by
 have h1 : IntKind.u64.min ≤ x ∧ x ≤ IntKind.u64.max := by simpa [Lit.wf] using h
 have e1 : IntKind.u64.min = 0 := by decide
 have e2 : IntKind.u64.max = 18446744073709551615 := by decide
 omega
theorem ev_if {α : Type} {A : Nat → Option Bool} {b : Bool} (hA : Ev A b) {X Y : Nat → Option α} {r : α} (hx : b = true → Ev X r) (hy : b = false → Ev Y r) : Ev (fun k => (A k).bind fun t => if t = true then X k else Y k) r := by
 refine Ev.bind (f := fun k t => if t = true then X k else Y k) hA ?_
 cases b with
 | true => exact (hx rfl).congr fun k => if_pos rfl
 | false => exact (hy rfl).congr fun k => if_neg (by simp)
theorem ev_ite {α : Type} {c : Prop} [Decidable c] {X Y : Nat → Option α} {r : α} (hx : c → Ev X r) (hy : ¬ c → Ev Y r) : Ev (fun k => if c then X k else Y k) r := by
 by_cases h : c
 ·exact (hx h).congr fun k => if_pos h
 ·exact (hy h).congr fun k => if_neg h
theorem ev_now_bind {α β : Type} {x : Option α} {a : α} (hx : x = some a) {f : Nat → α → Option β} {r : β} (h : Ev (fun k => f k a) r) : Ev (fun k => x.bind (f k)) r := by subst hx;exact h
theorem ipol_eq {p : Int} (hp : Supp p) {pts : List S97} (hx : PtsOk p pts) (hl : pts.length ≤ 12) : interpolate_Polynomial.f p pts = some (if (xsOf pts).Nodup then polL p pts else [],if (xsOf pts).Nodup then 0 else 1) := by
 unfold interpolate_Polynomial.f
 rw [if_pos (supB_iff.2 hp),if_pos (ptsB_iff.2 hx),if_pos hl]
theorem padd_eq {p : Int} (hp : Supp p) {a b : List Int} (ha : ∀ x ∈ a,Res p x) (hb : ∀ x ∈ b,Res p x) (la : a.length ≤ 1000000) (lb : b.length ≤ 1000000) : poly_Add.f p a b = some (trimL (addP p a b)) := by
 unfold poly_Add.f
 rw [if_pos (supB_iff.2 hp),if_pos (ressB_iff.2 ha),if_pos (ressB_iff.2 hb),if_pos la,if_pos lb]
theorem evI_trimL {p : Int} (hp : Supp p) (x : Int) (a : List Int) : evI p x (trimL a) = evI p x a := by
 haveI := nz hp
 refine T_inj hp (evI_res hp _ _) (evI_res hp _ _) ?_
 rw [ev_evI hp,ev_trimL,ev_evI hp]
theorem vsub_len : ∀ (l m : List Int),l.Nodup → (∀ x ∈ l,x ∈ m) → l.length ≤ m.length
 | [],m,_,_ => Nat.zero_le _
 | a :: l,m,hn,h => by
  have hn' := List.nodup_cons.1 hn
  have ha := h a (by simp)
  have h1 := vsub_len l (m.erase a) hn'.2 (fun x hx => (List.mem_erase_of_ne (fun e => hn'.1 (by rw [← e];exact hx))).2 (h x (List.mem_cons_of_mem _ hx)))
  rw [List.length_erase_of_mem ha] at h1
  have := List.length_pos_of_mem ha
  simp only [List.length_cons];omega
def runL : Nat → Int → List Int
 | 0,_ => []
 | n + 1,k => k :: runL n (k + 1)
theorem runL_mem : ∀ (n : Nat) (k x : Int),x ∈ runL n k ↔ k ≤ x ∧ x < k + n
 | 0,k,x => by simp [runL]
 | n + 1,k,x => by rw [runL,List.mem_cons,runL_mem n (k + 1) x];omega
theorem runL_nodup : ∀ (n : Nat) (k : Int),(runL n k).Nodup
 | 0,k => List.nodup_nil
 | n + 1,k => List.nodup_cons.2 ⟨fun h => by rw [runL_mem] at h;omega,runL_nodup n (k + 1)⟩
theorem runL_length : ∀ (n : Nat) (k : Int),(runL n k).length = n
 | 0,k => rfl
 | n + 1,k => by rw [runL,List.length_cons,runL_length n]
def extL (bad : List Int) : Nat → Int → Int → List Int
 | 0,_,_ => []
 | n + 1,k,lack => if k ∈ bad then k :: extL bad n (k + 1) lack else if lack > 0 then k :: extL bad n (k + 1) (lack - 1) else extL bad n (k + 1) lack
def honL (bad : List Int) (n : Nat) (k : Int) : List Int := (runL n k).filter fun x => decide (x ∉ bad)
theorem extL_range {bad : List Int} : ∀ (n : Nat) (k lack x : Int),x ∈ extL bad n k lack → k ≤ x ∧ x < k + n
 | 0,k,lack,x,h => by cases h
 | n + 1,k,lack,x,h => by
  rw [extL] at h
  split at h
  ·rcases List.mem_cons.1 h with h|h
   ·omega
   ·have := extL_range n _ _ _ h;omega
  ·split at h
   ·rcases List.mem_cons.1 h with h|h
    ·omega
    ·have := extL_range n _ _ _ h;omega
   ·have := extL_range n _ _ _ h;omega
theorem extL_filter {bad : List Int} : ∀ (n : Nat) (k lack : Int) (P : Int → Bool),(∀ x,k ≤ x → x < k + n → (P x = true ↔ x ∈ extL bad n k lack)) → extL bad n k lack = (runL n k).filter P
 | 0,k,lack,P,h => rfl
 | n + 1,k,lack,P,h => by
  have hk := h k (by omega) (by omega)
  have hno : ∀ lack,k ∉ extL bad n (k + 1) lack := fun lack hx => by have := extL_range n _ _ _ hx;omega
  rw [extL] at h hk ⊢
  rw [runL]
  split
  ·rename_i hb
   rw [if_pos hb] at hk
   rw [List.filter_cons_of_pos (hk.2 (by simp))]
   refine congrArg _ (extL_filter n (k + 1) lack P fun x h1 h2 => ?_)
   have := h x (by omega) (by omega)
   rw [if_pos hb,List.mem_cons] at this
   rw [this]
   exact ⟨fun h => h.resolve_left (by omega),Or.inr⟩
  ·rename_i hb
   split
   ·rename_i hl
    rw [if_neg hb,if_pos hl] at hk
    rw [List.filter_cons_of_pos (hk.2 (by simp))]
    refine congrArg _ (extL_filter n (k + 1) (lack - 1) P fun x h1 h2 => ?_)
    have := h x (by omega) (by omega)
    rw [if_neg hb,if_pos hl,List.mem_cons] at this
    rw [this]
    exact ⟨fun h => h.resolve_left (by omega),Or.inr⟩
   ·rename_i hl
    rw [if_neg hb,if_neg hl] at hk
    rw [List.filter_cons_of_neg (fun h => hno _ (hk.1 h))]
    refine extL_filter n (k + 1) lack P fun x h1 h2 => ?_
    have := h x (by omega) (by omega)
    rw [if_neg hb,if_neg hl] at this
    exact this
theorem extL_nodup (bad : List Int) (n : Nat) (k lack : Int) : (extL bad n k lack).Nodup := by
 rw [extL_filter n k lack (fun x => decide (x ∈ extL bad n k lack)) (fun x _ _ => by simp)]
 exact (runL_nodup n k).filter _
theorem extL_length {bad : List Int} : ∀ (n : Nat) (k lack : Int),0 ≤ lack → lack ≤ (honL bad n k).length → ((extL bad n k lack).length : Int) = (((runL n k).filter fun x => decide (x ∈ bad)).length : Int) + lack
 | 0,k,lack,h0,h1 => by simp [extL,runL,honL] at *;omega
 | n + 1,k,lack,h0,h1 => by
  rw [extL]
  unfold honL at h1
  rw [runL] at h1 ⊢
  by_cases hb : k ∈ bad
  ·rw [if_pos hb,List.filter_cons_of_pos (by simpa using hb),List.length_cons,List.length_cons]
   rw [List.filter_cons_of_neg (by simpa using hb)] at h1
   have := extL_length n (k + 1) lack h0 h1
   omega
  ·rw [if_neg hb,List.filter_cons_of_neg (by simpa using hb)]
   rw [List.filter_cons_of_pos (by simpa using hb),List.length_cons] at h1
   by_cases hl : lack > 0
   ·rw [if_pos hl,List.length_cons]
    have := extL_length (bad := bad) n (k + 1) (lack - 1) (by omega) (by unfold honL;omega)
    omega
   ·rw [if_neg hl]
    exact extL_length n (k + 1) lack h0 (by omega)
theorem filter_split (bad : List Int) : ∀ (l : List Int),(l.filter fun x => decide (x ∈ bad)).length + (l.filter fun x => decide (x ∉ bad)).length = l.length
 | [] => rfl
 | a :: l => by
  have ih := filter_split bad l
  by_cases h : a ∈ bad
  ·rw [List.filter_cons_of_pos (by simpa using h),List.filter_cons_of_neg (by simpa using h)];simp only [List.length_cons];omega
  ·rw [List.filter_cons_of_neg (by simpa using h),List.filter_cons_of_pos (by simpa using h)];simp only [List.length_cons];omega
theorem runL_count {bad : List Int} (hn : bad.Nodup) {n : Nat} {k : Int} (hr : ∀ x ∈ bad,k ≤ x ∧ x < k + n) : ((runL n k).filter fun x => decide (x ∈ bad)).length = bad.length := by
 refine Nat.le_antisymm (vsub_len _ _ ((runL_nodup n k).filter _) fun x hx => ?_) (vsub_len _ _ hn fun x hx => ?_)
 ·exact of_decide_eq_true (List.mem_filter.1 hx).2
 ·exact List.mem_filter.2 ⟨(runL_mem n k x).2 (hr x hx),decide_eq_true hx⟩
structure CoaB (N T : Int) (bad : List Int) : Prop where
 n0 : 4 ≤ N
 n1 : N ≤ 13
 t0 : 1 ≤ T
 t1 : 3 * T < N
 len : (bad.length : Int) ≤ T
 nd : bad.Nodup
 rng : ∀ x ∈ bad,1 ≤ x ∧ x ≤ N
def extB (N T : Int) (bad : List Int) : List Int := extL bad N.toNat 1 (T - bad.length)
section
variable {N T : Int} {bad : List Int} (h : CoaB N T bad)
include h
theorem CoaB.rng' : ∀ x ∈ bad,(1 : Int) ≤ x ∧ x < 1 + (N.toNat : Nat) := fun x hx => by have := h.rng x hx;omega
theorem CoaB.hon_len : ((honL bad N.toNat 1).length : Int) = N - bad.length := by
 have h1 := filter_split bad (runL N.toNat 1)
 rw [runL_count h.nd h.rng',runL_length] at h1
 have := h.n0
 unfold honL;omega
theorem extB_length : ((extB N T bad).length : Int) = T := by
 have h1 := h.hon_len
 have h2 := h.len
 have h3 := h.t1
 have h4 := h.t0
 unfold extB
 rw [extL_length N.toNat 1 (T - bad.length) (by omega) (by omega),runL_count h.nd h.rng'];omega
theorem extB_range : ∀ x ∈ extB N T bad,1 ≤ x ∧ x ≤ N := fun x hx => by
 have := extL_range _ _ _ _ hx
 have := h.n0
 omega
theorem extB_nodup : (extB N T bad).Nodup := by
 have _h := h.n0
 exact extL_nodup _ _ _ _
end
def vanP (l : List Int) : List S97 := ⟨0,1⟩ :: l.map fun k => ⟨k,0⟩
theorem vanP_xs (l : List Int) : xsOf (vanP l) = 0 :: l := by
 unfold xsOf vanP
 rw [List.map_cons,List.map_map]
 exact congrArg _ (List.map_id _)
theorem vanP_length (l : List Int) : (vanP l).length = l.length + 1 := by simp [vanP]
structure VanOk (p : Int) (l : List Int) : Prop where
 res : ∀ x ∈ l,Res p x
 nz : ∀ x ∈ l,x ≠ 0
 nd : l.Nodup
section
variable {p : Int} (hp : Supp p) {l : List Int} (h : VanOk p l)
include hp h
theorem vanP_ok : PtsOk p (vanP l) := by
 have hb := hp.bd
 intro y hy
 rcases List.mem_cons.1 hy with rfl|hy
 ·exact ⟨⟨Int.le_refl 0,by show (0 : Int) < p;omega⟩,⟨by show (0 : Int) ≤ 1;omega,by show (1 : Int) < p;omega⟩⟩
 ·obtain ⟨x,hx,rfl⟩ := List.mem_map.1 hy
  exact ⟨h.res x hx,⟨Int.le_refl 0,by show (0 : Int) < p;omega⟩⟩
theorem vanP_nd : (xsOf (vanP l)).Nodup := by
 have _h := hp.bd
 rw [vanP_xs]
 exact List.nodup_cons.2 ⟨fun hx => h.nz 0 hx rfl,h.nd⟩
theorem van_at (y : S97) (hy : y ∈ vanP l) : evI p y.f0 (polL p (vanP l)) = y.f1 := by
 obtain ⟨j,hj,rfl⟩ := List.getElem_of_mem hy
 have h1 := polL_at hp (vanP_ok hp h) (vanP_nd hp h) j hj
 rw [rdT_nat _ _ hj] at h1
 exact h1
theorem van_zero : evI p 0 (polL p (vanP l)) = 1 := van_at hp h ⟨0,1⟩ (by simp [vanP])
theorem van_root (x : Int) (hx : x ∈ l) : evI p x (polL p (vanP l)) = 0 := van_at hp h ⟨x,0⟩ (List.mem_cons_of_mem _ (List.mem_map.2 ⟨x,hx,rfl⟩))
theorem van_res : ∀ x ∈ polL p (vanP l),Res p x := polL_res hp (vanP_ok hp h)
theorem van_uniq {g : List Int} (hg : ∀ x ∈ g,Res p x) (lg : g.length ≤ l.length + 1) (h0 : evI p 0 g = 1) (h1 : ∀ x ∈ l,evI p x g = 0) : polL p (vanP l) = trimL g := by
 refine polL_char hp (vanP_ok hp h) (vanP_nd hp h) hg (by rw [vanP_length];exact lg) (fun j hj => ?_)
 rw [rdT_nat _ _ hj]
 have hm : (vanP l)[j] ∈ vanP l := List.getElem_mem _
 generalize (vanP l)[j] = y at hm
 rcases List.mem_cons.1 hm with rfl|hm
 ·exact h0
 ·obtain ⟨x,hx,rfl⟩ := List.mem_map.1 hm
  exact h1 x hx
theorem van_len : (polL p (vanP l)).length = l.length + 1 := by
 have h1 := polL_len hp (pts := vanP l)
 rw [vanP_length] at h1
 refine Nat.le_antisymm h1 (Nat.lt_of_not_le fun h2 => ?_)
 have h3 := uniq hp h.res h.nd (van_res hp h) (g := []) (fun x hx => by cases hx) h2 (Nat.zero_le _) (fun x hx => by rw [van_root hp h x hx];rfl)
 rw [polL_trim] at h3
 have h4 := van_zero hp h
 rw [h3] at h4
 have : trimL ([] : List Int) = [] := rfl
 rw [this] at h4
 simp [evI] at h4
theorem van_only {x : Int} (hx : Res p x) (h0 : x ≠ 0) (hz : evI p x (polL p (vanP l)) = 0) : x ∈ l := by
 refine Classical.byContradiction fun hn => ?_
 have hv : VanOk p (x :: l) := ⟨fun y hy => by
  rcases List.mem_cons.1 hy with rfl|hy
  ·exact hx
  ·exact h.res y hy,fun y hy => by
  rcases List.mem_cons.1 hy with rfl|hy
  ·exact h0
  ·exact h.nz y hy,List.nodup_cons.2 ⟨hn,h.nd⟩⟩
 have h1 := van_len hp hv
 have h2 := van_uniq hp hv (van_res hp h) (by rw [van_len hp h,List.length_cons];omega) (van_zero hp h) (fun y hy => by
  rcases List.mem_cons.1 hy with rfl|hy
  ·exact hz
  ·exact van_root hp h y hy)
 rw [polL_trim] at h2
 rw [h2,van_len hp h,List.length_cons] at h1
 omega
theorem van_last : (polL p (vanP l)).getD l.length 0 ≠ 0 := by
 have h1 := van_len hp h
 have h2 := trimL_last (polL p (vanP l)) (by rw [polL_trim];intro e;rw [e] at h1;simp at h1)
 rw [polL_trim,h1,Nat.add_sub_cancel] at h2
 exact h2
end
def vanStep (p : Int) (f : List Int) (k : Int) : List Int := trimL (mulsL p f [1,-invp p k % p] f.length)
theorem vanStep_res {p : Int} (hp : Supp p) (f : List Int) (k : Int) : ∀ x ∈ vanStep p f k,Res p x := fun x hx => mulsL_res hp _ _ _ x (trimL_mem hx)
theorem two_length {p : Int} (f : List Int) (o u : Int) : ∀ n,(mulsL p f [o,u] n).length ≤ n + 1 := by
 intro n
 induction n with
 | zero => simp [mulsL]
 | succ n ih =>
  show (rowL p (mulsL p f [o,u] n) (rd f n) [o,u] n 2).length ≤ _
  simp only [rowL,putL_length,Nat.add_zero];omega
theorem vanStep_length (p : Int) (f : List Int) (k : Int) : (vanStep p f k).length ≤ f.length + 1 := Nat.le_trans (trimL_length _) (two_length _ _ _ _)
theorem vanStep_ev {p : Int} (hp : Supp p) (f : List Int) (k x : Int) : evI p x (vanStep p f k) = evI p x f * ((1 - x * invp p k) % p) % p := by
 haveI := nz hp
 refine T_inj hp (evI_res hp _ _) (Res.mod hp _) ?_
 unfold vanStep
 rw [evI_trimL hp,ev_evI hp,ev_muls hp,← M_length (p := p) f,List.take_length,T_mod hp,T_mul,T_mod hp,ev_evI hp]
 refine congrArg _ ?_
 show ev (T p x) (M p [1,-invp p k % p]) = _
 simp only [M,List.map_cons,List.map_nil,ev]
 rw [T_mod hp,T_neg,T_sub,T_mul,T_one]
 grind
theorem vanFold {p : Int} (hp : Supp p) : ∀ (l f : List Int),(∀ x ∈ f,Res p x) → (∀ x ∈ l.foldl (vanStep p) f,Res p x) ∧ (l.foldl (vanStep p) f).length ≤ f.length + l.length
 | [],f,h => ⟨h,by simp⟩
 | k :: l,f,h => by
  have ih := vanFold hp l (vanStep p f k) (vanStep_res hp f k)
  have h1 := vanStep_length p f k
  refine ⟨ih.1,?_⟩
  have := ih.2
  simp only [List.foldl_cons,List.length_cons] at *
  omega
theorem vanFold_zero {p : Int} (hp : Supp p) : ∀ (l f : List Int),evI p 0 (l.foldl (vanStep p) f) = evI p 0 f
 | [],f => rfl
 | k :: l,f => by
  rw [List.foldl_cons,vanFold_zero hp l,vanStep_ev hp]
  have hb := hp.bd
  rw [Int.zero_mul,Int.sub_zero,Int.emod_eq_of_lt (a := 1) (by omega) (by omega),Int.mul_one]
  exact (evI_res hp _ _).eq
theorem vanFold_keep {p : Int} (hp : Supp p) (x : Int) : ∀ (l f : List Int),evI p x f = 0 → evI p x (l.foldl (vanStep p) f) = 0
 | [],f,h => h
 | k :: l,f,h => by
  rw [List.foldl_cons]
  refine vanFold_keep hp x l _ ?_
  rw [vanStep_ev hp,h,Int.zero_mul,Int.zero_emod]
theorem vanFold_root {p : Int} (hp : Supp p) (x : Int) (hx : Res p x) (h0 : x ≠ 0) : ∀ (l f : List Int),x ∈ l → evI p x (l.foldl (vanStep p) f) = 0
 | k :: l,f,h => by
  rw [List.foldl_cons]
  rcases List.mem_cons.1 h with rfl|h
  ·refine vanFold_keep hp x l _ ?_
   have hb := hp.bd
   rw [vanStep_ev hp,subm (a' := 1) (b' := 1) rfl (by rw [inv_spec hp hx h0];exact (Int.emod_eq_of_lt (by omega) (by omega)).symm)]
   simp
  ·exact vanFold_root hp x hx h0 l _ h
theorem vanFold_eq {p : Int} (hp : Supp p) {l : List Int} (h : VanOk p l) : l.foldl (vanStep p) [1] = polL p (vanP l) := by
 have hb := hp.bd
 have h1 : ∀ x ∈ ([1] : List Int),Res p x := fun x hx => by
  simp only [List.mem_cons,List.not_mem_nil,or_false] at hx;subst hx;exact ⟨by omega,by omega⟩
 have hf := vanFold hp l [1] h1
 have h2 := van_uniq hp h hf.1 (by have := hf.2;simp only [List.length_cons,List.length_nil] at this;omega) (by rw [vanFold_zero hp];simp [evI];exact Int.emod_eq_of_lt (by omega) (by omega)) (fun x hx => vanFold_root hp x (h.res x hx) (h.nz x hx) l [1] hx)
 rw [h2]
 cases l with
 | nil => rfl
 | cons k l =>
  have : ∀ (l f : List Int),trimL f = f → trimL (l.foldl (vanStep p) f) = l.foldl (vanStep p) f := by
   intro l
   induction l with
   | nil => intro f h;exact h
   | cons k l ih => intro f _;exact ih _ (trimL_trimL _)
  exact (this _ _ rfl).symm
end Go.Proofs.Ytejeelpnmdfibaa.E
end
section
namespace Go.Proofs.Ytejeelpnmdfibaa.Hw
open Go.RowKit Go.Proofs.Ytejeelpnmdfibaa.Pr Go.Proofs.YtejeelpnmdfibaaW.PrintWords Go.Proofs.YtejeelpnmdfibaaW.PrintLast Go.Proofs.YtejeelpnmdfibaaW.PrintMore Go.Proofs.Ytejeelpnmdfibaa.E
set_option linter.unusedVariables false
set_option linter.unusedSimpArgs false
section
variable {P : Program} {ops : Array Oper} {Q : Exit → Act → World → Prop}
theorem st_row {rest : List Oper} {op : Oper} {a : Act} {w : World} (hgd : op.guard = none) (ty : TypeId) (x y : Operand) (ho : op.op = .store ty x y) (g : Nat) (cells : Array Value) (hx : a.eval x = .pointer (some ⟨g,0,none⟩)) (hy : a.eval y = .agg cells)
  (t : TypeId) (old : Array Value) (hg : w.heap[g]? = some (.cells old t (0,0))) (hi : (P.info? ty).map (·.size) = some cells.size) (hold : old.size = cells.size) (h1 : cells.all (·.oneCell') = true)
  (h : ∀ w',w'.heap[g]? = some (.cells cells t (0,0)) → (∀ B w0,B ≤ g → Below B w0 w → Below B w0 w') → (∀ b o,b ≠ g → w.heap[b]? = some o → w'.heap[b]? = some o) → wpList P ops Q rest (a.put op.dst undef) w') : wpList P ops Q (op :: rest) a w :=
 wpList_plain hgd fun _ hK => wp_store_row ty x y ho g cells hx hy t old hg hi hold h1 (hK _ _ (h _ (setRow_heap _ g _ _ t _ hg) (fun B w0 hB hb => Go.below_setRow hb hB _) (fun b o hb h => (setRow_other w g b cells (by omega)).trans h)))
theorem ld_row {rest : List Oper} {op : Oper} {a : Act} {w : World} (hgd : op.guard = none) (ty : TypeId) (x : Operand) (ho : op.op = .load ty x) (g : Nat) (hx : a.eval x = .pointer (some ⟨g,0,none⟩)) (t : TypeId) (cs : Array Value) (fr : Nat × Nat) (d : TypeDesc)
  (hg : w.heap[g]? = some (.cells cs t fr)) (hu : P.underlying ty = some d) (hd : (match d with|.struct _|.array _ _ => true|_ => false) = true) (hi : (P.info? ty).map (·.size) = some cs.size)
  (h : wpList P ops Q rest (a.put op.dst (.agg cs)) w) : wpList P ops Q (op :: rest) a w :=
 wpList_plain hgd fun _ hK => wp_load_row ty x ho g hx t cs fr d hg hu hd hi (hK _ _ h)
theorem results_c {fn : Func} {p : Tmp} {ty : TypeId} (h : fn.results = #[.cell p ty]) (tmps : Array Value) (w : World) (g : Nat) (t : TypeId) (cs : Array Value) (fr : Nat × Nat) (d : TypeDesc)
  (hp : tmps.getD p undef = .pointer (some ⟨g,0,none⟩)) (hg : w.heap[g]? = some (.cells cs t fr))
  (hu : P.underlying ty = some d) (hd : (match d with|.struct _|.array _ _ => true|_ => false) = true) (hi : (P.info? ty).map (·.size) = some cs.size) :
  (results fn tmps).run P w = .ok (.agg cs) w := by
 have hp' : tmps[p]?.getD undef = .pointer (some ⟨g,0,none⟩) := by simpa using hp
 simp [results,h,hp',asAddr,run_loadVar_row w g t ty cs fr d hg hu hd hi]
end
def markL (l : List Int) : List Bool := (List.range 14).map fun (i : Nat) => decide ((i : Int) ∈ l)
def boolC (m : List Bool) : List Value := m.map Value.bool
theorem markL_length (l : List Int) : (markL l).length = 14 := by simp [markL]
theorem boolC_length (m : List Bool) : (boolC m).length = m.length := by simp [boolC]
theorem boolC_one (m : List Bool) : (boolC m).toArray.all (·.oneCell') = true := by
 simp only [boolC,List.all_toArray,List.all_map,List.all_eq_true]
 intro x _;rfl
theorem markL_get {l : List Int} {i : Nat} (h : i < 14) : (markL l)[i]? = some (decide ((i : Int) ∈ l)) := by unfold markL;rw [List.getElem?_map,List.getElem?_range h];rfl
theorem boolC_get {m : List Bool} {i : Nat} {b : Bool} (h : m[i]? = some b) : (boolC m)[i]? = some (.bool b) := by unfold boolC;rw [List.getElem?_map,h];rfl
theorem boolC_set (m : List Bool) (i : Nat) (b : Bool) : (boolC m).set i (.bool b) = boolC (m.set i b) := by unfold boolC;rw [List.map_set]
theorem markL_more (l : List Int) {x : Int} (h0 : 0 ≤ x) (h1 : x < 14) : (markL l).set x.toNat true = markL (l ++ [x]) := by
 refine List.ext_getElem? fun i => ?_
 by_cases hi : i < 14
 ·rw [markL_get hi]
  by_cases e : i = x.toNat
  ·subst e
   rw [List.getElem?_set_self (by rw [markL_length];exact hi),show ((x.toNat : Nat) : Int) = x from by omega]
   simp
  ·rw [List.getElem?_set_ne (Ne.symm e),markL_get hi]
   have : (i : Int) ≠ x := by omega
   simp [this]
 ·rw [List.getElem?_eq_none (by rw [List.length_set,markL_length];omega),List.getElem?_eq_none (by rw [markL_length];omega)]
theorem infoA : (Try.prog.info? 106).map (·.size) = some 14 := by kernel_rfl
set_option maxHeartbeats 2000000 in
set_option maxRecDepth 100000 in
theorem members_walk (A : Option Addr) (c : Nat) (l : List Int) (w : World) (hr : Kd.C (Kd.int .i64) w A l.length l) (hc : l.length ≤ c) (hl : l.length ≤ 1000) (hx : ∀ i : Nat,i < l.length → 0 ≤ rd l (i : Int) ∧ rd l (i : Int) < 14) :
  Calls Try.prog 108 #[.slice A l.length c] w fun e w' => e = .returned (.agg (boolC (markL l)).toArray) ∧ Below w.heap.size w w' := by
 have HR := Aside0.mk hr
 have HX := Aside0.mk hx
 have hz := (zero_of_info (P := Try.prog) (t := 106) (v := .agg (boolC (markL [])).toArray) (n := 14) (by kernel_rfl)).1
 have hu := Try.underlying106
 clear hr hx
 go_enter Try.func108,Try.ntmps108
 go_wp2
 obtain ⟨g,hg⟩ : ∃ y,y = w.heap.size := ⟨_,rfl⟩
 rw [← hg]
 have HG := Aside0.mk hg
 clear hg hz
 go_loopg [7] l.length (fun kq v7 w' => ∃ i : Nat,v7 = .int .i64 (i : Int) ∧ Aside0 (kq + i = l.length) ∧ Aside0 (w'.heap[g]? = some (.cells (boolC (markL (l.take i))).toArray 106 (0,0))) ∧ Aside0 (Below w.heap.size w w'))
 case atStart => exact ⟨0,rfl,⟨rfl⟩,⟨by rw [HG.out,List.take_zero];exact blk_new w _⟩,⟨below_alloc (Below.refl _ _) _⟩⟩
 case round =>
  obtain ⟨i,rfl,HK,HM,HB⟩ := hrel
  by_cases hlt : i < l.length
  ·have q1 : decide ((i : Int) < (l.length : Int)) = true := decide_eq_true (by omega)
   have q2 : decide (i < l.length) = true := decide_eq_true hlt
   obtain ⟨ad,e,hy⟩ := Kd.at_int (Kd.C_below HR.out HB.out) (i : Int) (by omega) (by omega)
   cases e
   rw [Int.toNat_natCast] at hy
   obtain ⟨x0,x1⟩ := HX.out i hlt
   have hsn : l.take (i + 1) = l.take i ++ [rd l (i : Int)] := by
    rw [List.take_add_one,List.getElem?_eq_getElem hlt]
    have : rd l (i : Int) = l[i] := by unfold rd;rw [Int.toNat_natCast,List.getD_eq_getElem?_getD,List.getElem?_eq_getElem hlt];rfl
    rw [this];rfl
   obtain ⟨x,hxe⟩ : ∃ y,y = rd l (i : Int) := ⟨_,rfl⟩
   rw [← hxe] at hy x0 x1 hsn
   have p1 : ((0 : Int) ≤ (i : Int)) = True := eq_true (by omega)
   have p2 : ((i : Int) < (l.length : Int)) = True := eq_true (by omega)
   have p3 : ((0 : Int) ≤ x) = True := eq_true x0
   have p4 : (x < 14) = True := eq_true x1
   have c1 := blk_cell HM.out x.toNat
   rw [List.getElem?_toArray,boolC_get (markL_get (by omega))] at c1
   have f1 := blk_frozen HM.out x.toNat
   have HSN := Aside0.mk hsn
   have HX0 := Aside0.mk (And.intro x0 x1)
   clear hsn hxe x0 x1
   go_wp2
   go_roundg (l.length - (i + 1))
   case measure => have := HK.out;omega
   case rel =>
    refine ⟨i + 1,by go_num,⟨by omega⟩,⟨blk_put HM.out x.toNat _ ?_⟩,⟨Below.setCell HB.out (p := ⟨g,x.toNat,none⟩) (by rw [HG.out];exact Nat.le_refl _) _⟩⟩
    rw [List.setIfInBounds_toArray,boolC_set,markL_more _ HX0.out.1 HX0.out.2,← HSN.out]
  ·have q1 : decide ((i : Int) < (l.length : Int)) = false := decide_eq_false (by omega)
   have q2 : decide (i < l.length) = false := decide_eq_false hlt
   have hil : l.take i = l := List.take_of_length_le (by omega)
   have hm := HM.out
   rw [hil] at hm
   have hsz : (Try.prog.info? 106).map (·.size) = some (boolC (markL l)).toArray.size := by rw [infoA,List.size_toArray,boolC_length,markL_length]
   have HM2 := Aside0.mk hm
   have HSZ := Aside0.mk hsz
   clear hm hil hsz
   go_wp2_with (first
    | ((with_reducible refine gate_dst (N := 14) rfl ?_);refine ld_row rfl 106 (.tmp 2) rfl g (by rfl) 106 (boolC (markL l)).toArray (0,0) _ HM2.out Try.underlying106 rfl HSZ.out ?_)
    | ((with_reducible refine gate_store (p := 2) rfl ?_);refine st_row rfl 106 (.tmp 2) (.tmp 14) rfl g (boolC (markL l)).toArray (by rfl) (by rfl) 106 (boolC (markL l)).toArray HM2.out HSZ.out rfl (boolC_one _) ?_;intro w6 hb6 hbw hbo;have HB6 := Aside0.mk (hbw _ _ (by rw [HG.out];exact Nat.le_refl _) HB.out);have HM6 := Aside0.mk hb6;clear hb6 hbw hbo))
   (try simp only [Exit.inBlock,Exit.then])
   refine bodyPost_ret (results_c rfl _ _ g 106 (boolC (markL l)).toArray (0,0) _ (by rfl) HM6.out Try.underlying106 rfl HSZ.out) rfl ?_
   exact ⟨rfl,HB6.out⟩
theorem ext_yes {bad : List Int} {n : Nat} {k lack : Int} (h : k ∈ bad) : extL bad (n + 1) k lack = k :: extL bad n (k + 1) lack := by rw [extL,if_pos h]
theorem ext_more {bad : List Int} {n : Nat} {k lack : Int} (h : k ∉ bad) (hl : lack > 0) : extL bad (n + 1) k lack = k :: extL bad n (k + 1) (lack - 1) := by rw [extL,if_neg h,if_pos hl]
theorem ext_skip {bad : List Int} {n : Nat} {k lack : Int} (h : k ∉ bad) (hl : ¬ lack > 0) : extL bad (n + 1) k lack = extL bad n (k + 1) lack := by rw [extL,if_neg h,if_neg hl]
set_option maxHeartbeats 4000000 in
set_option maxRecDepth 100000 in
theorem ext_walk (p : Int) (N : Nat) (T : Int) (A : Option Addr) (c : Nat) (l : List Int) (w : World) (hr : Kd.C (Kd.int .i64) w A l.length l) (hc : l.length ≤ c) (hl : l.length ≤ 1000) (hx : ∀ i : Nat,i < l.length → 0 ≤ rd l (i : Int) ∧ rd l (i : Int) < 14) (hN : N ≤ 13) :
  Calls Try.prog 98 #[.agg #[.int .u64 p,.int .i64 (N : Int),.int .i64 T],.slice A l.length c] w fun e w' => ∃ v0_ : Value,e = .returned (v0_) ∧ Kd.R (Kd.int .i64) 3 w' w.heap.size (fun _ => True) v0_ (extL l N 1 (T - l.length)) ∧ Below w.heap.size w w' := by
 have HR := Aside0.mk hr
 have HX := Aside0.mk hx
 have HC := Aside0.mk hc
 have HL := Aside0.mk hl
 have hz := (zero_of_info (P := Try.prog) (t := 106) (v := .agg (boolC (markL [])).toArray) (n := 14) (by kernel_rfl)).1
 have hu := Try.underlying106
 have hu2 := Try.underlying24
 have hsz : (Try.prog.info? 106).map (·.size) = some (boolC (markL l)).toArray.size := by rw [infoA,List.size_toArray,boolC_length,markL_length]
 have HSZ := Aside0.mk hsz
 clear hr hx hc hl hsz
 go_enter Try.func98,Try.ntmps98
 go_wp2_with (first
  | ((with_reducible refine gate_dst (N := 2) rfl ?_);refine box_event ?hg (N := 2) ?hd (cs := #[.int .u64 p,.int .i64 (N : Int),.int .i64 T]) (t := 24) ?hr ?_;(case hd => rfl);(case hg => rfl);(case hr => first|(go_simp;done)|(go_simp;rfl));intro gb hgb w4 hbox hb4;have GB := Aside0.mk hgb;have BK4 := Aside0.mk hbox;have HB4 := Aside0.mk hb4;clear hbox hb4 hgb)
  | (go_at_call 108;(refine (members_walk A c l _ (Kd.C_below HR.out HB4.out) HC.out HL.out HX.out).mono ?_);rintro e w5 ⟨rfl,hb5⟩;have BK5 := Aside0.mk (blk_below BK4.out hb5);have HB5 := Aside0.mk (below_step HB4.out hb5);clear hb5)
  | ((with_reducible refine gate_store (p := 5) rfl ?_);refine st_row rfl 106 (.tmp 5) (.tmp 10) rfl w5.heap.size (boolC (markL l)).toArray (by rfl) (by rfl) 106 (boolC (markL [])).toArray (blk_new w5 _) HSZ.out (by rw [List.size_toArray,List.size_toArray,boolC_length,boolC_length,markL_length,markL_length]) (boolC_one _) ?_;intro w6 hb6 hbw hbo;have BK6 := Aside0.mk (hbo gb _ (by have := blk_lt BK5.out;omega) (blk_alloc BK5.out _));have HB6 := Aside0.mk (hbw _ _ (below_size HB5.out) (below_alloc HB5.out _));have HM6 := Aside0.mk hb6;clear hb6 hbw hbo))
 obtain ⟨g,hg⟩ : ∃ y,y = w5.heap.size := ⟨_,rfl⟩
 rw [← hg] at HM6 ⊢
 have HG := Aside0.mk (show w.heap.size ≤ g by rw [hg];exact below_size HB5.out)
 have HGB := Aside0.mk (show w.heap.size ≤ gb by rw [GB.out];exact Nat.le_refl _)
 clear hg hz BK4 BK5 HB4 HB5 GB
 go_loopg [6,7,8] N (fun kq v6 v7 v8 w' => ∃ (k : Nat) (n : Int) (m : List Bool) (dn : List Int),v6 = .int .i64 n ∧ v8 = .int .i64 (k : Int) ∧ Aside0 (kq + k = N + 1 ∧ 1 ≤ k) ∧ Aside0 (0 ≤ n ∧ n + 1 ≤ l.length + k) ∧ Aside0 (m.length = 14 ∧ ∀ i : Nat,k ≤ i → i < 14 → m[i]? = some (decide ((i : Int) ∈ l))) ∧ Aside0 (dn ++ extL l (N + 1 - k) (k : Int) (T - n) = extL l N 1 (T - l.length)) ∧ Aside0 (dn.length + 1 ≤ k) ∧ Aside0 (Kd.R (Kd.int .i64) 3 w' w.heap.size (fun _ => True) v7 dn) ∧ Aside0 (w'.heap[g]? = some (.cells (boolC m).toArray 106 (0,0))) ∧ Aside0 (w'.heap[gb]? = some (.cells #[.int .u64 p,.int .i64 (N : Int),.int .i64 T] 24 (0,0))) ∧ Aside0 (Below w.heap.size w w'))
 case atStart => exact ⟨1,(l.length : Int),markL l,[],rfl,rfl,⟨rfl,Nat.le_refl _⟩,⟨by omega,by omega⟩,⟨markL_length l,fun i _ hi => markL_get hi⟩,⟨rfl⟩,⟨Nat.le_refl _⟩,⟨Kd.R_nil _ _ _ _ _⟩,HM6,BK6,HB6⟩
 case round =>
  clear HM6 BK6 HB6
  obtain ⟨k,n,m,dn,rfl,rfl,HK,HN,HM,HD,HDL,HO,HMB,BK,HB⟩ := hrel
  have cN := blk_cell BK.out 1
  have cT := blk_cell BK.out 2
  simp only [List.getElem?_toArray,List.getElem?_cons_zero,List.getElem?_cons_succ] at cN cT
  obtain ⟨hk0,hk1⟩ := HK.out
  obtain ⟨hn0,hn1⟩ := HN.out
  have hl := HL.out
  by_cases hlt : k ≤ N
  ·have q1 : decide ((k : Int) ≤ (N : Int)) = true := decide_eq_true (by omega)
   have q2 : decide (k ≤ N) = true := decide_eq_true hlt
   have p1 : ((0 : Int) ≤ (k : Int)) = True := eq_true (by omega)
   have p2 : ((k : Int) < 14) = True := eq_true (by omega)
   have p3 : (k < 14) = True := eq_true (by omega)
   have c1 := blk_cell HMB.out k
   rw [List.getElem?_toArray,boolC_get (HM.out.2 k (Nat.le_refl _) (by omega))] at c1
   have f1 := blk_frozen HMB.out k
   have hrun : N + 1 - k = (N + 1 - (k + 1)) + 1 := by omega
   by_cases hb : (k : Int) ∈ l
   ·have hd : decide ((k : Int) ∈ l) = true := decide_eq_true hb
    rw [hd] at c1
    have HE := Aside0.mk (show dn ++ [(k : Int)] ++ extL l (N + 1 - (k + 1)) ((k : Int) + 1) (T - n) = extL l N 1 (T - l.length) by rw [← HD.out,hrun,ext_yes hb,List.append_assoc];rfl)
    obtain ⟨m1,hm1⟩ : ∃ y : List Int,y = dn ++ [(k : Int)] := ⟨_,rfl⟩
    have NM := Aside0.mk hm1
    obtain ⟨A7,c7,rfl⟩ := Kd.R_slice HO.out
    clear hm1 hd hb hrun hk0 hn1
    go_wp2_with (first
     | ((with_reducible refine gate_builtin (b := .append) (xs := #[.tmp 36,.tmp 38]) rfl ?_);at_builtin;refine Kd.R_append (Kd.int .i64) (w0 := w) w.heap.size rfl (.tmp 36) (.tmp 38) 25 3 (.int .i64 0) 8 rfl Try.underlying25 info3 rfl (by decide) (by omega) (.slice A7 dn.length c7) dn (k : Int) [.int .i64 (k : Int)] (fun _ => True) (fun _ => False) rfl rfl rfl (fun _ hk => hk.elim) (fun _ _ => trivial) HO.out HB.out (below_size HB.out) (by have := HDL.out;omega) ?_;intro v1 w1 ho hb hg hat;rw [← NM.out] at ho;have HMB1 := Aside0.mk (blk_grown HMB.out hg (Kd.R_ne HO.out HMB.out (by decide)));have BK1 := Aside0.mk (blk_grown BK.out hg (Kd.R_ne HO.out BK.out (by decide)));have HO1 := Aside0.mk ho;have HB1 := Aside0.mk hb;clear ho hb hg hat))
    go_roundg (N - k)
    case measure => have := HK.out;omega
    case rel => exact ⟨k + 1,n,m,m1,rfl,by go_num,⟨by omega⟩,⟨by have := HN.out;omega⟩,⟨HM.out.1,fun i h1 h2 => HM.out.2 i (by omega) h2⟩,⟨by rw [NM.out];exact HE.out⟩,⟨by rw [NM.out,List.length_append];have := HDL.out;simp only [List.length_cons,List.length_nil];omega⟩,HO1,HMB1,BK1,HB1⟩
   ·have hd : decide ((k : Int) ∈ l) = false := decide_eq_false hb
    rw [hd] at c1
    by_cases hln : n < T
    ·have q3 : decide (n < T) = true := decide_eq_true hln
     have HE := Aside0.mk (show dn ++ [(k : Int)] ++ extL l (N + 1 - (k + 1)) ((k : Int) + 1) (T - (n + 1)) = extL l N 1 (T - l.length) by rw [← HD.out,hrun,ext_more hb (by omega),List.append_assoc,show T - (n + 1) = T - n - 1 from by omega];rfl)
     obtain ⟨m1,hm1⟩ : ∃ y : List Int,y = dn ++ [(k : Int)] := ⟨_,rfl⟩
     have NM := Aside0.mk hm1
     obtain ⟨A7,c7,rfl⟩ := Kd.R_slice HO.out
     have hb2 : (wr.setCell ⟨g,k,none⟩ (.bool true)).heap[g]? = some (.cells (boolC (m.set k true)).toArray 106 (0,0)) := blk_put HMB.out k _ (by rw [List.setIfInBounds_toArray,boolC_set])
     have hgg : gb ≠ g := blk_ne BK.out HMB.out (by decide)
     have hb3 : (wr.setCell ⟨g,k,none⟩ (.bool true)).heap[gb]? = some (.cells #[.int .u64 p,.int .i64 (N : Int),.int .i64 T] 24 (0,0)) := blk_far (p := ⟨g,k,none⟩) BK.out hgg _
     have hb4 := Kd.R_set HO.out HMB.out (by decide) k (.bool true)
     have hb5 := Below.setCell HB.out (p := ⟨g,k,none⟩) HG.out (.bool true)
     have c2 := blk_cell hb2 k
     rw [List.getElem?_toArray,boolC_get (b := true) (by rw [List.getElem?_set_self (by rw [HM.out.1];omega)])] at c2
     have HB2 := Aside0.mk hb2
     have HB3 := Aside0.mk hb3
     have HB4 := Aside0.mk hb4
     have HB5 := Aside0.mk hb5
     clear hm1 hd hb hrun hk0 hn1 hb2 hb3 hb4 hb5 hgg
     go_wp2_with (first
      | ((with_reducible refine gate_builtin (b := .append) (xs := #[.tmp 36,.tmp 38]) rfl ?_);at_builtin;refine Kd.R_append (Kd.int .i64) (w0 := w) w.heap.size rfl (.tmp 36) (.tmp 38) 25 3 (.int .i64 0) 8 rfl Try.underlying25 info3 rfl (by decide) (by omega) (.slice A7 dn.length c7) dn (k : Int) [.int .i64 (k : Int)] (fun _ => True) (fun _ => False) rfl (by rw [show (wr.setCell ⟨g,k,none⟩ (.bool true)).heap.size = wr.heap.size from by simp [World.setCell]];rfl) rfl (fun _ hk => hk.elim) (fun _ _ => trivial) HB4.out HB5.out (below_size HB5.out) (by have := HDL.out;omega) ?_;intro v1 w1 ho hb hg hat;rw [← NM.out] at ho;have HMB1 := Aside0.mk (blk_grown HB2.out hg (Kd.R_ne HB4.out HB2.out (by decide)));have BK1 := Aside0.mk (blk_grown HB3.out hg (Kd.R_ne HB4.out HB3.out (by decide)));have HO1 := Aside0.mk ho;have HB1 := Aside0.mk hb;clear ho hb hg hat))
     go_roundg (N - k)
     case measure => have := HK.out;omega
     case rel => exact ⟨k + 1,n + 1,m.set k true,m1,by rw [show wrap64 (n + 1) = n + 1 from w64' (by have := HN.out;have := HL.out;omega) (by have := HN.out;have := HL.out;omega)],by go_num,⟨by omega⟩,⟨by have := HN.out;omega⟩,⟨by rw [List.length_set];exact HM.out.1,fun i h1 h2 => by rw [List.getElem?_set_ne (by omega)];exact HM.out.2 i (by omega) h2⟩,⟨by rw [NM.out];exact HE.out⟩,⟨by rw [NM.out,List.length_append];have := HDL.out;simp only [List.length_cons,List.length_nil];omega⟩,HO1,HMB1,BK1,HB1⟩
    ·have q3 : decide (n < T) = false := decide_eq_false hln
     have HE := Aside0.mk (show dn ++ extL l (N + 1 - (k + 1)) ((k : Int) + 1) (T - n) = extL l N 1 (T - l.length) by rw [← HD.out,hrun,ext_skip hb (by omega)])
     clear hd hb hrun hk0 hn1
     go_wp2
     go_roundg (N - k)
     case measure => have := HK.out;omega
     case rel => exact ⟨k + 1,n,m,dn,rfl,by go_num,⟨by omega⟩,⟨by have := HN.out;omega⟩,⟨HM.out.1,fun i h1 h2 => HM.out.2 i (by omega) h2⟩,HE,⟨by have := HDL.out;omega⟩,HO,HMB,BK,HB⟩
  ·have q1 : decide ((k : Int) ≤ (N : Int)) = false := decide_eq_false (by omega)
   have q2 : decide (k ≤ N) = false := decide_eq_false hlt
   have hz : N + 1 - k = 0 := by omega
   have HE := Aside0.mk (show dn = extL l N 1 (T - l.length) by rw [← HD.out,hz];simp [extL])
   clear hz
   go_wp2
   first|go_ret|((try simp only [Exit.inBlock,Exit.then]);refine bodyPost_ret (results_tmp rfl _ _ rfl) rfl ?_)
   exact ⟨_,rfl,by rw [← HE.out];exact HO.out,HB.out⟩
def params_ExtendCoalition.f (a0 a1 a2 : Int) (l : List Int) : Option (List Int) :=
 if 0 ≤ a1 then (if a1 ≤ 13 then (if l.length ≤ 1000 then (if (l.all fun x => decide (0 ≤ x) && decide (x < 14)) = true then some (extL l a1.toNat 1 (a2 - l.length)) else none) else none) else none) else none
theorem params_ExtendCoalition.calls (a0 a1 a2 : Int) (A1 : Option Addr) (c1 : Nat) (l1 : List Int) (r : List Int) (w : World) (hr1 : Kd.C (Kd.int .i64) w A1 l1.length l1) (hc1 : l1.length ≤ c1) (h : params_ExtendCoalition.f a0 a1 a2 l1 = some r) :
  Calls Try.prog 98 #[.agg #[.int .u64 a0,.int .i64 a1,.int .i64 a2],.slice A1 l1.length c1] w fun e w' => ∃ v0_ : Value,e = .returned (v0_) ∧ Kd.R (Kd.int .i64) 3 w' w.heap.size (fun _ => True) v0_ r ∧ Below w.heap.size w w' := by
 unfold params_ExtendCoalition.f at h
 obtain ⟨h1,h⟩ := ifs h
 obtain ⟨h2,h⟩ := ifs h
 obtain ⟨h3,h⟩ := ifs h
 obtain ⟨h4,h⟩ := ifs h
 rw [← Option.some.inj h]
 have e : ((a1.toNat : Nat) : Int) = a1 := Int.toNat_of_nonneg h1
 have hg := ext_walk a0 a1.toNat a2 A1 c1 l1 w hr1 hc1 h3 (fun i hi => by
  have hm := List.all_eq_true.1 h4 (l1[i]) (List.getElem_mem _)
  rw [Bool.and_eq_true,decide_eq_true_eq,decide_eq_true_eq] at hm
  have : rd l1 (i : Int) = l1[i] := by unfold rd;rw [Int.toNat_natCast,List.getD_eq_getElem?_getD,List.getElem?_eq_getElem hi];rfl
  rw [this];exact hm) (by omega)
 rw [e] at hg
 exact hg
end Go.Proofs.Ytejeelpnmdfibaa.Hw
end
section
namespace Go.Proofs.Ytejeelpnmdfibaa.Pr
open Go.RowKit Go.Proofs.YtejeelpnmdfibaaW.PrintWords Go.Proofs.YtejeelpnmdfibaaW.PrintLast Go.Proofs.YtejeelpnmdfibaaW.PrintMore
attribute [local go_sem] max2_int min2_int max_two min_two max_three min_three max_four min_four
set_option linter.unusedVariables false
set_option linter.unusedSimpArgs false
open Go.Proofs.Ytejeelpnmdfibaa.Hw
def params_VanishingPolynomial.l0 : Nat → List (S97) → List Int → Int → Int → Int → Int → Int → Option (List Int)
 | 0,_,_,_,_,_,_,_ => none
 | k + 1,x5,x14,x15,x16,x218000,x218001,x218002 => if x16 < x15 then (if 0 ≤ x16 then (if x16 < (x14.length : Int) then (if x5.length < 8796093022208 then (params_VanishingPolynomial.l0 k (x5 ++ [(⟨IntKind.u64.wrap (rd x14 x16),0⟩ : S97)]) x14 x15 (wrap64 (x16 + 1)) x218000 x218001 x218002) else (none)) else (none)) else (none)) else ((interpolate_Polynomial.f x218000 x5).bind fun bt228 => (some bt228.1))
def params_VanishingPolynomial.f (k : Nat) (a0_0 : Int) (a0_1 : Int) (a0_2 : Int) (l1 : List Int) : Option (List Int) := (params_ExtendCoalition.f a0_0 a0_1 a0_2 l1).bind fun t221 => (params_VanishingPolynomial.l0 k (([(⟨0,1⟩ : S97)] : List (S97))) t221 (t221.length : Int) 0 a0_0 a0_1 a0_2)
theorem params_VanishingPolynomial.mono_l : ∀ k,(∀ y0 y1 y2 y3 y4 y5 y6,LeO (params_VanishingPolynomial.l0 k y0 y1 y2 y3 y4 y5 y6) (params_VanishingPolynomial.l0 (k + 1) y0 y1 y2 y3 y4 y5 y6))
 | 0 => fun _ _ _ _ _ _ _ r h => by simp [params_VanishingPolynomial.l0] at h
 | k + 1 => by
  have ih0 := params_VanishingPolynomial.mono_l k
  ·intro y0 y1 y2 y3 y4 y5 y6
   unfold params_VanishingPolynomial.l0
   repeat' first
   | (with_reducible exact ih0 _ _ _ _ _ _ _)
   | (with_reducible exact LeO.refl _)
   | (with_reducible exact LeO.none _)
   | (with_reducible refine LeO.ite ?_ ?_)
   | (with_reducible refine LeO.bind ?_ (fun _ => ?_))
   | exact ih0 _ _ _ _ _ _ _
   | exact LeO.none _
   | refine LeO.ite ?_ ?_
   | refine LeO.bind ?_ (fun _ => ?_)
theorem params_VanishingPolynomial.mono : ∀ a0 a1 a2 a3 k,LeO (params_VanishingPolynomial.f k a0 a1 a2 a3) (params_VanishingPolynomial.f (k + 1) a0 a1 a2 a3) := by
 intro a0 a1 a2 a3 k
 have ih0 := params_VanishingPolynomial.mono_l k
 unfold params_VanishingPolynomial.f
 repeat' first
   | (with_reducible exact ih0 _ _ _ _ _ _ _)
   | (with_reducible exact LeO.refl _)
   | (with_reducible exact LeO.none _)
   | (with_reducible refine LeO.ite ?_ ?_)
   | (with_reducible refine LeO.bind ?_ (fun _ => ?_))
   | exact ih0 _ _ _ _ _ _ _
   | exact LeO.none _
   | refine LeO.ite ?_ ?_
   | refine LeO.bind ?_ (fun _ => ?_)
set_option maxHeartbeats 8000000 in
set_option maxRecDepth 100000 in
theorem params_VanishingPolynomial.calls (k : Nat) (a0_0 : Int) (a0_1 : Int) (a0_2 : Int) (A1 : Option Addr) (c1 : Nat) (l1 : List Int) (r : List Int) (w : World) (hr1 : Kd.C (Kd.int .i64) w A1 l1.length l1) (hc1 : l1.length ≤ c1) (h : params_VanishingPolynomial.f k a0_0 a0_1 a0_2 l1 = some r) :
  Calls Try.prog 72 #[.agg #[.int .u64 a0_0,.int .i64 a0_1,.int .i64 a0_2],.slice A1 l1.length c1] w fun e w' => ∃ v0_ : Value,e = .returned (v0_) ∧ Kd.R (Kd.int .u64) 22 w' w.heap.size (fun _ => True) v0_ r ∧ Below w.heap.size w w' := by
 have hu24 := Try.underlying24
 have hu97 := Try.underlying97
 have HR1 := Aside0.mk hr1
 have HC1 := Aside0.mk hc1
 clear hr1 hc1
 have HB := Aside0.mk (Below.refl w.heap.size w)
 have H : ((params_ExtendCoalition.f a0_0 a0_1 a0_2 l1).bind fun t221 => (params_VanishingPolynomial.l0 k (([(⟨0,1⟩ : S97)] : List (S97))) t221 (t221.length : Int) 0 a0_0 a0_1 a0_2)) = some r := h
 clear h
 obtain ⟨y218,hy218⟩ : ∃ y_ : List (S97),y_ = (([(⟨0,1⟩ : S97)] : List (S97))) := ⟨_,rfl⟩
 replace H : ((params_ExtendCoalition.f a0_0 a0_1 a0_2 l1).bind fun t221 => (params_VanishingPolynomial.l0 k y218 t221 (t221.length : Int) 0 a0_0 a0_1 a0_2)) = some r := by first|(rw [hy218];with_reducible exact H)|(have H2_ := (Option.bind_some _ _).symm.trans H;rw [hy218];with_reducible exact H2_)|(have H2_ := (Option.bind_some _ _).symm.trans H;with_reducible exact H2_)|with_reducible exact H|(rw [hy218];exact H)|exact H
 have Ny218 := Aside0.mk hy218
 clear hy218
 replace H := Option.bind_eq_some_iff.mp H
 obtain ⟨t221,A30,H⟩ := H
 try dsimp only at H
 have A3 := Aside0.mk A30
 clear A30
 have H' := Aside0.mk H
 clear H
 go_enter Try.func72,Try.ntmps72
 go_wp2_with (first|((with_reducible refine gate_dst (N := 2) rfl ?_);refine box_event ?hg (N := 2) ?hd (cs := #[.int .u64 a0_0,.int .i64 a0_1,.int .i64 a0_2]) (t := 24) ?hr ?_;(case hd => rfl);(case hg => rfl);(case hr => first|(go_simp;done)|(go_simp;rfl));intro gb217 hg w4 hbox hb;have n0_ := Aside0.mk (below_step (bb HB) hb);have n1_ := Aside0.mk (hbox);have n2_ := Aside0.mk ((by rw [hg];exact (below_size (bb HB)) : w.heap.size ≤ gb217));have n3_ := Aside0.mk ((by rw [hg];exact (below_size (bb HB)) : w.heap.size ≤ gb217));clear HB;have HB := n0_;have BK217 := n1_;have GW217 := n2_;have GE217 := n3_;clear n0_ n1_ n2_ n3_;clear hb hbox hg)|((with_reducible refine gate_dst (N := 11) rfl ?_);refine Kd.R_lit k97 _ 97 ?hg (N := 11) ?hd (xs := ([(⟨0,1⟩ : S97)] : List (S97))) (inner := [.int .u64 0,.int .u64 1]) (ok := fun _ => True) (okp := fun _ => True) ?hr ?hp (fun _ hk => hk) trivial (Below.refl _ _) (Nat.le_refl _) (by simp) ?_;(case hd => rfl);(case hg => rfl);(case hr => first|(go_simp;done)|(go_simp;rfl));(case hp => exact (Reps.c2 (show Kd.M k97 _ _ _ (⟨0,1⟩ : S97) [.int .u64 0,.int .u64 1] from (k97_mkM _ _ _ (⟨0,1⟩ : S97) )) (Reps.none _ _)));intro v219 w5 ho6 hb hg_ hnew_;clear hg_ hnew_;(first|rw [← Ny218.out] at ho6|(simp only [Int.reduceToNat] at ho6;rw [← Ny218.out] at ho6));have n0_ := Aside0.mk (Kd.R_lower ho6 (below_size (bg HB GE217)));have n1_ := Aside0.mk (kb BK217 hb);have n2_ := Aside0.mk (below_step (bg HB GE217) hb);clear BK217 HB;have HO220 := n0_;have BK217 := n1_;have HB := n2_;clear n0_ n1_ n2_;clear hb ho6;have hcz7_0 := bc BK217 0;have hcz7_1 := bc BK217 1;have hcz7_2 := bc BK217 2;have hfz7_0 := blk_frozen BK217.out 0;have hfz7_1 := blk_frozen BK217.out 1;have hfz7_2 := blk_frozen BK217.out 2)|((with_reducible refine gate_callee (f := 98) rfl ?_);refine goesL_ (some 14) rfl rfl Try.func98 (by kernel_rfl) rfl #[.agg #[.int .u64 a0_0,.int .i64 a0_1,.int .i64 a0_2],.slice A1 l1.length c1] rfl (by (try simp only [List.map_toArray,List.map_cons,List.map_nil]);first|done|rfl|(simp only [List.length_drop,List.length_take];rfl)) ?_;(with_reducible refine (params_ExtendCoalition.calls a0_0 a0_1 a0_2 _ _ l1 t221 _ ?side1 ?side2 A3.out).mono ?_);(case side1 => exact cb HR1 HB);(case side2 => exact HC1.out);rintro e w8 ⟨v222,rfl,ho0,hb⟩;refine ⟨_,rfl,?_⟩;have n0_ := Aside0.mk (Kd.R_below (rr HO220) hb);have n1_ := Aside0.mk (Kd.R_lower ho0 (below_size (bg HB GE217)));have n2_ := Aside0.mk (kb BK217 hb);have n3_ := Aside0.mk (below_step (bg HB GE217) hb);clear HO220 BK217 HB;have HO220 := n0_;have HO223 := n1_;have BK217 := n2_;have HB := n3_;clear n0_ n1_ n2_ n3_;(try clear hb);(try clear hb2);(try clear hk);(try clear hi);(try clear ho0);obtain ⟨Ao9,co9,eo9⟩ := Kd.R_slice HO223.out;subst eo9))
 go_loopg [5,16] k (fun kq v5 v16 w' => ∃ (x5_1 : List (S97)) (x16_1 : Int),v16 = .int .i64 x16_1 ∧ Aside0 (params_VanishingPolynomial.l0 kq x5_1 t221 (t221.length : Int) x16_1 a0_0 a0_1 a0_2 = some r) ∧ Aside0 (kq ≤ k) ∧ Aside0 (Kd.R k97 97 w' w.heap.size (fun _ => True) v5 x5_1) ∧ Aside0 (Kd.R (Kd.int .i64) 3 w' w.heap.size (fun _ => True) (.slice Ao9 t221.length co9) t221) ∧ Aside0 (w'.heap[gb217]? = some (.cells #[.int .u64 a0_0,.int .i64 a0_1,.int .i64 a0_2] 24 (0,0))) ∧ Aside0 (Below w.heap.size w w'))
 case atStart => exact ⟨(y218),(0),(by first|rfl|(simp;done)|(simp [*];done)),H',⟨Nat.le_refl _⟩,⟨by (with_reducible repeat (first|apply Kd.R_alloc|apply Kd.R_drewN|apply Kd.R_drew));exact HO220.out⟩,⟨by (with_reducible repeat (first|apply Kd.R_alloc|apply Kd.R_drewN|apply Kd.R_drew));exact HO223.out⟩,⟨by (with_reducible repeat (first|refine blk_drewN ?_ _|refine blk_drew ?_|refine blk_alloc ?_ _));exact BK217.out⟩,⟨by repeat (first|(with_reducible first|exact HB.out|apply below_alloc|apply pw_below_drewN|apply below_drew1|refine below_set ?_ GE217.out)|exact HB.out)⟩⟩
 case round =>
  clear H'
  try clear c1
  try clear c2
  try clear p2
  try clear c7
  try clear c9
  try clear hcz7_0
  try clear hcz7_1
  try clear hcz7_2
  try clear hfz7_0
  try clear hfz7_1
  try clear hfz7_2
  obtain ⟨x5_1,x16_1,rfl,HA,HK1,HO_5,HO_14,BK217,HB⟩ := hrel
  cases gk with
  | zero => exact absurd HA.out (by simp [params_VanishingPolynomial.l0])
  | succ k1 =>
   have H := HA.out
   clear HA
   simp only [params_VanishingPolynomial.l0] at H
   by_cases c10 : x16_1 < (t221.length : Int)
   ·rw [if_pos c10] at H
    have c10b0 : decide (x16_1 < (t221.length : Int)) = true := decide_eq_true c10
    clear c10
    by_cases c11 : 0 ≤ x16_1
    ·rw [if_pos c11] at H
     have c11b0 : decide (0 ≤ x16_1) = true := decide_eq_true c11
     clear c11
     by_cases c12 : x16_1 < (t221.length : Int)
     ·rw [if_pos c12] at H
      have c12b0 : decide (x16_1 < (t221.length : Int)) = true := decide_eq_true c12
      clear c12
      by_cases c13 : x5_1.length < 8796093022208
      ·rw [if_pos c13] at H
       have LMc13 := Aside0.mk c13
       clear c13
       obtain ⟨y225,hy225⟩ : ∃ y_ : List (S97),y_ = (x5_1 ++ [(⟨IntKind.u64.wrap (rd t221 x16_1),0⟩ : S97)]) := ⟨_,rfl⟩
       replace H : (params_VanishingPolynomial.l0 k1 y225 t221 (t221.length : Int) (wrap64 (x16_1 + 1)) a0_0 a0_1 a0_2) = some r := by first|(rw [hy225];with_reducible exact H)|(have H2_ := (Option.bind_some _ _).symm.trans H;rw [hy225];with_reducible exact H2_)|(have H2_ := (Option.bind_some _ _).symm.trans H;with_reducible exact H2_)|with_reducible exact H|(rw [hy225];exact H)|exact H
       have Ny225 := Aside0.mk hy225
       clear hy225
       have H' := Aside0.mk H
       clear H
       have p224 : 0 ≤ (x16_1 : Int) := of_decide_eq_true (by first|(with_reducible assumption)|assumption)
       have q224 : x16_1 < (t221.length : Int) := of_decide_eq_true (by first|(with_reducible assumption)|assumption)
       obtain ⟨ad224,e224,hx224_0⟩ := Kd.at_int (Kd.R_reads' HO_14.out).2.2 x16_1 p224 q224
       cases e224
       replace p224 := eq_true p224
       replace q224 := eq_true q224
       go_wp2_with (first|((with_reducible refine gate_builtin (b := .append) (xs := #[.tmp 20,.tmp 24]) rfl ?_);at_builtin;refine Kd.R_append k97 (w0 := w) w.heap.size rfl (.tmp 20) (.tmp 24) 98 97 (.agg #[(.int .u64 0),(.int .u64 0)]) 16 rfl Try.underlying98 info97 rfl (by decide) (by omega) u5 x5_1 (⟨IntKind.u64.wrap (rd t221 x16_1),0⟩ : S97) [.int .u64 (IntKind.u64.wrap (rd t221 x16_1)),.int .u64 0] (fun _ => True) (fun _ => False) rfl rfl ?aP (fun _ hk => hk.elim) ?aF ?aO ?aB ?aS ?aL ?_;(case aP => exact k97_mkM _ _ _ (⟨IntKind.u64.wrap (rd t221 x16_1),0⟩ : S97));(case aB => exact (bg HB GE217));(case aF => exact (fun _ _ => trivial));(case aO => exact (rr HO_5));(case aS => exact (below_size (bg HB GE217)));(case aL => have := LMc13.out;omega);intro v226 w14 ho hb hg hat;rw [← Ny225.out] at ho;have n0_ := Aside0.mk (Kd.R_over' (rr HO_14) (Kd.R_typed (rr HO_5)) (by decide) hg);have n1_ := Aside0.mk (blk_grown (g := gb217) (o := .cells #[.int .u64 a0_0,.int .i64 a0_1,.int .i64 a0_2] 24 (0,0)) (by (with_reducible repeat (first|refine blk_drewN ?_ _|refine blk_drew ?_|refine blk_alloc ?_ _));exact BK217.out) hg (Kd.R_ne HO_5.out BK217.out (by decide)));have n2_ := Aside0.mk (hb);have n3_ := Aside0.mk (ho);clear HO_14 BK217 HB HO_5;have HO_14 := n0_;have BK217 := n1_;have HB := n2_;have HO227 := n3_;clear n0_ n1_ n2_ n3_;clear ho hb hg hat))
       go_roundg k1
       case measure => have := HK1.out;omega
       case rel => exact ⟨(y225),(wrap64 (x16_1 + 1)),(by first|rfl|(simp;done)|(simp [*];done)),H',⟨by have := HK1.out;omega⟩,⟨by (with_reducible repeat (first|apply Kd.R_alloc|apply Kd.R_drewN|apply Kd.R_drew));exact HO227.out⟩,⟨by (with_reducible repeat (first|apply Kd.R_alloc|apply Kd.R_drewN|apply Kd.R_drew));exact HO_14.out⟩,⟨by (with_reducible repeat (first|refine blk_drewN ?_ _|refine blk_drew ?_|refine blk_alloc ?_ _));exact BK217.out⟩,⟨by repeat (first|(with_reducible first|exact HB.out|apply below_alloc|apply pw_below_drewN|apply below_drew1|refine below_set ?_ GE217.out)|exact HB.out)⟩⟩
      ·rw [if_neg c13] at H
       exact absurd H (by simp)
     ·rw [if_neg c12] at H
      exact absurd H (by simp)
    ·rw [if_neg c11] at H
     exact absurd H (by simp)
   ·rw [if_neg c10] at H
    have c10b0 : decide (x16_1 < (t221.length : Int)) = false := decide_eq_false c10
    clear c10
    replace H := Option.bind_eq_some_iff.mp H
    obtain ⟨⟨t228,t229⟩,A150,H⟩ := H
    try dsimp only at H
    have A15 := Aside0.mk A150
    clear A150
    obtain rfl := Option.some.inj H
    have hcz16_0 := bc BK217 0
    have hcz16_1 := bc BK217 1
    have hcz16_2 := bc BK217 2
    have hfz16_0 := blk_frozen BK217.out 0
    have hfz16_1 := blk_frozen BK217.out 1
    have hfz16_2 := blk_frozen BK217.out 2
    obtain ⟨Ao17,co17,eo17⟩ := Kd.R_slice HO_5.out
    subst eo17
    go_wp2_with (first|((with_reducible refine gate_callee (f := 99) rfl ?_);refine goesL_ (some 31) rfl rfl Try.func99 (by kernel_rfl) rfl #[.int .u64 a0_0,.slice Ao17 x5_1.length co17] rfl (by (try simp only [List.map_toArray,List.map_cons,List.map_nil]);first|done|rfl|(simp only [List.length_drop,List.length_take];rfl)) ?_;(with_reducible refine (interpolate_Polynomial.calls a0_0 _ _ x5_1 t228 t229 _ ?side1 ?side2 A15.out).mono ?_);(case side1 => exact cr HO_5);(case side2 => exact (Kd.R_reads' HO_5.out).2.1);rintro e w18 ⟨v230,rfl,ho0,hb⟩;refine ⟨_,rfl,?_⟩;have n0_ := Aside0.mk (Kd.R_below (rr HO_5) hb);have n1_ := Aside0.mk (Kd.R_below (rr HO_14) hb);have n2_ := Aside0.mk (Kd.R_lower ho0 (below_size (bg HB GE217)));have n3_ := Aside0.mk (kb BK217 hb);have n4_ := Aside0.mk (below_step (bg HB GE217) hb);clear HO_5 HO_14 BK217 HB;have HO_5 := n0_;have HO_14 := n1_;have HO231 := n2_;have BK217 := n3_;have HB := n4_;clear n0_ n1_ n2_ n3_ n4_;(try clear hb);(try clear hb2);(try clear hk);(try clear hi);(try clear ho0)))
    go_ret
    exact ⟨_,by first|rfl|(simp [errW_none,errW_some] <;> rfl)|(simp [*,errW_none,errW_some] <;> rfl),by (with_reducible repeat (first|apply Kd.R_alloc|apply Kd.R_drewN|apply Kd.R_drew));exact HO231.out,by repeat (first|(with_reducible first|exact HB.out|apply below_alloc|apply pw_below_drewN|apply below_drew1|refine below_set ?_ GE217.out)|exact HB.out)⟩
def tapeshift_of.f (k : Nat) (a0_0 : Int) (a0_1 : Int) (a0_2 : Int) (l1 : List Int) : Option (Int × Int × List Int) := (params_VanishingPolynomial.f k a0_0 a0_1 a0_2 l1).bind fun t234 => (some (a0_0,a0_2,t234))
theorem tapeshift_of.mono : ∀ a0 a1 a2 a3 k,LeO (tapeshift_of.f k a0 a1 a2 a3) (tapeshift_of.f (k + 1) a0 a1 a2 a3) := by
 intro a0 a1 a2 a3 k
 unfold tapeshift_of.f
 repeat' first
   | (with_reducible exact params_VanishingPolynomial.mono _ _ _ _ _)
   | (with_reducible exact LeO.refl _)
   | (with_reducible exact LeO.none _)
   | (with_reducible refine LeO.ite ?_ ?_)
   | (with_reducible refine LeO.bind ?_ (fun _ => ?_))
   | exact params_VanishingPolynomial.mono _ _ _ _ _
   | exact LeO.none _
   | refine LeO.ite ?_ ?_
   | refine LeO.bind ?_ (fun _ => ?_)
def tapeshift_of.T1 : Bool × List (List Nat × List Nat) := (true,[([],[]),([0],[0]),([],[]),([2],[2]),([],[]),([],[]),([4,5],[4,5]),([1,3,6],[1,3,6]),([7,6,0,1,2,3,4,5,6,7],[7])])
def tapeshift_of.B1 : List Nat := [0,1,0,4,0,0,48,127,255]
theorem tapeshift_of.tab1 : rtab .any (opsOf Try.f43 1) = tapeshift_of.T1 := by kernel_rfl
theorem tapeshift_of.bits1 : waitsOk tapeshift_of.T1.2 tapeshift_of.B1 = true := by kernel_rfl
set_option maxHeartbeats 8000000 in
set_option maxRecDepth 100000 in
theorem tapeshift_of.calls (k : Nat) (a0_0 : Int) (a0_1 : Int) (a0_2 : Int) (A1 : Option Addr) (c1 : Nat) (l1 : List Int) (r1 : Int) (r2 : Int) (r3 : List Int) (w : World) (hr1 : Kd.C (Kd.int .i64) w A1 l1.length l1) (hc1 : l1.length ≤ c1) (h : tapeshift_of.f k a0_0 a0_1 a0_2 l1 = some (r1,r2,r3)) :
  Calls Try.prog 43 #[.agg #[.int .u64 a0_0,.int .i64 a0_1,.int .i64 a0_2],.slice A1 l1.length c1] w fun e w' => ∃ v2_ : Value,e = .returned (.agg #[.int .u64 r1,.int .i64 r2,v2_]) ∧ Kd.R (Kd.int .u64) 22 w' w.heap.size (fun _ => True) v2_ r3 ∧ Below w.heap.size w w' := by
 have hu24 := Try.underlying24
 have hu59 := Try.underlying59
 have HR1 := Aside0.mk hr1
 have HC1 := Aside0.mk hc1
 clear hr1 hc1
 have HB := Aside0.mk (Below.refl w.heap.size w)
 have H : ((params_VanishingPolynomial.f k a0_0 a0_1 a0_2 l1).bind fun t234 => (some (a0_0,a0_2,t234))) = some (r1,r2,r3) := h
 clear h
 replace H := Option.bind_eq_some_iff.mp H
 obtain ⟨t234,A30,H⟩ := H
 try dsimp only at H
 have A3 := Aside0.mk A30
 clear A30
 simp only [Option.some.injEq,Prod.mk.injEq] at H
 obtain ⟨rfl,rfl,rfl⟩ := H
 go_enter Try.func43,Try.ntmps43
 try go_wp2_with (first|((with_reducible refine gate_dst (N := 2) rfl ?_);refine box_event ?hg (N := 2) ?hd (cs := #[.int .u64 a0_0,.int .i64 a0_1,.int .i64 a0_2]) (t := 24) ?hr ?_;(case hd => rfl);(case hg => rfl);(case hr => first|(go_simp;done)|(go_simp;rfl));intro gb232 hg w4 hbox hb;have n0_ := Aside0.mk (below_step (bb HB) hb);have n1_ := Aside0.mk (hbox);have n2_ := Aside0.mk ((by rw [hg];exact (below_size (bb HB)) : w.heap.size ≤ gb232));have n3_ := Aside0.mk ((by rw [hg];exact (below_size (bb HB)) : w.heap.size ≤ gb232));clear HB;have HB := n0_;have BK232 := n1_;have GW232 := n2_;have GE232 := n3_;clear n0_ n1_ n2_ n3_;clear hb hbox hg)|((with_reducible refine gate_dst (N := 4) rfl ?_);refine box_event ?hg (N := 4) ?hd (cs := #[.int .u64 0,.int .i64 0,.slice none 0 0]) (t := 59) ?hr ?_;(case hd => rfl);(case hg => rfl);(case hr => first|(go_simp;done)|(go_simp;rfl));intro gb233 hg w5 hbox hb;have n0_ := Aside0.mk (kb BK232 hb);have n1_ := Aside0.mk (below_step (bg HB GE232) hb);have n2_ := Aside0.mk (hbox);have n3_ := Aside0.mk ((by rw [hg];exact (below_size (bg HB GE232)) : w.heap.size ≤ gb233));have n4_ := Aside0.mk ((by rw [hg];exact (below_size (bg HB GE232)) : w.heap.size ≤ gb233));have n5_ := Aside0.mk ((by rw [hg];exact Nat.ne_of_lt (blk_lt (g := gb232) (o := .cells #[.int .u64 a0_0,.int .i64 a0_1,.int .i64 a0_2] 24 (0,0)) (by (with_reducible repeat (first|refine blk_drewN ?_ _|refine blk_drew ?_|refine blk_alloc ?_ _));exact BK232.out)) : gb232 ≠ gb233));have n6_ := Aside0.mk ((by rw [hg];exact Nat.ne_of_gt (blk_lt (g := gb232) (o := .cells #[.int .u64 a0_0,.int .i64 a0_1,.int .i64 a0_2] 24 (0,0)) (by (with_reducible repeat (first|refine blk_drewN ?_ _|refine blk_drew ?_|refine blk_alloc ?_ _));exact BK232.out)) : gb233 ≠ gb232));clear BK232 HB;have BK232 := n0_;have HB := n1_;have BK233 := n2_;have GW233 := n3_;have GE233 := n4_;have NB232_233 := n5_;have NB233_232 := n6_;clear n0_ n1_ n2_ n3_ n4_ n5_ n6_;clear hb hbox hg))
 have n0_ := Aside0.mk (blk_drew BK232.out)
 have n1_ := Aside0.mk (blk_drew BK233.out)
 have n2_ := Aside0.mk (below_drew1 HB.out)
 clear BK232
 clear BK233
 clear HB
 have BK232 := n0_
 have BK233 := n1_
 have HB := n2_
 clear n0_ n1_ n2_
 refine start_ (n := 9) (S := fun w' => w'.cell? ⟨gb232,0,none⟩ = some (.int .u64 a0_0) ∧ w'.cell? ⟨gb232,1,none⟩ = some (.int .i64 a0_1) ∧ w'.cell? ⟨gb232,2,none⟩ = some (.int .i64 a0_2)) (ds := []) (bz 9 0) (by kernel_rfl) rfl rfl ⟨(blk_cell BK232.out 0).trans rfl,(blk_cell BK232.out 1).trans rfl,(blk_cell BK232.out 2).trans rfl⟩ (fun hHeld => ?_);refine with_tabW tapeshift_of.tab1 tapeshift_of.bits1 (fun HT_ HW_ => ?_)
 generalize w5.drew = w6 at BK232 BK233 HB hHeld ⊢
 refine pk 0 5 (bz 9 1) HT_ ?_
 refine pk 2 7 (bz 9 5) HT_ ?_
 refine pk 5 10 (bz 9 37) HT_ ?_
 refine tk 1 6 (bz 9 39) HT_ HW_ hHeld ?_
 refine tk 3 8 (bz 9 47) HT_ HW_ hHeld ?_
 refine tk 4 9 (bz 9 63) HT_ HW_ hHeld ?_
 refine one_ (i := 6) (N := some 11) (bz 9 127) rfl rfl (one_of HT_.out (by kernel_rfl)) (by decide) (fun K hK => ?_)
 refine goes_ Try.func72 (by kernel_rfl) rfl #[.agg #[.int .u64 a0_0,.int .i64 a0_1,.int .i64 a0_2],.slice A1 l1.length c1] (by rfl) rfl rfl (by (try simp only [List.map_toArray,List.map_cons,List.map_nil]);first|done|rfl|(simp only [List.length_drop,List.length_take];rfl)) ?_
 with_reducible refine (params_VanishingPolynomial.calls k a0_0 a0_1 a0_2 _ _ l1 t234 _ ?side1 ?side2 A3.out).mono ?_
 (case side1 => exact cb HR1 HB)
 (case side2 => exact HC1.out)
 rintro e w7 ⟨v235,rfl,ho0,hb⟩
 refine ⟨_,rfl,?_⟩
 have n0_ := Aside0.mk (Kd.R_lower ho0 (below_size (by repeat (first|(with_reducible first|exact HB.out|apply below_alloc|apply pw_below_drewN|apply below_drew1|refine below_set ?_ GE232.out|refine below_set ?_ GE233.out)|exact HB.out))))
 have n1_ := Aside0.mk (kb BK232 hb)
 have n2_ := Aside0.mk (kb BK233 hb)
 have n3_ := Aside0.mk (below_step (by repeat (first|(with_reducible first|exact HB.out|apply below_alloc|apply pw_below_drewN|apply below_drew1|refine below_set ?_ GE232.out|refine below_set ?_ GE233.out)|exact HB.out)) hb)
 clear BK232
 clear BK233
 clear HB
 have HO236 := n0_
 have BK232 := n1_
 have BK233 := n2_
 have HB := n3_
 clear n0_ n1_ n2_ n3_
 (try clear hb)
 (try clear hb2)
 (try clear hk)
 (try clear hi)
 (try clear ho0)
 obtain ⟨Ao8,co8,eo8⟩ := Kd.R_slice HO236.out
 (first|subst eo8|(injection eo8 with f1_ f2_ f3_;have f4_ := f1_.symm;have f5_ := f3_.symm;clear f1_ f2_ f3_;subst f4_;subst f5_))
 refine hK.out _ _ ⟨(blk_cell BK232.out 0).trans rfl,(blk_cell BK232.out 1).trans rfl,(blk_cell BK232.out 2).trans rfl⟩ (fun hHeld => ?_)
 clear hK K
 refine nm 11 ?_
 refine pk 7 12 (bz 9 255) HT_ ?_
 refine one_ (i := 8) (N := none) (bz 9 511) rfl rfl (one_of HT_.out (by kernel_rfl)) (by decide) (fun K hK => ?_)
 have hs9 : w7.cell? ⟨gb233,0,none⟩ = some (.int .u64 0) := (blk_cell BK233.out 0).trans rfl
 have hfs9 := blk_frozen BK233.out 0
 have hns9_0 := NB232_233.out
 have hms9_0 := NB233_232.out
 have hs10 : w7.cell? ⟨gb233,1,none⟩ = some (.int .i64 0) := (blk_cell BK233.out 1).trans rfl
 have hfs10 := blk_frozen BK233.out 1
 have hns10_0 := NB232_233.out
 have hms10_0 := NB233_232.out
 have hs11 : w7.cell? ⟨gb233,2,none⟩ = some (.slice none 0 0) := (blk_cell BK233.out 2).trans rfl
 have hfs11 := blk_frozen BK233.out 2
 have hns11_0 := NB232_233.out
 have hms11_0 := NB233_232.out
 refine skip_ (w1 := ?_) (by rfl) rfl ?_ ?_
 rotate_left
 ·go_simp
  rfl
 refine hK.out _ _ ⟨((cell_far (p := ⟨gb233,_,none⟩) NB232_233.out _).trans (((cell_far (p := ⟨gb233,_,none⟩) NB232_233.out _).trans (((cell_far (p := ⟨gb233,_,none⟩) NB232_233.out _).trans (hHeld.1)))))),((cell_far (p := ⟨gb233,_,none⟩) NB232_233.out _).trans (((cell_far (p := ⟨gb233,_,none⟩) NB232_233.out _).trans (((cell_far (p := ⟨gb233,_,none⟩) NB232_233.out _).trans (hHeld.2.1)))))),((cell_far (p := ⟨gb233,_,none⟩) NB232_233.out _).trans (((cell_far (p := ⟨gb233,_,none⟩) NB232_233.out _).trans (((cell_far (p := ⟨gb233,_,none⟩) NB232_233.out _).trans (hHeld.2.2))))))⟩ (fun hHeld => ?_)
 clear hK K
 refine done_ (done_of HT_.out (by kernel_rfl)) ?_
 try go_wp2
 refine bodyPost_ret (results_cell_row rfl _ _ gb233 59 #[.int .u64 a0_0,.int .i64 a0_2,.slice Ao8 t234.length co8] (0,0) _ rfl (by (with_reducible repeat (first|refine blk_drewN ?_ _|refine blk_drew ?_|refine blk_alloc ?_ _));refine blk_put (cs := #[.int .u64 a0_0,.int .i64 a0_2,.slice none 0 0]) ?_ 2 _ rfl;(with_reducible repeat (first|refine blk_drewN ?_ _|refine blk_drew ?_|refine blk_alloc ?_ _));refine blk_put (cs := #[.int .u64 a0_0,.int .i64 0,.slice none 0 0]) ?_ 1 _ rfl;(with_reducible repeat (first|refine blk_drewN ?_ _|refine blk_drew ?_|refine blk_alloc ?_ _));refine blk_put (cs := #[.int .u64 0,.int .i64 0,.slice none 0 0]) ?_ 0 _ rfl;(with_reducible repeat (first|refine blk_drewN ?_ _|refine blk_drew ?_|refine blk_alloc ?_ _));exact BK233.out) Try.underlying59 rfl (by kernel_rfl)) rfl ?_
 exact ⟨_,by first|rfl|(simp [errW_none,errW_some] <;> rfl)|(simp [*,errW_none,errW_some] <;> rfl),by (with_reducible repeat (first|apply Kd.R_alloc|apply Kd.R_drewN|apply Kd.R_drew));exact Kd.R_mono (Kd.R_far (p := ⟨gb233,2,none⟩) (Kd.R_far (p := ⟨gb233,1,none⟩) (Kd.R_far (p := ⟨gb233,0,none⟩) (Kd.R_types HO236.out BK233.out (by decide)) (fun _ hk => hk.2) (.int .u64 a0_0)) (fun _ hk => hk.2) (.int .i64 a0_2)) (fun _ hk => hk.2) (.slice Ao8 t234.length co8)) (fun _ hk => trivial),by repeat (first|(with_reducible first|exact HB.out|apply below_alloc|apply pw_below_drewN|apply below_drew1|refine below_set ?_ GE232.out|refine below_set ?_ GE233.out)|exact HB.out)⟩
end Go.Proofs.Ytejeelpnmdfibaa.Pr
end
section
namespace Go.Proofs.Ytejeelpnmdfibaa.Hw
open Go.RowKit Go.Proofs.Ytejeelpnmdfibaa.Pr Go.Proofs.YtejeelpnmdfibaaW.PrintWords Go.Proofs.YtejeelpnmdfibaaW.PrintLast Go.Proofs.YtejeelpnmdfibaaW.PrintMore Go.Proofs.Ytejeelpnmdfibaa.E
set_option linter.unusedVariables false
def slices_Clone_uint64_uint64.f (l : List Int) : Option (List Int) := if l.length ≤ 1000000 then some l else none
theorem slices_Clone_uint64_uint64.calls (A : Option Addr) (c : Nat) (l r : List Int) (w : World) (hr : Kd.C (Kd.int .u64) w A l.length l) (hc : l.length ≤ c) (h : slices_Clone_uint64_uint64.f l = some r) :
  Calls Try.prog 73 #[.slice A l.length c] w fun e w' => ∃ v0_ : Value,e = .returned (v0_) ∧ Kd.R (Kd.int .u64) 22 w' w.heap.size (fun _ => True) v0_ r ∧ Below w.heap.size w w' := by
 unfold slices_Clone_uint64_uint64.f at h
 split at h
 ·rw [← Option.some.inj h];exact clone_u64 A c l w hr hc (by omega)
 ·cases h
end Go.Proofs.Ytejeelpnmdfibaa.Hw
end
section
namespace Go.Proofs.Ytejeelpnmdfibaa.Pr
open Go.RowKit Go.Proofs.YtejeelpnmdfibaaW.PrintWords Go.Proofs.YtejeelpnmdfibaaW.PrintLast Go.Proofs.YtejeelpnmdfibaaW.PrintMore
attribute [local go_sem] max2_int min2_int max_two min_two max_three min_three max_four min_four
set_option linter.unusedVariables false
set_option linter.unusedSimpArgs false
open Go.Proofs.Ytejeelpnmdfibaa.Hw
def tapeshift_mover_by.l0 : Nat → Int → List Int → Int → Int → Int → Int → List Int → Option (List Int)
 | 0,_,_,_,_,_,_,_ => none
 | k + 1,x1,x7,x12,x13,x238000,x238001,x238002 => if x13 < x12 then (if 0 ≤ x13 then (if x13 < (x7.length : Int) then (if x13 < (x238002.length : Int) then ((field_Mul.f k x238000 x1 (rd x238002 x13)).bind fun t243 => ((field_Add.f k x238000 (rd x7 x13) t243).bind fun t244 => (tapeshift_mover_by.l0 k x1 (x7.set (x13 : Int).toNat t244) x12 (wrap64 (x13 + 1)) x238000 x238001 x238002))) else (none)) else (none)) else (none)) else (some x7)
def tapeshift_mover_by.f (k : Nat) (a0_0 : Int) (a0_1 : Int) (l0_2 : List Int) (a1 : Int) (l2 : List Int) : Option (List Int) := (slices_Clone_uint64_uint64.f l2).bind fun t238 => (tapeshift_mover_by.l0 k a1 t238 (t238.length : Int) 0 a0_0 a0_1 l0_2)
theorem tapeshift_mover_by.mono_l : ∀ k,(∀ y0 y1 y2 y3 y4 y5 y6,LeO (tapeshift_mover_by.l0 k y0 y1 y2 y3 y4 y5 y6) (tapeshift_mover_by.l0 (k + 1) y0 y1 y2 y3 y4 y5 y6))
 | 0 => fun _ _ _ _ _ _ _ r h => by simp [tapeshift_mover_by.l0] at h
 | k + 1 => by
  have ih0 := tapeshift_mover_by.mono_l k
  ·intro y0 y1 y2 y3 y4 y5 y6
   unfold tapeshift_mover_by.l0
   repeat' first
   | (with_reducible exact ih0 _ _ _ _ _ _ _)
   | (with_reducible exact field_Add.mono _ _ _ _)
   | (with_reducible exact field_Mul.mono _ _ _ _)
   | (with_reducible exact LeO.refl _)
   | (with_reducible exact LeO.none _)
   | (with_reducible refine LeO.ite ?_ ?_)
   | (with_reducible refine LeO.bind ?_ (fun _ => ?_))
   | exact ih0 _ _ _ _ _ _ _
   | exact field_Add.mono _ _ _ _
   | exact field_Mul.mono _ _ _ _
   | exact LeO.none _
   | refine LeO.ite ?_ ?_
   | refine LeO.bind ?_ (fun _ => ?_)
theorem tapeshift_mover_by.mono : ∀ a0 a1 a2 a3 a4 k,LeO (tapeshift_mover_by.f k a0 a1 a2 a3 a4) (tapeshift_mover_by.f (k + 1) a0 a1 a2 a3 a4) := by
 intro a0 a1 a2 a3 a4 k
 have ih0 := tapeshift_mover_by.mono_l k
 unfold tapeshift_mover_by.f
 repeat' first
   | (with_reducible exact ih0 _ _ _ _ _ _ _)
   | (with_reducible exact field_Add.mono _ _ _ _)
   | (with_reducible exact field_Mul.mono _ _ _ _)
   | (with_reducible exact LeO.refl _)
   | (with_reducible exact LeO.none _)
   | (with_reducible refine LeO.ite ?_ ?_)
   | (with_reducible refine LeO.bind ?_ (fun _ => ?_))
   | exact ih0 _ _ _ _ _ _ _
   | exact field_Add.mono _ _ _ _
   | exact field_Mul.mono _ _ _ _
   | exact LeO.none _
   | refine LeO.ite ?_ ?_
   | refine LeO.bind ?_ (fun _ => ?_)
def tapeshift_mover_by.T5 : Bool × List (List Nat × List Nat) := (true,[([],[]),([],[]),([],[]),([2],[2]),([],[]),([],[]),([4,5],[4,5]),([6],[6]),([],[]),([8],[8]),([],[]),([],[]),([11],[11]),([],[]),([12,13],[12,13]),([14],[14]),([9,10,15],[9,10,15]),([3,7,16,16],[3,7,16]),([0,1,0,1,2,3,4,5,6,7,8,9,10,11,12,13,14,15,16,17],[0,1]),([18,17,17,0,1,2,3,4,5,6,7,8,9,10,11,12,13,14,15,16,17],[17,18])])
def tapeshift_mover_by.B5 : List Nat := [0,0,0,4,0,0,48,112,0,256,0,0,2048,0,14336,30720,65280,131068,262143,524287]
theorem tapeshift_mover_by.tab5 : rtab .any (opsOf Try.f44 5) = tapeshift_mover_by.T5 := by kernel_rfl
theorem tapeshift_mover_by.bits5 : waitsOk tapeshift_mover_by.T5.2 tapeshift_mover_by.B5 = true := by kernel_rfl
set_option maxHeartbeats 8000000 in
set_option maxRecDepth 100000 in
theorem tapeshift_mover_by.calls (k : Nat) (a0_0 : Int) (a0_1 : Int) (A0_2 : Option Addr) (c0_2 : Nat) (l0_2 : List Int) (a1 : Int) (A2 : Option Addr) (c2 : Nat) (l2 : List Int) (r : List Int) (w : World) (hr0_2 : Kd.C (Kd.int .u64) w A0_2 l0_2.length l0_2) (hc0_2 : l0_2.length ≤ c0_2) (hr2 : Kd.C (Kd.int .u64) w A2 l2.length l2) (hc2 : l2.length ≤ c2) (h : tapeshift_mover_by.f k a0_0 a0_1 l0_2 a1 l2 = some r) :
  Calls Try.prog 44 #[.agg #[.int .u64 a0_0,.int .i64 a0_1,.slice A0_2 l0_2.length c0_2],.int .u64 a1,.slice A2 l2.length c2] w fun e w' => ∃ v0_ : Value,e = .returned (v0_) ∧ Kd.R (Kd.int .u64) 22 w' w.heap.size (fun _ => True) v0_ r ∧ Below w.heap.size w w' := by
 have hu59 := Try.underlying59
 have HR0_2 := Aside0.mk hr0_2
 have HC0_2 := Aside0.mk hc0_2
 clear hr0_2 hc0_2
 have HR2 := Aside0.mk hr2
 have HC2 := Aside0.mk hc2
 clear hr2 hc2
 have HB := Aside0.mk (Below.refl w.heap.size w)
 have H : ((slices_Clone_uint64_uint64.f l2).bind fun t238 => (tapeshift_mover_by.l0 k a1 t238 (t238.length : Int) 0 a0_0 a0_1 l0_2)) = some r := h
 clear h
 replace H := Option.bind_eq_some_iff.mp H
 obtain ⟨t238,A40,H⟩ := H
 try dsimp only at H
 have A4 := Aside0.mk A40
 clear A40
 have H' := Aside0.mk H
 clear H
 go_enter Try.func44,Try.ntmps44
 go_wp2_with (first|((with_reducible refine gate_dst (N := 3) rfl ?_);refine box_event ?hg (N := 3) ?hd (cs := #[.int .u64 a0_0,.int .i64 a0_1,.slice A0_2 l0_2.length c0_2]) (t := 59) ?hr ?_;(case hd => rfl);(case hg => rfl);(case hr => first|(go_simp;done)|(go_simp;rfl));intro gb237 hg w5 hbox hb;have n0_ := Aside0.mk (below_step (bb HB) hb);have n1_ := Aside0.mk (hbox);have n2_ := Aside0.mk ((by rw [hg];exact (below_size (bb HB)) : w.heap.size ≤ gb237));have n3_ := Aside0.mk ((by rw [hg];exact (below_size (bb HB)) : w.heap.size ≤ gb237));clear HB;have HB := n0_;have BK237 := n1_;have GW237 := n2_;have GE237 := n3_;clear n0_ n1_ n2_ n3_;clear hb hbox hg)|((with_reducible refine gate_callee (f := 73) rfl ?_);refine goesL_ (some 10) rfl rfl Try.func73 (by kernel_rfl) rfl #[.slice A2 l2.length c2] rfl (by (try simp only [List.map_toArray,List.map_cons,List.map_nil]);first|done|rfl|(simp only [List.length_drop,List.length_take];rfl)) ?_;(with_reducible refine (slices_Clone_uint64_uint64.calls _ _ l2 t238 _ ?side1 ?side2 A4.out).mono ?_);(case side1 => exact cb HR2 HB);(case side2 => exact HC2.out);rintro e w6 ⟨v239,rfl,ho0,hb⟩;refine ⟨_,rfl,?_⟩;have n0_ := Aside0.mk (Kd.R_lower ho0 (below_size (bg HB GE237)));have n1_ := Aside0.mk (kb BK237 hb);have n2_ := Aside0.mk (below_step (bg HB GE237) hb);clear BK237 HB;have HO240 := n0_;have BK237 := n1_;have HB := n2_;clear n0_ n1_ n2_;(try clear hb);(try clear hb2);(try clear hk);(try clear hi);(try clear ho0);obtain ⟨Ao7,co7,eo7⟩ := Kd.R_slice HO240.out;subst eo7))
 go_loopg [13] k (fun kq v13 w' => ∃ (x7_1 : List Int) (x13_1 : Int),v13 = .int .i64 x13_1 ∧ Aside0 (tapeshift_mover_by.l0 kq a1 x7_1 (t238.length : Int) x13_1 a0_0 a0_1 l0_2 = some r) ∧ Aside0 (kq ≤ k) ∧ Aside0 (Kd.R (Kd.int .u64) 22 w' w.heap.size (fun _ => True) (.slice Ao7 t238.length co7) x7_1) ∧ Aside0 (w'.heap[gb237]? = some (.cells #[.int .u64 a0_0,.int .i64 a0_1,(.slice A0_2 l0_2.length c0_2)] 59 (0,0))) ∧ Aside0 (Below w.heap.size w w'))
 case atStart => exact ⟨(t238),(0),(by first|rfl|(simp;done)|(simp [*];done)),H',⟨Nat.le_refl _⟩,⟨by (with_reducible repeat (first|apply Kd.R_alloc|apply Kd.R_drewN|apply Kd.R_drew));exact HO240.out⟩,⟨by (with_reducible repeat (first|refine blk_drewN ?_ _|refine blk_drew ?_|refine blk_alloc ?_ _));exact BK237.out⟩,⟨by repeat (first|(with_reducible first|exact HB.out|apply below_alloc|apply pw_below_drewN|apply below_drew1|refine below_set ?_ GE237.out)|exact HB.out)⟩⟩
 case round =>
  clear H'
  try clear c2
  try clear p2
  try clear c4
  try clear c7
  obtain ⟨x7_1,x13_1,rfl,HA,HK1,HO_7,BK237,HB⟩ := hrel
  have hl7_1 := (Kd.R_reads' HO_7.out).1
  rw [hl7_1] at HO_7
  (try simp only [hl7_1])
  (try simp only [hl7_1] at BK237)
  cases gk with
  | zero => exact absurd HA.out (by simp [tapeshift_mover_by.l0])
  | succ k1 =>
   have H := HA.out
   clear HA
   simp only [tapeshift_mover_by.l0] at H
   by_cases c8 : x13_1 < (t238.length : Int)
   ·rw [if_pos c8] at H
    have c8b0 : decide (x13_1 < (t238.length : Int)) = true := decide_eq_true c8
    try have c8b0_ : decide (x13_1 < (x7_1.length : Int)) = true := by rw [← hl7_1];exact c8b0
    clear c8
    by_cases c9 : 0 ≤ x13_1
    ·rw [if_pos c9] at H
     have c9b0 : decide (0 ≤ x13_1) = true := decide_eq_true c9
     clear c9
     by_cases c10 : x13_1 < (x7_1.length : Int)
     ·rw [if_pos c10] at H
      have c10b0 : decide (x13_1 < (x7_1.length : Int)) = true := decide_eq_true c10
      clear c10
      by_cases c11 : x13_1 < (l0_2.length : Int)
      ·rw [if_pos c11] at H
       have c11b0 : decide (x13_1 < (l0_2.length : Int)) = true := decide_eq_true c11
       clear c11
       replace H := Option.bind_eq_some_iff.mp H
       obtain ⟨t243,A120,H⟩ := H
       try dsimp only at H
       have A12 := Aside0.mk A120
       clear A120
       replace H := Option.bind_eq_some_iff.mp H
       obtain ⟨t244,A130,H⟩ := H
       try dsimp only at H
       have A13 := Aside0.mk A130
       clear A130
       obtain ⟨y245,hy245⟩ : ∃ y_ : List Int,y_ = (x7_1.set (x13_1 : Int).toNat t244) := ⟨_,rfl⟩
       replace H : (tapeshift_mover_by.l0 k1 a1 y245 (t238.length : Int) (wrap64 (x13_1 + 1)) a0_0 a0_1 l0_2) = some r := by first|(rw [hy245];with_reducible exact H)|(have H2_ := (Option.bind_some _ _).symm.trans H;rw [hy245];with_reducible exact H2_)|(have H2_ := (Option.bind_some _ _).symm.trans H;with_reducible exact H2_)|with_reducible exact H|(rw [hy245];exact H)|exact H
       have Ny245 := Aside0.mk hy245
       clear hy245
       have H' := Aside0.mk H
       clear H
       try go_wp2
       have n0_ := Aside0.mk (Kd.R_drew HO_7.out)
       have n1_ := Aside0.mk (blk_drew BK237.out)
       have n2_ := Aside0.mk (below_drew1 HB.out)
       clear HO_7
       clear BK237
       clear HB
       have HO_7 := n0_
       have BK237 := n1_
       have HB := n2_
       clear n0_ n1_ n2_
       have p241 : 0 ≤ (x13_1 : Int) := of_decide_eq_true (by first|(with_reducible assumption)|assumption)
       have q241 : x13_1 < (x7_1.length : Int) := of_decide_eq_true (by first|(with_reducible assumption)|assumption)
       obtain ⟨ad241,e241,hx241_0⟩ := Kd.at_int (Kd.R_reads' HO_7.out).2.2 x13_1 p241 q241
       cases e241
       replace p241 := eq_true p241
       replace q241 := eq_true q241
       have p242 : 0 ≤ (x13_1 : Int) := of_decide_eq_true (by first|(with_reducible assumption)|assumption)
       have q242 : x13_1 < (l0_2.length : Int) := of_decide_eq_true (by first|(with_reducible assumption)|assumption)
       obtain ⟨ad242,e242,hx242_0⟩ := Kd.at_int HR0_2.out x13_1 p242 q242
       have hw242_0 := hx242_0
       cases e242
       replace hx242_0 := (HB.out.cell (World.block_lt_of_cell? w _ hx242_0)).trans hx242_0
       replace p242 := eq_true p242
       replace q242 := eq_true q242
       refine start_ (n := 20) (S := fun w' => w'.cell? ⟨gb237,0,none⟩ = some (.int .u64 a0_0) ∧ w'.cell? ⟨gb237,1,none⟩ = some (.int .i64 a0_1) ∧ w'.cell? ⟨gb237,2,none⟩ = some (.slice (some ad242) l0_2.length c0_2) ∧ w'.cell? (ad241.add (x13_1).toNat) = some (.int .u64 (rd x7_1 x13_1)) ∧ w'.cell? (ad242.add (x13_1).toNat) = some (.int .u64 (rd l0_2 x13_1))) (ds := [19]) (bz 20 0) (by kernel_rfl) rfl rfl ⟨(blk_cell BK237.out 0).trans rfl,(blk_cell BK237.out 1).trans rfl,(blk_cell BK237.out 2).trans rfl,hx241_0,((HB.out.cell (World.block_lt_of_cell? w _ hw242_0)).trans hw242_0)⟩ (fun hHeld => ?_);refine with_tabW tapeshift_mover_by.tab5 tapeshift_mover_by.bits5 (fun HT_ HW_ => ?_)
       generalize wr.drew = w15 at HO_7 BK237 HB hx241_0 hx242_0 hHeld ⊢
       refine pk 0 16 (bz 20 1) HT_ ?_
       refine pk 1 17 (bz 20 3) HT_ ?_
       refine pk 2 18 (bz 20 7) HT_ ?_
       refine pk 4 20 (bz 20 23) HT_ ?_
       refine pk 5 21 (bz 20 55) HT_ ?_
       refine pk 6 22 (bz 20 119) HT_ ?_
       refine pk 8 24 (bz 20 375) HT_ ?_
       refine pk 10 26 (bz 20 1399) HT_ ?_
       refine pk 11 27 (bz 20 3447) HT_ ?_
       refine pk 13 29 (bz 20 11639) HT_ ?_
       refine tk 3 19 (bz 20 11647) HT_ HW_ hHeld ?_
       refine tk 7 23 (bz 20 11775) HT_ HW_ hHeld ?_
       refine tk 9 25 (bz 20 12287) HT_ HW_ hHeld ?_
       refine tk 12 28 (bz 20 16383) HT_ HW_ hHeld ?_
       refine pk 14 30 (bz 20 32767) HT_ ?_
       refine tk 15 31 (bz 20 65535) HT_ HW_ hHeld ?_
       refine one_ (i := 16) (N := some 32) (bz 20 131071) rfl rfl (one_of HT_.out (by kernel_rfl)) (by decide) (fun K hK => ?_)
       refine goes_ Try.func70 (by kernel_rfl) rfl #[.int .u64 a0_0,.int .u64 a1,.int .u64 (rd l0_2 x13_1)] (by rfl) rfl rfl (by (try simp only [List.map_toArray,List.map_cons,List.map_nil]);first|done|rfl|(simp only [List.length_drop,List.length_take];rfl)) ?_
       with_reducible refine (field_Mul.calls k1 a0_0 a1 (rd l0_2 x13_1) t243 _ A12.out).mono ?_
       rintro e w' ⟨rfl,⟨nd,rfl⟩⟩
       refine ⟨_,rfl,?_⟩
       refine hK.out _ _ ⟨(blk_cell BK237.out 0).trans rfl,(blk_cell BK237.out 1).trans rfl,(blk_cell BK237.out 2).trans rfl,hHeld.2.2.2.1,((HB.out.cell (World.block_lt_of_cell? w _ hw242_0)).trans hw242_0)⟩ (fun hHeld => ?_)
       clear hK K
       refine nm 32 ?_
       refine one_ (i := 17) (N := some 33) (bz 20 262143) rfl rfl (one_of HT_.out (by kernel_rfl)) (by decide) (fun K hK => ?_)
       refine goes_ Try.func69 (by kernel_rfl) rfl #[.int .u64 a0_0,.int .u64 (rd x7_1 x13_1),.int .u64 t243] (by rfl) rfl rfl (by (try simp only [List.map_toArray,List.map_cons,List.map_nil]);first|done|rfl|(simp only [List.length_drop,List.length_take];rfl)) ?_
       with_reducible refine (field_Add.calls k1 a0_0 (rd x7_1 x13_1) t243 t244 _ A13.out).mono ?_
       rintro e w' ⟨rfl,⟨nd,rfl⟩⟩
       refine ⟨_,rfl,?_⟩
       have p14 : 0 ≤ (x13_1 : Int) := of_decide_eq_true (by first|(with_reducible assumption)|assumption)
       have q14 : (x13_1 : Int) < ((x7_1.length : Int) : Int) := of_decide_eq_true (by first|(with_reducible assumption)|assumption)
       obtain ⟨go14,co14,eo14,gb14,gl14,cl14,HG14⟩ := Kd.R_form HO_7.out (by omega)
       (first|cases eo14|(injection eo14 with ea_ en_ ec_;(first|subst ea_|(injection ea_ with ea_;subst ea_));subst ec_;clear en_))
       have GB14 := Aside0.mk gb14
       have GG14 := Aside0.mk HG14
       clear gb14 gl14 HG14
       (first|simp only [add_plain] at hx241_0|skip)
       obtain ⟨hx14_0,hf14_0⟩ := Kd.R_celln 0 HO_7.out (x13_1 : Int) p14 q14
       replace p14 := eq_true p14
       replace q14 := eq_true q14
       have HP16 := Kd.R_putn HO_7.out (x13_1 : Int) t244
       rw [← Ny245.out] at HP16
       have HQ16 := Aside0.mk HP16
       clear HP16
       refine hK.out _ _ ⟨(blk_cell BK237.out 0).trans rfl,(blk_cell BK237.out 1).trans rfl,(blk_cell BK237.out 2).trans rfl,hHeld.2.2.2.1,((HB.out.cell (World.block_lt_of_cell? w _ hw242_0)).trans hw242_0)⟩ (fun hHeld => ?_)
       clear hK K
       refine nm 33 ?_
       refine pk 18 34 (bz 20 524287) HT_ ?_
       refine last_ (i := 19) (N := none) (bz 20 1048575) rfl rfl (one_of HT_.out (by kernel_rfl)) (by decide) (fun K hK => ?_)
       refine skip_ (w1 := ?_) (by rfl) rfl ?_ ?_
       rotate_left
       ·go_simp
        rfl
       refine hK.out _ _ ?_
       clear hK K
       refine done_ (done_of HT_.out (by kernel_rfl)) ?_
       try go_wp2
       (try simp only [← hl7_1])
       go_roundg k1
       case measure => have := HK1.out;omega
       case rel => exact ⟨(y245),(wrap64 (x13_1 + 1)),(by first|rfl|(simp;done)|(simp [*];done)),H',⟨by have := HK1.out;omega⟩,⟨by (try simp only [hl7_1]);(with_reducible repeat (first|apply Kd.R_alloc|apply Kd.R_drewN|apply Kd.R_drew));exact HQ16.out⟩,⟨by (try simp only [hl7_1]);(with_reducible repeat (first|refine blk_drewN ?_ _|refine blk_drew ?_|refine blk_alloc ?_ _));refine blk_far ?_ (by have h_ := Kd.R_ne HO_7.out BK237.out (by decide);intro e_;exact h_ (by rw [e_];rfl)) _;(with_reducible repeat (first|refine blk_drewN ?_ _|refine blk_drew ?_|refine blk_alloc ?_ _));exact BK237.out⟩,⟨by repeat (first|(with_reducible first|exact HB.out|apply below_alloc|apply pw_below_drewN|apply below_drew1|refine below_set ?_ GB14.out|refine below_set ?_ GE237.out)|exact HB.out)⟩⟩
      ·rw [if_neg c11] at H
       exact absurd H (by simp)
     ·rw [if_neg c10] at H
      exact absurd H (by simp)
    ·rw [if_neg c9] at H
     exact absurd H (by simp)
   ·rw [if_neg c8] at H
    have c8b0 : decide (x13_1 < (t238.length : Int)) = false := decide_eq_false c8
    try have c8b0_ : decide (x13_1 < (x7_1.length : Int)) = false := by rw [← hl7_1];exact c8b0
    clear c8
    obtain rfl := Option.some.inj H
    go_wp2
    go_ret
    exact ⟨_,by first|rfl|(simp [errW_none,errW_some] <;> rfl)|(simp [*,errW_none,errW_some] <;> rfl),by (with_reducible repeat (first|apply Kd.R_alloc|apply Kd.R_drewN|apply Kd.R_drew));exact HO_7.out,by repeat (first|(with_reducible first|exact HB.out|apply below_alloc|apply pw_below_drewN|apply below_drew1|refine below_set ?_ GE237.out)|exact HB.out)⟩
mutual
def privityref04_Mul.j0 : Nat → Int → List Int → List Int → Bool → Option (List Int)
 | 0,_,_,_,_ => none
 | k + 1,x0,x1,x2,x17 => if x17 = true then (some ([] : List Int)) else (if 0 ≤ (wrap64 ((wrap64 ((x1.length : Int) + (x2.length : Int))) - 1)) then (if (wrap64 ((wrap64 ((x1.length : Int) + (x2.length : Int))) - 1) : Int).toNat ≤ 35184372088832 then (privityref04_Mul.l0 k x0 x1 x2 (List.replicate (wrap64 ((wrap64 ((x1.length : Int) + (x2.length : Int))) - 1) : Int).toNat 0) 0) else (none)) else (none))
def privityref04_Mul.l0 : Nat → Int → List Int → List Int → List Int → Int → Option (List Int)
 | 0,_,_,_,_,_ => none
 | k + 1,x0,x1,x2,x7,x8 => if x8 < (x1.length : Int) then (privityref04_Mul.l1 k x0 x1 x2 x7 x8 0) else ((privityref04_Trim.f k x7).bind fun t557 => (some t557))
def privityref04_Mul.l1 : Nat → Int → List Int → List Int → List Int → Int → Int → Option (List Int)
 | 0,_,_,_,_,_,_ => none
 | k + 1,x0,x1,x2,x7,x8,x9 => if x9 < (x2.length : Int) then (if 0 ≤ (wrap64 (x8 + x9)) then (if (wrap64 (x8 + x9)) < (x7.length : Int) then (if 0 ≤ x8 then (if x8 < (x1.length : Int) then (if 0 ≤ x9 then ((privityref01_Mul.f k x0 (rd x1 x8) (rd x2 x9)).bind fun t563 => ((privityref01_Add.f x0 (rd x7 (wrap64 (x8 + x9))) t563).bind fun t564 => (privityref04_Mul.l1 k x0 x1 x2 (x7.set ((wrap64 (x8 + x9)) : Int).toNat t564) x8 (wrap64 (x9 + 1))))) else (none)) else (none)) else (none)) else (none)) else (none)) else (privityref04_Mul.l0 k x0 x1 x2 x7 (wrap64 (x8 + 1)))
end
def privityref04_Mul.f (k : Nat) (a0 : Int) (l1 : List Int) (l2 : List Int) : Option (List Int) := if (l1.length : Int) = 0 then (privityref04_Mul.j0 k a0 l1 l2 true) else (privityref04_Mul.j0 k a0 l1 l2 ((l2.length : Int) == 0))
def privityref04_Mul.T10 : Bool × List (List Nat × List Nat) := (true,[([],[]),([],[]),([],[]),([1,2],[1,2]),([],[]),([],[]),([],[]),([],[]),([6,7],[6,7]),([5,8],[5,8]),([9],[9]),([],[]),([],[]),([],[]),([12,13],[12,13]),([14],[14]),([],[]),([],[]),([16,17],[16,17]),([18],[18]),([11,15,19],[11,15,19]),([4,10,20,20],[4,10,20]),([0,3,0,1,2,3,4,5,6,7,8,9,10,11,12,13,14,15,16,17,18,19,20,21],[0,3]),([22,21,21,0,1,2,3,4,5,6,7,8,9,10,11,12,13,14,15,16,17,18,19,20,21],[21,22])])
def privityref04_Mul.B10 : List Nat := [0,0,0,6,0,0,0,0,192,480,992,0,0,0,12288,28672,0,0,196608,458752,1046528,2097136,4194303,8388607]
theorem privityref04_Mul.tab10 : rtab .any (opsOf Try.f77 10) = privityref04_Mul.T10 := by kernel_rfl
theorem privityref04_Mul.bits10 : waitsOk privityref04_Mul.T10.2 privityref04_Mul.B10 = true := by kernel_rfl
set_option maxHeartbeats 8000000 in
set_option maxRecDepth 100000 in
theorem privityref04_Mul.calls (k : Nat) (a0 : Int) (A1 : Option Addr) (c1 : Nat) (l1 : List Int) (A2 : Option Addr) (c2 : Nat) (l2 : List Int) (r : List Int) (w : World) (hr1 : Kd.C (Kd.int .u64) w A1 l1.length l1) (hc1 : l1.length ≤ c1) (hr2 : Kd.C (Kd.int .u64) w A2 l2.length l2) (hc2 : l2.length ≤ c2) (h : privityref04_Mul.f k a0 l1 l2 = some r) :
  Calls Try.prog 77 #[.int .u64 a0,.slice A1 l1.length c1,.slice A2 l2.length c2] w fun e w' => ∃ v0_ : Value,e = .returned (v0_) ∧ Kd.R (Kd.int .u64) 22 w' w.heap.size (fun _ => True) v0_ r ∧ Below w.heap.size w w' := by
 have HR1 := Aside0.mk hr1
 have HC1 := Aside0.mk hc1
 clear hr1 hc1
 have HR2 := Aside0.mk hr2
 have HC2 := Aside0.mk hc2
 clear hr2 hc2
 have HB := Aside0.mk (Below.refl w.heap.size w)
 have H : (if (l1.length : Int) = 0 then (privityref04_Mul.j0 k a0 l1 l2 true) else (privityref04_Mul.j0 k a0 l1 l2 ((l2.length : Int) == 0))) = some r := h
 clear h
 have HC4 := Aside0.mk H
 clear H
 go_enter Try.func77,Try.ntmps77
 go_upto_region 1 with (fail)
 go_cut [17] (fun v17 wc => ∃ (kq : Nat) (x17_3 : Bool),v17 = .bool x17_3 ∧ Aside0 (privityref04_Mul.j0 kq a0 l1 l2 x17_3 = some r) ∧ Aside0 (kq ≤ k) ∧ Aside0 (Below w.heap.size w wc))
 case first =>
  have H := HC4.out
  clear HC4
  by_cases c5 : (l1.length : Int) = 0
  ·rw [if_pos c5] at H
   have c5b0 : ((l1.length : Int) == 0) = true := beq_iff_eq.mpr c5
   have c5b1 : ((l1.length : Int) != 0) = false := bne_eq_false_iff_eq.mpr c5
   clear c5
   (first|rw [c5b0]|(simp only [i64_w,i32_w];rw [c5b0])|skip)
   have H' := Aside0.mk H
   clear H
   go_wp2
   go_meet
   case rel => exact ⟨_,(true),(by first|rfl|(simp;done)|(simp [*];done)),H',⟨by first|omega|exact Nat.le_refl _⟩,⟨by repeat (first|(with_reducible first|exact HB.out|apply below_alloc|apply pw_below_drewN|apply below_drew1)|exact HB.out)⟩⟩
  ·rw [if_neg c5] at H
   have c5b0 : ((l1.length : Int) == 0) = false := beq_eq_false_iff_ne.mpr c5
   have c5b1 : ((l1.length : Int) != 0) = true := bne_iff_ne.mpr c5
   have c5b2 : ¬ (l1 = []) := fun h_ => c5 (by rw [h_];rfl)
   (first|rw [c5b0]|(simp only [i64_w,i32_w];rw [c5b0])|skip)
   have H' := Aside0.mk H
   clear H
   go_wp2
   go_meet
   case rel => exact ⟨_,(((l2.length : Int) == 0)),(by first|rfl|(simp;done)|(simp [*];done)),H',⟨by first|omega|exact Nat.le_refl _⟩,⟨by repeat (first|(with_reducible first|exact HB.out|apply below_alloc|apply pw_below_drewN|apply below_drew1)|exact HB.out)⟩⟩
 case rest =>
  clear HC4
  try clear c1
  try clear c2
  try clear p2
  try clear c5
  try clear c5b0
  try clear c5b1
  try clear c5b2
  obtain ⟨kq,x17_3,rfl,HA,HJ3,HB⟩ := hcut
  cases kq with
  | zero => exact absurd HA.out (by simp [privityref04_Mul.j0])
  | succ kj3 =>
   have H := HA.out
   clear HA
   simp only [privityref04_Mul.j0] at H
   by_cases c6 : x17_3 = true
   ·subst c6
    rw [if_pos rfl] at H
    obtain rfl := Option.some.inj H
    go_wp2
    go_ret
    exact ⟨_,by first|rfl|(simp [errW_none,errW_some] <;> rfl)|(simp [*,errW_none,errW_some] <;> rfl),by first|exact Kd.R_nil _ _ _ _ _|exact Kd.N_nil _ _ _ _ _|exact Kd.V_nil _ _ _ _ _|exact Kd.Q_nil _ _ _ _ _|exact Kd.S_nil _ _ _ _ _,by repeat (first|(with_reducible first|exact HB.out|apply below_alloc|apply pw_below_drewN|apply below_drew1)|exact HB.out)⟩
   ·replace c6 := Bool.eq_false_iff.mpr c6
    subst c6
    rw [if_neg (show ¬ (false = true) by decide)] at H
    obtain ⟨ji7,hji7⟩ : ∃ j_ : Int,(wrap64 ((wrap64 ((l1.length : Int) + (l2.length : Int))) - 1)) = j_ := ⟨_,rfl⟩
    first|rw [hji7] at H|simp only [hji7] at H
    have hji7w : (IntKind.i64.wrap ((wrap64 ((l1.length : Int) + (l2.length : Int))) - 1)) = ji7 := (i64_w _).trans hji7
    by_cases c8 : 0 ≤ (ji7)
    ·rw [if_pos c8] at H
     have c8b0 := eq_true c8
     have c8b1 : decide (0 ≤ (ji7)) = true := decide_eq_true c8
     clear c8
     by_cases c9 : (ji7 : Int).toNat ≤ 35184372088832
     ·rw [if_pos c9] at H
      have c9b0 := eq_true c9
      have c9b1 : decide ((ji7 : Int).toNat ≤ 35184372088832) = true := decide_eq_true c9
      clear c9
      obtain ⟨y554,hy554⟩ : ∃ y_ : List Int,y_ = (List.replicate (ji7 : Int).toNat 0) := ⟨_,rfl⟩
      replace H : (privityref04_Mul.l0 kj3 a0 l1 l2 y554 0) = some r := by first|(rw [hy554];with_reducible exact H)|(have H2_ := (Option.bind_some _ _).symm.trans H;rw [hy554];with_reducible exact H2_)|(have H2_ := (Option.bind_some _ _).symm.trans H;with_reducible exact H2_)|with_reducible exact H|(rw [hy554];exact H)|exact H
      have Ny554 := Aside0.mk hy554
      clear hy554
      have H' := Aside0.mk H
      clear H
      go_wp2_with (first|((with_reducible refine gate_dst (N := 24) rfl ?_);(try (refine gate_guard (by rfl) ?_;dsimp only));refine Kd.R_make (Kd.int .u64) _ 22 rfl (N := 24) rfl 26 _ _ rfl ji7 rfl rfl Try.underlying26 (.int .u64 0) 8 info22 rfl (by decide) (by omega) 0 (ok := fun _ => True) (okp := fun _ => True) rfl (fun _ hk => hk) trivial (of_decide_eq_true (by first|(with_reducible assumption)|assumption)) (Nat.le_trans (Nat.mul_le_mul_right _ (of_decide_eq_true (by first|(with_reducible assumption)|assumption) : ji7.toNat ≤ 35184372088832)) (by omega)) (Below.refl _ _) (Nat.le_refl _) ?_;intro v555 w10 ho11 hb hg_ hnew_;clear hg_ hnew_;(first|rw [← Ny554.out] at ho11|(simp only [Int.reduceToNat] at ho11;rw [← Ny554.out] at ho11));have n0_ := Aside0.mk (Kd.R_lower ho11 (below_size (bb HB)));have n1_ := Aside0.mk (below_step (bb HB) hb);clear HB;have HO556 := n0_;have HB := n1_;clear n0_ n1_;clear hb ho11))
      go_loopg [8] kj3 (fun kq v8 w' => ∃ (x7_2 : List Int) (x8_2 : Int),v8 = .int .i64 x8_2 ∧ Aside0 (privityref04_Mul.l0 kq a0 l1 l2 x7_2 x8_2 = some r) ∧ Aside0 (kq ≤ kj3) ∧ Aside0 (Kd.R (Kd.int .u64) 22 w' w.heap.size (fun _ => True) v555 x7_2) ∧ Aside0 (Below w.heap.size w w'))
      case atStart => exact ⟨(y554),(0),(by first|rfl|(simp;done)|(simp [*];done)),H',⟨Nat.le_refl _⟩,⟨by (with_reducible repeat (first|apply Kd.R_alloc|apply Kd.R_drewN|apply Kd.R_drew));exact HO556.out⟩,⟨by repeat (first|(with_reducible first|exact HB.out|apply below_alloc|apply pw_below_drewN|apply below_drew1)|exact HB.out)⟩⟩
      case round =>
       clear H'
       try clear c1
       try clear c2
       try clear p2
       try clear c5
       try clear c5b0
       try clear c5b1
       try clear c5b2
       try clear c6
       try clear p6
       try clear c7
       try clear c8
       try clear c8b0
       try clear c8b1
       try clear c9
       try clear c9b0
       try clear c9b1
       try clear p2
       obtain ⟨x7_2,x8_2,rfl,HA,HK2,HO_7,HB⟩ := hrel
       cases gk with
       | zero => exact absurd HA.out (by simp [privityref04_Mul.l0])
       | succ k2 =>
        have H := HA.out
        clear HA
        simp only [privityref04_Mul.l0] at H
        by_cases c12 : x8_2 < (l1.length : Int)
        ·rw [if_pos c12] at H
         have c12b0 : decide (x8_2 < (l1.length : Int)) = true := decide_eq_true c12
         clear c12
         have H' := Aside0.mk H
         clear H
         go_wp2
         go_loopg [9] k2 (fun kq v9 w' => ∃ (x7_3 : List Int) (x9_3 : Int),v9 = .int .i64 x9_3 ∧ Aside0 (privityref04_Mul.l1 kq a0 l1 l2 x7_3 x8_2 x9_3 = some r) ∧ Aside0 (kq ≤ k2) ∧ Aside0 (Kd.R (Kd.int .u64) 22 w' w.heap.size (fun _ => True) v555 x7_3) ∧ Aside0 (Below w.heap.size w w'))
         case atStart => exact ⟨(x7_2),(0),(by first|rfl|(simp;done)|(simp [*];done)),H',⟨Nat.le_refl _⟩,⟨by (with_reducible repeat (first|apply Kd.R_alloc|apply Kd.R_drewN|apply Kd.R_drew));exact HO_7.out⟩,⟨by repeat (first|(with_reducible first|exact HB.out|apply below_alloc|apply pw_below_drewN|apply below_drew1)|exact HB.out)⟩⟩
         case round =>
          clear H'
          try clear c1
          try clear c2
          try clear p2
          try clear c5
          try clear c5b0
          try clear c5b1
          try clear c5b2
          try clear c6
          try clear p6
          try clear c7
          try clear c8
          try clear c8b0
          try clear c8b1
          try clear c9
          try clear c9b0
          try clear c9b1
          try clear c12
          try clear c12b0
          try clear p2
          try clear p6
          obtain ⟨x7_3,x9_3,rfl,HA,HK3,HO_7,HB⟩ := hrel
          cases gk with
          | zero => exact absurd HA.out (by simp [privityref04_Mul.l1])
          | succ k3 =>
           have H := HA.out
           clear HA
           simp only [privityref04_Mul.l1] at H
           by_cases c13 : x9_3 < (l2.length : Int)
           ·rw [if_pos c13] at H
            have c13b0 : decide (x9_3 < (l2.length : Int)) = true := decide_eq_true c13
            clear c13
            obtain ⟨ji14,hji14⟩ : ∃ j_ : Int,(wrap64 (x8_2 + x9_3)) = j_ := ⟨_,rfl⟩
            first|rw [hji14] at H|simp only [hji14] at H
            have hji14w : (IntKind.i64.wrap (x8_2 + x9_3)) = ji14 := (i64_w _).trans hji14
            by_cases c15 : 0 ≤ (ji14)
            ·rw [if_pos c15] at H
             have c15b0 : decide (0 ≤ (ji14)) = true := decide_eq_true c15
             clear c15
             by_cases c16 : (ji14) < (x7_3.length : Int)
             ·rw [if_pos c16] at H
              have c16b0 : decide ((ji14) < (x7_3.length : Int)) = true := decide_eq_true c16
              clear c16
              by_cases c17 : 0 ≤ x8_2
              ·rw [if_pos c17] at H
               have c17b0 : decide (0 ≤ x8_2) = true := decide_eq_true c17
               clear c17
               by_cases c18 : x8_2 < (l1.length : Int)
               ·rw [if_pos c18] at H
                have c18b0 : decide (x8_2 < (l1.length : Int)) = true := decide_eq_true c18
                clear c18
                by_cases c19 : 0 ≤ x9_3
                ·rw [if_pos c19] at H
                 have c19b0 : decide (0 ≤ x9_3) = true := decide_eq_true c19
                 clear c19
                 replace H := Option.bind_eq_some_iff.mp H
                 obtain ⟨t563,A200,H⟩ := H
                 try dsimp only at H
                 have A20 := Aside0.mk A200
                 clear A200
                 replace H := Option.bind_eq_some_iff.mp H
                 obtain ⟨t564,A210,H⟩ := H
                 try dsimp only at H
                 have A21 := Aside0.mk A210
                 clear A210
                 obtain ⟨y565,hy565⟩ : ∃ y_ : List Int,y_ = (x7_3.set ((ji14) : Int).toNat t564) := ⟨_,rfl⟩
                 replace H : (privityref04_Mul.l1 k3 a0 l1 l2 y565 x8_2 (wrap64 (x9_3 + 1))) = some r := by first|(rw [hy565];with_reducible exact H)|(have H2_ := (Option.bind_some _ _).symm.trans H;rw [hy565];with_reducible exact H2_)|(have H2_ := (Option.bind_some _ _).symm.trans H;with_reducible exact H2_)|with_reducible exact H|(rw [hy565];exact H)|exact H
                 have Ny565 := Aside0.mk hy565
                 clear hy565
                 have H' := Aside0.mk H
                 clear H
                 try go_wp2
                 have n0_ := Aside0.mk (Kd.R_drew HO_7.out)
                 have n1_ := Aside0.mk (below_drew1 HB.out)
                 clear HO_7
                 clear HB
                 have HO_7 := n0_
                 have HB := n1_
                 clear n0_ n1_
                 obtain ⟨Ao24,co24,eo24⟩ := Kd.R_slice HO_7.out
                 (first|subst eo24|(injection eo24 with f1_ f2_ f3_;have f4_ := f1_.symm;have f5_ := f3_.symm;clear f1_ f2_ f3_;subst f4_;subst f5_))
                 have p560 : 0 ≤ ((ji14) : Int) := of_decide_eq_true (by first|(with_reducible assumption)|assumption)
                 have q560 : (ji14) < (x7_3.length : Int) := of_decide_eq_true (by first|(with_reducible assumption)|assumption)
                 obtain ⟨ad560,e560,hx560_0⟩ := Kd.at_int (Kd.R_reads' HO_7.out).2.2 (ji14) p560 q560
                 cases e560
                 replace p560 := eq_true p560
                 replace q560 := eq_true q560
                 have p561 : 0 ≤ (x8_2 : Int) := of_decide_eq_true (by first|(with_reducible assumption)|assumption)
                 have q561 : x8_2 < (l1.length : Int) := of_decide_eq_true (by first|(with_reducible assumption)|assumption)
                 obtain ⟨ad561,e561,hx561_0⟩ := Kd.at_int HR1.out x8_2 p561 q561
                 have hw561_0 := hx561_0
                 cases e561
                 replace hx561_0 := (HB.out.cell (World.block_lt_of_cell? w _ hx561_0)).trans hx561_0
                 replace p561 := eq_true p561
                 replace q561 := eq_true q561
                 have p562 : 0 ≤ (x9_3 : Int) := of_decide_eq_true (by first|(with_reducible assumption)|assumption)
                 have q562 : x9_3 < (l2.length : Int) := of_decide_eq_true (by first|(with_reducible assumption)|assumption)
                 obtain ⟨ad562,e562,hx562_0⟩ := Kd.at_int HR2.out x9_3 p562 q562
                 have hw562_0 := hx562_0
                 cases e562
                 replace hx562_0 := (HB.out.cell (World.block_lt_of_cell? w _ hx562_0)).trans hx562_0
                 replace p562 := eq_true p562
                 replace q562 := eq_true q562
                 refine start_ (n := 24) (S := fun w' => w'.cell? (ad560.add ((ji14)).toNat) = some (.int .u64 (rd x7_3 (ji14))) ∧ w'.cell? (ad561.add (x8_2).toNat) = some (.int .u64 (rd l1 x8_2)) ∧ w'.cell? (ad562.add (x9_3).toNat) = some (.int .u64 (rd l2 x9_3))) (ds := [23]) (bz 24 0) (by kernel_rfl) rfl rfl ⟨hx560_0,((HB.out.cell (World.block_lt_of_cell? w _ hw561_0)).trans hw561_0),((HB.out.cell (World.block_lt_of_cell? w _ hw562_0)).trans hw562_0)⟩ (fun hHeld => ?_);refine with_tabW privityref04_Mul.tab10 privityref04_Mul.bits10 (fun HT_ HW_ => ?_)
                 generalize wr.drew = w23 at HO_7 HB hx560_0 hx561_0 hx562_0 hHeld ⊢
                 refine pk 0 37 (bz 24 1) HT_ ?_
                 refine pk 1 38 (bz 24 3) HT_ ?_
                 refine pk 2 39 (bz 24 7) HT_ ?_
                 refine pk 3 40 (bz 24 15) HT_ ?_
                 refine pk 4 41 (bz 24 31) HT_ ?_
                 refine pk 5 42 (bz 24 63) HT_ ?_
                 refine pk 6 43 (bz 24 127) HT_ ?_
                 refine pk 7 44 (bz 24 255) HT_ ?_
                 refine pk 8 45 (bz 24 511) HT_ ?_
                 refine pk 9 46 (bz 24 1023) HT_ ?_
                 refine pk 11 48 (bz 24 3071) HT_ ?_
                 refine pk 12 49 (bz 24 7167) HT_ ?_
                 refine pk 13 50 (bz 24 15359) HT_ ?_
                 refine pk 14 51 (bz 24 31743) HT_ ?_
                 refine pk 16 53 (bz 24 97279) HT_ ?_
                 refine pk 17 54 (bz 24 228351) HT_ ?_
                 refine pk 18 55 (bz 24 490495) HT_ ?_
                 refine tk 10 47 (bz 24 491519) HT_ HW_ hHeld ?_
                 refine tk 15 52 (bz 24 524287) HT_ HW_ hHeld ?_
                 refine tk 19 56 (bz 24 1048575) HT_ HW_ hHeld ?_
                 refine one_ (i := 20) (N := some 57) (bz 24 2097151) rfl rfl (one_of HT_.out (by kernel_rfl)) (by decide) (fun K hK => ?_)
                 refine goes_ Try.func31 (by kernel_rfl) rfl #[.int .u64 a0,.int .u64 (rd l1 x8_2),.int .u64 (rd l2 x9_3)] (by rfl) rfl rfl (by (try simp only [List.map_toArray,List.map_cons,List.map_nil]);first|done|rfl|(simp only [List.length_drop,List.length_take];rfl)) ?_
                 with_reducible refine (privityref01_Mul.calls k3 a0 (rd l1 x8_2) (rd l2 x9_3) t563 _ A20.out).mono ?_
                 rintro e w' ⟨rfl,⟨nd,rfl⟩⟩
                 refine ⟨_,rfl,?_⟩
                 refine hK.out _ _ ⟨hHeld.1,((HB.out.cell (World.block_lt_of_cell? w _ hw561_0)).trans hw561_0),((HB.out.cell (World.block_lt_of_cell? w _ hw562_0)).trans hw562_0)⟩ (fun hHeld => ?_)
                 clear hK K
                 refine nm 57 ?_
                 refine one_ (i := 21) (N := some 58) (bz 24 4194303) rfl rfl (one_of HT_.out (by kernel_rfl)) (by decide) (fun K hK => ?_)
                 refine goes_ Try.func17 (by kernel_rfl) rfl #[.int .u64 a0,.int .u64 (rd x7_3 (ji14)),.int .u64 t563] (by rfl) rfl rfl (by (try simp only [List.map_toArray,List.map_cons,List.map_nil]);first|done|(simp only [hji14];rfl)|rfl|(simp only [List.length_drop,List.length_take];rfl)) ?_
                 with_reducible refine (privityref01_Add.calls a0 (rd x7_3 (ji14)) t563 t564 _ A21.out).mono ?_
                 rintro e w' ⟨rfl,⟨nd,rfl⟩⟩
                 refine ⟨_,rfl,?_⟩
                 have p22 : 0 ≤ ((ji14) : Int) := of_decide_eq_true (by first|(with_reducible assumption)|assumption)
                 have q22 : ((ji14) : Int) < ((x7_3.length : Int) : Int) := of_decide_eq_true (by first|(with_reducible assumption)|assumption)
                 obtain ⟨go22,co22,eo22,gb22,gl22,cl22,HG22⟩ := Kd.R_form HO_7.out (by omega)
                 (first|cases eo22|(injection eo22 with ea_ en_ ec_;(first|subst ea_|(injection ea_ with ea_;subst ea_));subst ec_;clear en_))
                 have GB22 := Aside0.mk gb22
                 have GG22 := Aside0.mk HG22
                 clear gb22 gl22 HG22
                 (first|simp only [add_plain] at hx560_0|skip)
                 obtain ⟨hx22_0,hf22_0⟩ := Kd.R_celln 0 HO_7.out ((ji14) : Int) p22 q22
                 replace p22 := eq_true p22
                 replace q22 := eq_true q22
                 have HP25 := Kd.R_putn HO_7.out ((ji14) : Int) t564
                 rw [← Ny565.out] at HP25
                 have HQ25 := Aside0.mk HP25
                 clear HP25
                 refine hK.out _ _ ⟨hHeld.1,((HB.out.cell (World.block_lt_of_cell? w _ hw561_0)).trans hw561_0),((HB.out.cell (World.block_lt_of_cell? w _ hw562_0)).trans hw562_0)⟩ (fun hHeld => ?_)
                 clear hK K
                 refine nm 58 ?_
                 refine pk 22 59 (bz 24 8388607) HT_ ?_
                 refine last_ (i := 23) (N := none) (bz 24 16777215) rfl rfl (one_of HT_.out (by kernel_rfl)) (by decide) (fun K hK => ?_)
                 refine skip_ (w1 := ?_) (by rfl) rfl ?_ ?_
                 rotate_left
                 ·go_simp
                  rfl
                 refine hK.out _ _ ?_
                 clear hK K
                 refine done_ (done_of HT_.out (by kernel_rfl)) ?_
                 try go_wp2
                 go_roundg k3
                 case measure => have := HJ3.out;have := HK2.out;have := HK3.out;omega
                 case rel => exact ⟨(y565),(wrap64 (x9_3 + 1)),(by first|rfl|(simp;done)|(simp [*];done)),H',⟨by have := HJ3.out;have := HK2.out;have := HK3.out;omega⟩,⟨by (with_reducible repeat (first|apply Kd.R_alloc|apply Kd.R_drewN|apply Kd.R_drew));exact HQ25.out⟩,⟨by repeat (first|(with_reducible first|exact HB.out|apply below_alloc|apply pw_below_drewN|apply below_drew1|refine below_set ?_ GB22.out)|exact HB.out)⟩⟩
                ·rw [if_neg c19] at H
                 exact absurd H (by simp)
               ·rw [if_neg c18] at H
                exact absurd H (by simp)
              ·rw [if_neg c17] at H
               exact absurd H (by simp)
             ·rw [if_neg c16] at H
              exact absurd H (by simp)
            ·rw [if_neg c15] at H
             exact absurd H (by simp)
           ·rw [if_neg c13] at H
            have c13b0 : decide (x9_3 < (l2.length : Int)) = false := decide_eq_false c13
            clear c13
            have H' := Aside0.mk H
            clear H
            go_wp2
            go_roundg k3
            case measure => have := HJ3.out;have := HK2.out;have := HK3.out;omega
            case rel => exact ⟨(x7_3),(wrap64 (x8_2 + 1)),(by first|rfl|(simp;done)|(simp [*];done)),H',⟨by have := HJ3.out;have := HK2.out;have := HK3.out;omega⟩,⟨by (with_reducible repeat (first|apply Kd.R_alloc|apply Kd.R_drewN|apply Kd.R_drew));exact HO_7.out⟩,⟨by repeat (first|(with_reducible first|exact HB.out|apply below_alloc|apply pw_below_drewN|apply below_drew1)|exact HB.out)⟩⟩
        ·rw [if_neg c12] at H
         have c12b0 : decide (x8_2 < (l1.length : Int)) = false := decide_eq_false c12
         clear c12
         replace H := Option.bind_eq_some_iff.mp H
         obtain ⟨t557,A260,H⟩ := H
         try dsimp only at H
         have A26 := Aside0.mk A260
         clear A260
         obtain rfl := Option.some.inj H
         obtain ⟨Ao27,co27,eo27⟩ := Kd.R_slice HO_7.out
         subst eo27
         go_wp2_with (first|((with_reducible refine gate_callee (f := 89) rfl ?_);refine goesL_ (some 61) rfl rfl Try.func89 (by kernel_rfl) rfl #[.slice Ao27 x7_2.length co27] rfl (by (try simp only [List.map_toArray,List.map_cons,List.map_nil]);first|done|rfl|(simp only [List.length_drop,List.length_take];rfl)) ?_;(with_reducible refine (privityref04_Trim.calls k2 _ _ x7_2 t557 _ ?side1 ?side2 A26.out).mono ?_);(case side1 => exact cr HO_7);(case side2 => exact (Kd.R_reads' HO_7.out).2.1);rintro e w28 ⟨v558,rfl,ho0,hb⟩;refine ⟨_,rfl,?_⟩;have n0_ := Aside0.mk (Kd.R_elder' (rr HO_7) (Kd.R_base ho0) hb);have n1_ := Aside0.mk (Kd.R_lower (Kd.R_new' ho0 (Kd.R_lt (rr HO_7))) (below_size (bb HB)));have n2_ := Aside0.mk (below_step (bb HB) hb);clear HO_7 HB;have HO_7 := n0_;have HO559 := n1_;have HB := n2_;clear n0_ n1_ n2_;(try clear hb);(try clear hb2);(try clear hk);(try clear hi);(try clear ho0)))
         go_ret
         exact ⟨_,by first|rfl|(simp [errW_none,errW_some] <;> rfl)|(simp only [← hji7];first|rfl|(simp [errW_none,errW_some] <;> rfl))|(simp [*,errW_none,errW_some] <;> rfl),by (with_reducible repeat (first|apply Kd.R_alloc|apply Kd.R_drewN|apply Kd.R_drew));exact Kd.R_mono HO559.out (fun _ hk => trivial),by repeat (first|(with_reducible first|exact HB.out|apply below_alloc|apply pw_below_drewN|apply below_drew1)|exact HB.out)⟩
     ·rw [if_neg c9] at H
      exact absurd H (by simp)
    ·rw [if_neg c8] at H
     exact absurd H (by simp)
def privityref04_Coefficient.f (l0 : List Int) (a1 : Int) : Option (Int) := if a1 < 0 then (some 0) else (if a1 ≥ (l0.length : Int) then (some 0) else (if 0 ≤ a1 then (if a1 < (l0.length : Int) then (some (rd l0 a1)) else (none)) else (none)))
set_option maxHeartbeats 8000000 in
set_option maxRecDepth 100000 in
theorem privityref04_Coefficient.calls (A0 : Option Addr) (c0 : Nat) (l0 : List Int) (a1 : Int) (r : Int) (w : World) (hr0 : Kd.C (Kd.int .u64) w A0 l0.length l0) (hc0 : l0.length ≤ c0) (h : privityref04_Coefficient.f l0 a1 = some r) :
  Calls Try.prog 57 #[.slice A0 l0.length c0,.int .i64 a1] w fun e w' => e = .returned (.int .u64 r) ∧ Drawn0 w w' := by
 have HR0 := Aside0.mk hr0
 have HC0 := Aside0.mk hc0
 clear hr0 hc0
 have H : (if a1 < 0 then (some 0) else (if a1 ≥ (l0.length : Int) then (some 0) else (if 0 ≤ a1 then (if a1 < (l0.length : Int) then (some (rd l0 a1)) else (none)) else (none)))) = some r := h
 clear h
 by_cases c3 : a1 < 0
 ·rw [if_pos c3] at H
  have c3b0 : decide (a1 < 0) = true := decide_eq_true c3
  clear c3
  obtain rfl := Option.some.inj H
  go_enter Try.func57,Try.ntmps57
  go_wp2
  go_ret
  exact ⟨by first|rfl|(simp;done)|(simp [*];done),by repeat (first|exact Drawn0.refl _|apply Drawn0.step)⟩
 ·rw [if_neg c3] at H
  have c3b0 : decide (a1 < 0) = false := decide_eq_false c3
  clear c3
  by_cases c4 : a1 ≥ (l0.length : Int)
  ·rw [if_pos c4] at H
   have c4b0 : decide ((l0.length : Int) ≤ a1) = true := decide_eq_true c4
   clear c4
   obtain rfl := Option.some.inj H
   go_enter Try.func57,Try.ntmps57
   go_wp2
   go_ret
   exact ⟨by first|rfl|(simp;done)|(simp [*];done),by repeat (first|exact Drawn0.refl _|apply Drawn0.step)⟩
  ·rw [if_neg c4] at H
   have c4b0 : decide ((l0.length : Int) ≤ a1) = false := decide_eq_false c4
   clear c4
   by_cases c5 : 0 ≤ a1
   ·rw [if_pos c5] at H
    have c5b0 : decide (0 ≤ a1) = true := decide_eq_true c5
    clear c5
    by_cases c6 : a1 < (l0.length : Int)
    ·rw [if_pos c6] at H
     have c6b0 : decide (a1 < (l0.length : Int)) = true := decide_eq_true c6
     clear c6
     obtain rfl := Option.some.inj H
     have p600 : 0 ≤ (a1 : Int) := of_decide_eq_true (by first|(with_reducible assumption)|assumption)
     have q600 : a1 < (l0.length : Int) := of_decide_eq_true (by first|(with_reducible assumption)|assumption)
     obtain ⟨ad600,e600,hx600_0⟩ := Kd.at_int HR0.out a1 p600 q600
     cases e600
     replace p600 := eq_true p600
     replace q600 := eq_true q600
     go_enter Try.func57,Try.ntmps57
     go_wp2
     go_ret
     exact ⟨by first|rfl|(simp;done)|(simp [*];done),by repeat (first|exact Drawn0.refl _|apply Drawn0.step)⟩
    ·rw [if_neg c6] at H
     exact absurd H (by simp)
   ·rw [if_neg c5] at H
    exact absurd H (by simp)
mutual
def privityref04_Add.l0 : Nat → Int → List Int → List Int → List Int → Int → Option (List Int)
 | 0,_,_,_,_,_ => none
 | k + 1,x0,x1,x2,x7,x8 => if x8 < (x1.length : Int) then (privityref04_Add.j1 k x0 x1 x2 x7 x8 true) else (privityref04_Add.j1 k x0 x1 x2 x7 x8 (decide (x8 < (x2.length : Int))))
def privityref04_Add.j1 : Nat → Int → List Int → List Int → List Int → Int → Bool → Option (List Int)
 | 0,_,_,_,_,_,_ => none
 | k + 1,x0,x1,x2,x7,x8,x18 => if x18 = true then ((privityref04_Coefficient.f x1 x8).bind fun t601 => ((privityref04_Coefficient.f x2 x8).bind fun t602 => ((privityref01_Add.f x0 t601 t602).bind fun t603 => (if x7.length < 17592186044416 then (privityref04_Add.l0 k x0 x1 x2 (x7 ++ [t603]) (wrap64 (x8 + 1))) else (none))))) else ((privityref04_Trim.f k x7).bind fun t607 => (some t607))
end
def privityref04_Add.f (k : Nat) (a0 : Int) (l1 : List Int) (l2 : List Int) : Option (List Int) := privityref04_Add.l0 k a0 l1 l2 ([] : List Int) 0
set_option maxHeartbeats 8000000 in
set_option maxRecDepth 100000 in
theorem privityref04_Add.calls (k : Nat) (a0 : Int) (A1 : Option Addr) (c1 : Nat) (l1 : List Int) (A2 : Option Addr) (c2 : Nat) (l2 : List Int) (r : List Int) (w : World) (hr1 : Kd.C (Kd.int .u64) w A1 l1.length l1) (hc1 : l1.length ≤ c1) (hr2 : Kd.C (Kd.int .u64) w A2 l2.length l2) (hc2 : l2.length ≤ c2) (h : privityref04_Add.f k a0 l1 l2 = some r) :
  Calls Try.prog 59 #[.int .u64 a0,.slice A1 l1.length c1,.slice A2 l2.length c2] w fun e w' => ∃ v0_ : Value,e = .returned (v0_) ∧ Kd.R (Kd.int .u64) 22 w' w.heap.size (fun _ => True) v0_ r ∧ Below w.heap.size w w' := by
 have HR1 := Aside0.mk hr1
 have HC1 := Aside0.mk hc1
 clear hr1 hc1
 have HR2 := Aside0.mk hr2
 have HC2 := Aside0.mk hc2
 clear hr2 hc2
 have HB := Aside0.mk (Below.refl w.heap.size w)
 have H : (privityref04_Add.l0 k a0 l1 l2 ([] : List Int) 0) = some r := h
 clear h
 have H' := Aside0.mk H
 clear H
 go_enter Try.func59,Try.ntmps59
 go_wp2
 go_loopg [7,8] k (fun kq v7 v8 w' => ∃ (x7_1 : List Int) (x8_1 : Int),v8 = .int .i64 x8_1 ∧ Aside0 (privityref04_Add.l0 kq a0 l1 l2 x7_1 x8_1 = some r) ∧ Aside0 (kq ≤ k) ∧ Aside0 (Kd.R (Kd.int .u64) 22 w' w.heap.size (fun _ => True) v7 x7_1) ∧ Aside0 (Below w.heap.size w w'))
 case atStart => exact ⟨(([] : List Int)),(0),(by first|rfl|(simp;done)|(simp [*];done)),H',⟨Nat.le_refl _⟩,⟨by first|exact Kd.R_nil _ _ _ _ _|exact Kd.N_nil _ _ _ _ _|exact Kd.V_nil _ _ _ _ _|exact Kd.Q_nil _ _ _ _ _|exact Kd.S_nil _ _ _ _ _⟩,⟨by repeat (first|(with_reducible first|exact HB.out|apply below_alloc|apply pw_below_drewN|apply below_drew1)|exact HB.out)⟩⟩
 case round =>
  clear H'
  try clear c1
  try clear c2
  try clear p2
  obtain ⟨x7_1,x8_1,rfl,HA,HK1,HO_7,HB⟩ := hrel
  cases gk with
  | zero => exact absurd HA.out (by simp [privityref04_Add.l0])
  | succ k1 =>
   have H := HA.out
   clear HA
   simp only [privityref04_Add.l0] at H
   have HC4 := Aside0.mk H
   clear H
   go_upto_region 3 with (fail)
   go_cut [18] (fun v18 wc => ∃ (kq : Nat) (x18_3 : Bool),v18 = .bool x18_3 ∧ Aside0 (privityref04_Add.j1 kq a0 l1 l2 x7_1 x8_1 x18_3 = some r) ∧ Aside0 (kq ≤ k1) ∧ Aside0 (Kd.R (Kd.int .u64) 22 wc w.heap.size (fun _ => True) u7 x7_1) ∧ Aside0 (Below w.heap.size w wc))
   case first =>
    have H := HC4.out
    clear HC4
    by_cases c5 : x8_1 < (l1.length : Int)
    ·rw [if_pos c5] at H
     have c5b0 : decide (x8_1 < (l1.length : Int)) = true := decide_eq_true c5
     clear c5
     (first|rw [c5b0]|(simp only [i64_w,i32_w];rw [c5b0])|skip)
     have H' := Aside0.mk H
     clear H
     go_wp2
     go_meet
     case rel => exact ⟨_,(true),(by first|rfl|(simp;done)|(simp [*];done)),H',⟨by have := HK1.out;first|omega|exact Nat.le_refl _⟩,⟨by (with_reducible repeat (first|apply Kd.R_alloc|apply Kd.R_drewN|apply Kd.R_drew));exact HO_7.out⟩,⟨by repeat (first|(with_reducible first|exact HB.out|apply below_alloc|apply pw_below_drewN|apply below_drew1)|exact HB.out)⟩⟩
    ·rw [if_neg c5] at H
     have c5b0 : decide (x8_1 < (l1.length : Int)) = false := decide_eq_false c5
     clear c5
     (first|rw [c5b0]|(simp only [i64_w,i32_w];rw [c5b0])|skip)
     have H' := Aside0.mk H
     clear H
     go_wp2
     go_meet
     case rel => exact ⟨_,(decide (x8_1 < (l2.length : Int))),(by first|rfl|(simp;done)|(simp [*];done)),H',⟨by have := HK1.out;first|omega|exact Nat.le_refl _⟩,⟨by (with_reducible repeat (first|apply Kd.R_alloc|apply Kd.R_drewN|apply Kd.R_drew));exact HO_7.out⟩,⟨by repeat (first|(with_reducible first|exact HB.out|apply below_alloc|apply pw_below_drewN|apply below_drew1)|exact HB.out)⟩⟩
   case rest =>
    clear HC4
    try clear c1
    try clear c2
    try clear p2
    try clear c5
    try clear c5b0
    try clear p2
    obtain ⟨kq,x18_3,rfl,HA,HJ3,HO_7,HB⟩ := hcut
    cases kq with
    | zero => exact absurd HA.out (by simp [privityref04_Add.j1])
    | succ kj3 =>
     have H := HA.out
     clear HA
     simp only [privityref04_Add.j1] at H
     by_cases c6 : x18_3 = true
     ·subst c6
      rw [if_pos rfl] at H
      replace H := Option.bind_eq_some_iff.mp H
      obtain ⟨t601,A70,H⟩ := H
      try dsimp only at H
      have A7 := Aside0.mk A70
      clear A70
      replace H := Option.bind_eq_some_iff.mp H
      obtain ⟨t602,A80,H⟩ := H
      try dsimp only at H
      have A8 := Aside0.mk A80
      clear A80
      replace H := Option.bind_eq_some_iff.mp H
      obtain ⟨t603,A90,H⟩ := H
      try dsimp only at H
      have A9 := Aside0.mk A90
      clear A90
      by_cases c10 : x7_1.length < 17592186044416
      ·rw [if_pos c10] at H
       have LMc10 := Aside0.mk c10
       clear c10
       obtain ⟨y604,hy604⟩ : ∃ y_ : List Int,y_ = (x7_1 ++ [t603]) := ⟨_,rfl⟩
       replace H : (privityref04_Add.l0 kj3 a0 l1 l2 y604 (wrap64 (x8_1 + 1))) = some r := by first|(rw [hy604];with_reducible exact H)|(have H2_ := (Option.bind_some _ _).symm.trans H;rw [hy604];with_reducible exact H2_)|(have H2_ := (Option.bind_some _ _).symm.trans H;with_reducible exact H2_)|with_reducible exact H|(rw [hy604];exact H)|exact H
       have Ny604 := Aside0.mk hy604
       clear hy604
       have H' := Aside0.mk H
       clear H
       go_wp2_with (first|((with_reducible refine gate_callee (f := 57) rfl ?_);refine goesL_ (some 25) rfl rfl Try.func57 (by kernel_rfl) rfl #[.slice A1 l1.length c1,.int .i64 x8_1] rfl (by (try simp only [List.map_toArray,List.map_cons,List.map_nil]);first|done|rfl|(simp only [List.length_drop,List.length_take];rfl)) ?_;(with_reducible refine (privityref04_Coefficient.calls _ _ l1 x8_1 t601 _ ?side1 ?side2 A7.out).mono ?_);(case side1 => exact cb HR1 HB);(case side2 => exact HC1.out);rintro e w' ⟨rfl,⟨nd,rfl⟩⟩;refine ⟨_,rfl,?_⟩)|((with_reducible refine gate_callee (f := 57) rfl ?_);refine goesL_ (some 28) rfl rfl Try.func57 (by kernel_rfl) rfl #[.slice A2 l2.length c2,.int .i64 x8_1] rfl (by (try simp only [List.map_toArray,List.map_cons,List.map_nil]);first|done|rfl|(simp only [List.length_drop,List.length_take];rfl)) ?_;(with_reducible refine (privityref04_Coefficient.calls _ _ l2 x8_1 t602 _ ?side1 ?side2 A8.out).mono ?_);(case side1 => repeat (first|exact (Kd.C_below HR2.out (bb HB))|(with_reducible refine Kd.C_alloc ?_ _)|(with_reducible refine Kd.C_drewN ?_ _)|(with_reducible refine Kd.C_drew ?_)));(case side2 => exact HC2.out);rintro e w' ⟨rfl,⟨nd,rfl⟩⟩;refine ⟨_,rfl,?_⟩)|((with_reducible refine gate_callee (f := 17) rfl ?_);refine goesL_ (some 29) rfl rfl Try.func17 (by kernel_rfl) rfl #[.int .u64 a0,.int .u64 t601,.int .u64 t602] rfl (by (try simp only [List.map_toArray,List.map_cons,List.map_nil]);first|done|rfl|(simp only [List.length_drop,List.length_take];rfl)) ?_;(with_reducible refine (privityref01_Add.calls a0 t601 t602 t603 _ A9.out).mono ?_);rintro e w' ⟨rfl,⟨nd,rfl⟩⟩;refine ⟨_,rfl,?_⟩)|((with_reducible refine gate_builtin (b := .append) (xs := #[.tmp 21,.tmp 30]) rfl ?_);(try (refine gate_guard (by rfl) ?_;dsimp only));at_builtin;refine Kd.R_append (Kd.int .u64) (w0 := w) w.heap.size rfl (.tmp 21) (.tmp 30) 26 22 (.int .u64 0) 8 rfl Try.underlying26 info22 rfl (by decide) (by omega) u7 x7_1 t603 [.int .u64 t603] (fun _ => True) (fun _ => False) rfl rfl ?aP (fun _ hk => hk.elim) ?aF ?aO ?aB ?aS ?aL ?_;(case aP => exact rfl);(case aB => exact (bb HB));(case aF => exact (fun _ _ => trivial));(case aO => exact (rr HO_7));(case aS => exact (below_size (bb HB)));(case aL => have := LMc10.out;omega);intro v605 w11 ho hb hg hat;rw [← Ny604.out] at ho;have n0_ := Aside0.mk (hb);have n1_ := Aside0.mk (ho);clear HB HO_7;have HB := n0_;have HO606 := n1_;clear n0_ n1_;clear ho hb hg hat))
       go_roundg kj3
       case measure => have := HK1.out;have := HJ3.out;omega
       case rel => exact ⟨(y604),(wrap64 (x8_1 + 1)),(by first|rfl|(simp;done)|(simp [*];done)),H',⟨by have := HK1.out;have := HJ3.out;omega⟩,⟨by (with_reducible repeat (first|apply Kd.R_alloc|apply Kd.R_drewN|apply Kd.R_drew));exact HO606.out⟩,⟨by repeat (first|(with_reducible first|exact HB.out|apply below_alloc|apply pw_below_drewN|apply below_drew1)|exact HB.out)⟩⟩
      ·rw [if_neg c10] at H
       exact absurd H (by simp)
     ·replace c6 := Bool.eq_false_iff.mpr c6
      subst c6
      rw [if_neg (show ¬ (false = true) by decide)] at H
      replace H := Option.bind_eq_some_iff.mp H
      obtain ⟨t607,A120,H⟩ := H
      try dsimp only at H
      have A12 := Aside0.mk A120
      clear A120
      obtain rfl := Option.some.inj H
      obtain ⟨Ao13,co13,eo13⟩ := Kd.R_slice HO_7.out
      subst eo13
      go_wp2_with (first|((with_reducible refine gate_callee (f := 89) rfl ?_);refine goesL_ (some 33) rfl rfl Try.func89 (by kernel_rfl) rfl #[.slice Ao13 x7_1.length co13] rfl (by (try simp only [List.map_toArray,List.map_cons,List.map_nil]);first|done|rfl|(simp only [List.length_drop,List.length_take];rfl)) ?_;(with_reducible refine (privityref04_Trim.calls kj3 _ _ x7_1 t607 _ ?side1 ?side2 A12.out).mono ?_);(case side1 => exact cr HO_7);(case side2 => exact (Kd.R_reads' HO_7.out).2.1);rintro e w14 ⟨v608,rfl,ho0,hb⟩;refine ⟨_,rfl,?_⟩;have n0_ := Aside0.mk (Kd.R_elder' (rr HO_7) (Kd.R_base ho0) hb);have n1_ := Aside0.mk (Kd.R_lower (Kd.R_new' ho0 (Kd.R_lt (rr HO_7))) (below_size (bb HB)));have n2_ := Aside0.mk (below_step (bb HB) hb);clear HO_7 HB;have HO_7 := n0_;have HO609 := n1_;have HB := n2_;clear n0_ n1_ n2_;(try clear hb);(try clear hb2);(try clear hk);(try clear hi);(try clear ho0)))
      go_ret
      exact ⟨_,by first|rfl|(simp [errW_none,errW_some] <;> rfl)|(simp [*,errW_none,errW_some] <;> rfl),by (with_reducible repeat (first|apply Kd.R_alloc|apply Kd.R_drewN|apply Kd.R_drew));exact Kd.R_mono HO609.out (fun _ hk => trivial),by repeat (first|(with_reducible first|exact HB.out|apply below_alloc|apply pw_below_drewN|apply below_drew1)|exact HB.out)⟩
def privityref04_Scale.l0 : Nat → Int → Int → List Int → List Int → Int → Option (List Int)
 | 0,_,_,_,_,_ => none
 | k + 1,x0,x1,x2,x7,x8 => if x8 < (x2.length : Int) then (if 0 ≤ x8 then ((privityref01_Mul.f k x0 x1 (rd x2 x8)).bind fun t611 => (if x7.length < 17592186044416 then (privityref04_Scale.l0 k x0 x1 x2 (x7 ++ [t611]) (wrap64 (x8 + 1))) else (none))) else (none)) else ((privityref04_Trim.f k x7).bind fun t615 => (some t615))
def privityref04_Scale.f (k : Nat) (a0 : Int) (a1 : Int) (l2 : List Int) : Option (List Int) := privityref04_Scale.l0 k a0 a1 l2 ([] : List Int) 0
set_option maxHeartbeats 8000000 in
set_option maxRecDepth 100000 in
theorem privityref04_Scale.calls (k : Nat) (a0 : Int) (a1 : Int) (A2 : Option Addr) (c2 : Nat) (l2 : List Int) (r : List Int) (w : World) (hr2 : Kd.C (Kd.int .u64) w A2 l2.length l2) (hc2 : l2.length ≤ c2) (h : privityref04_Scale.f k a0 a1 l2 = some r) :
  Calls Try.prog 60 #[.int .u64 a0,.int .u64 a1,.slice A2 l2.length c2] w fun e w' => ∃ v0_ : Value,e = .returned (v0_) ∧ Kd.R (Kd.int .u64) 22 w' w.heap.size (fun _ => True) v0_ r ∧ Below w.heap.size w w' := by
 have HR2 := Aside0.mk hr2
 have HC2 := Aside0.mk hc2
 clear hr2 hc2
 have HB := Aside0.mk (Below.refl w.heap.size w)
 have H : (privityref04_Scale.l0 k a0 a1 l2 ([] : List Int) 0) = some r := h
 clear h
 have H' := Aside0.mk H
 clear H
 go_enter Try.func60,Try.ntmps60
 go_wp2
 go_loopg [7,8] k (fun kq v7 v8 w' => ∃ (x7_1 : List Int) (x8_1 : Int),v8 = .int .i64 x8_1 ∧ Aside0 (privityref04_Scale.l0 kq a0 a1 l2 x7_1 x8_1 = some r) ∧ Aside0 (kq ≤ k) ∧ Aside0 (Kd.R (Kd.int .u64) 22 w' w.heap.size (fun _ => True) v7 x7_1) ∧ Aside0 (Below w.heap.size w w'))
 case atStart => exact ⟨(([] : List Int)),(0),(by first|rfl|(simp;done)|(simp [*];done)),H',⟨Nat.le_refl _⟩,⟨by first|exact Kd.R_nil _ _ _ _ _|exact Kd.N_nil _ _ _ _ _|exact Kd.V_nil _ _ _ _ _|exact Kd.Q_nil _ _ _ _ _|exact Kd.S_nil _ _ _ _ _⟩,⟨by repeat (first|(with_reducible first|exact HB.out|apply below_alloc|apply pw_below_drewN|apply below_drew1)|exact HB.out)⟩⟩
 case round =>
  clear H'
  try clear c2
  try clear p2
  obtain ⟨x7_1,x8_1,rfl,HA,HK1,HO_7,HB⟩ := hrel
  cases gk with
  | zero => exact absurd HA.out (by simp [privityref04_Scale.l0])
  | succ k1 =>
   have H := HA.out
   clear HA
   simp only [privityref04_Scale.l0] at H
   by_cases c4 : x8_1 < (l2.length : Int)
   ·rw [if_pos c4] at H
    have c4b0 : decide (x8_1 < (l2.length : Int)) = true := decide_eq_true c4
    clear c4
    by_cases c5 : 0 ≤ x8_1
    ·rw [if_pos c5] at H
     have c5b0 : decide (0 ≤ x8_1) = true := decide_eq_true c5
     clear c5
     replace H := Option.bind_eq_some_iff.mp H
     obtain ⟨t611,A60,H⟩ := H
     try dsimp only at H
     have A6 := Aside0.mk A60
     clear A60
     by_cases c7 : x7_1.length < 17592186044416
     ·rw [if_pos c7] at H
      have LMc7 := Aside0.mk c7
      clear c7
      obtain ⟨y612,hy612⟩ : ∃ y_ : List Int,y_ = (x7_1 ++ [t611]) := ⟨_,rfl⟩
      replace H : (privityref04_Scale.l0 k1 a0 a1 l2 y612 (wrap64 (x8_1 + 1))) = some r := by first|(rw [hy612];with_reducible exact H)|(have H2_ := (Option.bind_some _ _).symm.trans H;rw [hy612];with_reducible exact H2_)|(have H2_ := (Option.bind_some _ _).symm.trans H;with_reducible exact H2_)|with_reducible exact H|(rw [hy612];exact H)|exact H
      have Ny612 := Aside0.mk hy612
      clear hy612
      have H' := Aside0.mk H
      clear H
      have p610 : 0 ≤ (x8_1 : Int) := of_decide_eq_true (by first|(with_reducible assumption)|assumption)
      have q610 : x8_1 < (l2.length : Int) := of_decide_eq_true (by first|(with_reducible assumption)|assumption)
      obtain ⟨ad610,e610,hx610_0⟩ := Kd.at_int HR2.out x8_1 p610 q610
      cases e610
      replace hx610_0 := (HB.out.cell (World.block_lt_of_cell? w _ hx610_0)).trans hx610_0
      replace p610 := eq_true p610
      replace q610 := eq_true q610
      go_wp2_with (first|((with_reducible refine gate_callee (f := 31) rfl ?_);refine goesL_ (some 22) rfl rfl Try.func31 (by kernel_rfl) rfl #[.int .u64 a0,.int .u64 a1,.int .u64 (rd l2 x8_1)] rfl (by (try simp only [List.map_toArray,List.map_cons,List.map_nil]);first|done|rfl|(simp only [List.length_drop,List.length_take];rfl)) ?_;(with_reducible refine (privityref01_Mul.calls k1 a0 a1 (rd l2 x8_1) t611 _ A6.out).mono ?_);rintro e w' ⟨rfl,⟨nd,rfl⟩⟩;refine ⟨_,rfl,?_⟩)|((with_reducible refine gate_builtin (b := .append) (xs := #[.tmp 15,.tmp 23]) rfl ?_);at_builtin;refine Kd.R_append (Kd.int .u64) (w0 := w) w.heap.size rfl (.tmp 15) (.tmp 23) 26 22 (.int .u64 0) 8 rfl Try.underlying26 info22 rfl (by decide) (by omega) u7 x7_1 t611 [.int .u64 t611] (fun _ => True) (fun _ => False) rfl rfl ?aP (fun _ hk => hk.elim) ?aF ?aO ?aB ?aS ?aL ?_;(case aP => exact rfl);(case aB => exact (bb HB));(case aF => exact (fun _ _ => trivial));(case aO => exact (rr HO_7));(case aS => exact (below_size (bb HB)));(case aL => have := LMc7.out;omega);intro v613 w8 ho hb hg hat;rw [← Ny612.out] at ho;have n0_ := Aside0.mk (hb);have n1_ := Aside0.mk (ho);clear HB HO_7;have HB := n0_;have HO614 := n1_;clear n0_ n1_;clear ho hb hg hat))
      go_roundg k1
      case measure => have := HK1.out;omega
      case rel => exact ⟨(y612),(wrap64 (x8_1 + 1)),(by first|rfl|(simp;done)|(simp [*];done)),H',⟨by have := HK1.out;omega⟩,⟨by (with_reducible repeat (first|apply Kd.R_alloc|apply Kd.R_drewN|apply Kd.R_drew));exact HO614.out⟩,⟨by repeat (first|(with_reducible first|exact HB.out|apply below_alloc|apply pw_below_drewN|apply below_drew1)|exact HB.out)⟩⟩
     ·rw [if_neg c7] at H
      exact absurd H (by simp)
    ·rw [if_neg c5] at H
     exact absurd H (by simp)
   ·rw [if_neg c4] at H
    have c4b0 : decide (x8_1 < (l2.length : Int)) = false := decide_eq_false c4
    clear c4
    replace H := Option.bind_eq_some_iff.mp H
    obtain ⟨t615,A90,H⟩ := H
    try dsimp only at H
    have A9 := Aside0.mk A90
    clear A90
    obtain rfl := Option.some.inj H
    obtain ⟨Ao10,co10,eo10⟩ := Kd.R_slice HO_7.out
    subst eo10
    go_wp2_with (first|((with_reducible refine gate_callee (f := 89) rfl ?_);refine goesL_ (some 26) rfl rfl Try.func89 (by kernel_rfl) rfl #[.slice Ao10 x7_1.length co10] rfl (by (try simp only [List.map_toArray,List.map_cons,List.map_nil]);first|done|rfl|(simp only [List.length_drop,List.length_take];rfl)) ?_;(with_reducible refine (privityref04_Trim.calls k1 _ _ x7_1 t615 _ ?side1 ?side2 A9.out).mono ?_);(case side1 => exact cr HO_7);(case side2 => exact (Kd.R_reads' HO_7.out).2.1);rintro e w11 ⟨v616,rfl,ho0,hb⟩;refine ⟨_,rfl,?_⟩;have n0_ := Aside0.mk (Kd.R_elder' (rr HO_7) (Kd.R_base ho0) hb);have n1_ := Aside0.mk (Kd.R_lower (Kd.R_new' ho0 (Kd.R_lt (rr HO_7))) (below_size (bb HB)));have n2_ := Aside0.mk (below_step (bb HB) hb);clear HO_7 HB;have HO_7 := n0_;have HO617 := n1_;have HB := n2_;clear n0_ n1_ n2_;(try clear hb);(try clear hb2);(try clear hk);(try clear hi);(try clear ho0)))
    go_ret
    exact ⟨_,by first|rfl|(simp [errW_none,errW_some] <;> rfl)|(simp [*,errW_none,errW_some] <;> rfl),by (with_reducible repeat (first|apply Kd.R_alloc|apply Kd.R_drewN|apply Kd.R_drew));exact Kd.R_mono HO617.out (fun _ hk => trivial),by repeat (first|(with_reducible first|exact HB.out|apply below_alloc|apply pw_below_drewN|apply below_drew1)|exact HB.out)⟩
def privityref04_Sub.f (k : Nat) (a0 : Int) (l1 : List Int) (l2 : List Int) : Option (List Int) := (privityref04_Scale.f k a0 (IntKind.u64.wrap (a0 - 1)) l2).bind fun t618 => ((privityref04_Add.f k a0 l1 t618).bind fun t621 => (some t621))
set_option maxHeartbeats 8000000 in
set_option maxRecDepth 100000 in
theorem privityref04_Sub.calls (k : Nat) (a0 : Int) (A1 : Option Addr) (c1 : Nat) (l1 : List Int) (A2 : Option Addr) (c2 : Nat) (l2 : List Int) (r : List Int) (w : World) (hr1 : Kd.C (Kd.int .u64) w A1 l1.length l1) (hc1 : l1.length ≤ c1) (hr2 : Kd.C (Kd.int .u64) w A2 l2.length l2) (hc2 : l2.length ≤ c2) (h : privityref04_Sub.f k a0 l1 l2 = some r) :
  Calls Try.prog 88 #[.int .u64 a0,.slice A1 l1.length c1,.slice A2 l2.length c2] w fun e w' => ∃ v0_ : Value,e = .returned (v0_) ∧ Kd.R (Kd.int .u64) 22 w' w.heap.size (fun _ => True) v0_ r ∧ Below w.heap.size w w' := by
 have HR1 := Aside0.mk hr1
 have HC1 := Aside0.mk hc1
 clear hr1 hc1
 have HR2 := Aside0.mk hr2
 have HC2 := Aside0.mk hc2
 clear hr2 hc2
 have HB := Aside0.mk (Below.refl w.heap.size w)
 have H : ((privityref04_Scale.f k a0 (IntKind.u64.wrap (a0 - 1)) l2).bind fun t618 => ((privityref04_Add.f k a0 l1 t618).bind fun t621 => (some t621))) = some r := h
 clear h
 replace H := Option.bind_eq_some_iff.mp H
 obtain ⟨t618,A40,H⟩ := H
 try dsimp only at H
 have A4 := Aside0.mk A40
 clear A40
 replace H := Option.bind_eq_some_iff.mp H
 obtain ⟨t621,A50,H⟩ := H
 try dsimp only at H
 have A5 := Aside0.mk A50
 clear A50
 obtain rfl := Option.some.inj H
 go_enter Try.func88,Try.ntmps88
 go_wp2_with (first|((with_reducible refine gate_callee (f := 60) rfl ?_);refine goesL_ (some 13) rfl rfl Try.func60 (by kernel_rfl) rfl #[.int .u64 a0,.int .u64 (IntKind.u64.wrap (a0 - 1)),.slice A2 l2.length c2] rfl (by (try simp only [List.map_toArray,List.map_cons,List.map_nil]);first|done|rfl|(simp only [List.length_drop,List.length_take];rfl)) ?_;(with_reducible refine (privityref04_Scale.calls k a0 (IntKind.u64.wrap (a0 - 1)) _ _ l2 t618 _ ?side1 ?side2 A4.out).mono ?_);(case side1 => repeat (first|exact HR2.out|(with_reducible refine Kd.C_alloc ?_ _)|(with_reducible refine Kd.C_drewN ?_ _)|(with_reducible refine Kd.C_drew ?_)));(case side2 => exact HC2.out);rintro e w6 ⟨v619,rfl,ho0,hb⟩;refine ⟨_,rfl,?_⟩;have n0_ := Aside0.mk (Kd.R_lower ho0 (below_size (bb HB)));have n1_ := Aside0.mk (below_step (bb HB) hb);clear HB;have HO620 := n0_;have HB := n1_;clear n0_ n1_;(try clear hb);(try clear hb2);(try clear hk);(try clear hi);(try clear ho0);obtain ⟨Ao7,co7,eo7⟩ := Kd.R_slice HO620.out;subst eo7)|((with_reducible refine gate_callee (f := 59) rfl ?_);refine goesL_ (some 14) rfl rfl Try.func59 (by kernel_rfl) rfl #[.int .u64 a0,.slice A1 l1.length c1,.slice Ao7 t618.length co7] rfl (by (try simp only [List.map_toArray,List.map_cons,List.map_nil]);first|done|rfl|(simp only [List.length_drop,List.length_take];rfl)) ?_;(with_reducible refine (privityref04_Add.calls k a0 _ _ l1 _ _ t618 t621 _ ?side1 ?side2 ?side3 ?side4 A5.out).mono ?_);(case side1 => exact cb HR1 HB);(case side2 => exact HC1.out);(case side3 => exact cr HO620);(case side4 => exact (Kd.R_reads' HO620.out).2.1);rintro e w8 ⟨v622,rfl,ho0,hb⟩;refine ⟨_,rfl,?_⟩;have n0_ := Aside0.mk (Kd.R_elder' (rr HO620) (Kd.R_base ho0) hb);have n1_ := Aside0.mk (Kd.R_lower (Kd.R_new' ho0 (Kd.R_lt (rr HO620))) (below_size (bb HB)));have n2_ := Aside0.mk (below_step (bb HB) hb);clear HO620 HB;have HO620 := n0_;have HO623 := n1_;have HB := n2_;clear n0_ n1_ n2_;(try clear hb);(try clear hb2);(try clear hk);(try clear hi);(try clear ho0)))
 go_ret
 exact ⟨_,by first|rfl|(simp [errW_none,errW_some] <;> rfl)|(simp [*,errW_none,errW_some] <;> rfl),by (with_reducible repeat (first|apply Kd.R_alloc|apply Kd.R_drewN|apply Kd.R_drew));exact Kd.R_mono HO623.out (fun _ hk => trivial),by repeat (first|(with_reducible first|exact HB.out|apply below_alloc|apply pw_below_drewN|apply below_drew1)|exact HB.out)⟩
end Go.Proofs.Ytejeelpnmdfibaa.Pr
end
section
namespace Go.Proofs.Ytejeelpnmdfibaa.E
open Go.RowKit Go.Proofs.Ytejeelpnmdfibaa.Pr Go.Proofs.Ytejeelpnmdfibaa.Hw Go.Proofs.Ytejeelpnmdfibaa.Pl Go.Proofs.YtejeelpnmdfibaaW.PrintWords Go.Proofs.YtejeelpnmdfibaaW.PrintLast Go.Proofs.YtejeelpnmdfibaaW.PrintMore
set_option linter.unusedVariables false
set_option linter.unusedSimpArgs false
theorem rtrim_l0 (l : List Int) (hl : l.length ≤ 1099511627776) : ∀ (m : Nat),m ≤ l.length → (∀ j,m ≤ j → l.getD j 0 = 0) → Ev (fun k => privityref04_Trim.l0 k l (m : Int)) (trimL l) := by
 have hend : ∀ m : Nat,(trimL l).length = m → m ≤ l.length → ((some (([] : List Int) : List Int)).bind fun y250 => (if 0 ≤ (m : Int) then (if (m : Int) ≤ (l.length : Int) then (if y250.length + (l.take ((m : Int) : Int).toNat).length < 17592186044416 then (some (y250 ++ (l.take ((m : Int) : Int).toNat))) else (none)) else (none)) else (none))) = some (trimL l) := by
  intro m hm hle
  rw [Option.bind_some,if_pos (by omega),if_pos (by omega),Int.toNat_natCast,← hm,trimL_take,if_pos (by have := trimL_length l;simp;omega)]
  rfl
 intro m
 induction m with
 | zero =>
  intro _ hz
  have : trimL l = [] := (trimL_nil_iff l).2 fun i => hz i (Nat.zero_le _)
  refine Ev.step (fun k => ?_) (Ev.now _)
  simp only [privityref04_Trim.l0]
  rw [if_neg (by omega)]
  exact hend 0 (by rw [this];rfl) (Nat.zero_le _)
 | succ m ih =>
  intro hm hz
  have e : wrap64 (((m + 1 : Nat) : Int) - 1) = (m : Int) := by rw [wrap64];omega
  by_cases h0 : l.getD m 0 = 0
  ·refine Ev.step (fun k => ?_) (ih (by omega) (fun j hj => by
    by_cases e : j = m
    ·rw [e];exact h0
    ·exact hz j (by omega)))
   simp only [privityref04_Trim.l0]
   rw [if_pos (by omega),e,if_pos (by omega),if_pos (by omega),rd_nat,if_pos h0]
  ·refine Ev.step (fun k => ?_) (Ev.now _)
   simp only [privityref04_Trim.l0]
   rw [if_pos (by omega),e,if_pos (by omega),if_pos (by omega),rd_nat,if_neg h0]
   refine hend (m + 1) ?_ hm
   have hne : trimL l ≠ [] := fun e => h0 ((trimL_nil_iff l).1 e m)
   have hp : 0 < (trimL l).length := List.length_pos_iff.2 hne
   have h2 := trimL_last l hne
   rw [trimL_getD] at h2
   have h3 : (trimL l).length - 1 < m + 1 := Nat.lt_of_not_le fun h => h2 (hz _ h)
   have h4 : m < (trimL l).length := Nat.lt_of_not_le fun h => h0 (by rw [← trimL_getD,List.getD_eq_getElem?_getD,List.getElem?_eq_none h];rfl)
   omega
theorem getD_out (l : List Int) (j : Nat) (h : l.length ≤ j) : l.getD j 0 = 0 := by rw [List.getD_eq_getElem?_getD,List.getElem?_eq_none h];rfl
theorem rtrim_ev (l : List Int) (hl : l.length ≤ 1099511627776) : Ev (fun k => privityref04_Trim.f k l) (trimL l) :=
 rtrim_l0 l hl l.length (Nat.le_refl _) (fun j hj => getD_out l j hj)
theorem rcoef_eq (l : List Int) (i : Nat) : privityref04_Coefficient.f l (i : Int) = some (l.getD i 0) := by
 unfold privityref04_Coefficient.f
 rw [if_neg (by omega)]
 by_cases h : i < l.length
 ·rw [if_neg (by omega),if_pos (by omega),if_pos (by omega),rd_nat]
 ·rw [if_pos (by omega),getD_out l i (by omega)]
theorem res_getD {p : Int} (hp : Supp p) {l : List Int} (hl : ∀ x ∈ l,Res p x) (i : Nat) : Res p (l.getD i 0) := by
 have hb := hp.bd
 by_cases hi : i < l.length
 ·rw [Hw.getD_in _ _ hi];exact hl _ (List.getElem_mem hi)
 ·rw [getD_out l i (by omega)];exact ⟨Int.le_refl 0,by show (0 : Int) < p;omega⟩
theorem grow_getD (l : List Int) (n j : Nat) : (grow l n).getD j 0 = l.getD j 0 := by
 unfold grow
 by_cases h : j < l.length
 ·rw [List.getD_eq_getElem?_getD,List.getD_eq_getElem?_getD,List.getElem?_append_left h]
 ·rw [getD_out l j (by omega),List.getD_eq_getElem?_getD,List.getElem?_append_right (by omega)]
  by_cases h2 : j - l.length < n - l.length
  ·rw [List.getElem?_replicate,if_pos h2];rfl
  ·rw [List.getElem?_replicate,if_neg h2];rfl
theorem putL_getD (p : Int) (l : List Int) (i : Nat) (k : Int) (j : Nat) : (putL p l i k).getD j 0 = if j = i then (l.getD i 0 + k) % p else l.getD j 0 := by
 have hg : i < (grow l (i + 1)).length := by unfold grow;simp;omega
 unfold putL
 rw [List.getD_eq_getElem?_getD,List.getElem?_set]
 by_cases h : i = j
 ·subst h;rw [if_pos rfl,if_pos hg,if_pos rfl,grow_getD];rfl
 ·rw [if_neg h,if_neg (fun e => h e.symm),← List.getD_eq_getElem?_getD,grow_getD]
theorem putsL_getD (p : Int) (m l : List Int) (j : Nat) : ∀ n,(putsL p m l n).getD j 0 = if j < n then (m.getD j 0 + l.getD j 0) % p else m.getD j 0
 | 0 => by rw [if_neg (by omega)];rfl
 | n + 1 => by
  rw [putsL,putL_getD,putsL_getD p m l n n,putsL_getD p m l j n]
  by_cases h : j = n
  ·subst h;rw [if_pos rfl,if_neg (by omega),if_pos (by omega)]
  ·rw [if_neg h]
   by_cases h2 : j < n
   ·rw [if_pos h2,if_pos (by omega)]
   ·rw [if_neg h2,if_neg (by omega)]
theorem addP_getD {p : Int} (hp : Supp p) {a b : List Int} (ha : ∀ x ∈ a,Res p x) (hb : ∀ x ∈ b,Res p x) (j : Nat) : (addP p a b).getD j 0 = (a.getD j 0 + b.getD j 0) % p := by
 have h0 : ([] : List Int).getD j 0 = 0 := rfl
 have ra := (res_getD hp ha j).eq
 have rb := (res_getD hp hb j).eq
 unfold addP
 rw [putsL_getD,putsL_getD,h0,Int.zero_add,ra]
 by_cases h1 : j < b.length
 ·rw [if_pos h1]
  by_cases h2 : j < a.length
  ·rw [if_pos h2]
  ·rw [if_neg h2,getD_out a j (by omega)]
 ·rw [if_neg h1,getD_out b j (by omega),Int.add_zero,ra]
  by_cases h2 : j < a.length
  ·rw [if_pos h2]
  ·rw [if_neg h2,getD_out a j (by omega)]
def raddL (p : Int) (a b : List Int) (n : Nat) : List Int := (List.range n).map fun i => (a.getD i 0 + b.getD i 0) % p
theorem raddL_next (p : Int) (a b : List Int) (n : Nat) : raddL p a b n ++ [(a.getD n 0 + b.getD n 0) % p] = raddL p a b (n + 1) := by
 unfold raddL;rw [List.range_succ,List.map_append];rfl
theorem raddL_length (p : Int) (a b : List Int) (n : Nat) : (raddL p a b n).length = n := by unfold raddL;simp
theorem raddL_getD (p : Int) (a b : List Int) (n j : Nat) : (raddL p a b n).getD j 0 = if j < n then (a.getD j 0 + b.getD j 0) % p else 0 := by
 unfold raddL
 by_cases h : j < n
 ·rw [if_pos h,List.getD_eq_getElem?_getD,List.getElem?_map,List.getElem?_range h];rfl
 ·rw [if_neg h,getD_out _ _ (by simp;omega)]
theorem rradd_trim {p : Int} (hp : Supp p) {a b : List Int} (ha : ∀ x ∈ a,Res p x) (hb : ∀ x ∈ b,Res p x) : trimL (raddL p a b (max a.length b.length)) = trimL (addP p a b) := by
 refine trimL_ext fun i => ?_
 rw [raddL_getD,addP_getD hp ha hb]
 by_cases h : i < max a.length b.length
 ·rw [if_pos h]
 ·rw [if_neg h,getD_out a i (by omega),getD_out b i (by omega)];simp
theorem rradd_ev {p : Int} (hp : Supp p) {a b : List Int} (ha : ∀ x ∈ a,Res p x) (hb : ∀ x ∈ b,Res p x) (la : a.length ≤ 1000000000) (lb : b.length ≤ 1000000000) : Ev (fun k => privityref04_Add.f k p a b) (trimL (addP p a b)) := by
 rw [← rradd_trim hp ha hb]
 refine up (Q := fun i => Ev (fun k => privityref04_Add.l0 k p a b (raddL p a b i) (i : Int)) (trimL (raddL p a b (max a.length b.length)))) (n := max a.length b.length) ?_ ?_
 ·refine Ev.step (f := fun k => privityref04_Add.j1 k p a b (raddL p a b (max a.length b.length)) ((max a.length b.length : Nat) : Int) false) (fun k => ?_) ?_
  ·simp only [privityref04_Add.l0]
   rw [if_neg (by omega),decide_eq_false (by omega)]
  ·refine Ev.step (f := fun k => (privityref04_Trim.f k (raddL p a b (max a.length b.length))).bind fun t => some t) (fun k => ?_) (Ev.bind (rtrim_ev _ (by rw [raddL_length];omega)) (Ev.now _))
   simp only [privityref04_Add.j1]
   rw [if_neg (by simp)]
 ·intro i hi h
  rw [← raddL_next] at h
  have hj : Ev (fun k => privityref04_Add.j1 k p a b (raddL p a b i) (i : Int) true) (trimL (raddL p a b (max a.length b.length))) := by
   refine Ev.step (fun k => ?_) h
   simp only [privityref04_Add.j1]
   rw [if_pos trivial,rcoef_eq,rcoef_eq]
   show (privityref01_Add.f p _ _).bind _ = _
   rw [radd_eq hp (res_getD hp ha i) (res_getD hp hb i)]
   show (if _ then _ else _) = _
   rw [if_pos (by rw [raddL_length];omega),wnat (by omega)]
  by_cases h1 : i < a.length
  ·refine Ev.step (fun k => ?_) hj
   simp only [privityref04_Add.l0]
   rw [if_pos (by omega)]
  ·refine Ev.step (fun k => ?_) hj
   simp only [privityref04_Add.l0]
   rw [if_neg (by omega),decide_eq_true (by omega)]
theorem map_take_next (l : List Int) (f : Int → Int) (i : Nat) (hi : i < l.length) : (l.take i).map f ++ [f (l.getD i 0)] = (l.take (i + 1)).map f := by
 rw [List.take_succ_eq_append_getElem hi,List.map_append,Hw.getD_in _ _ hi];rfl
theorem rscale_ev {p : Int} (hp : Supp p) {kk : Int} (hk : Res p kk) (l : List Int) (hl : ∀ x ∈ l,Res p x) (hll : l.length ≤ 1000000000) : Ev (fun k => privityref04_Scale.f k p kk l) (trimL (l.map fun v => kk * v % p)) := by
 refine up (Q := fun i => Ev (fun k => privityref04_Scale.l0 k p kk l ((l.take i).map fun v => kk * v % p) (i : Int)) (trimL (l.map fun v => kk * v % p))) (n := l.length) ?_ ?_
 ·rw [List.take_length]
  refine Ev.step (f := fun k => (privityref04_Trim.f k (l.map fun v => kk * v % p)).bind fun t => some t) (fun k => ?_) (Ev.bind (rtrim_ev _ (by rw [List.length_map];omega)) (Ev.now _))
  simp only [privityref04_Scale.l0]
  rw [if_neg (by omega)]
 ·intro i hi h
  rw [← map_take_next l (fun v => kk * v % p) i hi] at h
  refine Ev.step (f := fun k => (privityref01_Mul.f k p kk (l.getD i 0)).bind fun t361 => (if ((l.take i).map fun v => kk * v % p).length < 17592186044416 then (privityref04_Scale.l0 k p kk l (((l.take i).map fun v => kk * v % p) ++ [t361]) ((i + 1 : Nat) : Int)) else (none))) (fun k => ?_) (Ev.bind (rmul_ev hp hk (res_getD hp hl i)) ?_)
  ·simp only [privityref04_Scale.l0]
   rw [if_pos (by omega),if_pos (by omega),rd_nat,wnat (by omega)]
  ·refine h.congr fun k => ?_
   rw [if_pos (by simp;omega)]
theorem list_ext_getD {a b : List Int} (hl : a.length = b.length) (h : ∀ i,a.getD i 0 = b.getD i 0) : a = b := by
 apply List.ext_getElem hl
 intro i h1 h2
 have := h i
 rwa [Hw.getD_in _ _ h1,Hw.getD_in _ _ h2] at this
theorem grow_length (l : List Int) (n : Nat) : (grow l n).length = max l.length n := by unfold grow;simp;omega
theorem put_grow (p : Int) (l : List Int) (N i : Nat) (k : Int) (hl : l.length ≤ N) (hi : i < N) : (grow l N).set i (((grow l N).getD i 0 + k) % p) = grow (putL p l i k) N := by
 refine list_ext_getD ?_ fun j => ?_
 ·rw [List.length_set,grow_length,grow_length,putL_length];omega
 ·rw [grow_getD (putL p l i k),putL_getD,List.getD_eq_getElem?_getD,List.getElem?_set]
  by_cases h : i = j
  ·subst h;rw [if_pos rfl,if_pos (by rw [grow_length];omega),if_pos rfl,grow_getD];rfl
  ·rw [if_neg h,if_neg (fun e => h e.symm),← List.getD_eq_getElem?_getD,grow_getD]
theorem rowL_len (p : Int) (m : List Int) (u : Int) (b : List Int) (i : Nat) : ∀ n,(rowL p m u b i n).length = if n = 0 then m.length else max m.length (i + n)
 | 0 => rfl
 | n + 1 => by
  rw [rowL,putL_length,rowL_len p m u b i n,if_neg (Nat.succ_ne_zero n)]
  by_cases h : n = 0
  ·rw [if_pos h];omega
  ·rw [if_neg h];omega
theorem mulsL_len (p : Int) (a b : List Int) (hb : 0 < b.length) : ∀ n,(mulsL p a b n).length = if n = 0 then 0 else n + b.length - 1
 | 0 => rfl
 | n + 1 => by
  rw [mulsL,rowL_len,mulsL_len p a b hb n,if_neg (by omega : ¬ b.length = 0),if_neg (Nat.succ_ne_zero n)]
  by_cases h : n = 0
  ·rw [if_pos h];omega
  ·rw [if_neg h];omega
theorem mulsL_nil (p : Int) (a : List Int) : ∀ n,mulsL p a [] n = []
 | 0 => rfl
 | n + 1 => by rw [mulsL,mulsL_nil p a n];rfl
theorem trimL_grow (l : List Int) (n : Nat) : trimL (grow l n) = trimL l := trimL_ext fun i => grow_getD l n i
theorem grow_nil (n : Nat) : grow [] n = List.replicate n 0 := by unfold grow;simp
theorem rmulL_ev {p : Int} (hp : Supp p) {a b : List Int} (ha : ∀ x ∈ a,Res p x) (hb : ∀ x ∈ b,Res p x) (la : a.length ≤ 1000000) (lb : b.length ≤ 1000000) : Ev (fun k => privityref04_Mul.f k p a b) (trimL (mulsL p a b a.length)) := by
 by_cases h0 : a.length = 0
 ·have : a = [] := List.eq_nil_of_length_eq_zero h0
  subst this
  refine Ev.step (f := fun k => some []) (fun k => ?_) (Ev.now _)
  simp only [privityref04_Mul.f]
  rw [if_pos (by rfl)]
  simp only [privityref04_Mul.j0]
  rw [if_pos trivial]
 by_cases h1 : b.length = 0
 ·have : b = [] := List.eq_nil_of_length_eq_zero h1
  subst this
  rw [mulsL_nil]
  refine Ev.step (f := fun k => some []) (fun k => ?_) (Ev.now _)
  simp only [privityref04_Mul.f]
  rw [if_neg (by omega)]
  simp only [privityref04_Mul.j0]
  rw [if_pos (by rfl)]
 have hw : wrap64 (wrap64 ((a.length : Int) + (b.length : Int)) - 1) = ((a.length + b.length - 1 : Nat) : Int) := by rw [wcap (n := (a.length : Int) + (b.length : Int)) (by omega) (by omega),wcap (by omega) (by omega)];omega
 have main : Ev (fun k => privityref04_Mul.l0 k p a b (grow (mulsL p a b 0) (a.length + b.length - 1)) ((0 : Nat) : Int)) (trimL (mulsL p a b a.length)) := by
  refine up (Q := fun i => Ev (fun k => privityref04_Mul.l0 k p a b (grow (mulsL p a b i) (a.length + b.length - 1)) (i : Int)) (trimL (mulsL p a b a.length))) (n := a.length) ?_ ?_
  ·refine Ev.step (f := fun k => (privityref04_Trim.f k (grow (mulsL p a b a.length) (a.length + b.length - 1))).bind fun t => some t) (fun k => ?_) ?_
   ·simp only [privityref04_Mul.l0]
    rw [if_neg (by omega)]
   ·have := rtrim_ev (grow (mulsL p a b a.length) (a.length + b.length - 1)) (by rw [grow_length,mulsL_len _ _ _ (by omega),if_neg h0];omega)
    rw [trimL_grow] at this
    exact Ev.bind this (Ev.now _)
  ·intro i hi h
   have row : Ev (fun k => privityref04_Mul.l1 k p a b (grow (rowL p (mulsL p a b i) (rd a i) b i 0) (a.length + b.length - 1)) (i : Int) ((0 : Nat) : Int)) (trimL (mulsL p a b a.length)) := by
    refine up (Q := fun j => Ev (fun k => privityref04_Mul.l1 k p a b (grow (rowL p (mulsL p a b i) (rd a i) b i j) (a.length + b.length - 1)) (i : Int) (j : Int)) (trimL (mulsL p a b a.length))) (n := b.length) ?_ ?_
    ·refine Ev.step (fun k => ?_) h
     simp only [privityref04_Mul.l1]
     rw [if_neg (by omega),wnat (by omega)]
     rfl
    ·intro j hj h2
     have hlen : (rowL p (mulsL p a b i) (rd a i) b i j).length ≤ a.length + b.length - 1 := by
      rw [rowL_len,mulsL_len _ _ _ (by omega)];split <;> split <;> omega
     have e : wrap64 ((i : Int) + (j : Int)) = ((i + j : Nat) : Int) := by rw [wcap (by omega) (by omega)];omega
     have hres : ∀ x ∈ grow (rowL p (mulsL p a b i) (rd a i) b i j) (a.length + b.length - 1),Res p x := grow_res hp (rowL_res hp (mulsL_res hp _ _ _) _ _ _ _) _
     rw [rowL,← put_grow p _ _ _ _ hlen (by omega)] at h2
     refine Ev.step (f := fun k => (privityref01_Mul.f k p (a.getD i 0) (b.getD j 0)).bind fun t266 => ((privityref01_Add.f p ((grow (rowL p (mulsL p a b i) (rd a i) b i j) (a.length + b.length - 1)).getD (i + j) 0) t266).bind fun t267 => (privityref04_Mul.l1 k p a b ((grow (rowL p (mulsL p a b i) (rd a i) b i j) (a.length + b.length - 1)).set (i + j) t267) (i : Int) ((j + 1 : Nat) : Int)))) (fun k => ?_) (Ev.bind (rmul_ev hp (res_getD hp ha i) (res_getD hp hb j)) ?_)
     ·simp only [privityref04_Mul.l1]
      rw [if_pos (by omega),e,if_pos (by omega),if_pos (by rw [grow_length];omega),if_pos (by omega),if_pos (by omega),if_pos (by omega),rd_nat,rd_nat,rd_nat,Int.toNat_natCast,wnat (by omega)]
     ·rw [radd_eq hp (res_getD hp hres _) (Res.mod hp _)]
      refine Ev.bind (g := fun _ => some _) (Ev.now _) ?_
      rw [rd_nat a i,rd_nat b j] at h2
      exact h2
   refine Ev.step (fun k => ?_) row
   simp only [privityref04_Mul.l0]
   rw [if_pos (by omega)];rfl
 rw [show mulsL p a b 0 = [] from rfl,grow_nil] at main
 have h2 : Ev (fun k => privityref04_Mul.j0 k p a b false) (trimL (mulsL p a b a.length)) := by
  refine Ev.step (fun k => ?_) main
  simp only [privityref04_Mul.j0]
  rw [if_neg (by simp),hw,if_pos (by omega),Int.toNat_natCast,if_pos (by omega)];rfl
 refine h2.congr fun k => ?_
 unfold privityref04_Mul.f
 rw [if_neg (by omega),show ((b.length : Int) == 0) = false from by rw [beq_eq_false_iff_ne];omega]
def tabL (n : Nat) (h : Nat → Int) : List Int := (List.range n).map h
theorem tabL_length (n : Nat) (h : Nat → Int) : (tabL n h).length = n := by simp [tabL]
theorem tabL_succ (n : Nat) (h : Nat → Int) : tabL (n + 1) h = tabL n h ++ [h n] := by simp [tabL,List.range_succ]
theorem tabL_getD (n : Nat) (h : Nat → Int) (i : Nat) : (tabL n h).getD i 0 = if i < n then h i else 0 := by
 unfold tabL
 rw [List.getD_eq_getElem?_getD]
 by_cases hi : i < n
 ·rw [if_pos hi,List.getElem?_map,List.getElem?_range hi];rfl
 ·rw [if_neg hi,List.getElem?_eq_none (by simpa using hi)];rfl
theorem tabL_res {p : Int} {n : Nat} {h : Nat → Int} (hr : ∀ i,i < n → Res p (h i)) : ∀ x ∈ tabL n h,Res p x := fun x hx => by
 obtain ⟨i,hi,rfl⟩ := List.mem_map.1 hx
 exact hr i (List.mem_range.1 hi)
theorem tabL_congr {n : Nat} {h g : Nat → Int} (e : ∀ i,i < n → h i = g i) : tabL n h = tabL n g := List.map_congr_left fun i hi => e i (List.mem_range.1 hi)
theorem tabL_of (l : List Int) : tabL l.length (fun i => l.getD i 0) = l := by
 refine list_ext_getD (tabL_length _ _) fun i => ?_
 rw [tabL_getD]
 split
 ·rfl
 ·exact (getD_out l i (by omega)).symm
def at2 (s : List (List Int)) (i j : Nat) : Int := (s.getD i []).getD j 0
def matP (n : Nat) (g : Nat → Nat → Int) (k : Nat) : List (List Int) := (List.range k).map fun i => tabL n (g i)
def matL (n : Nat) (g : Nat → Nat → Int) : List (List Int) := matP n g n
theorem matP_succ (n : Nat) (g : Nat → Nat → Int) (k : Nat) : matP n g (k + 1) = matP n g k ++ [tabL n (g k)] := by simp [matP,List.range_succ]
theorem matP_length (n : Nat) (g : Nat → Nat → Int) (k : Nat) : (matP n g k).length = k := by simp [matP]
theorem matP_getD (n : Nat) (g : Nat → Nat → Int) (k i : Nat) (hi : i < k) : (matP n g k).getD i [] = tabL n (g i) := by
 unfold matP
 rw [List.getD_eq_getElem?_getD,List.getElem?_map,List.getElem?_range hi];rfl
theorem matP_congr {n k : Nat} {g h : Nat → Nat → Int} (e : ∀ i,i < k → ∀ j,j < n → g i j = h i j) : matP n g k = matP n h k := List.map_congr_left fun i hi => tabL_congr fun j hj => e i (List.mem_range.1 hi) j hj
theorem at2_matL {n : Nat} {g : Nat → Nat → Int} {i j : Nat} (hi : i < n) (hj : j < n) : at2 (matL n g) i j = g i j := by
 unfold at2 matL
 rw [matP_getD _ _ _ _ hi,tabL_getD,if_pos hj]
structure Sq (n : Nat) (s : List (List Int)) : Prop where
 len : s.length = n
 row : ∀ r ∈ s,r.length = n
theorem Sq.getD {n : Nat} {s : List (List Int)} (h : Sq n s) (i : Nat) (hi : i < n) : (s.getD i []).length = n := by
 have hl := h.len
 rw [List.getD_eq_getElem?_getD,List.getElem?_eq_getElem (by omega)]
 exact h.row _ (List.getElem_mem _)
theorem matL_sq (n : Nat) (g : Nat → Nat → Int) : Sq n (matL n g) := ⟨matP_length _ _ _,fun r hr => by
 obtain ⟨i,_,rfl⟩ := List.mem_map.1 hr
 exact tabL_length _ _⟩
theorem Sq.eq {n : Nat} {s : List (List Int)} (h : Sq n s) : s = matL n (at2 s) := by
 have hl := h.len
 refine List.ext_getElem (by rw [(matL_sq n (at2 s)).len,hl]) fun i h1 h2 => ?_
 have e1 : s[i] = s.getD i [] := by rw [List.getD_eq_getElem?_getD,List.getElem?_eq_getElem h1];rfl
 have e2 : (matL n (at2 s))[i] = (matL n (at2 s)).getD i [] := by rw [List.getD_eq_getElem?_getD,List.getElem?_eq_getElem h2];rfl
 rw [e1,e2]
 unfold matL
 rw [matP_getD _ _ _ _ (by omega)]
 have := h.getD i (by omega)
 exact (tabL_of (s.getD i [])).symm.trans (by rw [this];rfl)
def ResM (p : Int) (s : List (List Int)) : Prop := ∀ r ∈ s,∀ x ∈ r,Res p x
theorem ResM.at2 {p : Int} (hp : Supp p) {s : List (List Int)} (h : ResM p s) (i j : Nat) : Res p (at2 s i j) := by
 unfold E.at2
 refine res_getD hp (fun x hx => ?_) j
 rw [List.getD_eq_getElem?_getD] at hx
 by_cases hi : i < s.length
 ·rw [List.getElem?_eq_getElem hi] at hx;exact h _ (List.getElem_mem hi) x hx
 ·rw [List.getElem?_eq_none (by omega)] at hx;cases hx
def trG (p d : Int) (z : Nat → Int) (g : Nat → Nat → Int) (i j : Nat) : Int := (g i j + d * (z i * z j % p) % p) % p
theorem evI_zero' {p : Int} (hp : Supp p) {l : List Int} (hl : ∀ x ∈ l,Res p x) : evI p 0 l = l.getD 0 0 := by
 cases l with
 | nil => rfl
 | cons c l => show (evI p 0 l * 0 % p + c) % p = c;rw [Int.mul_zero,Int.zero_emod,Int.zero_add];exact (hl c (by simp)).eq
section
variable {p : Int} (hp : Supp p) [NeZero p.toNat]
theorem sumF_add (f g : Nat → Fin p.toNat) : ∀ n,sumF (fun i => f i + g i) n = sumF f n + sumF g n
 | 0 => by simp only [sumF];grind
 | n + 1 => by simp only [sumF];rw [sumF_add f g n];grind
theorem sumF_mul (c : Fin p.toNat) (f : Nat → Fin p.toNat) : ∀ n,sumF (fun i => c * f i) n = c * sumF f n
 | 0 => by simp only [sumF];grind
 | n + 1 => by simp only [sumF];rw [sumF_mul c f n];grind
theorem ev_tab (x : Fin p.toNat) (h : Nat → Int) : ∀ n,ev x (M p (tabL n h)) = sumF (fun i => T p (h i) * mono x i) n
 | 0 => rfl
 | n + 1 => by
  rw [tabL_succ]
  have e : M p (tabL n h ++ [h n]) = M p (tabL n h) ++ [T p (h n)] := by unfold M;rw [List.map_append];rfl
  rw [e,ev_append,M_length,tabL_length,ev_tab x h n]
  simp only [ev,sumF]
  grind
end
end Go.Proofs.Ytejeelpnmdfibaa.E
end
section
namespace Go.Proofs.Ytejeelpnmdfibaa.Hw
open Go.RowKit Go.Proofs.Ytejeelpnmdfibaa.Pr Go.Proofs.YtejeelpnmdfibaaW.PrintWords Go.Proofs.YtejeelpnmdfibaaW.PrintLast Go.Proofs.YtejeelpnmdfibaaW.PrintMore Go.Proofs.Ytejeelpnmdfibaa.E
set_option linter.unusedVariables false
set_option linter.unusedSimpArgs false
def slR (bo n i : Nat) : Value := .slice (some ⟨bo + 1 + i,0,none⟩) n n
def outC (bo n k : Nat) : List Value := (List.range n).map fun i => if i < k then slR bo n i else .slice none 0 0
def rowC (n : Nat) (h : Nat → Int) : List Value := (List.range n).map fun j => .int .u64 (h j)
theorem outC_get {bo n k i : Nat} (hi : i < n) : (outC bo n k)[i]? = some (if i < k then slR bo n i else .slice none 0 0) := by
 unfold outC;rw [List.getElem?_map,List.getElem?_range hi];rfl
theorem rowC_get {n j : Nat} {h : Nat → Int} (hj : j < n) : (rowC n h)[j]? = some (.int .u64 (h j)) := by
 unfold rowC;rw [List.getElem?_map,List.getElem?_range hj];rfl
theorem outC_length (bo n k : Nat) : (outC bo n k).length = n := by simp [outC]
theorem rowC_length (n : Nat) (h : Nat → Int) : (rowC n h).length = n := by simp [rowC]
structure Mx (w : World) (bo n k : Nat) (g : Nat → Nat → Int) : Prop where
 out : w.heap[bo]? = some (.cells (outC bo n k).toArray 26 (0,0))
 row : ∀ i,i < k → w.heap[bo + 1 + i]? = some (.cells (rowC n (g i)).toArray 22 (0,0))
def upd (g : Nat → Nat → Int) (i j : Nat) (x : Int) (a b : Nat) : Int := if a = i ∧ b = j then x else g a b
section
variable {w : World} {bo n k : Nat} {g : Nat → Nat → Int}
theorem Mx.cellO (h : Mx w bo n k g) {i : Nat} (hi : i < k) (hn : i < n) : w.cell? ⟨bo,i,none⟩ = some (slR bo n i) := by
 rw [blk_cell h.out,List.getElem?_toArray,outC_get hn,if_pos hi]
theorem Mx.cellR (h : Mx w bo n k g) {i j : Nat} (hi : i < k) (hj : j < n) : w.cell? ⟨bo + 1 + i,j,none⟩ = some (.int .u64 (g i j)) := by
 rw [blk_cell (h.row i hi),List.getElem?_toArray,rowC_get hj]
theorem Mx.frozR (h : Mx w bo n k g) {i : Nat} (hi : i < k) (j : Nat) : w.frozen? ⟨bo + 1 + i,j,none⟩ = false := blk_frozen (h.row i hi) j
theorem Mx.drew (h : Mx w bo n k g) : Mx w.drew bo n k g := ⟨h.out,h.row⟩
theorem Mx.drewN (h : Mx w bo n k g) (m : Nat) : Mx (w.drewN m) bo n k g := ⟨h.out,h.row⟩
theorem Mx.congr (h : Mx w bo n k g) {g' : Nat → Nat → Int} (e : ∀ i,i < k → ∀ j,j < n → g i j = g' i j) : Mx w bo n k g' :=
 ⟨h.out,fun i hi => by
  rw [h.row i hi]
  have : rowC n (g i) = rowC n (g' i) := List.map_congr_left fun j hj => by rw [e i hi j (List.mem_range.1 hj)]
  rw [this]⟩
theorem Mx.put (h : Mx w bo n k g) {i j : Nat} (hi : i < k) (hj : j < n) (x : Int) : Mx (w.setCell ⟨bo + 1 + i,j,none⟩ (.int .u64 x)) bo n k (upd g i j x) := by
 refine ⟨blk_far (p := ⟨bo + 1 + i,j,none⟩) h.out (by show bo ≠ bo + 1 + i;omega) _,fun a ha => ?_⟩
 by_cases e : a = i
 ·subst e
  refine blk_put (h.row a ha) j _ ?_
  rw [List.setIfInBounds_toArray]
  congr 1
  refine List.ext_getElem? fun b => ?_
  by_cases hb : b < n
  ·rw [rowC_get hb]
   by_cases e2 : b = j
   ·subst e2
    rw [List.getElem?_set_self (by rw [rowC_length];exact hb)]
    simp [upd]
   ·rw [List.getElem?_set_ne (Ne.symm e2),rowC_get hb]
    simp [upd,e2]
  ·rw [List.getElem?_eq_none (by rw [List.length_set,rowC_length];omega),List.getElem?_eq_none (by rw [rowC_length];omega)]
 ·have h1 := blk_far (p := ⟨bo + 1 + i,j,none⟩) (h.row a ha) (by show bo + 1 + a ≠ bo + 1 + i;omega) (.int .u64 x)
  rw [h1]
  have : upd g i j x a = g a := by funext b;simp [upd,e]
  rw [this]
theorem Mx.more (h : Mx w bo n k g) (hk : k < n) (hs : w.heap.size = bo + 1 + k) (hz : ∀ j,g k j = 0) :
  Mx ((w.alloc (.cells (rowC n fun _ => 0).toArray 22)).setCell ⟨bo,k,none⟩ (slR bo n k)) bo n (k + 1) g := by
 refine ⟨?_,fun i hi => ?_⟩
 ·refine blk_put (blk_alloc h.out _) k _ ?_
  rw [List.setIfInBounds_toArray]
  congr 1
  refine List.ext_getElem? fun b => ?_
  by_cases hb : b < n
  ·rw [outC_get hb]
   by_cases e2 : b = k
   ·subst e2
    rw [List.getElem?_set_self (by rw [outC_length];exact hb),if_pos (by omega)]
   ·rw [List.getElem?_set_ne (Ne.symm e2),outC_get hb]
    by_cases h3 : b < k
    ·rw [if_pos h3,if_pos (by omega)]
    ·rw [if_neg h3,if_neg (by omega)]
  ·rw [List.getElem?_eq_none (by rw [List.length_set,outC_length];omega),List.getElem?_eq_none (by rw [outC_length];omega)]
 ·by_cases e : i = k
  ·subst e
   have h1 := blk_new w (Obj.cells (rowC n fun _ => 0).toArray 22)
   rw [hs] at h1
   have h2 : g i = fun _ => 0 := funext hz
   rw [h2]
   exact blk_far (p := ⟨bo,i,none⟩) h1 (by show bo + 1 + i ≠ bo;omega) _
  ·exact blk_far (p := ⟨bo,k,none⟩) (blk_alloc (h.row i (by omega)) _) (by show bo + 1 + i ≠ bo;omega) _
theorem Mx.own (h : Mx w bo n n g) {base : Nat} (hb : base ≤ bo) (hn : n ≤ 1000000) : Kd.S (Kd.slice 22 (Kd.int .u64)) 26 w base (fun _ => True) (.slice (some ⟨bo,0,none⟩) n n) (matL n g) := by
 have hl : (matL n g).length = n := (matL_sq n g).len
 refine ⟨fun b => b - (bo + 1),fun _ _ => trivial,outC bo n n,?_,?_,fun j p hj => ?_⟩
 ·rw [List.length_zipIdx,hl]
  refine ⟨by show (outC bo n n).length = n * 1;rw [outC_length];omega,.inr ⟨bo,n,(outC bo n n).toArray,rfl,hb,h.out,Nat.le_refl _,by simp only [maxLen];omega,by show (outC bo n n).toArray.size = n * 1;rw [List.size_toArray,outC_length];omega,?_⟩⟩
  show ((outC bo n n).take (n * 1)) = outC bo n n
  exact List.take_of_length_le (by rw [outC_length];omega)
 ·rw [List.length_zipIdx,hl];show (outC bo n n).length = n * 1;rw [outC_length];omega
 ·rw [List.getElem?_zipIdx,Nat.zero_add] at hj
  obtain ⟨r,hr,rfl⟩ := Option.map_eq_some_iff.1 hj
  have hjn : j < n := by have := (List.getElem?_eq_some_iff.1 hr).1;omega
  have hrow : r = tabL n (g j) := by
   unfold matL matP at hr
   rw [List.getElem?_map,List.getElem?_range hjn] at hr
   exact (Option.some.inj hr).symm
  have hcs : ((outC bo n n).drop (j * 1)).take 1 = [slR bo n j] := by
   refine List.ext_getElem? fun i => ?_
   rw [List.getElem?_take]
   cases i with
   | zero => rw [if_pos (by omega),List.getElem?_drop,Nat.add_zero,Nat.mul_one,outC_get hjn,if_pos hjn];rfl
   | succ i => rw [if_neg (by omega)];rfl
  show ∃ v,((outC bo n n).drop (j * 1)).take 1 = [v] ∧ _
  refine ⟨slR bo n j,hcs,?_⟩
  have hlen : (tabL n (g j)).length = n := tabL_length _ _
  show Kd.R (Kd.int .u64) 22 w base _ (slR bo n j) r
  rw [hrow]
  refine R_made ?_ (fun b hbk => ?_)
  ·rw [hlen]
   have hnm : nums .u64 (tabL n (g j)) = rowC n (g j) := by simp [nums,tabL,rowC]
   rw [hnm]
   refine ⟨by rw [rowC_length];omega,.inr ⟨bo + 1 + j,n,(rowC n (g j)).toArray,rfl,by omega,h.row j hjn,Nat.le_refl _,by simp only [maxLen];omega,by rw [List.size_toArray,rowC_length];omega,?_⟩⟩
   show (rowC n (g j)).take (n * 1) = _
   exact List.take_of_length_le (by rw [rowC_length];omega)
  ·have e : b = bo + 1 + j := by
    have : (slR bo n j).ownBlock = some (bo + 1 + j) := rfl
    rw [this] at hbk;exact (Option.some.inj hbk).symm
   subst e
   refine ⟨⟨trivial,fun e => ?_⟩,by show bo + 1 + j - (bo + 1) = j;omega⟩
   have e2 : some (bo + 1 + j) = some bo := e
   injection e2 with e2;omega
end
def offs (n : Nat) : Nat → Nat
 | 0 => 0
 | 1 => 0
 | i + 2 => offs n (i + 1) + (n - (i + 1))
theorem offs_next (n i : Nat) (h : 1 ≤ i) : offs n (i + 1) = offs n i + (n - i) := by
 obtain ⟨m,rfl⟩ : ∃ m,i = m + 1 := ⟨i - 1,by omega⟩
 rfl
theorem offs_twice (n : Nat) : ∀ i : Nat,i + 1 ≤ n → (2 * offs n (i + 1) : Int) = i * (2 * n - i - 1)
 | 0,_ => by simp [offs]
 | i + 1,h => by
  have ih := offs_twice n i (by omega)
  rw [offs_next n (i + 1) (by omega)]
  have e : ((n - (i + 1) : Nat) : Int) = (n : Int) - i - 1 := by omega
  rw [Int.natCast_add,e]
  push_cast
  grind
theorem offs_last {n : Nat} (h : 1 ≤ n) : (2 * offs n n : Int) = n * (n - 1) := by
 obtain ⟨m,rfl⟩ : ∃ m,n = m + 1 := ⟨n - 1,by omega⟩
 have := offs_twice (m + 1) m (Nat.le_refl _)
 rw [this];push_cast;grind
theorem offs_mono {n : Nat} : ∀ (d i : Nat),1 ≤ i → offs n i ≤ offs n (i + d)
 | 0,i,_ => Nat.le_refl _
 | d + 1,i,h => by
  have := offs_mono (n := n) d i h
  rw [← Nat.add_assoc,offs_next n (i + d) (by omega)];omega
def newG (n : Nat) (first rest : List Int) (i j : Nat) : Int :=
 if min i j = 0 then first.getD (max i j) 0 else rest.getD (offs n (min i j) + (max i j - min i j)) 0
theorem infoSl : (Try.prog.info? 26).map (fun i => (i.zero,i.size,i.bytes)) = some (some (.slice none 0 0),1,24) := by kernel_rfl
theorem mk_run {t e : TypeId} {z : Value} {b : Nat} (ht : Try.prog.underlying t = some (.slice e)) (hinfo : (Try.prog.info? e).map (fun i => (i.zero,i.size,i.bytes)) = some (some z,1,b)) (hz : z.cells = #[z]) (n : Nat) (hn : n ≤ 1000000) (hb : b ≤ 100) (w : World) :
  (Instr.makeSlice t (.int .i64 (n : Int)) (.int .i64 (n : Int))).run Try.prog w = .ok (.slice (some ⟨w.heap.size,0,none⟩) n n) (w.alloc (.cells (List.replicate n z).toArray e)) := by
 obtain ⟨i0,hi,hzz⟩ := Option.map_eq_some_iff.1 hinfo
 simp only [Prod.mk.injEq] at hzz
 obtain ⟨hz0,hz1,hz2⟩ := hzz
 have hr := run_make (P := Try.prog) w t e i0 z ht hi hz0 .i64 .i64 (n : Int) (n : Int) (by omega) (by omega)
  (by
   have h3 : ((i0.bytes * n : Nat) : Int) ≤ 281474976710656 := by
    have : i0.bytes * n ≤ 100 * 1000000 := Nat.mul_le_mul (by omega) hn
    omega
   rwa [Int.natCast_mul] at h3) (by omega)
 simp only [Int.toNat_natCast] at hr
 rw [hz1,Nat.mul_one,hz] at hr
 rw [hr]
 have e : madeCells #[z] n = (List.replicate n z).toArray := by
  apply Array.ext'
  rw [toList_madeCells_one]
 rw [e]
theorem outC_zero (bo n : Nat) : List.replicate n (Value.slice none 0 0) = outC bo n 0 := by
 refine List.ext_getElem? fun i => ?_
 by_cases hi : i < n
 ·rw [outC_get hi,List.getElem?_replicate,if_pos hi,if_neg (by omega)]
 ·rw [List.getElem?_eq_none (by rw [List.length_replicate];omega),List.getElem?_eq_none (by rw [outC_length];omega)]
theorem rowC_zero (n : Nat) : List.replicate n (Value.int .u64 0) = rowC n fun _ => 0 := by
 refine List.ext_getElem? fun i => ?_
 by_cases hi : i < n
 ·rw [rowC_get hi,List.getElem?_replicate,if_pos hi]
 ·rw [List.getElem?_eq_none (by rw [List.length_replicate];omega),List.getElem?_eq_none (by rw [rowC_length];omega)]
theorem Mx.start (w : World) (n : Nat) : Mx (w.alloc (.cells (outC w.heap.size n 0).toArray 26)) w.heap.size n 0 (fun _ _ => 0) :=
 ⟨blk_new w _,fun i hi => by omega⟩
theorem alloc_size' (w : World) (o : Obj) : (w.alloc o).heap.size = w.heap.size + 1 := Array.size_push _
theorem size_setCell' (w : World) (a : Addr) (v : Value) : (w.setCell a v).heap.size = w.heap.size := by simp [World.setCell]
theorem below_alloc_set {w0 w : World} (h : Below w0.heap.size w0 w) (o : Obj) {b : Nat} (hb : w0.heap.size ≤ b) (i : Nat) (v : Value) : Below w0.heap.size w0 ((w.alloc o).setCell ⟨b,i,none⟩ v) := Below.setCell (below_alloc h o) (p := ⟨b,i,none⟩) hb v
def newBad (first rest : List Int) : Bool := decide (first.length = 0) || decide (rest.length ≠ offs first.length first.length)
theorem newBad_iff {first rest : List Int} : newBad first rest = true ↔ (first.length = 0 ∨ rest.length ≠ offs first.length first.length) := by simp [newBad]
end Go.Proofs.Ytejeelpnmdfibaa.Hw
end
