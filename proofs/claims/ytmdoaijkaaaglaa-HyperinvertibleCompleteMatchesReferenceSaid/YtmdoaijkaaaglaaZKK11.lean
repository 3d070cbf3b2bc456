/- The row of the law HyperinvertibleCompleteMatchesReference, out of its plain law and the walk. -/
import Derived.Test.YtmdoaijkaaaglaaZKK1
import Derived.Test.YtmdoaijkaaaglaaZKK7
import Derived.Test.YtmdoaijkaaaglaaZKK2
import Derived.Test.YtmdoaijkaaaglaaZKK10
import Derived.Test.YtmdoaijkaaaglaaZKK3
import Derived.Test.YtmdoaijkaaaglaaZKK5
import Derived.Test.YtmdoaijkaaaglaaZKK8
import Derived.Test.YtmdoaijkaaaglaaZKK9
import Derived.Test.YtmdoaijkaaaglaaProg
import Derived.ChangeArms
import Derived.DataReads
import Derived.DataElems
import Derived.ShutString
import Derived.ChangeSame
import Derived.OpenShut
import Derived.Test.YtmdoaijkaaaglaaZKK0
import Derived.Test.YtmdoaijkaaaglaaRows
import Derived.WalkKit
import Derived.ProofKit
import Derived.ChangeOld
import Derived.Below
import Derived.SizedLaws
set_option linter.unusedVariables false
set_option linter.unusedSimpArgs false
section
namespace Go.Proofs.Ytmdoaijkaaaglaa.Pr
open Go.RowKit Go.Proofs.YtmdoaijkaaaglaaW.PrintWords Go.Proofs.YtmdoaijkaaaglaaW.PrintLast Go.Proofs.YtmdoaijkaaaglaaW.PrintMore
attribute [local go_sem] max2_int min2_int max_two min_two max_three min_three max_four min_four
open Go.Proofs.Ytmdoaijkaaaglaa.Hw
def privitylaw07_HyperinvertibleCompleteMatchesReference.j0 : Nat → Bool → Int → List (List Int) → List (S56) → List (S56) → Option (Bool)
 | 0,_,_,_,_,_ => none
 | k + 1,x56,x594000,x594001,x594002,x594003 => if x56 = true then (some true) else ((hyperinvertible_Complete.f x594000 x594001 x594002 x594003).bind fun bt600 => ((privityref07_Complete.f k x594000 x594001 x594002 x594003).bind fun bt607 => (if bt600.2.2 = bt607.2.2 then ((privityref05_Same.f k bt600.1 bt607.1).bind fun t614 => (if t614 = true then ((privityref05_Same.f k bt600.2.1 bt607.2.1).bind fun t615 => (some t615)) else (some false))) else (some false))))
def privitylaw07_HyperinvertibleCompleteMatchesReference.f (k : Nat) (a0_0 : Int) (l0_1 : List (List Int)) (l0_2 : List (S56)) (l0_3 : List (S56)) : Option (Bool) := (privitylaw07_awake.f k).bind fun t594 => (if t594 = true then ((privityref01_Supported.f k a0_0).bind fun t595 => (if t595 = true then ((privityref07_Small.f k l0_1 7 7).bind fun t596 => (if t596 = true then ((privityref07_Below.f k a0_0 l0_1).bind fun t597 => (if t597 = true then (if (l0_2.length : Int) > 8 then (privitylaw07_HyperinvertibleCompleteMatchesReference.j0 k true a0_0 l0_1 l0_2 l0_3) else (if (l0_3.length : Int) > 8 then (privitylaw07_HyperinvertibleCompleteMatchesReference.j0 k true a0_0 l0_1 l0_2 l0_3) else ((privitylaw07_below.f k a0_0 l0_2).bind fun t598 => (if t598 = true then ((privitylaw07_below.f k a0_0 l0_3).bind fun t599 => (privitylaw07_HyperinvertibleCompleteMatchesReference.j0 k (!t599) a0_0 l0_1 l0_2 l0_3)) else (privitylaw07_HyperinvertibleCompleteMatchesReference.j0 k true a0_0 l0_1 l0_2 l0_3))))) else (privitylaw07_HyperinvertibleCompleteMatchesReference.j0 k true a0_0 l0_1 l0_2 l0_3))) else (privitylaw07_HyperinvertibleCompleteMatchesReference.j0 k true a0_0 l0_1 l0_2 l0_3))) else (privitylaw07_HyperinvertibleCompleteMatchesReference.j0 k true a0_0 l0_1 l0_2 l0_3))) else (some false))
set_option maxHeartbeats 8000000 in
set_option maxRecDepth 100000 in
theorem privitylaw07_HyperinvertibleCompleteMatchesReference.calls (k : Nat) (a0_0 : Int) (A0_1 : Option Addr) (c0_1 : Nat) (l0_1 : List (List Int)) (A0_2 : Option Addr) (c0_2 : Nat) (l0_2 : List (S56)) (A0_3 : Option Addr) (c0_3 : Nat) (l0_3 : List (S56)) (r : Bool) (w : World) (hr0_1 : Kd.C (Kd.slice 22 (Kd.int .u64)) w A0_1 l0_1.length l0_1) (hc0_1 : l0_1.length ≤ c0_1) (hr0_2 : Kd.C k56 w A0_2 l0_2.length l0_2) (hc0_2 : l0_2.length ≤ c0_2) (hr0_3 : Kd.C k56 w A0_3 l0_3.length l0_3) (hc0_3 : l0_3.length ≤ c0_3) (hr1_ : r = true) (h : privitylaw07_HyperinvertibleCompleteMatchesReference.f k a0_0 l0_1 l0_2 l0_3 = some r) :
  Calls Try.prog 5 #[.agg #[.int .u64 a0_0,.slice A0_1 l0_1.length c0_1,.slice A0_2 l0_2.length c0_2,.slice A0_3 l0_3.length c0_3]] w fun e w' => e = .returned (.bool r) ∧ Below w.heap.size w w' := by
 have HRT_ := am hr1_
 clear hr1_
 have hu37 := Try.underlying37
 have HR0_1 := am hr0_1
 have HC0_1 := am hc0_1
 clear hr0_1 hc0_1
 have HR0_2 := am hr0_2
 have HC0_2 := am hc0_2
 clear hr0_2 hc0_2
 have HR0_3 := am hr0_3
 have HC0_3 := am hc0_3
 clear hr0_3 hc0_3
 have HB := am (Below.refl w.heap.size w)
 have H : ((privitylaw07_awake.f k).bind fun t594 => (if t594 = true then ((privityref01_Supported.f k a0_0).bind fun t595 => (if t595 = true then ((privityref07_Small.f k l0_1 7 7).bind fun t596 => (if t596 = true then ((privityref07_Below.f k a0_0 l0_1).bind fun t597 => (if t597 = true then (if (l0_2.length : Int) > 8 then (privitylaw07_HyperinvertibleCompleteMatchesReference.j0 k true a0_0 l0_1 l0_2 l0_3) else (if (l0_3.length : Int) > 8 then (privitylaw07_HyperinvertibleCompleteMatchesReference.j0 k true a0_0 l0_1 l0_2 l0_3) else ((privitylaw07_below.f k a0_0 l0_2).bind fun t598 => (if t598 = true then ((privitylaw07_below.f k a0_0 l0_3).bind fun t599 => (privitylaw07_HyperinvertibleCompleteMatchesReference.j0 k (!t599) a0_0 l0_1 l0_2 l0_3)) else (privitylaw07_HyperinvertibleCompleteMatchesReference.j0 k true a0_0 l0_1 l0_2 l0_3))))) else (privitylaw07_HyperinvertibleCompleteMatchesReference.j0 k true a0_0 l0_1 l0_2 l0_3))) else (privitylaw07_HyperinvertibleCompleteMatchesReference.j0 k true a0_0 l0_1 l0_2 l0_3))) else (privitylaw07_HyperinvertibleCompleteMatchesReference.j0 k true a0_0 l0_1 l0_2 l0_3))) else (some false))) = some r := h
 clear h
 replace H := Option.bind_eq_some_iff.mp H
 obtain ⟨t594,A20,H⟩ := H
 try dsimp only at H
 have A2 := am A20
 clear A20
 by_cases c3 : t594 = true
 ·subst c3
  rw [if_pos rfl] at H
  have HC4 := am H
  clear H
  go_enter Try.func5,Try.ntmps5
  go_upto_region 3 with (first|((with_reducible refine gate_dst (N := 1) rfl ?_);(try (refine gate_guard (by rfl) ?_;dsimp only));refine box_event ?hg (N := 1) ?hd (cs := #[.int .u64 a0_0,.slice A0_1 l0_1.length c0_1,.slice A0_2 l0_2.length c0_2,.slice A0_3 l0_3.length c0_3]) (t := 37) ?hr ?_;(case hd => rfl);(case hg => rfl);(case hr => first|(go_simp;done)|(go_simp;rfl));intro gb593 hg w5 hbox hb;have n0_ := am (below_step (bb HB) hb);have n1_ := am (hbox);have n2_ := am ((by rw [hg];exact (below_size (bb HB)) : w.heap.size ≤ gb593));have n3_ := am ((by rw [hg];exact (below_size (bb HB)) : w.heap.size ≤ gb593));clear HB;have HB := n0_;have BK593 := n1_;have GW593 := n2_;have GE593 := n3_;clear n0_ n1_ n2_ n3_;clear hb hbox hg)|((with_reducible refine gate_callee (f := 12) rfl ?_);refine goesL_ (some 9) rfl rfl Try.func12 (by kernel_rfl) rfl #[] rfl (by (try simp only [List.map_toArray,List.map_cons,List.map_nil]);first|done|rfl|(simp only [List.length_drop,List.length_take];rfl)) ?_;(with_reducible refine (privitylaw07_awake.calls k  true _ A2.out).mono ?_);rintro e w6 ⟨rfl,hb⟩;refine ⟨_,rfl,?_⟩;have n0_ := am (kb BK593 hb);have n1_ := am (below_step (bg HB GE593) hb);clear BK593 HB;have BK593 := n0_;have HB := n1_;clear n0_ n1_;(try clear hb);(try clear hb2);(try clear hk);(try clear hi)))
  (try simp only [Act.put,List.setIfInBounds_toArray,List.set_cons_zero,List.set_cons_succ])
  go_cut [56] (fun v56 wc => ∃ (kq : Nat) (x56_3 : Bool),v56 = .bool x56_3 ∧ Aside0 (privitylaw07_HyperinvertibleCompleteMatchesReference.j0 kq x56_3 a0_0 l0_1 l0_2 l0_3 = some r) ∧ Aside0 (kq ≤ k) ∧ Aside0 (wc.heap[gb593]? = some (.cells #[.int .u64 a0_0,(.slice A0_1 l0_1.length c0_1),(.slice A0_2 l0_2.length c0_2),(.slice A0_3 l0_3.length c0_3)] 37 (0,0))) ∧ Aside0 (Below w.heap.size w wc))
  case first =>
   have H := HC4.out
   clear HC4
   replace H := Option.bind_eq_some_iff.mp H
   obtain ⟨t595,A70,H⟩ := H
   try dsimp only at H
   have A7 := am A70
   clear A70
   by_cases c8 : t595 = true
   ·subst c8
    rw [if_pos rfl] at H
    replace H := Option.bind_eq_some_iff.mp H
    obtain ⟨t596,A90,H⟩ := H
    try dsimp only at H
    have A9 := am A90
    clear A90
    by_cases c10 : t596 = true
    ·subst c10
     rw [if_pos rfl] at H
     replace H := Option.bind_eq_some_iff.mp H
     obtain ⟨t597,A110,H⟩ := H
     try dsimp only at H
     have A11 := am A110
     clear A110
     by_cases c12 : t597 = true
     ·subst c12
      rw [if_pos rfl] at H
      by_cases c13 : (l0_2.length : Int) > 8
      ·rw [if_pos c13] at H
       have c13b0 : decide (8 < (l0_2.length : Int)) = true := decide_eq_true c13
       have c13b1 : decide (8 < l0_2.length) = true := decide_eq_true (by omega)
       clear c13
       (first|rw [c13b0]|(simp only [i64_w,i32_w];rw [c13b0])|skip)
       have H' := am H
       clear H
       have hcz14_0 := bc BK593 0
       have hcz14_1 := bc BK593 1
       have hcz14_2 := bc BK593 2
       have hcz14_3 := bc BK593 3
       have hfz14_0 := bf BK593 0
       have hfz14_1 := bf BK593 1
       have hfz14_2 := bf BK593 2
       have hfz14_3 := bf BK593 3
       go_wp2_with (first|((with_reducible refine gate_callee (f := 13) rfl ?_);refine goesL_ (some 13) rfl rfl Try.func13 (by kernel_rfl) rfl #[.int .u64 a0_0] rfl (by (try simp only [List.map_toArray,List.map_cons,List.map_nil]);first|done|rfl|(simp only [List.length_drop,List.length_take];rfl)) ?_;(with_reducible refine (privityref01_Supported.calls k a0_0 true _ A7.out).mono ?_);rintro e w15 ⟨rfl,hb⟩;refine ⟨_,rfl,?_⟩;have n0_ := am (kb BK593 hb);have n1_ := am (below_step (bg HB GE593) hb);clear BK593 HB;have BK593 := n0_;have HB := n1_;clear n0_ n1_;(try clear hb);(try clear hb2);(try clear hk);(try clear hi);have hcz16_0 := bc BK593 0;have hcz16_1 := bc BK593 1;have hcz16_2 := bc BK593 2;have hcz16_3 := bc BK593 3;have hfz16_0 := bf BK593 0;have hfz16_1 := bf BK593 1;have hfz16_2 := bf BK593 2;have hfz16_3 := bf BK593 3)|(go_at_call 17;(with_reducible refine (privityref07_Small.calls k _ _ l0_1 7 7 true _ ?side1 ?side2 A9.out).mono ?_);(case side1 => exact cb HR0_1 HB);(case side2 => exact HC0_1.out);rintro e w' ⟨rfl,⟨nd,rfl⟩⟩)|(go_at_call 20;(with_reducible refine (privityref07_Below.calls k a0_0 _ _ l0_1 true _ ?side1 ?side2 A11.out).mono ?_);(case side1 => repeat (first|exact (Kd.C_below HR0_1.out (bg HB GE593))|(with_reducible refine Kd.C_alloc ?_ _)|(with_reducible refine Kd.C_drewN ?_ _)|(with_reducible refine Kd.C_drew ?_)));(case side2 => exact HC0_1.out);rintro e w' ⟨rfl,⟨nd,rfl⟩⟩))
       go_meet
       case rel => exact ⟨_,(true),(by first|rfl|(simp;done)|(simp [*];done)),H',⟨by first|omega|exact Nat.le_refl _⟩,⟨kx BK593⟩,⟨bg HB GE593⟩⟩
      ·rw [if_neg c13] at H
       have c13b0 : decide (8 < (l0_2.length : Int)) = false := decide_eq_false c13
       have c13b1 : decide (8 < l0_2.length) = false := decide_eq_false (by omega)
       clear c13
       (first|rw [c13b0]|(simp only [i64_w,i32_w];rw [c13b0])|skip)
       by_cases c17 : (l0_3.length : Int) > 8
       ·rw [if_pos c17] at H
        have c17b0 : decide (8 < (l0_3.length : Int)) = true := decide_eq_true c17
        have c17b1 : decide (8 < l0_3.length) = true := decide_eq_true (by omega)
        clear c17
        have H' := am H
        clear H
        have hcz18_0 := bc BK593 0
        have hcz18_1 := bc BK593 1
        have hcz18_2 := bc BK593 2
        have hcz18_3 := bc BK593 3
        have hfz18_0 := bf BK593 0
        have hfz18_1 := bf BK593 1
        have hfz18_2 := bf BK593 2
        have hfz18_3 := bf BK593 3
        go_wp2_with (first|((with_reducible refine gate_callee (f := 13) rfl ?_);refine goesL_ (some 13) rfl rfl Try.func13 (by kernel_rfl) rfl #[.int .u64 a0_0] rfl (by (try simp only [List.map_toArray,List.map_cons,List.map_nil]);first|done|rfl|(simp only [List.length_drop,List.length_take];rfl)) ?_;(with_reducible refine (privityref01_Supported.calls k a0_0 true _ A7.out).mono ?_);rintro e w19 ⟨rfl,hb⟩;refine ⟨_,rfl,?_⟩;have n0_ := am (kb BK593 hb);have n1_ := am (below_step (bg HB GE593) hb);clear BK593 HB;have BK593 := n0_;have HB := n1_;clear n0_ n1_;(try clear hb);(try clear hb2);(try clear hk);(try clear hi);have hcz20_0 := bc BK593 0;have hcz20_1 := bc BK593 1;have hcz20_2 := bc BK593 2;have hcz20_3 := bc BK593 3;have hfz20_0 := bf BK593 0;have hfz20_1 := bf BK593 1;have hfz20_2 := bf BK593 2;have hfz20_3 := bf BK593 3)|(go_at_call 17;(with_reducible refine (privityref07_Small.calls k _ _ l0_1 7 7 true _ ?side1 ?side2 A9.out).mono ?_);(case side1 => exact cb HR0_1 HB);(case side2 => exact HC0_1.out);rintro e w' ⟨rfl,⟨nd,rfl⟩⟩)|(go_at_call 20;(with_reducible refine (privityref07_Below.calls k a0_0 _ _ l0_1 true _ ?side1 ?side2 A11.out).mono ?_);(case side1 => repeat (first|exact (Kd.C_below HR0_1.out (bg HB GE593))|(with_reducible refine Kd.C_alloc ?_ _)|(with_reducible refine Kd.C_drewN ?_ _)|(with_reducible refine Kd.C_drew ?_)));(case side2 => exact HC0_1.out);rintro e w' ⟨rfl,⟨nd,rfl⟩⟩))
        go_meet
        case rel => exact ⟨_,(true),(by first|rfl|(simp;done)|(simp [*];done)),H',⟨by first|omega|exact Nat.le_refl _⟩,⟨kx BK593⟩,⟨bg HB GE593⟩⟩
       ·rw [if_neg c17] at H
        have c17b0 : decide (8 < (l0_3.length : Int)) = false := decide_eq_false c17
        have c17b1 : decide (8 < l0_3.length) = false := decide_eq_false (by omega)
        clear c17
        replace H := Option.bind_eq_some_iff.mp H
        obtain ⟨t598,A210,H⟩ := H
        try dsimp only at H
        have A21 := am A210
        clear A210
        by_cases c22 : t598 = true
        ·subst c22
         rw [if_pos rfl] at H
         replace H := Option.bind_eq_some_iff.mp H
         obtain ⟨t599,A230,H⟩ := H
         try dsimp only at H
         have A23 := am A230
         clear A230
         have H' := am H
         clear H
         have hcz24_0 := bc BK593 0
         have hcz24_1 := bc BK593 1
         have hcz24_2 := bc BK593 2
         have hcz24_3 := bc BK593 3
         have hfz24_0 := bf BK593 0
         have hfz24_1 := bf BK593 1
         have hfz24_2 := bf BK593 2
         have hfz24_3 := bf BK593 3
         go_wp2_with (first|((with_reducible refine gate_callee (f := 13) rfl ?_);refine goesL_ (some 13) rfl rfl Try.func13 (by kernel_rfl) rfl #[.int .u64 a0_0] rfl (by (try simp only [List.map_toArray,List.map_cons,List.map_nil]);first|done|rfl|(simp only [List.length_drop,List.length_take];rfl)) ?_;(with_reducible refine (privityref01_Supported.calls k a0_0 true _ A7.out).mono ?_);rintro e w25 ⟨rfl,hb⟩;refine ⟨_,rfl,?_⟩;have n0_ := am (kb BK593 hb);have n1_ := am (below_step (bg HB GE593) hb);clear BK593 HB;have BK593 := n0_;have HB := n1_;clear n0_ n1_;(try clear hb);(try clear hb2);(try clear hk);(try clear hi);have hcz26_0 := bc BK593 0;have hcz26_1 := bc BK593 1;have hcz26_2 := bc BK593 2;have hcz26_3 := bc BK593 3;have hfz26_0 := bf BK593 0;have hfz26_1 := bf BK593 1;have hfz26_2 := bf BK593 2;have hfz26_3 := bf BK593 3)|(go_at_call 17;(with_reducible refine (privityref07_Small.calls k _ _ l0_1 7 7 true _ ?side1 ?side2 A9.out).mono ?_);(case side1 => exact cb HR0_1 HB);(case side2 => exact HC0_1.out);rintro e w' ⟨rfl,⟨nd,rfl⟩⟩)|(go_at_call 20;(with_reducible refine (privityref07_Below.calls k a0_0 _ _ l0_1 true _ ?side1 ?side2 A11.out).mono ?_);(case side1 => repeat (first|exact (Kd.C_below HR0_1.out (bg HB GE593))|(with_reducible refine Kd.C_alloc ?_ _)|(with_reducible refine Kd.C_drewN ?_ _)|(with_reducible refine Kd.C_drew ?_)));(case side2 => exact HC0_1.out);rintro e w' ⟨rfl,⟨nd,rfl⟩⟩)|(go_at_call 21;(with_reducible refine (privitylaw07_below.calls k a0_0 _ _ l0_2 true _ ?side1 ?side2 A21.out).mono ?_);(case side1 => repeat (first|exact (Kd.C_below HR0_2.out (bg HB GE593))|(with_reducible refine Kd.C_alloc ?_ _)|(with_reducible refine Kd.C_drewN ?_ _)|(with_reducible refine Kd.C_drew ?_)));(case side2 => exact HC0_2.out);rintro e w' ⟨rfl,⟨nd,rfl⟩⟩)|(go_at_call 21;(with_reducible refine (privitylaw07_below.calls k a0_0 _ _ l0_3 t599 _ ?side1 ?side2 A23.out).mono ?_);(case side1 => repeat (first|exact (Kd.C_below HR0_3.out (bg HB GE593))|(with_reducible refine Kd.C_alloc ?_ _)|(with_reducible refine Kd.C_drewN ?_ _)|(with_reducible refine Kd.C_drew ?_)));(case side2 => exact HC0_3.out);rintro e w' ⟨rfl,⟨nd,rfl⟩⟩))
         go_meet
         case rel => exact ⟨_,(!t599),(by first|rfl|(simp;done)|(simp [*];done)),H',⟨by first|omega|exact Nat.le_refl _⟩,⟨kx BK593⟩,⟨bg HB GE593⟩⟩
        ·replace c22 := Bool.eq_false_iff.mpr c22
         subst c22
         rw [if_neg (show ¬ (false = true) by decide)] at H
         have H' := am H
         clear H
         have hcz27_0 := bc BK593 0
         have hcz27_1 := bc BK593 1
         have hcz27_2 := bc BK593 2
         have hcz27_3 := bc BK593 3
         have hfz27_0 := bf BK593 0
         have hfz27_1 := bf BK593 1
         have hfz27_2 := bf BK593 2
         have hfz27_3 := bf BK593 3
         go_wp2_with (first|((with_reducible refine gate_callee (f := 13) rfl ?_);refine goesL_ (some 13) rfl rfl Try.func13 (by kernel_rfl) rfl #[.int .u64 a0_0] rfl (by (try simp only [List.map_toArray,List.map_cons,List.map_nil]);first|done|rfl|(simp only [List.length_drop,List.length_take];rfl)) ?_;(with_reducible refine (privityref01_Supported.calls k a0_0 true _ A7.out).mono ?_);rintro e w28 ⟨rfl,hb⟩;refine ⟨_,rfl,?_⟩;have n0_ := am (kb BK593 hb);have n1_ := am (below_step (bg HB GE593) hb);clear BK593 HB;have BK593 := n0_;have HB := n1_;clear n0_ n1_;(try clear hb);(try clear hb2);(try clear hk);(try clear hi);have hcz29_0 := bc BK593 0;have hcz29_1 := bc BK593 1;have hcz29_2 := bc BK593 2;have hcz29_3 := bc BK593 3;have hfz29_0 := bf BK593 0;have hfz29_1 := bf BK593 1;have hfz29_2 := bf BK593 2;have hfz29_3 := bf BK593 3)|(go_at_call 17;(with_reducible refine (privityref07_Small.calls k _ _ l0_1 7 7 true _ ?side1 ?side2 A9.out).mono ?_);(case side1 => exact cb HR0_1 HB);(case side2 => exact HC0_1.out);rintro e w' ⟨rfl,⟨nd,rfl⟩⟩)|(go_at_call 20;(with_reducible refine (privityref07_Below.calls k a0_0 _ _ l0_1 true _ ?side1 ?side2 A11.out).mono ?_);(case side1 => repeat (first|exact (Kd.C_below HR0_1.out (bg HB GE593))|(with_reducible refine Kd.C_alloc ?_ _)|(with_reducible refine Kd.C_drewN ?_ _)|(with_reducible refine Kd.C_drew ?_)));(case side2 => exact HC0_1.out);rintro e w' ⟨rfl,⟨nd,rfl⟩⟩)|(go_at_call 21;(with_reducible refine (privitylaw07_below.calls k a0_0 _ _ l0_2 false _ ?side1 ?side2 A21.out).mono ?_);(case side1 => repeat (first|exact (Kd.C_below HR0_2.out (bg HB GE593))|(with_reducible refine Kd.C_alloc ?_ _)|(with_reducible refine Kd.C_drewN ?_ _)|(with_reducible refine Kd.C_drew ?_)));(case side2 => exact HC0_2.out);rintro e w' ⟨rfl,⟨nd,rfl⟩⟩))
         go_meet
         case rel => exact ⟨_,(true),(by first|rfl|(simp;done)|(simp [*];done)),H',⟨by first|omega|exact Nat.le_refl _⟩,⟨kx BK593⟩,⟨bg HB GE593⟩⟩
     ·replace c12 := Bool.eq_false_iff.mpr c12
      subst c12
      rw [if_neg (show ¬ (false = true) by decide)] at H
      have H' := am H
      clear H
      have hcz30_0 := bc BK593 0
      have hcz30_1 := bc BK593 1
      have hcz30_2 := bc BK593 2
      have hcz30_3 := bc BK593 3
      have hfz30_0 := bf BK593 0
      have hfz30_1 := bf BK593 1
      have hfz30_2 := bf BK593 2
      have hfz30_3 := bf BK593 3
      go_wp2_with (first|((with_reducible refine gate_callee (f := 13) rfl ?_);refine goesL_ (some 13) rfl rfl Try.func13 (by kernel_rfl) rfl #[.int .u64 a0_0] rfl (by (try simp only [List.map_toArray,List.map_cons,List.map_nil]);first|done|rfl|(simp only [List.length_drop,List.length_take];rfl)) ?_;(with_reducible refine (privityref01_Supported.calls k a0_0 true _ A7.out).mono ?_);rintro e w31 ⟨rfl,hb⟩;refine ⟨_,rfl,?_⟩;have n0_ := am (kb BK593 hb);have n1_ := am (below_step (bg HB GE593) hb);clear BK593 HB;have BK593 := n0_;have HB := n1_;clear n0_ n1_;(try clear hb);(try clear hb2);(try clear hk);(try clear hi);have hcz32_0 := bc BK593 0;have hcz32_1 := bc BK593 1;have hcz32_2 := bc BK593 2;have hcz32_3 := bc BK593 3;have hfz32_0 := bf BK593 0;have hfz32_1 := bf BK593 1;have hfz32_2 := bf BK593 2;have hfz32_3 := bf BK593 3)|(go_at_call 17;(with_reducible refine (privityref07_Small.calls k _ _ l0_1 7 7 true _ ?side1 ?side2 A9.out).mono ?_);(case side1 => exact cb HR0_1 HB);(case side2 => exact HC0_1.out);rintro e w' ⟨rfl,⟨nd,rfl⟩⟩)|(go_at_call 20;(with_reducible refine (privityref07_Below.calls k a0_0 _ _ l0_1 false _ ?side1 ?side2 A11.out).mono ?_);(case side1 => repeat (first|exact (Kd.C_below HR0_1.out (bg HB GE593))|(with_reducible refine Kd.C_alloc ?_ _)|(with_reducible refine Kd.C_drewN ?_ _)|(with_reducible refine Kd.C_drew ?_)));(case side2 => exact HC0_1.out);rintro e w' ⟨rfl,⟨nd,rfl⟩⟩))
      go_meet
      case rel => exact ⟨_,(true),(by first|rfl|(simp;done)|(simp [*];done)),H',⟨by first|omega|exact Nat.le_refl _⟩,⟨kx BK593⟩,⟨bg HB GE593⟩⟩
    ·replace c10 := Bool.eq_false_iff.mpr c10
     subst c10
     rw [if_neg (show ¬ (false = true) by decide)] at H
     have H' := am H
     clear H
     have hcz33_0 := bc BK593 0
     have hcz33_1 := bc BK593 1
     have hcz33_2 := bc BK593 2
     have hcz33_3 := bc BK593 3
     have hfz33_0 := bf BK593 0
     have hfz33_1 := bf BK593 1
     have hfz33_2 := bf BK593 2
     have hfz33_3 := bf BK593 3
     go_wp2_with (first|((with_reducible refine gate_callee (f := 13) rfl ?_);refine goesL_ (some 13) rfl rfl Try.func13 (by kernel_rfl) rfl #[.int .u64 a0_0] rfl (by (try simp only [List.map_toArray,List.map_cons,List.map_nil]);first|done|rfl|(simp only [List.length_drop,List.length_take];rfl)) ?_;(with_reducible refine (privityref01_Supported.calls k a0_0 true _ A7.out).mono ?_);rintro e w34 ⟨rfl,hb⟩;refine ⟨_,rfl,?_⟩;have n0_ := am (kb BK593 hb);have n1_ := am (below_step (bg HB GE593) hb);clear BK593 HB;have BK593 := n0_;have HB := n1_;clear n0_ n1_;(try clear hb);(try clear hb2);(try clear hk);(try clear hi);have hcz35_0 := bc BK593 0;have hcz35_1 := bc BK593 1;have hcz35_2 := bc BK593 2;have hcz35_3 := bc BK593 3;have hfz35_0 := bf BK593 0;have hfz35_1 := bf BK593 1;have hfz35_2 := bf BK593 2;have hfz35_3 := bf BK593 3)|(go_at_call 17;(with_reducible refine (privityref07_Small.calls k _ _ l0_1 7 7 false _ ?side1 ?side2 A9.out).mono ?_);(case side1 => exact cb HR0_1 HB);(case side2 => exact HC0_1.out);rintro e w' ⟨rfl,⟨nd,rfl⟩⟩))
     go_meet
     case rel => exact ⟨_,(true),(by first|rfl|(simp;done)|(simp [*];done)),H',⟨by first|omega|exact Nat.le_refl _⟩,⟨kx BK593⟩,⟨bg HB GE593⟩⟩
   ·replace c8 := Bool.eq_false_iff.mpr c8
    subst c8
    rw [if_neg (show ¬ (false = true) by decide)] at H
    have H' := am H
    clear H
    have hcz36_0 := bc BK593 0
    have hcz36_1 := bc BK593 1
    have hcz36_2 := bc BK593 2
    have hcz36_3 := bc BK593 3
    have hfz36_0 := bf BK593 0
    have hfz36_1 := bf BK593 1
    have hfz36_2 := bf BK593 2
    have hfz36_3 := bf BK593 3
    go_wp2_with (first|((with_reducible refine gate_callee (f := 13) rfl ?_);refine goesL_ (some 13) rfl rfl Try.func13 (by kernel_rfl) rfl #[.int .u64 a0_0] rfl (by (try simp only [List.map_toArray,List.map_cons,List.map_nil]);first|done|rfl|(simp only [List.length_drop,List.length_take];rfl)) ?_;(with_reducible refine (privityref01_Supported.calls k a0_0 false _ A7.out).mono ?_);rintro e w37 ⟨rfl,hb⟩;refine ⟨_,rfl,?_⟩;have n0_ := am (kb BK593 hb);have n1_ := am (below_step (bg HB GE593) hb);clear BK593 HB;have BK593 := n0_;have HB := n1_;clear n0_ n1_;(try clear hb);(try clear hb2);(try clear hk);(try clear hi)))
    go_meet
    case rel => exact ⟨_,(true),(by first|rfl|(simp;done)|(simp [*];done)),H',⟨by first|omega|exact Nat.le_refl _⟩,⟨kx BK593⟩,⟨bg HB GE593⟩⟩
  case rest =>
   clear HC4
   try clear c1
   try clear c2
   try clear p2
   try clear c3
   try clear c5
   try clear c8
   try clear c10
   try clear c12
   try clear c13
   try clear c13b0
   try clear c13b1
   try clear c17
   try clear c17b0
   try clear c17b1
   try clear c22
   try clear hcz14_0
   try clear hcz14_1
   try clear hcz14_2
   try clear hcz14_3
   try clear hcz16_0
   try clear hcz16_1
   try clear hcz16_2
   try clear hcz16_3
   try clear hcz18_0
   try clear hcz18_1
   try clear hcz18_2
   try clear hcz18_3
   try clear hcz20_0
   try clear hcz20_1
   try clear hcz20_2
   try clear hcz20_3
   try clear hcz24_0
   try clear hcz24_1
   try clear hcz24_2
   try clear hcz24_3
   try clear hcz26_0
   try clear hcz26_1
   try clear hcz26_2
   try clear hcz26_3
   try clear hcz27_0
   try clear hcz27_1
   try clear hcz27_2
   try clear hcz27_3
   try clear hcz29_0
   try clear hcz29_1
   try clear hcz29_2
   try clear hcz29_3
   try clear hcz30_0
   try clear hcz30_1
   try clear hcz30_2
   try clear hcz30_3
   try clear hcz32_0
   try clear hcz32_1
   try clear hcz32_2
   try clear hcz32_3
   try clear hcz33_0
   try clear hcz33_1
   try clear hcz33_2
   try clear hcz33_3
   try clear hcz35_0
   try clear hcz35_1
   try clear hcz35_2
   try clear hcz35_3
   try clear hcz36_0
   try clear hcz36_1
   try clear hcz36_2
   try clear hcz36_3
   try clear hfz14_0
   try clear hfz14_1
   try clear hfz14_2
   try clear hfz14_3
   try clear hfz16_0
   try clear hfz16_1
   try clear hfz16_2
   try clear hfz16_3
   try clear hfz18_0
   try clear hfz18_1
   try clear hfz18_2
   try clear hfz18_3
   try clear hfz20_0
   try clear hfz20_1
   try clear hfz20_2
   try clear hfz20_3
   try clear hfz24_0
   try clear hfz24_1
   try clear hfz24_2
   try clear hfz24_3
   try clear hfz26_0
   try clear hfz26_1
   try clear hfz26_2
   try clear hfz26_3
   try clear hfz27_0
   try clear hfz27_1
   try clear hfz27_2
   try clear hfz27_3
   try clear hfz29_0
   try clear hfz29_1
   try clear hfz29_2
   try clear hfz29_3
   try clear hfz30_0
   try clear hfz30_1
   try clear hfz30_2
   try clear hfz30_3
   try clear hfz32_0
   try clear hfz32_1
   try clear hfz32_2
   try clear hfz32_3
   try clear hfz33_0
   try clear hfz33_1
   try clear hfz33_2
   try clear hfz33_3
   try clear hfz35_0
   try clear hfz35_1
   try clear hfz35_2
   try clear hfz35_3
   try clear hfz36_0
   try clear hfz36_1
   try clear hfz36_2
   try clear hfz36_3
   obtain ⟨kq,x56_3,rfl,HA,HJ3,BK593,HB⟩ := hcut
   cases kq with
   | zero => exact absurd HA.out (by simp [privitylaw07_HyperinvertibleCompleteMatchesReference.j0])
   | succ kj3 =>
    have H := HA.out
    clear HA
    simp only [privitylaw07_HyperinvertibleCompleteMatchesReference.j0] at H
    by_cases c38 : x56_3 = true
    ·subst c38
     rw [if_pos rfl] at H
     obtain rfl := Option.some.inj H
     go_wp2
     go_ret
     exact ⟨by first|rfl|(simp [errW_none,errW_some] <;> rfl)|(simp [*,errW_none,errW_some] <;> rfl),bg HB GE593⟩
    ·replace c38 := Bool.eq_false_iff.mpr c38
     subst c38
     rw [if_neg (show ¬ (false = true) by decide)] at H
     replace H := Option.bind_eq_some_iff.mp H
     obtain ⟨⟨t600,t601,t602⟩,A390,H⟩ := H
     try dsimp only at H
     have A39 := am A390
     clear A390
     replace H := Option.bind_eq_some_iff.mp H
     obtain ⟨⟨t607,t608,t609⟩,A400,H⟩ := H
     try dsimp only at H
     have A40 := am A400
     clear A400
     by_cases c41 : t602 = t609
     ·rw [if_pos c41] at H
      have c41b0 : (t602 == t609) = true := beq_iff_eq.mpr c41
      have c41b1 : (t602 != t609) = false := bne_eq_false_iff_eq.mpr c41
      clear c41
      replace H := Option.bind_eq_some_iff.mp H
      obtain ⟨t614,A420,H⟩ := H
      try dsimp only at H
      have A42 := am A420
      clear A420
      by_cases c43 : t614 = true
      ·subst c43
       rw [if_pos rfl] at H
       replace H := Option.bind_eq_some_iff.mp H
       obtain ⟨t615,A440,H⟩ := H
       try dsimp only at H
       have A44 := am A440
       clear A440
       obtain rfl := Option.some.inj H
       have hcz45_0 := bc BK593 0
       have hcz45_1 := bc BK593 1
       have hcz45_2 := bc BK593 2
       have hcz45_3 := bc BK593 3
       have hfz45_0 := bf BK593 0
       have hfz45_1 := bf BK593 1
       have hfz45_2 := bf BK593 2
       have hfz45_3 := bf BK593 3
       go_wp2_with (first|((with_reducible refine gate_callee (f := 22) rfl ?_);refine goesL_ (some 66) rfl rfl Try.func22 (by kernel_rfl) rfl #[.int .u64 a0_0,.slice A0_1 l0_1.length c0_1,.slice A0_2 l0_2.length c0_2,.slice A0_3 l0_3.length c0_3] rfl (by (try simp only [List.map_toArray,List.map_cons,List.map_nil]);first|done|rfl|(simp only [List.length_drop,List.length_take];rfl)) ?_;(with_reducible refine (hyperinvertible_Complete.calls a0_0 _ _ l0_1 _ _ l0_2 _ _ l0_3 t600 t601 t602 _ ?side1 ?side2 ?side3 ?side4 ?side5 ?side6 A39.out).mono ?_);(case side1 => exact cb HR0_1 HB);(case side2 => exact HC0_1.out);(case side3 => exact cb HR0_2 HB);(case side4 => exact HC0_2.out);(case side5 => exact cb HR0_3 HB);(case side6 => exact HC0_3.out);rintro e w46 ⟨v603,v605,rfl,ho0,ho1,hb⟩;refine ⟨_,rfl,?_⟩;have n0_ := am (Kd.R_lower ho0 (below_size (bg HB GE593)));have n1_ := am (Kd.R_lower ho1 (below_size (bg HB GE593)));have n2_ := am (kb BK593 hb);have n3_ := am (below_step (bg HB GE593) hb);clear BK593 HB;have HO604 := n0_;have HO606 := n1_;have BK593 := n2_;have HB := n3_;clear n0_ n1_ n2_ n3_;(try clear hb);(try clear hb2);(try clear hk);(try clear hi);(try clear ho0);(try clear ho1);have hcz47_0 := bc BK593 0;have hcz47_1 := bc BK593 1;have hcz47_2 := bc BK593 2;have hcz47_3 := bc BK593 3;have hfz47_0 := bf BK593 0;have hfz47_1 := bf BK593 1;have hfz47_2 := bf BK593 2;have hfz47_3 := bf BK593 3)|((with_reducible refine gate_callee (f := 23) rfl ?_);refine goesL_ (some 79) rfl rfl Try.func23 (by kernel_rfl) rfl #[.int .u64 a0_0,.slice A0_1 l0_1.length c0_1,.slice A0_2 l0_2.length c0_2,.slice A0_3 l0_3.length c0_3] rfl (by (try simp only [List.map_toArray,List.map_cons,List.map_nil]);first|done|rfl|(simp only [List.length_drop,List.length_take];rfl)) ?_;(with_reducible refine (privityref07_Complete.calls kj3 a0_0 _ _ l0_1 _ _ l0_2 _ _ l0_3 t607 t608 t609 _ ?side1 ?side2 ?side3 ?side4 ?side5 ?side6 A40.out).mono ?_);(case side1 => exact cb HR0_1 HB);(case side2 => exact HC0_1.out);(case side3 => exact cb HR0_2 HB);(case side4 => exact HC0_2.out);(case side5 => exact cb HR0_3 HB);(case side6 => exact HC0_3.out);rintro e w48 ⟨v610,v612,rfl,ho0,ho1,hb⟩;refine ⟨_,rfl,?_⟩;have n0_ := am (Kd.R_mono (Kd.R_told (Kd.R_told (Kd.R_old (rr HO604) hb) (Kd.R_base ho0)) (Kd.R_base ho1)) (fun _ h_ => h_.1));have n1_ := am (Kd.R_mono (Kd.R_told (Kd.R_told (Kd.R_old (rr HO606) hb) (Kd.R_base ho0)) (Kd.R_base ho1)) (fun _ h_ => h_.1));have n2_ := am (Kd.R_lower (Kd.R_new' (Kd.R_new' ho0 (Kd.R_lt (rr HO604))) (Kd.R_lt (rr HO606))) (below_size (bg HB GE593)));have n3_ := am (Kd.R_lower (Kd.R_new' (Kd.R_new' ho1 (Kd.R_lt (rr HO604))) (Kd.R_lt (rr HO606))) (below_size (bg HB GE593)));have n4_ := am (kb BK593 hb);have n5_ := am (below_step (bg HB GE593) hb);clear HO604 HO606 BK593 HB;have HO604 := n0_;have HO606 := n1_;have HO611 := n2_;have HO613 := n3_;have BK593 := n4_;have HB := n5_;clear n0_ n1_ n2_ n3_ n4_ n5_;(try clear hb);(try clear hb2);(try clear hk);(try clear hi);(try clear ho0);(try clear ho1);obtain ⟨Ao49,co49,eo49⟩ := Kd.R_slice HO604.out;subst eo49;obtain ⟨Ao50,co50,eo50⟩ := Kd.R_slice HO611.out;subst eo50)|(go_at_call 24;(with_reducible refine (privityref05_Same.calls kj3 _ _ t600 _ _ t607 true _ ?side1 ?side2 ?side3 ?side4 A42.out).mono ?_);(case side1 => exact cr HO604);(case side2 => exact (Kd.R_reads' HO604.out).2.1);(case side3 => exact cr HO611);(case side4 => exact (Kd.R_reads' HO611.out).2.1);rintro e w' ⟨rfl,⟨nd,rfl⟩⟩;obtain ⟨Ao51,co51,eo51⟩ := Kd.R_slice HO606.out;subst eo51;obtain ⟨Ao52,co52,eo52⟩ := Kd.R_slice HO613.out;subst eo52)|(go_at_call 24;(with_reducible refine (privityref05_Same.calls kj3 _ _ t601 _ _ t608 t615 _ ?side1 ?side2 ?side3 ?side4 A44.out).mono ?_);(case side1 => exact cr HO606);(case side2 => exact (Kd.R_reads' HO606.out).2.1);(case side3 => exact cr HO613);(case side4 => exact (Kd.R_reads' HO613.out).2.1);rintro e w' ⟨rfl,⟨nd,rfl⟩⟩))
       go_ret
       exact ⟨by first|rfl|(simp [errW_none,errW_some] <;> rfl)|(simp [*,errW_none,errW_some] <;> rfl),bg HB GE593⟩
      ·replace c43 := Bool.eq_false_iff.mpr c43
       subst c43
       rw [if_neg (show ¬ (false = true) by decide)] at H
       exact absurd (Option.some.inj H) (by rw [HRT_.out];simp)
     ·rw [if_neg c41] at H
      have c41b0 : (t602 == t609) = false := beq_eq_false_iff_ne.mpr c41
      have c41b1 : (t602 != t609) = true := bne_iff_ne.mpr c41
      exact absurd (Option.some.inj H) (by rw [HRT_.out];simp)
 ·replace c3 := Bool.eq_false_iff.mpr c3
  subst c3
  rw [if_neg (show ¬ (false = true) by decide)] at H
  exact absurd (Option.some.inj H) (by rw [HRT_.out];simp)
end Go.Proofs.Ytmdoaijkaaaglaa.Pr
end
section
namespace Go.Proofs.Ytmdoaijkaaaglaa.Pl
open Go.Proofs.Ytmdoaijkaaaglaa.Fd
section
variable {p : Nat} [NeZero p]
def ev (x : Fin p) : List (Fin p) → Fin p
 | [] => 0
 | c :: f => c + x * ev x f
end
section
variable {p : Nat} [NeZero p]
def mono (x : Fin p) : Nat → Fin p
 | 0 => 1
 | n + 1 => x * mono x n
def tf (p : Nat) [NeZero p] (a : Int) : Fin p := ⟨(a % (p : Int)).toNat,by
 have h : (0 : Int) < p := by have := Nat.pos_of_neZero p;omega
 have := Int.emod_lt_of_pos a h
 have := Int.emod_nonneg a (by omega : (p : Int) ≠ 0)
 omega⟩
theorem tf_val (a : Int) : (((tf p a).val : Nat) : Int) = a % (p : Int) := by
 have h : (0 : Int) < p := by have := Nat.pos_of_neZero p;omega
 show (((a % (p : Int)).toNat : Nat) : Int) = _
 rw [Int.toNat_of_nonneg (Int.emod_nonneg a (by omega))]
theorem tf_eq {a : Int} {x : Fin p} (h : ((x.val : Nat) : Int) = a % (p : Int)) : tf p a = x := by
 apply Fin.ext
 have := tf_val (p := p) a
 omega
theorem tf_of_emod {a b : Int} (h : a % (p : Int) = b % (p : Int)) : tf p a = tf p b := tf_eq (by rw [tf_val,h])
theorem tf_emod (a : Int) : tf p (a % (p : Int)) = tf p a := tf_of_emod (Int.emod_emod_of_dvd _ (Int.dvd_refl _))
theorem tf_add (a b : Int) : tf p (a + b) = tf p a + tf p b := by
 refine tf_eq ?_
 rw [Fin.val_add,Int.natCast_emod,Int.natCast_add,tf_val,tf_val,← Int.add_emod]
theorem tf_mul (a b : Int) : tf p (a * b) = tf p a * tf p b := by
 refine tf_eq ?_
 rw [Fin.val_mul,Int.natCast_emod,Int.natCast_mul,tf_val,tf_val,← Int.mul_emod]
theorem tf_zero : tf p 0 = 0 := tf_eq (by simp)
theorem tf_one : tf p 1 = 1 := by
 refine tf_eq ?_
 rw [show ((1 : Fin p).val) = 1 % p from rfl];simp
theorem tf_neg (a : Int) : tf p (-a) = - tf p a := by
 have h : tf p (-a) + tf p a = 0 := by rw [← tf_add,show -a + a = 0 from by omega,tf_zero]
 grind
theorem tf_sub (a b : Int) : tf p (a - b) = tf p a - tf p b := by rw [Int.sub_eq_add_neg,tf_add,tf_neg];grind
theorem tf_inj {a b : Int} (ha : 0 ≤ a ∧ a < (p : Int)) (hb : 0 ≤ b ∧ b < (p : Int)) (h : tf p a = tf p b) : a = b := by
 have h1 := tf_val (p := p) a
 rw [h,tf_val,Int.emod_eq_of_lt ha.1 ha.2,Int.emod_eq_of_lt hb.1 hb.2] at h1
 exact h1.symm
end
end Go.Proofs.Ytmdoaijkaaaglaa.Pl
end
section
namespace Go.Proofs.Ytmdoaijkaaaglaa.E
open Go.RowKit Go.Proofs.Ytmdoaijkaaaglaa.Pr Go.Proofs.Ytmdoaijkaaaglaa.Hw Go.Proofs.Ytmdoaijkaaaglaa.Pl Go.Proofs.YtmdoaijkaaaglaaW.PrintWords Go.Proofs.YtmdoaijkaaaglaaW.PrintLast Go.Proofs.YtmdoaijkaaaglaaW.PrintMore
theorem nz {p : Int} (hp : Supp p) : NeZero p.toNat := ⟨by have := hp.bd;omega⟩
theorem cast_p {p : Int} (hp : Supp p) : ((p.toNat : Nat) : Int) = p := by have := hp.bd;omega
section
variable {p : Int} (hp : Supp p) [NeZero p.toNat]
def T (p : Int) [NeZero p.toNat] (a : Int) : Fin p.toNat := tf p.toNat a
def M (p : Int) [NeZero p.toNat] (l : List Int) : List (Fin p.toNat) := l.map (T p)
include hp in
theorem T_mod (a : Int) : T p (a % p) = T p a := by
 have h := tf_emod (p := p.toNat) a
 rw [cast_p hp] at h;exact h
theorem T_add (a b : Int) : T p (a + b) = T p a + T p b := tf_add a b
theorem T_mul (a b : Int) : T p (a * b) = T p a * T p b := tf_mul a b
theorem T_sub (a b : Int) : T p (a - b) = T p a - T p b := tf_sub a b
theorem T_zero : T p 0 = 0 := tf_zero
theorem T_one : T p 1 = 1 := tf_one
include hp in
theorem T_inj {a b : Int} (ha : Res p a) (hb : Res p b) (h : T p a = T p b) : a = b :=
 tf_inj (p := p.toNat) (by rw [cast_p hp];exact ha) (by rw [cast_p hp];exact hb) h
include hp in
theorem T_inv {a : Int} (ha : Res p a) (h0 : a ≠ 0) : T p a * T p (invp p a) = 1 := by
 rw [← T_mul,← T_one,← T_mod hp (a * invp p a),inv_spec hp ha h0]
include hp in
theorem one_ne : (1 : Fin p.toNat) ≠ 0 := by
 intro h
 rw [← T_one,← T_zero] at h
 have hb := hp.bd
 have := T_inj hp (a := 1) (b := 0) ⟨by omega,by omega⟩ ⟨by omega,by omega⟩ h
 omega
end
section
variable {p : Int} (hp : Supp p) [NeZero p.toNat]
end
section
variable {p : Int} (hp : Supp p) [NeZero p.toNat]
def sumF (f : Nat → Fin p.toNat) : Nat → Fin p.toNat
 | 0 => 0
 | n + 1 => sumF f n + f n
theorem sumF_congr {f g : Nat → Fin p.toNat} : ∀ n,(∀ i,i < n → f i = g i) → sumF f n = sumF g n
 | 0,_ => rfl
 | n + 1,h => by simp only [sumF];rw [sumF_congr n (fun i hi => h i (by omega)),h n (by omega)]
theorem sumF_one {f : Nat → Fin p.toNat} {j : Nat} : ∀ n,(∀ i,i < n → i ≠ j → f i = 0) → sumF f n = if j < n then f j else 0
 | 0,_ => rfl
 | n + 1,h => by
  simp only [sumF]
  rw [sumF_one n (fun i hi => h i (by omega))]
  by_cases hj : j = n
  ·subst hj;rw [if_neg (by omega),if_pos (by omega)];grind
  ·rw [h n (by omega) (fun e => hj e.symm)]
   by_cases h2 : j < n
   ·rw [if_pos h2,if_pos (by omega)];grind
   ·rw [if_neg h2,if_neg (by omega)];grind
def oth (p : Int) [NeZero p.toNat] (xs : List Int) (i : Nat) : List (Fin p.toNat) := M p (othersN xs i xs.length)
end
end Go.Proofs.Ytmdoaijkaaaglaa.E
end
section
namespace Go.Proofs.Ytmdoaijkaaaglaa.Pr
open Go.RowKit Go.Proofs.YtmdoaijkaaaglaaW.PrintWords Go.Proofs.YtmdoaijkaaaglaaW.PrintLast Go.Proofs.YtmdoaijkaaaglaaW.PrintMore
attribute [local go_sem] max2_int min2_int max_two min_two max_three min_three max_four min_four
open Go.Proofs.Ytmdoaijkaaaglaa.Hw


end Go.Proofs.Ytmdoaijkaaaglaa.Pr
end
section
namespace Go.Proofs.Ytmdoaijkaaaglaa.E
open Go.RowKit Go.Proofs.Ytmdoaijkaaaglaa.Pr Go.Proofs.Ytmdoaijkaaaglaa.Hw Go.Proofs.Ytmdoaijkaaaglaa.Pl Go.Proofs.YtmdoaijkaaaglaaW.PrintWords Go.Proofs.YtmdoaijkaaaglaaW.PrintLast Go.Proofs.YtmdoaijkaaaglaaW.PrintMore
theorem getD_out (l : List Int) (j : Nat) (h : l.length ≤ j) : l.getD j 0 = 0 := by rw [List.getD_eq_getElem?_getD,List.getElem?_eq_none h];rfl
theorem list_ext_getD {a b : List Int} (hl : a.length = b.length) (h : ∀ i,a.getD i 0 = b.getD i 0) : a = b := by
 apply List.ext_getElem hl
 intro i h1 h2
 have := h i
 rwa [Hw.getD_in _ _ h1,Hw.getD_in _ _ h2] at this
end Go.Proofs.Ytmdoaijkaaaglaa.E
end
section
namespace Go.Proofs.Ytmdoaijkaaaglaa.Pr
open Go.RowKit Go.Proofs.YtmdoaijkaaaglaaW.PrintWords Go.Proofs.YtmdoaijkaaaglaaW.PrintLast Go.Proofs.YtmdoaijkaaaglaaW.PrintMore
attribute [local go_sem] max2_int min2_int max_two min_two max_three min_three max_four min_four
open Go.Proofs.Ytmdoaijkaaaglaa.Hw

end Go.Proofs.Ytmdoaijkaaaglaa.Pr
end
section
namespace Go.Proofs.Ytmdoaijkaaaglaa.E
open Go.RowKit Go.Proofs.Ytmdoaijkaaaglaa.Pr Go.Proofs.Ytmdoaijkaaaglaa.Hw Go.Proofs.Ytmdoaijkaaaglaa.Pl Go.Proofs.YtmdoaijkaaaglaaW.PrintWords Go.Proofs.YtmdoaijkaaaglaaW.PrintLast Go.Proofs.YtmdoaijkaaaglaaW.PrintMore
theorem allLoop {F : Nat → Int → Option Bool} {n : Nat} {Q : Nat → Prop} [DecidablePred Q] (hend : ∀ k,F (k + 1) (n : Int) = some true) (hyes : ∀ i,i < n → Q i → ∀ r,Ev (fun k => F k ((i + 1 : Nat) : Int)) r → Ev (fun k => F k (i : Int)) r)
  (hno : ∀ i,i < n → ¬ Q i → Ev (fun k => F k (i : Int)) false) (r : Bool) (hr : r = true ↔ ∀ i,i < n → Q i) : Ev (fun k => F k ((0 : Nat) : Int)) r := by
 have main : ∀ d i,i + d = n → ∀ r : Bool,(r = true ↔ ∀ j,i ≤ j → j < n → Q j) → Ev (fun k => F k (i : Int)) r := by
  intro d
  induction d with
  | zero =>
   intro i hi r hr
   have : i = n := by omega
   subst this
   have : r = true := hr.2 (fun j h1 h2 => by omega)
   subst this
   exact Ev.step (fun k => hend k) (Ev.now _)
  | succ d ih =>
   intro i hi r hr
   by_cases h : Q i
   ·refine hyes i (by omega) h r (ih (i + 1) (by omega) r ⟨fun e j h1 h2 => hr.1 e j (by omega) h2,fun e => hr.2 fun j h1 h2 => ?_⟩)
    by_cases e2 : j = i
    ·rw [e2];exact h
    ·exact e j (by omega) h2
   ·have : r = false := by
     cases r with
     | false => rfl
     | true => exact absurd (hr.1 rfl i (Nat.le_refl _) (by omega)) h
    subst this
    exact hno i (by omega) h
 exact main n 0 (by omega) r ⟨fun e j _ h2 => hr.1 e j h2,fun e => hr.2 fun j h => e j (Nat.zero_le _) h⟩
theorem same_ev (a b : List Int) (ha : a.length ≤ 1000000000) : Ev (fun k => privityref05_Same.f k a b) (decide (a = b)) := by
 by_cases hl : a.length = b.length
 ·have h := allLoop (F := fun k i => privityref05_Same.l0 k a b i) (n := a.length) (Q := fun i => a.getD i 0 = b.getD i 0) (fun k => ?_) (fun i hi hq r h => ?_) (fun i hi hq => ?_) (decide (a = b)) ?_
  ·refine h.congr fun k => ?_
   unfold privityref05_Same.f
   rw [if_pos (by omega)];rfl
  ·simp only [privityref05_Same.l0]
   rw [if_neg (by omega)]
  ·refine Ev.step (fun k => ?_) h
   simp only [privityref05_Same.l0]
   rw [if_pos (by omega),if_pos (by omega),if_pos (by omega),rd_nat,rd_nat,if_pos hq,wnat (by omega)]
  ·refine Ev.step (fun k => ?_) (Ev.now _)
   simp only [privityref05_Same.l0]
   rw [if_pos (by omega),if_pos (by omega),if_pos (by omega),rd_nat,rd_nat,if_neg hq]
  ·rw [decide_eq_true_iff]
   refine ⟨fun e i _ => by rw [e],fun h => list_ext_getD hl fun i => ?_⟩
   by_cases hi : i < a.length
   ·exact h i hi
   ·rw [getD_out a i (by omega),getD_out b i (by omega)]
 ·have : decide (a = b) = false := decide_eq_false fun e => hl (by rw [e])
  rw [this]
  refine Ev.congr (fun k => ?_) (Ev.now _)
  unfold privityref05_Same.f
  rw [if_neg (by omega)]
def belowB (p : Int) (l : List Int) : Bool := l.all fun x => decide (x < p)
theorem below_ev (p : Int) (l : List Int) (hl : l.length ≤ 1000000000) : Ev (fun k => privityref05_Below.f k p l) (belowB p l) := by
 have h := allLoop (F := fun k i => privityref05_Below.l0 k p l i) (n := l.length) (Q := fun i => l.getD i 0 < p) (fun k => ?_) (fun i hi hq r h => ?_) (fun i hi hq => ?_) (belowB p l) ?_
 ·exact h
 ·simp only [privityref05_Below.l0]
  rw [if_neg (by omega)]
 ·refine Ev.step (fun k => ?_) h
  simp only [privityref05_Below.l0]
  rw [if_pos (by omega),if_pos (by omega),rd_nat,if_neg (by omega),wnat (by omega)]
 ·refine Ev.step (fun k => ?_) (Ev.now _)
  simp only [privityref05_Below.l0]
  rw [if_pos (by omega),if_pos (by omega),rd_nat,if_pos (by omega)]
 ·unfold belowB
  rw [List.all_eq_true]
  refine ⟨fun h i hi => ?_,fun h x hx => ?_⟩
  ·rw [Hw.getD_in _ _ hi];exact of_decide_eq_true (h _ (List.getElem_mem hi))
  ·obtain ⟨i,hi,rfl⟩ := List.getElem_of_mem hx
   have := h i hi
   rw [Hw.getD_in _ _ hi] at this
   exact decide_eq_true this
theorem below_res {p : Int} {l : List Int} (h : belowB p l = true) (hw : ∀ x ∈ l,0 ≤ x) : ∀ x ∈ l,Res p x := fun x hx => ⟨hw x hx,of_decide_eq_true (List.all_eq_true.1 h x hx)⟩
theorem places_ev (l : List S56) (hl : l.length ≤ 1000000000) : Ev (fun k => privityref05_Places.f k l) (xsOf l) := by
 have := up (Q := fun i => Ev (fun k => privityref05_Places.l0 k l (xsOf (l.take i)) (i : Int)) (xsOf l)) (n := l.length) ?_ ?_
 ·exact this
 ·rw [List.take_length]
  refine Ev.step (fun k => ?_) (Ev.now _)
  simp only [privityref05_Places.l0]
  rw [if_neg (by omega)]
 ·intro i hi h
  rw [← xsOf_next l i hi] at h
  refine Ev.step (fun k => ?_) h
  simp only [privityref05_Places.l0]
  rw [if_pos (by omega),if_pos (by omega),if_pos (by rw [xsOf_take_length l i (by omega)];omega),wnat (by omega)]
section
variable {p : Int} (hp : Supp p) [NeZero p.toNat]
end

theorem wf64 {x : Int} (h : (Lit.int .u64 x).wf = true) : 0 ≤ x ∧ x < 18446744073709551616 := by
 have h1 : IntKind.u64.min ≤ x ∧ x ≤ IntKind.u64.max := by simpa [Lit.wf] using h
 have e1 : IntKind.u64.min = 0 := by decide
 have e2 : IntKind.u64.max = 18446744073709551615 := by decide
 omega
theorem ev_if {α : Type} {A : Nat → Option Bool} {b : Bool} (hA : Ev A b) {X Y : Nat → Option α} {r : α} (hx : b = true → Ev X r) (hy : b = false → Ev Y r) : Ev (fun k => (A k).bind fun t => if t = true then X k else Y k) r := by
 refine Ev.bind (f := fun k t => if t = true then X k else Y k) hA ?_
 cases b with
 | true => exact (hx rfl).congr fun k => if_pos rfl
 | false => exact (hy rfl).congr fun k => if_neg (by simp)
theorem ev_ite {α : Type} {c : Prop} [Decidable c] {X Y : Nat → Option α} {r : α} (hx : c → Ev X r) (hy : ¬ c → Ev Y r) : Ev (fun k => if c then X k else Y k) r := by
 by_cases h : c
 ·exact (hx h).congr fun k => if_pos h
 ·exact (hy h).congr fun k => if_neg h
theorem ev_now_bind {α β : Type} {x : Option α} {a : α} (hx : x = some a) {f : Nat → α → Option β} {r : β} (h : Ev (fun k => f k a) r) : Ev (fun k => x.bind (f k)) r := by subst hx;exact h
def accI (p : Int) (g : Nat → Int) : Nat → Int
 | 0 => 0
 | n + 1 => (accI p g n + g n) % p
theorem accI_T {p : Int} (hp : Supp p) [NeZero p.toNat] (g : Nat → Int) : ∀ n,T p (accI p g n) = sumF (fun i => T p (g i)) n
 | 0 => T_zero
 | n + 1 => by rw [accI,T_mod hp,T_add,accI_T hp g n];rfl
theorem awake07 : Ev (fun k => privitylaw07_awake.f k) true := Ev.of (fun k => privitylaw07_awake.mono _) (k := 60) (by kernel_rfl)
def pz (a n : Nat) : List Int := (List.range n).map fun (i : Nat) => ((a + i : Nat) : Int)
theorem dotP_acc (p : Int) (r l : List Int) : ∀ n,dotP p r l n = accI p (fun i => r.getD i 0 * l.getD i 0 % p) n
 | 0 => rfl
 | n + 1 => by
  show (dotP p r l n + _) % p = (accI p _ n + _) % p
  rw [dotP_acc p r l n]
theorem ne_bool {a b : Int} (h : a = b) : (a != b) = false := by rw [h];simp
end Go.Proofs.Ytmdoaijkaaaglaa.E
end
section
namespace Go.Proofs.Ytmdoaijkaaaglaa.E
open Go.Proofs.Ytmdoaijkaaaglaa.Hw Go.Proofs.Ytmdoaijkaaaglaa.Pl
theorem getD_some {rs : List (List Int)} {i : Nat} {r : List Int} (h : rs[i]? = some r) : rs.getD i [] = r := by rw [List.getD_eq_getElem?_getD,h];rfl
theorem getD_none {rs : List (List Int)} {i : Nat} (h : rs.length ≤ i) : rs.getD i [] = [] := by rw [List.getD_eq_getElem?_getD,List.getElem?_eq_none h];rfl
def ent (rs : List (List Int)) (i j : Nat) : Int := (rs.getD i []).getD j 0
theorem ent_res {p : Int} (hp : Supp p) {n : Nat} {rs : List (List Int)} (h : RowsOk p n rs) (i j : Nat) : Res p (ent rs i j) := by
 have hb := hp.bd
 have z : Res p 0 := ⟨Int.le_refl _,by omega⟩
 unfold ent
 by_cases hi : i < rs.length
 ·rw [getD_row hi]
  by_cases hj : j < rs[i].length
  ·rw [List.getD_eq_getElem?_getD,List.getElem?_eq_getElem hj];exact (h.at hi).2 _ (List.getElem_mem hj)
  ·rw [List.getD_eq_getElem?_getD,List.getElem?_eq_none (by omega)];exact z
 ·rw [getD_none (by omega)];exact z
theorem ent_at {rs : List (List Int)} {i j : Nat} {r : List Int} (h : rs[i]? = some r) : ent rs i j = r.getD j 0 := by
 unfold ent
 rw [getD_some h]
theorem scale_at {p k : Int} {row : List Int} {j : Nat} (h : j < row.length) : (scaleR p k row).getD j 0 = k * row.getD j 0 % p := by
 unfold scaleR
 rw [List.getD_eq_getElem?_getD,List.getElem?_map,List.getElem?_eq_getElem h,List.getD_eq_getElem?_getD,List.getElem?_eq_getElem h];rfl
theorem elim_at {p k : Int} {prow row : List Int} {j : Nat} (h1 : j < row.length) (h2 : j < prow.length) : (elimR p k prow row).getD j 0 = (row.getD j 0 - k * prow.getD j 0 % p) % p := by
 rw [List.getD_eq_getElem?_getD,elimR_at h1 h2,List.getD_eq_getElem?_getD,List.getElem?_eq_getElem h1,List.getD_eq_getElem?_getD,List.getElem?_eq_getElem h2];rfl
def sgm (q r i : Nat) : Nat := if i = r then q else if i = q then r else i
theorem swap_ent {p : Int} {n : Nat} {rs : List (List Int)} (h : RowsOk p n rs) {q r : Nat} (hq : q < rs.length) (hr : r < rs.length) (i j : Nat) : ent (if q = r then rs else swapR rs q r) i j = ent rs (sgm q r i) j := by
 unfold sgm
 by_cases e : q = r
 ·rw [if_pos e]
  by_cases e1 : i = r
  ·rw [if_pos e1,e1,e]
  ·rw [if_neg e1,if_neg (by omega)]
 ·rw [if_neg e]
  unfold ent swapR
  by_cases e1 : i = r
  ·subst e1
   rw [if_pos rfl,getD_some (List.getElem?_set_self (by rw [List.length_set];exact hr))]
  ·rw [if_neg e1]
   by_cases e2 : i = q
   ·subst e2
    rw [if_pos rfl,getD_some (show _ = some (rs.getD r []) from by rw [List.getElem?_set_ne (fun h => e1 h.symm),List.getElem?_set_self hq])]
   ·rw [if_neg e2]
    congr 1
    rw [List.getD_eq_getElem?_getD,List.getElem?_set_ne (fun h => e1 h.symm),List.getElem?_set_ne (fun h => e2 h.symm),← List.getD_eq_getElem?_getD]
section
variable {p : Int} (hp : Supp p) {m n : Nat} {s : List (List Int) × List Int × Int} (ok : RedOk p m n s) {c : Nat}
def pvX (s : List (List Int) × List Int × Int) (c : Nat) : Int := ent s.1 (fndP s.1 c s.2.1.length) c
def pvR (p : Int) (s : List (List Int) × List Int × Int) (c j : Nat) : Int := invp p (pvX s c) * ent s.1 (fndP s.1 c s.2.1.length) j % p
include hp ok in
theorem pvX_ok (hq : fndP s.1 c s.2.1.length < s.1.length) : Res p (pvX s c) ∧ pvX s c ≠ 0 := by
 refine ⟨ent_res hp ok.rows _ _,?_⟩
 unfold pvX
 rw [ent_at (List.getElem?_eq_getElem hq)]
 exact fndP_nz hq
include hp ok in
theorem step_ent (hq : fndP s.1 c s.2.1.length < s.1.length) (i j : Nat) (hi : i < m) (hj : j < n) (hc : c < n) :
  ent (redStep p s c).1 i j = if i = s.2.1.length then pvR p s c j else (ent s.1 (sgm (fndP s.1 c s.2.1.length) s.2.1.length i) j - ent s.1 (sgm (fndP s.1 c s.2.1.length) s.2.1.length i) c * pvR p s c j % p) % p := by
 obtain ⟨q,hqe⟩ : ∃ q,q = fndP s.1 c s.2.1.length := ⟨_,rfl⟩
 have hge : s.2.1.length ≤ q := by rw [hqe];exact fndP_ge _ _ _
 obtain ⟨r,hre⟩ : ∃ r,r = s.2.1.length := ⟨_,rfl⟩
 have hm := ok.len
 have hr : r < s.1.length := by omega
 obtain ⟨rs1,h1⟩ : ∃ x,x = (if q = r then s.1 else swapR s.1 q r) := ⟨_,rfl⟩
 have hent : ∀ i j,ent rs1 i j = ent s.1 (sgm q r i) j := fun i j => by rw [h1];exact swap_ent ok.rows (by rw [hqe];exact hq) hr i j
 have hok1 : RowsOk p n rs1 ∧ rs1.length = m := by
  rw [h1];split
  ·exact ⟨ok.rows,ok.len⟩
  ·exact ⟨swapR_ok ok.rows (by rw [hqe];exact hq) hr,by rw [swapR_len];exact ok.len⟩
 have hst : (redStep p s c).1 = elimAll p c r (scaleR p (invp p ((rs1.getD r []).getD c 0)) (rs1.getD r [])) (rs1.set r (scaleR p (invp p ((rs1.getD r []).getD c 0)) (rs1.getD r []))) := by
  unfold redStep
  rw [if_pos hq,h1,hqe,hre]
 have hx : (rs1.getD r []).getD c 0 = pvX s c := by
  have := hent r c
  unfold ent at this
  rw [this]
  unfold pvX sgm
  rw [if_pos rfl,hqe];rfl
 have hrl : (rs1.getD r []).length = n := by rw [getD_row (by omega)];exact (hok1.1.at (by omega)).1
 have hprow : ∀ j,j < n → (scaleR p (invp p (pvX s c)) (rs1.getD r [])).getD j 0 = pvR p s c j := fun j hj => by
  rw [scale_at (by omega)]
  have := hent r j
  unfold ent at this
  rw [this]
  unfold pvR sgm
  rw [if_pos rfl,hqe];rfl
 rw [hx] at hst
 have hpl : (scaleR p (invp p (pvX s c)) (rs1.getD r [])).length = n := by rw [scaleR_len];exact hrl
 obtain ⟨prow,hpr⟩ : ∃ x,x = scaleR p (invp p (pvX s c)) (rs1.getD r []) := ⟨_,rfl⟩
 rw [← hpr] at hst hprow hpl
 rw [hst,← hqe,← hre]
 have hi1 : i < (rs1.set r prow).length := by rw [List.length_set];omega
 rw [ent_at (elimAll_get p c r prow (rs1.set r prow) hi1)]
 by_cases e : i = r
 ·subst e
  rw [if_pos rfl]
  unfold elimRow
  rw [if_pos (Or.inl rfl)]
  rw [List.getElem_set_self,hprow j hj]
 ·rw [if_neg e]
  have hrow : (rs1.set r prow)[i] = rs1[i]'(by omega) := by rw [List.getElem_set_ne (fun h => e h.symm)]
  have hli := (hok1.1.at (show i < rs1.length by omega)).1
  have hri := (hok1.1.at (show i < rs1.length by omega)).2
  have hej : ∀ j,(rs1[i]'(by omega)).getD j 0 = ent s.1 (sgm q r i) j := fun j => by
   rw [← hent]
   rw [ent_at (List.getElem?_eq_getElem (show i < rs1.length by omega))]
  rw [hrow]
  unfold elimRow
  by_cases e0 : (rs1[i]'(by omega)).getD c 0 = 0
  ·rw [if_pos (Or.inr e0),hej,← hej c,e0,Int.zero_mul,Int.zero_emod,Int.sub_zero]
   exact (Res.eq (by rw [← hent];exact ent_res hp hok1.1 _ _)).symm
  ·rw [if_neg (by intro h;rcases h with h|h;exact e h;exact e0 h),elim_at (by omega) (by omega),hej,hej,hprow j hj]
theorem step_skip (hq : ¬ fndP s.1 c s.2.1.length < s.1.length) : redStep p s c = s := by unfold redStep;rw [if_neg hq]
theorem step_piv (hq : fndP s.1 c s.2.1.length < s.1.length) : (redStep p s c).2.1 = s.2.1 ++ [(c : Int)] := by unfold redStep;rw [if_pos hq]
end
def lf (p : Int) [NeZero p.toNat] (rs : List (List Int)) (i : Nat) (x : Nat → Fin p.toNat) : Nat → Fin p.toNat
 | 0 => 0
 | n + 1 => lf p rs i x n + T p (ent rs i n) * x n
theorem lf_lin {p : Int} [NeZero p.toNat] {rs rs1 rs2 : List (List Int)} {i i1 i2 : Nat} {x : Nat → Fin p.toNat} (a b : Fin p.toNat) : ∀ n,(∀ j,j < n → T p (ent rs i j) = a * T p (ent rs1 i1 j) + b * T p (ent rs2 i2 j)) → lf p rs i x n = a * lf p rs1 i1 x n + b * lf p rs2 i2 x n
 | 0,_ => by
  show (0 : Fin p.toNat) = a * 0 + b * 0
  grind
 | n + 1,h => by
  show _ + _ = a * (_ + _) + b * (_ + _)
  rw [lf_lin a b n (fun j hj => h j (by omega)),h n (by omega)]
  grind
def Ker (p : Int) [NeZero p.toNat] (rs : List (List Int)) (m n : Nat) (x : Nat → Fin p.toNat) : Prop := ∀ i,i < m → lf p rs i x n = 0
theorem step_ker {p : Int} (hp : Supp p) [NeZero p.toNat] {m n : Nat} {s : List (List Int) × List Int × Int} (ok : RedOk p m n s) {c : Nat} (hc : c < n) (x : Nat → Fin p.toNat) : Ker p (redStep p s c).1 m n x ↔ Ker p s.1 m n x := by
 by_cases hq : fndP s.1 c s.2.1.length < s.1.length
 ·have hm := ok.len
  have hge := fndP_ge s.1 c s.2.1.length
  obtain ⟨hxr,hx0⟩ := pvX_ok hp ok hq
  have hinv := T_inv hp hxr hx0
  have hst := fun i j hi hj => step_ent hp ok hq i j hi hj hc
  obtain ⟨q,hqe⟩ : ∃ q,q = fndP s.1 c s.2.1.length := ⟨_,rfl⟩
  obtain ⟨r,hre⟩ : ∃ r,r = s.2.1.length := ⟨_,rfl⟩
  have hpv : ∀ j,T p (pvR p s c j) = T p (invp p (pvX s c)) * T p (ent s.1 q j) := fun j => by unfold pvR;rw [T_mod hp,T_mul,hqe]
  rw [← hqe,← hre] at hst
  have hr : r < m := by omega
  have hqm : q < m := by omega
  have e1 : lf p (redStep p s c).1 r x n = T p (invp p (pvX s c)) * lf p s.1 q x n := by
   have := lf_lin (p := p) (rs := (redStep p s c).1) (i := r) (rs1 := s.1) (i1 := q) (rs2 := s.1) (i2 := q) (x := x) (T p (invp p (pvX s c))) 0 n (fun j hj => by
    rw [hst r j hr hj,if_pos rfl,hpv];grind)
   rw [this];grind
  have e2 : ∀ i,i < m → i ≠ r → lf p (redStep p s c).1 i x n = lf p s.1 (sgm q r i) x n - T p (ent s.1 (sgm q r i) c) * T p (invp p (pvX s c)) * lf p s.1 q x n := fun i hi hir => by
   have := lf_lin (p := p) (rs := (redStep p s c).1) (i := i) (rs1 := s.1) (i1 := sgm q r i) (rs2 := s.1) (i2 := q) (x := x) 1 (- (T p (ent s.1 (sgm q r i) c) * T p (invp p (pvX s c)))) n (fun j hj => by
    rw [hst i j hi hj,if_neg hir,T_mod hp,T_sub,T_mod hp,T_mul,hpv];grind)
   rw [this];grind
  have hsg : ∀ i,i < m → i ≠ q → sgm q r (sgm q r i) = i ∧ sgm q r i < m ∧ sgm q r i ≠ r := fun i hi hiq => by
   unfold sgm
   by_cases h1 : i = r
   ·subst h1
    by_cases h2 : q = i
    ·omega
    ·rw [if_pos rfl,if_neg h2,if_pos rfl];exact ⟨rfl,hqm,h2⟩
   ·rw [if_neg h1,if_neg hiq,if_neg h1,if_neg hiq];exact ⟨rfl,hi,h1⟩
  constructor
  ·intro h
   have h1 : lf p s.1 q x n = 0 := by
    have h2 := h r hr
    rw [e1] at h2
    have : T p (pvX s c) * (T p (invp p (pvX s c)) * lf p s.1 q x n) = 0 := by rw [h2];grind
    grind
   intro i hi
   by_cases hiq : i = q
   ·rw [hiq];exact h1
   ·obtain ⟨k1,k2,k3⟩ := hsg i hi hiq
    have h2 := h _ k2
    rw [e2 _ k2 k3,k1,h1] at h2
    grind
  ·intro h
   intro i hi
   have h1 := h q hqm
   by_cases hir : i = r
   ·rw [hir,e1,h1];grind
   ·rw [e2 i hi hir,h1]
    have hs : sgm q r i < m := by unfold sgm;split;exact hqm;split;exact hr;exact hi
    rw [h _ hs];grind
 ·rw [step_skip hq]
theorem red_ker {p : Int} (hp : Supp p) [NeZero p.toNat] {n : Nat} {rs : List (List Int)} (h : RowsOk p n rs) (x : Nat → Fin p.toNat) : ∀ k,k ≤ n → (Ker p (red p rs k).1 rs.length n x ↔ Ker p rs rs.length n x)
 | 0,_ => Iff.rfl
 | k + 1,hk => by rw [red_succ];exact (step_ker hp (red_ok hp h k) (by omega) x).trans (red_ker hp h x k (by omega))
structure Shape (m c : Nat) (s : List (List Int) × List Int × Int) : Prop where
 len : s.2.1.length ≤ c
 piv : ∀ i,i < s.2.1.length → ∃ ci : Nat,s.2.1[i]? = some (ci : Int) ∧ ci < c ∧ ∀ j,j < m → ent s.1 j ci = if j = i then 1 else 0
 zero : ∀ j,s.2.1.length ≤ j → j < m → ∀ c',c' < c → ent s.1 j c' = 0
theorem zsub {p : Int} (hp : Supp p) {e : Int} (he : Res p e) : (e - e * 1 % p) % p = 0 := by rw [Int.mul_one,he.eq,Int.sub_self,Int.zero_emod]
theorem shape_step {p : Int} (hp : Supp p) {m n : Nat} {s : List (List Int) × List Int × Int} (ok : RedOk p m n s) {c : Nat} (hc : c < n) (h : Shape m c s) : Shape m (c + 1) (redStep p s c) := by
 have hm := ok.len
 by_cases hq : fndP s.1 c s.2.1.length < s.1.length
 ·have hge := fndP_ge s.1 c s.2.1.length
  obtain ⟨hxr,hx0⟩ := pvX_ok hp ok hq
  have hst := fun i j hi hj => step_ent hp ok hq i j hi hj hc
  have hpx : pvR p s c c = 1 := by
   unfold pvR
   rw [show ent s.1 (fndP s.1 c s.2.1.length) c = pvX s c from rfl,Int.mul_comm]
   exact inv_spec hp hxr hx0
  obtain ⟨q,hqe⟩ : ∃ q,q = fndP s.1 c s.2.1.length := ⟨_,rfl⟩
  obtain ⟨r,hre⟩ : ∃ r,r = s.2.1.length := ⟨_,rfl⟩
  have hr : r < m := by omega
  have hqm : q < m := by omega
  have hp0 : ∀ j,ent s.1 q j = 0 → pvR p s c j = 0 := fun j hj => by unfold pvR;rw [← hqe,hj,Int.mul_zero,Int.zero_emod]
  rw [← hqe,← hre] at hst
  have hres := ent_res hp ok.rows
  have hc0 : ∀ j,j < m → j ≠ r → ent (redStep p s c).1 j c = 0 := fun j hj hjr => by
   rw [hst j c hj hc,if_neg hjr,hpx];exact zsub hp (hres _ _)
  have hcr : ent (redStep p s c).1 r c = 1 := by rw [hst r c hr hc,if_pos rfl,hpx]
  have hkeep : ∀ j j',j < m → j ≠ r → j' < n → ent s.1 q j' = 0 → ent (redStep p s c).1 j j' = ent s.1 (sgm q r j) j' := fun j j' hj hjr hj' h0 => by
   rw [hst j j' hj hj',if_neg hjr,hp0 j' h0,Int.mul_zero,Int.zero_emod,Int.sub_zero]
   exact (hres _ _).eq
  have hpl := step_piv (p := p) (s := s) (c := c) hq
  refine ⟨?_,?_,?_⟩
  ·rw [hpl,List.length_append,List.length_singleton];have := h.len;omega
  ·intro i hi
   rw [hpl,List.length_append,List.length_singleton] at hi
   rw [hpl]
   by_cases e : i < r
   ·obtain ⟨ci,h1,h2,h3⟩ := h.piv i (by omega)
    refine ⟨ci,by rw [List.getElem?_append_left (by omega)];exact h1,by omega,fun j hj => ?_⟩
    have hq0 : ent s.1 q ci = 0 := by rw [h3 q hqm,if_neg (by omega)]
    by_cases hjr : j = r
    ·rw [hjr,hst r ci hr (by omega),if_pos rfl,hp0 ci hq0,if_neg (by omega)]
    ·rw [hkeep j ci hj hjr (by omega) hq0]
     unfold sgm
     rw [if_neg hjr]
     by_cases hjq : j = q
     ·rw [if_pos hjq,h3 r hr,if_neg (by omega),if_neg (by omega)]
     ·rw [if_neg hjq,h3 j hj]
   ·have hir : i = r := by omega
    refine ⟨c,by rw [List.getElem?_append_right (by omega),show i - s.2.1.length = 0 from by omega];rfl,by omega,fun j hj => ?_⟩
    by_cases hjr : j = r
    ·rw [hjr,hcr,if_pos hir.symm]
    ·rw [hc0 j hj hjr,if_neg (by omega)]
  ·intro j hj hjm c' hc'
   rw [hpl,List.length_append,List.length_singleton] at hj
   by_cases e : c' = c
   ·rw [e];exact hc0 j hjm (by omega)
   ·have hq0 : ent s.1 q c' = 0 := h.zero q (by omega) hqm c' (by omega)
    rw [hkeep j c' hjm (by omega) (by omega) hq0]
    refine h.zero _ ?_ ?_ c' (by omega)
    ·unfold sgm;rw [if_neg (by omega)];split <;> omega
    ·unfold sgm;rw [if_neg (by omega)];split <;> omega
 ·rw [step_skip hq]
  refine ⟨by have := h.len;omega,fun i hi => ?_,fun j hj hjm c' hc' => ?_⟩
  ·obtain ⟨ci,h1,h2,h3⟩ := h.piv i hi
   exact ⟨ci,h1,by omega,h3⟩
  ·by_cases e : c' = c
   ·rw [e,ent_at (List.getElem?_eq_getElem (show j < s.1.length by omega))]
    exact fndP_zero hj (by omega) (by omega)
   ·exact h.zero j hj hjm c' (by omega)
theorem red_shape {p : Int} (hp : Supp p) {n : Nat} {rs : List (List Int)} (h : RowsOk p n rs) : ∀ k,k ≤ n → Shape rs.length k (red p rs k)
 | 0,_ => ⟨Nat.le_refl _,fun i hi => absurd hi (Nat.not_lt_zero i),fun j _ _ c' hc' => absurd hc' (Nat.not_lt_zero c')⟩
 | k + 1,hk => by rw [red_succ];exact shape_step hp (red_ok hp h k) (by omega) (red_shape hp h k (by omega))
theorem full_piv {p : Int} (hp : Supp p) {n : Nat} {rs : List (List Int)} (h : RowsOk p n rs) : ∀ k,k ≤ n → (red p rs k).2.1.length = k → ∀ i,i < k → (red p rs k).2.1[i]? = some (i : Int)
 | 0,_,_,i,hi => absurd hi (Nat.not_lt_zero i)
 | k + 1,hk,hl,i,hi => by
  have hsh := (red_shape hp h k (by omega)).len
  rw [red_succ] at hl ⊢
  by_cases hq : fndP (red p rs k).1 k (red p rs k).2.1.length < (red p rs k).1.length
  ·rw [step_piv (p := p) hq] at hl ⊢
   rw [List.length_append,List.length_singleton] at hl
   have hk2 : (red p rs k).2.1.length = k := by omega
   by_cases e : i < k
   ·rw [List.getElem?_append_left (by omega)];exact full_piv hp h k (by omega) hk2 i e
   ·rw [List.getElem?_append_right (by omega),show i - (red p rs k).2.1.length = 0 from by omega,show i = k from by omega];rfl
  ·rw [step_skip hq] at hl
   omega
theorem full_id {p : Int} (hp : Supp p) {n : Nat} {rs : List (List Int)} (h : RowsOk p n rs) {k : Nat} (hk : k ≤ n) (hl : (red p rs k).2.1.length = k) {i j : Nat} (hi : i < k) (hj : j < rs.length) : ent (red p rs k).1 j i = if j = i then 1 else 0 := by
 obtain ⟨ci,h1,h2,h3⟩ := (red_shape hp h k hk).piv i (by omega)
 rw [full_piv hp h k hk hl i hi] at h1
 have : i = ci := by have := Option.some.inj h1;omega
 subst this
 exact h3 j hj
theorem lf_two {p : Int} [NeZero p.toNat] {rs : List (List Int)} {i a b : Nat} {x : Nat → Fin p.toNat} (hab : a ≠ b) : ∀ n,(∀ j,j < n → j ≠ a → j ≠ b → T p (ent rs i j) * x j = 0) → lf p rs i x n = (if a < n then T p (ent rs i a) * x a else 0) + (if b < n then T p (ent rs i b) * x b else 0)
 | 0,_ => by
  show (0 : Fin p.toNat) = _
  rw [if_neg (Nat.not_lt_zero _),if_neg (Nat.not_lt_zero _)];grind
 | n + 1,h => by
  show _ + _ = _
  rw [lf_two hab n (fun j hj => h j (by omega))]
  by_cases ea : n = a
  ·subst ea
   rw [if_neg (Nat.lt_irrefl _),if_pos (Nat.lt_succ_self _)]
   by_cases eb : b < n
   ·rw [if_pos eb,if_pos (by omega)];grind
   ·rw [if_neg eb,if_neg (by omega)];grind
  ·by_cases eb : n = b
   ·subst eb
    rw [if_neg (Nat.lt_irrefl n),if_pos (Nat.lt_succ_self n)]
    by_cases ea2 : a < n
    ·rw [if_pos ea2,if_pos (by omega)];grind
    ·rw [if_neg ea2,if_neg (by omega)];grind
   ·rw [h n (by omega) ea eb]
    by_cases ha : a < n <;> by_cases hb : b < n
    ·rw [if_pos ha,if_pos hb,if_pos (by omega),if_pos (by omega)];grind
    ·rw [if_pos ha,if_neg hb,if_pos (by omega),if_neg (by omega)];grind
    ·rw [if_neg ha,if_pos hb,if_neg (by omega),if_pos (by omega)];grind
    ·rw [if_neg ha,if_neg hb,if_neg (by omega),if_neg (by omega)];grind
theorem lf_ext {p : Int} [NeZero p.toNat] {rs : List (List Int)} {i k : Nat} {x : Nat → Fin p.toNat} (h : ∀ j,k ≤ j → x j = 0) : ∀ d,lf p rs i x (k + d) = lf p rs i x k
 | 0 => rfl
 | d + 1 => by
  show lf p rs i x (k + d) + T p (ent rs i (k + d)) * x (k + d) = _
  rw [lf_ext h d,h (k + d) (by omega)];grind
theorem free_col (ps : List Int) (k : Nat) (hl : ps.length < k) : ∃ c,c < k ∧ (c : Int) ∉ ps := by
 refine Classical.byContradiction fun hcon => ?_
 have hall : ∀ c,c < k → (c : Int) ∈ ps := fun c hc => Classical.byContradiction fun h => hcon ⟨c,hc,h⟩
 have h1 : ∀ (k : Nat) (ps : List Int),(∀ c,c < k → (c : Int) ∈ ps) → k ≤ ps.length := by
  intro k
  induction k with
  | zero => intro ps _;exact Nat.zero_le _
  | succ k ih =>
   intro ps h
   have hk := h k (by omega)
   have h2 := ih (ps.erase (k : Int)) (fun c hc => (List.mem_erase_of_ne (by omega)).2 (h c (by omega)))
   rw [List.length_erase_of_mem hk] at h2
   have := List.length_pos_of_mem hk
   omega
 have := h1 k ps hall
 omega
theorem ker_of_few {p : Int} (hp : Supp p) [NeZero p.toNat] {n : Nat} {rs : List (List Int)} (h : RowsOk p n rs) {k : Nat} (hk : k ≤ n) (hl : (red p rs k).2.1.length < k) : ∃ x : Nat → Fin p.toNat,(∃ j,j < k ∧ x j ≠ 0) ∧ (∀ j,k ≤ j → x j = 0) ∧ Ker p rs rs.length n x := by
 have hsh := red_shape hp h k hk
 obtain ⟨c,hck,hcn⟩ := free_col (red p rs k).2.1 k hl
 obtain ⟨s,hs⟩ : ∃ s,s = red p rs k := ⟨_,rfl⟩
 rw [← hs] at hsh hcn hl
 have hlen : s.1.length = rs.length := by rw [hs];exact (red_ok hp h k).len
 obtain ⟨f,hf⟩ : ∃ f : Nat → Nat,f = fun (j : Nat) => s.2.1.findIdx (fun y => y == ((j : Nat) : Int)) := ⟨_,rfl⟩
 have hf1 : ∀ j,f j < s.2.1.length → s.2.1[f j]? = some (j : Int) := fun j hj => by
  rw [hf] at hj ⊢
  have := List.findIdx_getElem (w := hj)
  rw [List.getElem?_eq_getElem hj]
  simpa using this
 obtain ⟨x,hx⟩ : ∃ x : Nat → Fin p.toNat,x = fun j => if j = c then 1 else if f j < s.2.1.length then - T p (ent s.1 (f j) c) else 0 := ⟨_,rfl⟩
 have hsup : ∀ j,k ≤ j → x j = 0 := fun j hj => by
  rw [hx]
  show (if j = c then 1 else if f j < s.2.1.length then - T p (ent s.1 (f j) c) else 0) = (0 : Fin p.toNat)
  rw [if_neg (by omega)]
  by_cases e : f j < s.2.1.length
  ·obtain ⟨ci,h1,h2,_⟩ := hsh.piv _ e
   rw [hf1 j e] at h1
   have := Option.some.inj h1
   omega
  ·rw [if_neg e]
 have hker : Ker p s.1 rs.length n x := by
  intro i hi
  rw [show n = k + (n - k) from by omega,lf_ext hsup]
  by_cases e : i < s.2.1.length
  ·obtain ⟨ci,h1,h2,h3⟩ := hsh.piv i e
   have hcc : c ≠ ci := fun hh => hcn (by rw [hh];exact List.mem_of_getElem? h1)
   have hfi : f ci = i := by
    have hlt : f ci < s.2.1.length := by
     rw [hf]
     exact List.findIdx_lt_length_of_exists ⟨(ci : Int),List.mem_of_getElem? h1,by simp⟩
    have h4 := hf1 ci hlt
    obtain ⟨cj,h5,h6,h7⟩ := hsh.piv (f ci) hlt
    rw [h4] at h5
    have : ci = cj := by have := Option.some.inj h5;omega
    rw [← this] at h7
    have h8 := h7 i hi
    rw [h3 i hi,if_pos rfl] at h8
    by_cases e2 : i = f ci
    ·exact e2.symm
    ·rw [if_neg e2] at h8;omega
   rw [lf_two hcc k (fun j hj hjc hjci => ?_),if_pos hck,if_pos h2]
   ·have e1 : x c = 1 := by rw [hx];show (if c = c then _ else _) = _;rw [if_pos rfl]
    have e2 : x ci = - T p (ent s.1 i c) := by
     rw [hx]
     show (if ci = c then 1 else if f ci < s.2.1.length then - T p (ent s.1 (f ci) c) else 0) = _
     rw [if_neg (fun hh => hcc hh.symm),hfi,if_pos e]
    rw [e1,e2,h3 i hi,if_pos rfl,T_one]
    grind
   ·rw [hx]
    show T p (ent s.1 i j) * (if j = c then 1 else if f j < s.2.1.length then - T p (ent s.1 (f j) c) else 0) = 0
    rw [if_neg hjc]
    by_cases e3 : f j < s.2.1.length
    ·obtain ⟨cj,h5,h6,h7⟩ := hsh.piv (f j) e3
     rw [hf1 j e3] at h5
     have : j = cj := by have := Option.some.inj h5;omega
     rw [← this] at h7
     have hne : i ≠ f j := fun hh => by
      rw [← hh] at h7
      have h8 := hf1 j e3
      rw [← hh,h1] at h8
      have := Option.some.inj h8
      omega
     rw [h7 i hi,if_neg hne,T_zero];grind
    ·rw [if_neg e3];grind
  ·have h0 : ∀ j,j < k → T p (ent s.1 i j) = 0 := fun j hj => by rw [hsh.zero i (by omega) hi j hj,T_zero]
   have : ∀ d,d ≤ k → lf p s.1 i x d = 0 := by
    intro d
    induction d with
    | zero => intro _;rfl
    | succ d ih =>
     intro hd
     show _ + _ = _
     rw [ih (by omega),h0 d (by omega)];grind
   exact this k (Nat.le_refl _)
 refine ⟨x,⟨c,hck,?_⟩,hsup,?_⟩
 ·rw [hx]
  show (if c = c then 1 else _) ≠ (0 : Fin p.toNat)
  rw [if_pos rfl];exact one_ne hp
 ·rw [hs] at hker
  exact (red_ker hp h x k hk).1 hker
end Go.Proofs.Ytmdoaijkaaaglaa.E
end
section
namespace Go.Proofs.Ytmdoaijkaaaglaa.E
open Go.RowKit Go.Proofs.Ytmdoaijkaaaglaa.Pr Go.Proofs.Ytmdoaijkaaaglaa.Hw Go.Proofs.Ytmdoaijkaaaglaa.Pl Go.Proofs.YtmdoaijkaaaglaaW.PrintWords Go.Proofs.YtmdoaijkaaaglaaW.PrintLast Go.Proofs.YtmdoaijkaaaglaaW.PrintMore
section
variable {p : Int} [NeZero p.toNat]
theorem sumQ_add (f g : Nat → Fin p.toNat) : ∀ n,sumF (fun i => f i + g i) n = sumF f n + sumF g n
 | 0 => by simp only [sumF];grind
 | n + 1 => by simp only [sumF];rw [sumQ_add f g n];grind
theorem lf_sum (rs : List (List Int)) (i : Nat) (x : Nat → Fin p.toNat) : ∀ n,lf p rs i x n = sumF (fun j => T p (ent rs i j) * x j) n
 | 0 => rfl
 | n + 1 => by
  show lf p rs i x n + _ = sumF _ n + _
  rw [lf_sum rs i x n]
end
theorem sub_len (m : List (List Int)) (rows cols : List Int) : (subM m rows cols).length = rows.length := by unfold subM;rw [List.length_map]
theorem getD_in {l : List Int} {i : Nat} (h : i < l.length) : l.getD i 0 ∈ l := by rw [List.getD_eq_getElem?_getD,List.getElem?_eq_getElem h];exact List.getElem_mem h
theorem rd_pos {l : List Int} {c : Int} (h : 0 ≤ c) : rd l c = l.getD c.toNat 0 := by rw [← rd_nat,show ((c.toNat : Nat) : Int) = c from by omega]
theorem sub_ent {m : List (List Int)} {rows cols : List Int} {i j : Nat} (hi : i < rows.length) (hj : j < cols.length) (h0 : 0 ≤ rows.getD i 0) (h1 : 0 ≤ cols.getD j 0) : ent (subM m rows cols) i j = (m.getD (rows.getD i 0).toNat []).getD (cols.getD j 0).toNat 0 := by
 have e1 : rows.getD i 0 = rows[i] := by rw [List.getD_eq_getElem?_getD,List.getElem?_eq_getElem hi];rfl
 have e2 : cols.getD j 0 = cols[j] := by rw [List.getD_eq_getElem?_getD,List.getElem?_eq_getElem hj];rfl
 have h3 : (subM m rows cols)[i]? = some (cols.map fun c => rd (rd_L2 m rows[i]) c) := by
  unfold subM
  rw [List.getElem?_map,List.getElem?_eq_getElem hi];rfl
 rw [ent_at h3,List.getD_eq_getElem?_getD,List.getElem?_map,List.getElem?_eq_getElem hj]
 show rd (rd_L2 m rows[i]) cols[j] = _
 rw [← e1,← e2,rd_pos h1,← rdM_nat,show (((rows.getD i 0).toNat : Nat) : Int) = rows.getD i 0 from by omega]

section
variable {p : Int} [NeZero p.toNat]
theorem lf_split (rs : List (List Int)) (i : Nat) (x : Nat → Fin p.toNat) (a : Nat) : ∀ b,lf p rs i x (a + b) = lf p rs i x a + sumF (fun j => T p (ent rs i (a + j)) * x (a + j)) b
 | 0 => by
  show lf p rs i x a = _ + (0 : Fin p.toNat)
  grind
 | b + 1 => by
  show lf p rs i x (a + b) + T p (ent rs i (a + b)) * x (a + b) = _ + (sumF _ b + _)
  rw [lf_split rs i x a b];grind
theorem sumQ_neg (f : Nat → Fin p.toNat) : ∀ n,sumF (fun i => - f i) n = - sumF f n
 | 0 => by simp only [sumF];grind
 | n + 1 => by simp only [sumF];rw [sumQ_neg f n];grind
theorem dotP_T (hp : Supp p) (r l : List Int) (n : Nat) : T p (dotP p r l n) = sumF (fun c => T p (r.getD c 0) * T p (l.getD c 0)) n := by
 rw [dotP_acc,accI_T hp]
 refine sumF_congr _ fun c _ => ?_
 rw [T_mod hp,T_mul]
end
theorem wide_lo {p : Int} {k : Nat} {part : List (List Int)} (hk : part.length = k) (hok : RowsOk p k part) {i j : Nat} (hi : i < k) (hj : j < k) : ent (wideM part) i j = ent part i j := by
 have hl := (hok.at (i := i) (by omega)).1
 rw [ent_at (wideM_at (show i < part.length by omega)),ent_at (List.getElem?_eq_getElem (show i < part.length by omega)),List.getD_eq_getElem?_getD,List.getElem?_append_left (by omega),← List.getD_eq_getElem?_getD]
theorem wide_hi {p : Int} {k : Nat} {part : List (List Int)} (hk : part.length = k) (hok : RowsOk p k part) {i j : Nat} (hi : i < k) (hj : j < k) : ent (wideM part) i (k + j) = if j = i then 1 else 0 := by
 have hl := (hok.at (i := i) (by omega)).1
 rw [ent_at (wideM_at (show i < part.length by omega)),List.getD_eq_getElem?_getD,List.getElem?_append_right (by omega),hl,show k + j - k = j from by omega]
 unfold unitR
 rw [List.getElem?_set]
 by_cases e : i = j
 ·rw [if_pos e,if_pos (by rw [List.length_replicate];omega),if_pos e.symm];rfl
 ·rw [if_neg e,if_neg (fun h => e h.symm),List.getElem?_replicate,if_pos (by omega)];rfl
theorem inv_mul {p : Int} (hp : Supp p) [NeZero p.toNat] {k : Nat} {part : List (List Int)} (hk : part.length = k) (hok : RowsOk p k part) (hfull : (red p (wideM part) k).2.1.length = k) (l : Nat → Fin p.toNat) {i : Nat} (hi : i < k) :
  lf p part i (fun j => lf p ((red p (wideM part) k).1.map (·.drop k)) j l k) k = l i := by
 have hw : RowsOk p (k + k) (wideM part) := by
  have := wideM_ok hp (l := part) (by rw [hk];exact hok)
  rwa [hk] at this
 have hwl : (wideM part).length = k := by rw [wideM_len,hk]
 have hro := red_ok hp hw k
 obtain ⟨S,hS⟩ : ∃ S,S = (red p (wideM part) k).1 := ⟨_,rfl⟩
 have hid : ∀ a b,a < k → b < k → ent S b a = if b = a then 1 else 0 := fun a b ha hb => by
  rw [hS];exact full_id hp hw (by omega) hfull ha (by omega)
 have hSl : S.length = k := by rw [hS,hro.len,hwl]
 have hSr : RowsOk p (k + k) S := by rw [hS];exact hro.rows
 have hinv : ∀ a b,a < k → b < k → ent (S.map (·.drop k)) a b = ent S a (k + b) := fun a b ha hb => by
  have e : (S.map (·.drop k))[a]? = some ((S[a]'(by omega)).drop k) := by rw [List.getElem?_map,List.getElem?_eq_getElem (by omega)];rfl
  rw [ent_at e,ent_at (List.getElem?_eq_getElem (show a < S.length by omega)),List.getD_eq_getElem?_getD,List.getElem?_drop,← List.getD_eq_getElem?_getD]
 rw [← hS]
 obtain ⟨z,hz⟩ : ∃ z : Nat → Fin p.toNat,z = fun j => lf p (S.map (·.drop k)) j l k := ⟨_,rfl⟩
 rw [← hz]
 obtain ⟨x,hx⟩ : ∃ x : Nat → Fin p.toNat,x = fun j => if j < k then z j else - l (j - k) := ⟨_,rfl⟩
 have xlo : ∀ j,j < k → x j = z j := fun j h => by rw [hx];exact if_pos h
 have xhi : ∀ j,x (k + j) = - l j := fun j => by rw [hx];show (if k + j < k then _ else - l (k + j - k)) = _;rw [if_neg (by omega),show k + j - k = j from by omega]
 have hker : Ker p S (wideM part).length (k + k) x := by
  intro a ha
  rw [hwl] at ha
  have s1 : lf p S a x k = z a := by
   rw [lf_sum,sumF_one (j := a) _ (fun j hj hne => by rw [hid j a hj ha,if_neg (fun h => hne h.symm),T_zero];grind),if_pos ha,hid a a ha ha,if_pos rfl,T_one,xlo a ha];grind
  have s2 : sumF (fun j => T p (ent S a (k + j)) * x (k + j)) k = - z a := by
   have e : z a = sumF (fun j => T p (ent S a (k + j)) * l j) k := by
    rw [hz]
    show lf p (S.map (·.drop k)) a l k = _
    rw [lf_sum]
    exact sumF_congr _ fun j hj => by rw [hinv a j ha hj]
   rw [e,← sumQ_neg]
   refine sumF_congr _ fun j _ => ?_
   rw [xhi];grind
  rw [lf_split,s1,s2];grind
 have hk2 := (red_ker hp hw x k (by omega)).1 (by rw [← hS];exact hker) i (by omega)
 have s1 : lf p (wideM part) i x k = lf p part i z k := by
  rw [lf_sum,lf_sum]
  exact sumF_congr _ fun j hj => by rw [wide_lo hk hok hi hj,xlo j hj]
 have s2 : sumF (fun j => T p (ent (wideM part) i (k + j)) * x (k + j)) k = - l i := by
  rw [sumF_one (j := i) _ (fun j hj hne => by rw [wide_hi hk hok hi hj,if_neg hne,T_zero];grind),if_pos hi,wide_hi hk hok hi hi,if_pos rfl,T_one,xhi];grind
 rw [lf_split,s1,s2] at hk2
 grind
theorem wide_full {p : Int} (hp : Supp p) {k : Nat} {part : List (List Int)} (hk : part.length = k) (hok : RowsOk p k part) (hinj : ∀ [NeZero p.toNat] (x : Nat → Fin p.toNat),(∀ i,i < k → lf p part i x k = 0) → ∀ j,j < k → x j = 0) :
  (red p (wideM part) k).2.1.length = k := by
 haveI := nz hp
 have hw : RowsOk p (k + k) (wideM part) := by
  have := wideM_ok hp (l := part) (by rw [hk];exact hok)
  rwa [hk] at this
 have hwl : (wideM part).length = k := by rw [wideM_len,hk]
 have h1 := (red_shape hp hw k (by omega)).len
 refine Nat.le_antisymm h1 (Nat.le_of_not_lt fun hlt => ?_)
 obtain ⟨x,⟨j0,hj0,hx0⟩,hsup,hker⟩ := ker_of_few hp hw (by omega) hlt
 refine hx0 (hinj x (fun i hi => ?_) j0 hj0)
 have h2 := hker i (by omega)
 rw [lf_ext hsup] at h2
 rw [← h2,lf_sum,lf_sum]
 exact sumF_congr _ fun j hj => by rw [wide_lo hk hok hi hj]
theorem map_at (F : List Int → Int) (m : List (List Int)) {i : Nat} (h : i < m.length) : (m.map F).getD i 0 = F (m.getD i []) := by
 rw [List.getD_eq_getElem?_getD,List.getElem?_map,List.getElem?_eq_getElem h,List.getD_eq_getElem?_getD,List.getElem?_eq_getElem h];rfl
theorem mapI_at (F : Int → Int) (m : List Int) {i : Nat} (h : i < m.length) : (m.map F).getD i 0 = F (m.getD i 0) := by
 rw [List.getD_eq_getElem?_getD,List.getElem?_map,List.getElem?_eq_getElem h,List.getD_eq_getElem?_getD,List.getElem?_eq_getElem h];rfl
theorem val7_pts {pts : List S56} (hn : (keys7 (ptsM pts)).Nodup) {y : S56} (hy : y ∈ pts) : val7 (ptsM pts) y.f0 = y.f1 :=
 val7_in hn (p := (y.f0,y.f1)) (List.mem_map.2 ⟨y,hy,rfl⟩)
theorem keys_of {pts : List S56} {y : S56} (hy : y ∈ pts) : y.f0 ∈ keys7 (ptsM pts) :=
 List.mem_map.2 ⟨(y.f0,y.f1),List.mem_map.2 ⟨y,hy,rfl⟩,rfl⟩
theorem full_inj {p : Int} (hp : Supp p) [NeZero p.toNat] {k : Nat} {part : List (List Int)} (hk : part.length = k) (hok : RowsOk p k part) (hfull : (red p (wideM part) k).2.1.length = k) (x : Nat → Fin p.toNat) (hx : ∀ i,i < k → lf p part i x k = 0) :
  ∀ j,j < k → x j = 0 := by
 intro j hj
 have hw : RowsOk p (k + k) (wideM part) := by
  have := wideM_ok hp (l := part) (by rw [hk];exact hok)
  rwa [hk] at this
 have hwl : (wideM part).length = k := by rw [wideM_len,hk]
 obtain ⟨y,hy⟩ : ∃ y : Nat → Fin p.toNat,y = fun j => if j < k then x j else 0 := ⟨_,rfl⟩
 have ylo : ∀ j,j < k → y j = x j := fun j h => by rw [hy];exact if_pos h
 have yhi : ∀ j,k ≤ j → y j = 0 := fun j h => by rw [hy];exact if_neg (by omega)
 have hker : Ker p (wideM part) (wideM part).length (k + k) y := fun i hi => by
  rw [lf_ext yhi,← hx i (by omega),lf_sum,lf_sum]
  exact sumF_congr _ fun j hj => by rw [wide_lo hk hok (by omega) hj,ylo j hj]
 have h2 := (red_ker hp hw y k (by omega)).2 hker j (by omega)
 rw [lf_ext yhi,lf_sum,sumF_one (j := j) _ (fun a ha hne => by rw [full_id hp hw (by omega) hfull ha (by omega),if_neg (fun h => hne h.symm),T_zero];grind),if_pos hj,full_id hp hw (by omega) hfull hj (by omega),if_pos rfl,T_one,ylo j hj] at h2
 grind
def solV (p : Int) (m : List (List Int)) (rows cols left : List Int) : List Int := ((red p (wideM (subM m rows cols)) rows.length).1.map (·.drop rows.length)).map fun r => dotP p r left rows.length
theorem solV_len {p : Int} (hp : Supp p) {m : List (List Int)} {rows cols left : List Int} (hok : RowsOk p rows.length (subM m rows cols)) : (solV p m rows cols left).length = rows.length := by
 have hl := sub_len m rows cols
 have hw := wideM_ok hp (l := subM m rows cols) (by rw [hl];exact hok)
 unfold solV
 rw [List.length_map,List.length_map,(red_ok hp hw _).len,wideM_len,hl]
theorem solV_res {p : Int} (hp : Supp p) (m : List (List Int)) (rows cols left : List Int) : ∀ x ∈ solV p m rows cols left,Res p x := by
 intro x hx
 obtain ⟨r,_,rfl⟩ := List.mem_map.1 hx
 exact dotP_res hp _ _ _
theorem solV_sum {p : Int} (hp : Supp p) [NeZero p.toNat] {m : List (List Int)} {rows cols : List Int} {w : Int → Int} (hr : ∀ x ∈ rows,0 ≤ x) (hc : ∀ x ∈ cols,0 ≤ x) (hl : cols.length = rows.length)
  (hok : RowsOk p rows.length (subM m rows cols)) (hfull : (red p (wideM (subM m rows cols)) rows.length).2.1.length = rows.length) {y : Int} (hy : y ∈ rows) :
  sumF (fun j => T p ((m.getD y.toNat []).getD (cols.getD j 0).toNat 0) * T p ((solV p m rows cols (rows.map w)).getD j 0)) cols.length = T p (w y) := by
 obtain ⟨q,hq,e⟩ := List.getElem_of_mem hy
 have eq : rows.getD q 0 = y := by rw [List.getD_eq_getElem?_getD,List.getElem?_eq_getElem hq,← e];rfl
 have hy2 := hr y hy
 have hsl := solV_len hp (left := rows.map w) hok
 have hvt : ∀ j,j < rows.length → T p ((solV p m rows cols (rows.map w)).getD j 0) = lf p ((red p (wideM (subM m rows cols)) rows.length).1.map (·.drop rows.length)) j (fun c => T p ((rows.map w).getD c 0)) rows.length := fun j hj => by
  unfold solV at hsl ⊢
  rw [map_at _ _ (by rw [List.length_map] at hsl;omega),dotP_T hp,lf_sum];rfl
 have h2 := inv_mul hp (sub_len m rows cols) hok hfull (fun c => T p ((rows.map w).getD c 0)) hq
 rw [show T p ((rows.map w).getD q 0) = T p (w y) from by rw [mapI_at _ _ hq,eq]] at h2
 rw [← h2,lf_sum,hl]
 refine sumF_congr _ fun j hj => ?_
 have hcj := hc _ (getD_in (l := cols) (i := j) (by omega))
 rw [hvt j hj,sub_ent hq (by omega) (by rw [eq];omega) hcj,eq]
theorem part_ker {p : Int} [NeZero p.toNat] {m : List (List Int)} {rows cols : List Int} (hr : ∀ x ∈ rows,0 ≤ x) (hc : ∀ x ∈ cols,0 ≤ x) (hl : cols.length = rows.length) (x : Nat → Fin p.toNat) :
  (∀ i,i < rows.length → lf p (subM m rows cols) i x rows.length = 0) ↔ ∀ y ∈ rows,sumF (fun j => T p ((m.getD y.toNat []).getD (cols.getD j 0).toNat 0) * x j) cols.length = 0 := by
 have key : ∀ i (hi : i < rows.length),lf p (subM m rows cols) i x rows.length = sumF (fun j => T p ((m.getD (rows.getD i 0).toNat []).getD (cols.getD j 0).toNat 0) * x j) cols.length := fun i hi => by
  rw [lf_sum,hl]
  exact sumF_congr _ fun j hj => by rw [sub_ent hi (by omega) (hr _ (getD_in hi)) (hc _ (getD_in (by omega)))]
 constructor
 ·intro h y hy
  obtain ⟨q,hq,e⟩ := List.getElem_of_mem hy
  have eq : rows.getD q 0 = y := by rw [List.getD_eq_getElem?_getD,List.getElem?_eq_getElem hq,← e];rfl
  rw [← eq,← key q hq]
  exact h q hq
 ·intro h i hi
  rw [key i hi]
  exact h _ (getD_in hi)
theorem perm_full {p : Int} (hp : Supp p) {m : List (List Int)} {rows rows' cols : List Int} (hr : ∀ x ∈ rows,0 ≤ x) (hc : ∀ x ∈ cols,0 ≤ x) (hl : cols.length = rows.length) (hl' : rows'.length = rows.length) (hmem : ∀ x,x ∈ rows ↔ x ∈ rows')
  (hok : RowsOk p rows.length (subM m rows cols)) (hok' : RowsOk p rows'.length (subM m rows' cols)) (hfull : (red p (wideM (subM m rows cols)) rows.length).2.1.length = rows.length) : (red p (wideM (subM m rows' cols)) rows'.length).2.1.length = rows'.length := by
 refine wide_full hp (sub_len _ _ _) hok' (fun x hx j hj => ?_)
 have h1 := (part_ker (fun y hy => hr y ((hmem y).2 hy)) hc (by omega) x).1 hx
 exact full_inj hp (sub_len _ _ _) hok hfull x ((part_ker hr hc hl x).2 fun y hy => h1 y ((hmem y).1 hy)) j (by omega)
theorem perm_sol {p : Int} (hp : Supp p) {m : List (List Int)} {rows rows' cols : List Int} {w : Int → Int} (hr : ∀ x ∈ rows,0 ≤ x) (hc : ∀ x ∈ cols,0 ≤ x) (hl : cols.length = rows.length) (hl' : rows'.length = rows.length) (hmem : ∀ x,x ∈ rows ↔ x ∈ rows')
  (hok : RowsOk p rows.length (subM m rows cols)) (hok' : RowsOk p rows'.length (subM m rows' cols)) (hfull : (red p (wideM (subM m rows cols)) rows.length).2.1.length = rows.length) : solV p m rows cols (rows.map w) = solV p m rows' cols (rows'.map w) := by
 haveI := nz hp
 have hfull' := perm_full hp hr hc hl hl' hmem hok hok' hfull
 have hr' : ∀ x ∈ rows',0 ≤ x := fun y hy => hr y ((hmem y).2 hy)
 have e1 := solV_len hp (left := rows.map w) hok
 have e2 := solV_len hp (left := rows'.map w) hok'
 have hz := full_inj hp (sub_len _ _ _) hok hfull (fun j => T p ((solV p m rows cols (rows.map w)).getD j 0) - T p ((solV p m rows' cols (rows'.map w)).getD j 0)) ((part_ker hr hc hl _).2 fun y hy => by
  have h1 := solV_sum hp (w := w) hr hc hl hok hfull hy
  have h2 := solV_sum hp (w := w) hr' hc (by omega) hok' hfull' ((hmem y).1 hy)
  have h3 : sumF (fun j => T p ((m.getD y.toNat []).getD (cols.getD j 0).toNat 0) * (T p ((solV p m rows cols (rows.map w)).getD j 0) - T p ((solV p m rows' cols (rows'.map w)).getD j 0))) cols.length
    = sumF (fun j => T p ((m.getD y.toNat []).getD (cols.getD j 0).toNat 0) * T p ((solV p m rows cols (rows.map w)).getD j 0)) cols.length + - sumF (fun j => T p ((m.getD y.toNat []).getD (cols.getD j 0).toNat 0) * T p ((solV p m rows' cols (rows'.map w)).getD j 0)) cols.length := by
   rw [← sumQ_neg,← sumQ_add]
   exact sumF_congr _ fun j _ => by grind
  rw [h3,h1,h2];grind)
 refine List.ext_getElem (by omega) fun i h3 h4 => ?_
 have h5 := hz i (by omega)
 refine T_inj hp (solV_res hp _ _ _ _ _ (List.getElem_mem h3)) (solV_res hp _ _ _ _ _ (List.getElem_mem h4)) ?_
 have g1 : (solV p m rows cols (rows.map w)).getD i 0 = (solV p m rows cols (rows.map w))[i] := by rw [List.getD_eq_getElem?_getD,List.getElem?_eq_getElem h3];rfl
 have g2 : (solV p m rows' cols (rows'.map w)).getD i 0 = (solV p m rows' cols (rows'.map w))[i] := by rw [List.getD_eq_getElem?_getD,List.getElem?_eq_getElem h4];rfl
 rw [← g1,← g2]
 grind
end Go.Proofs.Ytmdoaijkaaaglaa.E
end
section
namespace Go.Proofs.Ytmdoaijkaaaglaa.Pure
open Go.RowKit Go.Proofs.Ytmdoaijkaaaglaa.Pr Go.Proofs.Ytmdoaijkaaaglaa.Hw Go.Proofs.Ytmdoaijkaaaglaa.E Go.Proofs.YtmdoaijkaaaglaaW.PrintWords Go.Proofs.YtmdoaijkaaaglaaW.PrintLast Go.Proofs.YtmdoaijkaaaglaaW.PrintMore
theorem rsubm_ev (m : List (List Int)) (rows cols : List Int) (hr : rows.length ≤ 1000000) (hc : cols.length ≤ 1000000) : Ev (fun k => privityref07_Submatrix.f k m rows cols) (subR m rows cols) := by
 have bad : ∀ i,i < rows.length → ¬ goodI m cols (rd rows (i : Int)) → subR m rows cols = ([],1) := fun i hi h => by
  unfold subR;rw [if_neg fun h2 => h (subOk_iff.1 h2 _ (rd_mem hi))]
 have main := up (Q := fun i => (∀ q,q < i → goodI m cols (rd rows (q : Int))) → Ev (fun k => privityref07_Submatrix.l0 k m rows cols (subM m (rows.take i) cols) (i : Int)) (subR m rows cols)) (n := rows.length) ?_ (fun i hi h2 => ?_) (fun q hq => by omega)
 ·exact main.congr fun k => rfl
 ·intro hall
  refine Ev.step (fun k => ?_) (Ev.now _)
  simp only [privityref07_Submatrix.l0]
  rw [if_neg (by omega),List.take_length]
  unfold subR
  rw [if_pos (subOk_iff.2 fun x hx => ?_)]
  obtain ⟨j,hj,rfl⟩ := List.getElem_of_mem hx
  have := hall j hj
  rwa [show rd rows (j : Int) = rows[j] from by rw [rd_nat,List.getD_eq_getElem?_getD,List.getElem?_eq_getElem hj];rfl] at this
 ·intro hall
  have hsl : (subM m (rows.take i) cols).length ≤ rows.length := by unfold subM;rw [List.length_map,List.length_take];omega
  obtain ⟨x,hx⟩ : ∃ x,x = rd rows (i : Int) := ⟨_,rfl⟩
  have hj1 : ∀ b,(b = true → Ev (fun k => some (([] : List (List Int)),(1 : Int))) (subR m rows cols)) → (b = false → Ev (fun k => privityref07_Submatrix.l1 k m rows cols (subM m (rows.take i) cols) (i : Int) ([] : List Int) ((0 : Nat) : Int)) (subR m rows cols)) → Ev (fun k => privityref07_Submatrix.j1 k m rows cols (subM m (rows.take i) cols) (i : Int) b) (subR m rows cols) := by
   intro b h1 h0
   cases b with
   | true => exact Ev.step (f := fun k => some (([] : List (List Int)),(1 : Int))) (fun k => by simp only [privityref07_Submatrix.j1];rw [if_pos trivial]) (h1 rfl)
   | false => exact Ev.step (f := fun k => privityref07_Submatrix.l1 k m rows cols (subM m (rows.take i) cols) (i : Int) ([] : List Int) ((0 : Nat) : Int)) (fun k => by simp only [privityref07_Submatrix.j1];rw [if_neg (by simp)];rfl) (h0 rfl)
  have hfull : (0 ≤ x ∧ x < (m.length : Int)) → Ev (fun k => privityref07_Submatrix.l1 k m rows cols (subM m (rows.take i) cols) (i : Int) ([] : List Int) ((0 : Nat) : Int)) (subR m rows cols) := by
   intro hxr
   refine up (Q := fun j => (∀ q,q < j → 0 ≤ rd cols (q : Int) ∧ rd cols (q : Int) < ((rd_L2 m x).length : Int)) → Ev (fun k => privityref07_Submatrix.l1 k m rows cols (subM m (rows.take i) cols) (i : Int) ((cols.take j).map fun c => rd (rd_L2 m x) c) (j : Int)) (subR m rows cols)) (n := cols.length) ?_ (fun j hj h3 => ?_) (fun q hq => by omega)
   ·intro hgood
    have hg : goodI m cols x := ⟨hxr.1,hxr.2,fun c hc => by
     obtain ⟨j,hj,rfl⟩ := List.getElem_of_mem hc
     have := hgood j hj
     rwa [show rd cols (j : Int) = cols[j] from by rw [rd_nat,List.getD_eq_getElem?_getD,List.getElem?_eq_getElem hj];rfl] at this⟩
    refine Ev.step (f := fun k => privityref07_Submatrix.l0 k m rows cols (subM m (rows.take (i + 1)) cols) ((i + 1 : Nat) : Int)) (fun k => ?_) (h2 fun q hq => ?_)
    ·simp only [privityref07_Submatrix.l1]
     rw [if_neg (by omega),List.take_length,wnat (by omega),← subM_next m rows cols i hi,← hx,if_pos (by omega)]
    ·by_cases e : q = i
     ·subst e;rw [← hx];exact hg
     ·exact hall q (by omega)
   ·intro hgood
    by_cases hcj : 0 ≤ rd cols (j : Int) ∧ rd cols (j : Int) < ((rd_L2 m x).length : Int)
    ·have hn := h3 fun q hq => by
      by_cases e : q = j
      ·subst e;exact hcj
      ·exact hgood q (by omega)
     refine Ev.step (f := fun k => privityref07_Submatrix.l1 k m rows cols (subM m (rows.take i) cols) (i : Int) ((cols.take (j + 1)).map fun c => rd (rd_L2 m x) c) ((j + 1 : Nat) : Int)) (fun k => ?_) hn
     simp only [privityref07_Submatrix.l1]
     rw [← hx,if_pos (by omega),if_pos (by omega),if_neg (by omega),if_pos (by omega),if_pos (by omega),if_pos hxr.1,if_pos hxr.2,if_neg (by omega),if_pos hcj.1,if_pos hcj.2,if_pos (by rw [List.length_map,List.length_take];omega),wnat (by omega),← map_next (fun c => rd (rd_L2 m x) c) cols j hj]
    ·rw [bad i hi fun hg => hcj (by rw [← hx] at hg;exact hg.2.2 _ (rd_mem hj))]
     refine Ev.step (fun k => ?_) (Ev.now _)
     simp only [privityref07_Submatrix.l1]
     rw [← hx,if_pos (by omega),if_pos (by omega)]
     by_cases hneg : rd cols (j : Int) < 0
     ·rw [if_pos hneg]
     ·rw [if_neg hneg,if_pos (by omega),if_pos (by omega),if_pos hxr.1,if_pos hxr.2,if_pos (by omega)]
  by_cases hneg : x < 0
  ·refine Ev.step (f := fun k => privityref07_Submatrix.j1 k m rows cols (subM m (rows.take i) cols) (i : Int) true) (fun k => ?_) (hj1 true (fun _ => ?_) (fun h => by cases h))
   ·simp only [privityref07_Submatrix.l0]
    rw [if_pos (by omega),if_pos (by omega),← hx,if_pos hneg]
   ·rw [bad i hi fun hg => by rw [← hx] at hg;have := hg.1;omega]
    exact Ev.now _
  ·refine Ev.step (f := fun k => privityref07_Submatrix.j1 k m rows cols (subM m (rows.take i) cols) (i : Int) (decide (x ≥ (m.length : Int)))) (fun k => ?_) (hj1 _ (fun h => ?_) (fun h => ?_))
   ·simp only [privityref07_Submatrix.l0]
    rw [if_pos (by omega),if_pos (by omega),← hx,if_neg hneg]
   ·have := of_decide_eq_true h
    rw [bad i hi fun hg => by rw [← hx] at hg;have := hg.2.1;omega]
    exact Ev.now _
   ·have := of_decide_eq_false h
    exact hfull ⟨by omega,by omega⟩
theorem small_ev (m : List (List Int)) (a b : Nat) (ha : a ≤ 1000) : Ev (fun k => privityref07_Small.f k m (a : Int) (b : Int)) (decide (m.length ≤ a ∧ ∀ i,i < m.length → (m.getD i []).length ≤ b)) := by
 by_cases hl : m.length ≤ a
 ·have hst : ∀ i,i < m.length → ∀ k,privityref07_Small.l0 (k + 1) m (b : Int) (i : Int) = if ((m.getD i []).length : Int) > (b : Int) then some false else privityref07_Small.l0 k m (b : Int) ((i + 1 : Nat) : Int) := fun i hi k => by
   simp only [privityref07_Small.l0]
   rw [if_pos (by omega),if_pos (by omega),rdM_nat,wnat (by omega)]
  have h := allL (F := fun k i => privityref07_Small.l0 k m (b : Int) i) (n := m.length) (Q := fun i => (m.getD i []).length ≤ b) (e := true) ?_ (fun i hi hq r h => ?_) (fun i hi hq => ?_) (decide (m.length ≤ a ∧ ∀ i,i < m.length → (m.getD i []).length ≤ b)) ?_
  ·refine h.congr fun k => ?_
   unfold privityref07_Small.f
   rw [if_neg (by omega)];rfl
  ·refine Ev.step (fun k => ?_) (Ev.now _)
   simp only [privityref07_Small.l0]
   rw [if_neg (by omega)]
  ·exact Ev.step (hst i hi) (h.congr fun k => if_neg (by omega))
  ·exact Ev.step (hst i hi) ((Ev.now false).congr fun k => if_pos (by omega))
  ·rw [decide_eq_true_iff]
   exact ⟨fun h => ⟨h.2,rfl⟩,fun h => ⟨hl,h.1⟩⟩
 ·rw [decide_eq_false fun h => hl h.1]
  refine Ev.congr (fun k => ?_) (Ev.now _)
  unfold privityref07_Small.f
  rw [if_pos (by omega)]
theorem belowO_ev (p : Int) (l : List S56) (hl : l.length ≤ 1000) : Ev (fun k => privitylaw07_below.f k p l) (decide (∀ i,i < l.length → (rd_T56 l (i : Int)).f1 < p)) := by
 have main := allL (F := fun k i => privitylaw07_below.l0 k p l i) (n := l.length) (Q := fun i => (rd_T56 l (i : Int)).f1 < p) (e := true) ?_ (fun i hi hq r h => ?_) (fun i hi hq => ?_) (decide (∀ i,i < l.length → (rd_T56 l (i : Int)).f1 < p)) ?_
 ·exact main.congr fun k => rfl
 ·refine Ev.step (fun k => ?_) (Ev.now _)
  simp only [privitylaw07_below.l0]
  rw [if_neg (by omega)]
 ·refine Ev.step (fun k => ?_) h
  simp only [privitylaw07_below.l0]
  rw [if_pos (by omega),if_pos (by omega),if_neg (by omega),wnat (by omega)]
 ·refine Ev.step (fun k => ?_) (Ev.now _)
  simp only [privitylaw07_below.l0]
  rw [if_pos (by omega),if_pos (by omega),if_pos (by omega)]
 ·rw [decide_eq_true_iff]
  exact ⟨fun h => ⟨h,rfl⟩,fun h => h.1⟩
theorem even_ev (m : List (List Int)) (hm : m.length ≤ 1000000) : Ev (fun k => privityref07_Even.f k m) (flatB m) := by
 by_cases h0 : m.length = 0
 ·have e : flatB m = false := by unfold flatB;rw [decide_eq_false (by omega)];rfl
  rw [e]
  refine Ev.congr (f := fun k => privityref07_Even.j0 k m true) (fun k => ?_) (Ev.step (fun k => ?_) (Ev.now false))
  ·unfold privityref07_Even.f;rw [if_pos (by omega)]
  ·simp only [privityref07_Even.j0];rw [if_pos trivial]
 ·have hr0 : rd_L2 m 0 = m.getD 0 [] := rdM_nat m 0
  have hf : ∀ k,privityref07_Even.f k m = privityref07_Even.j0 k m (((m.getD 0 []).length : Int) == 0) := fun k => by
   unfold privityref07_Even.f
   rw [if_neg (by omega),if_pos (by omega),hr0]
  by_cases h1 : (m.getD 0 []).length = 0
  ·have e : flatB m = false := by unfold flatB;rw [decide_eq_false (show ¬ 0 < (m.getD 0 []).length by omega)];simp
   rw [e]
   refine Ev.congr (f := fun k => privityref07_Even.j0 k m true) (fun k => ?_) (Ev.step (fun k => ?_) (Ev.now false))
   ·rw [hf,h1];rfl
   ·simp only [privityref07_Even.j0];rw [if_pos trivial]
  ·have hb : (((m.getD 0 []).length : Int) == 0) = false := by
    have : ¬ ((m.getD 0 []).length : Int) = 0 := by omega
    simpa using this
   refine Ev.congr (f := fun k => privityref07_Even.j0 k m false) (fun k => by rw [hf,hb]) ?_
   refine Ev.step (f := fun k => privityref07_Even.l0 k m ((0 : Nat) : Int)) (fun k => by simp only [privityref07_Even.j0];rw [if_neg (by simp)];rfl) ?_
   have hst : ∀ i,i < m.length → ∀ k,privityref07_Even.l0 (k + 1) m (i : Int) = if ((m.getD i []).length : Int) = ((m.getD 0 []).length : Int) then privityref07_Even.l0 k m ((i + 1 : Nat) : Int) else some false := fun i hi k => by
    simp only [privityref07_Even.l0]
    rw [if_pos (by omega),if_pos (by omega),if_pos (by omega),rdM_nat,hr0,wnat (by omega)]
   refine allL (F := fun k i => privityref07_Even.l0 k m i) (n := m.length) (Q := fun i => (m.getD i []).length = (m.getD 0 []).length) (e := true) ?_ (fun i hi hq r h => ?_) (fun i hi hq => ?_) (flatB m) ?_
   ·refine Ev.step (fun k => ?_) (Ev.now _)
    simp only [privityref07_Even.l0]
    rw [if_neg (by omega)]
   ·exact Ev.step (hst i hi) (h.congr fun k => if_pos (by rw [hq]))
   ·exact Ev.step (hst i hi) ((Ev.now false).congr fun k => if_neg (by omega))
   ·unfold flatB
    rw [decide_eq_true (show 0 < m.length by omega),decide_eq_true (show 0 < (m.getD 0 []).length by omega),Bool.true_and,Bool.true_and,List.all_eq_true]
    refine ⟨fun h => ⟨fun i hi => ?_,rfl⟩,fun h x hx => ?_⟩
    ·have := h (m.getD i []) (by rw [List.getD_eq_getElem?_getD,List.getElem?_eq_getElem hi];exact List.getElem_mem hi)
     exact of_decide_eq_true this
    ·obtain ⟨i,hi,rfl⟩ := List.getElem_of_mem hx
     have := h.1 i hi
     rw [show m.getD i [] = m[i] from by rw [List.getD_eq_getElem?_getD,List.getElem?_eq_getElem hi];rfl] at this
     exact decide_eq_true this
theorem bel07_ev (p : Int) (m : List (List Int)) (hm : m.length ≤ 1000) (hr : ∀ r ∈ m,r.length ≤ 1000) : Ev (fun k => privityref07_Below.f k p m) (decide (∀ i,i < m.length → belowB p (m.getD i []) = true)) := by
 have hst : ∀ i,i < m.length → ∀ k,privityref07_Below.l0 (k + 1) p m (i : Int) = (privityref05_Below.f k p (m.getD i [])).bind fun t => if t = true then privityref07_Below.l0 k p m ((i + 1 : Nat) : Int) else some false := fun i hi k => by
  simp only [privityref07_Below.l0]
  rw [if_pos (by omega),if_pos (by omega),rdM_nat,wnat (by omega)]
 have hrl : ∀ i,i < m.length → (m.getD i []).length ≤ 1000000000 := fun i hi => by
  have := hr (m.getD i []) (by rw [List.getD_eq_getElem?_getD,List.getElem?_eq_getElem hi];exact List.getElem_mem hi)
  omega
 have main := allL (F := fun k i => privityref07_Below.l0 k p m i) (n := m.length) (Q := fun i => belowB p (m.getD i []) = true) (e := true) ?_ (fun i hi hq r h => ?_) (fun i hi hq => ?_) (decide (∀ i,i < m.length → belowB p (m.getD i []) = true)) ?_
 ·exact main.congr fun k => rfl
 ·refine Ev.step (fun k => ?_) (Ev.now _)
  simp only [privityref07_Below.l0]
  rw [if_neg (by omega)]
 ·exact Ev.step (hst i hi) (ev_if (below_ev p _ (hrl i hi)) (fun _ => h) (fun h2 => by rw [hq] at h2;cases h2))
 ·exact Ev.step (hst i hi) (ev_if (below_ev p _ (hrl i hi)) (fun h2 => absurd h2 hq) (fun _ => Ev.now _))
 ·rw [decide_eq_true_iff]
  exact ⟨fun h => ⟨h,rfl⟩,fun h => h.1⟩
theorem places_ev (pts : List S56) (n : Nat) (hn : n ≤ 1000000) (hl : pts.length ≤ 1000) : Ev (fun k => privityref07_places.f k pts (n : Int)) (plcB pts (n : Int)) := by
 have hw : IntKind.u64.wrap (n : Int) = (n : Int) := wrapU_id (by omega) (by omega)
 have hkey : ∀ i (hi : i < pts.length),(pts[i].f0 ∈ keys7 (ptsM (pts.take i))) ↔ ∃ j,∃ hj : j < i,pts[i].f0 = (pts[j]'(by omega)).f0 := fun i hi => by
  constructor
  ·intro h
   obtain ⟨y,hy,e⟩ := ptsM_keys h
   obtain ⟨j,hj,rfl⟩ := List.getElem_of_mem hy
   rw [List.length_take] at hj
   exact ⟨j,by omega,by rw [e,List.getElem_take]⟩
  ·rintro ⟨j,hj,e⟩
   rw [e]
   refine keys_of (pts := pts.take i) (List.mem_iff_getElem.2 ⟨j,by rw [List.length_take];omega,by rw [List.getElem_take]⟩)
 have hin : ∀ i (hi : i < pts.length),¬ (pts[i].f0 ∈ keys7 (ptsM (pts.take i))) → ∀ r,Ev (fun k => privityref07_places.l0 k pts (n : Int) ((i + 1 : Nat) : Int)) r → Ev (fun k => privityref07_places.l1 k pts (n : Int) (i : Int) ((0 : Nat) : Int)) r := fun i hi hq r h => by
  refine up (Q := fun j => Ev (fun k => privityref07_places.l1 k pts (n : Int) (i : Int) (j : Int)) r) (n := i) ?_ (fun j hj h2 => ?_)
  ·refine Ev.step (fun k => ?_) h
   simp only [privityref07_places.l1]
   rw [if_neg (by omega),wnat (by omega)]
  ·refine Ev.step (fun k => ?_) h2
   simp only [privityref07_places.l1]
   rw [if_pos (by omega),if_pos (by omega),if_pos (by omega),if_pos (by omega),if_pos (by omega),rdT_nat pts i hi,rdT_nat pts j (by omega),if_neg (fun e => hq ((hkey i hi).2 ⟨j,hj,e⟩)),wnat (by omega)]
 have hbad : ∀ i (hi : i < pts.length),pts[i].f0 ∈ keys7 (ptsM (pts.take i)) → Ev (fun k => privityref07_places.l1 k pts (n : Int) (i : Int) ((0 : Nat) : Int)) false := fun i hi hq => by
  obtain ⟨j,hj,e⟩ := (hkey i hi).1 hq
  have hmin : ∃ j,∃ hj : j < i,pts[i].f0 = (pts[j]'(by omega)).f0 ∧ ∀ q (hq : q < j),pts[i].f0 ≠ (pts[q]'(by omega)).f0 := by
   have : ∀ m,m ≤ i → (∃ j,∃ hj : j < i,j < m ∧ pts[i].f0 = (pts[j]'(by omega)).f0) → ∃ j,∃ hj : j < i,pts[i].f0 = (pts[j]'(by omega)).f0 ∧ ∀ q (hq : q < j),pts[i].f0 ≠ (pts[q]'(by omega)).f0 := by
    intro m
    induction m with
    | zero => rintro _ ⟨j,_,hj,_⟩;omega
    | succ m ih =>
     rintro hm ⟨j,hj,hjm,e⟩
     by_cases h3 : ∃ j,∃ hj : j < i,j < m ∧ pts[i].f0 = (pts[j]'(by omega)).f0
     ·exact ih (by omega) h3
     ·exact ⟨j,hj,e,fun q hq e2 => h3 ⟨q,by omega,by omega,e2⟩⟩
   exact this i (Nat.le_refl _) ⟨j,hj,hj,e⟩
  obtain ⟨j,hj,e,hm⟩ := hmin
  refine up (Q := fun j => Ev (fun k => privityref07_places.l1 k pts (n : Int) (i : Int) (j : Int)) false) (n := j) ?_ (fun q hq h2 => ?_)
  ·refine Ev.step (fun k => ?_) (Ev.now _)
   simp only [privityref07_places.l1]
   rw [if_pos (by omega),if_pos (by omega),if_pos (by omega),if_pos (by omega),if_pos (by omega),rdT_nat pts i hi,rdT_nat pts j (by omega),if_pos e]
  ·refine Ev.step (fun k => ?_) h2
   simp only [privityref07_places.l1]
   rw [if_pos (by omega),if_pos (by omega),if_pos (by omega),if_pos (by omega),if_pos (by omega),rdT_nat pts i hi,rdT_nat pts q (by omega),if_neg (hm q hq),wnat (by omega)]
 have main := up (Q := fun i => ((∀ x ∈ pts.take i,x.f0 < (n : Int)) ∧ (keys7 (ptsM (pts.take i))).Nodup) → Ev (fun k => privityref07_places.l0 k pts (n : Int) (i : Int)) (plcB pts (n : Int))) (n := pts.length) ?_ (fun i hi h => ?_) ⟨by simp,by simp [ptsM,keys7]⟩
 ·exact main.congr fun k => rfl
 ·intro h
  rw [List.take_length] at h
  rw [plcB_iff.2 h]
  refine Ev.step (fun k => ?_) (Ev.now _)
  simp only [privityref07_places.l0]
  rw [if_neg (by omega)]
 ·intro hI
  by_cases hlt : pts[i].f0 < (n : Int)
  ·refine Ev.step (f := fun k => privityref07_places.l1 k pts (n : Int) (i : Int) ((0 : Nat) : Int)) (fun k => ?_) ?_
   ·simp only [privityref07_places.l0]
    rw [if_pos (by omega),if_pos (by omega),rdT_nat pts i hi,hw,if_neg (by omega)];rfl
   ·by_cases hk : pts[i].f0 ∈ keys7 (ptsM (pts.take i))
    ·rw [plcB_no2 hi hk]
     exact hbad i hi hk
    ·refine hin i hi hk _ (h ⟨fun x hx => ?_,?_⟩)
     ·rw [List.take_succ_eq_append_getElem hi] at hx
      rcases List.mem_append.1 hx with h1|h1
      ·exact hI.1 x h1
      ·rw [List.mem_singleton.1 h1];exact hlt
     ·rw [← ptsM_next pts i hi]
      unfold keys7 at hk ⊢
      rw [List.map_append]
      refine List.nodup_append.2 ⟨hI.2,by simp,?_⟩
      intro a ha b hb
      simp only [List.map_cons,List.map_nil,List.mem_singleton] at hb
      subst hb
      rintro rfl
      exact hk ha
  ·rw [plcB_no1 hi hlt]
   refine Ev.step (fun k => ?_) (Ev.now _)
   simp only [privityref07_places.l0]
   rw [if_pos (by omega),if_pos (by omega),rdT_nat pts i hi,hw,if_pos (by omega)]
theorem rect_ev {m : List (List Int)} {n : Nat} (h0 : 0 < m.length) (hl : m.length ≤ 1000) (h : ∀ r ∈ m,r.length = n) : Ev (fun k => privityref06_Rect.f k m) ((n : Int),true) := by
 have hrow : ∀ i,i < m.length → (m.getD i []).length = n := fun i hi => h _ (by rw [List.getD_eq_getElem?_getD,List.getElem?_eq_getElem hi];exact List.getElem_mem hi)
 have hr0 : rd_L2 m 0 = m.getD 0 [] := rdM_nat m 0
 have main := up (Q := fun i => Ev (fun k => privityref06_Rect.l0 k m (i : Int)) ((n : Int),true)) (n := m.length) ?_ (fun i hi h => ?_)
 ·refine main.congr fun k => ?_
  unfold privityref06_Rect.f
  rw [if_neg (by omega)];rfl
 ·refine Ev.step (fun k => ?_) (Ev.now _)
  simp only [privityref06_Rect.l0]
  rw [if_neg (by omega),if_pos (by omega),hr0,hrow 0 h0]
 ·refine Ev.step (fun k => ?_) h
  simp only [privityref06_Rect.l0]
  rw [if_pos (by omega),if_pos (by omega),if_pos (by omega),rdM_nat,hr0,hrow i hi,hrow 0 h0,if_pos rfl,wnat (by omega)]
theorem one_ev (n : Nat) (hn : n ≤ 1000) : Ev (fun k => privityref06_One.f k (n : Int)) ((List.range n).map (unitR n)) := by
 have main := up (Q := fun i => Ev (fun k => privityref06_One.l0 k (n : Int) ((List.range i).map (unitR n)) (i : Int)) ((List.range n).map (unitR n))) (n := n) ?_ (fun i hi h => ?_)
 ·exact main.congr fun k => rfl
 ·refine Ev.step (fun k => ?_) (Ev.now _)
  simp only [privityref06_One.l0]
  rw [if_neg (by omega)]
 ·refine Ev.step (fun k => ?_) h
  simp only [privityref06_One.l0]
  rw [if_pos (by omega),if_pos (by omega),if_pos (by omega),Option.bind_some,if_pos (by omega),if_pos (by rw [List.length_replicate];omega),if_pos (by rw [List.length_map,List.length_range];omega),wnat (by omega),Int.toNat_natCast,Int.toNat_natCast,List.range_succ,List.map_append]
  rfl
theorem beside_ev (a b : List (List Int)) (hab : a.length ≤ b.length) (ha : a.length ≤ 1000) (h1 : ∀ r ∈ a,r.length ≤ 1000) (h2 : ∀ r ∈ b,r.length ≤ 1000) : Ev (fun k => privityref06_beside.f k a b) (a.mapIdx fun i r => r ++ b.getD i []) := by
 have hlen : (a.mapIdx fun i r => r ++ b.getD i []).length = a.length := List.length_mapIdx
 have main := up (Q := fun i => Ev (fun k => privityref06_beside.l0 k a b ((a.mapIdx fun i r => r ++ b.getD i []).take i) (i : Int)) (a.mapIdx fun i r => r ++ b.getD i [])) (n := a.length) ?_ (fun i hi h => ?_)
 ·exact main.congr fun k => rfl
 ·refine Ev.step (fun k => ?_) (Ev.now _)
  simp only [privityref06_beside.l0]
  rw [if_neg (by omega),List.take_of_length_le (by omega)]
 ·have e1 : a.getD i [] = a[i] := by rw [List.getD_eq_getElem?_getD,List.getElem?_eq_getElem hi];rfl
  have e2 : b.getD i [] = b[i]'(by omega) := by rw [List.getD_eq_getElem?_getD,List.getElem?_eq_getElem (by omega)];rfl
  have l1 := h1 _ (List.getElem_mem hi)
  have l2 := h2 _ (List.getElem_mem (show i < b.length by omega))
  refine Ev.step (fun k => ?_) h
  simp only [privityref06_beside.l0]
  rw [if_pos (by omega),Option.bind_some,if_pos (by omega),rdM_nat,rdM_nat,e1,e2,if_pos (by simp;omega),Option.bind_some,if_pos (by omega),if_pos (by simp;omega),if_pos (by rw [List.length_take];omega),wnat (by omega),List.nil_append,List.take_succ_eq_append_getElem (by omega),List.getElem_mapIdx,e2]
theorem rinverse_ev {p : Int} (hp : Supp p) {k : Nat} {part : List (List Int)} (hk : part.length = k) (h0 : 0 < k) (hk2 : k ≤ 60) (hok : RowsOk p k part) :
  Ev (fun kk => privityref06_Inverse.f kk p part) (if (red p (wideM part) k).2.1.length < k then ([],8) else ((red p (wideM part) k).1.map (·.drop k),0)) := by
 have hw := wideM_ok hp (l := part) (by rw [hk];exact hok)
 rw [hk] at hw
 have hwl : (wideM part).length = k := by rw [wideM_len,hk]
 have hr := red_ok hp hw k
 rw [hwl] at hr
 have hrN : rrdN (wideM part) = k + k := by
  unfold rrdN
  rw [List.getD_eq_getElem?_getD,List.getElem?_eq_getElem (by omega)]
  exact (hw.at (by omega)).1
 have hred : privityref06_Reduced.f p (wideM part) (k : Int) = some (red p (wideM part) k) := by
  unfold privityref06_Reduced.f
  rw [if_pos (supB_iff.2 hp),if_pos (by omega),if_pos (by omega),if_pos (by omega),hrN,if_pos (rowsB_iff.2 hw),if_pos (by omega),Int.toNat_natCast]
 have hsq : Ev (fun kk => privityref06_square.f kk part) true := by
  refine (Ev.bind (f := fun (_ : Nat) (bt : Int × Bool) => if bt.2 = true then (if (part.length : Int) > 0 then some (bt.1 == (part.length : Int)) else some false) else some false) (rect_ev (by omega) (by omega) (fun r hr => (hok r hr).1)) ?_).congr fun k => rfl
  refine Ev.congr (fun kk => ?_) (Ev.now true)
  show (if true = true then (if (part.length : Int) > 0 then some ((k : Int) == (part.length : Int)) else some false) else some false) = some true
  rw [if_pos rfl,if_pos (by omega),hk];simp
 have hbs := beside_ev part ((List.range k).map (unitR k)) (by rw [List.length_map,List.length_range];omega) (by omega) (fun r hr => by rw [(hok r hr).1];omega) (fun r hr => by
  obtain ⟨i,_,rfl⟩ := List.mem_map.1 hr
  rw [unitR_len];omega)
 have hbe : (part.mapIdx fun i r => r ++ ((List.range k).map (unitR k)).getD i []) = wideM part := by
  unfold wideM
  refine List.ext_getElem (by simp) fun i h1 h2 => ?_
  rw [List.length_mapIdx] at h1
  rw [List.getElem_mapIdx,List.getElem_mapIdx,List.getD_eq_getElem?_getD,List.getElem?_map,List.getElem?_range (by omega)]
  show part[i] ++ unitR k i = part[i] ++ unitR part.length i
  rw [hk]
 rw [hbe] at hbs
 have hone := one_ev k (by omega)
 rw [← hk] at hone hbs
 refine (ev_if hsq (fun _ => Ev.bind (f := fun kk t521 => (privityref06_beside.f kk part t521).bind fun t524 => ((privityref06_Reduced.f p t524 (part.length : Int)).bind fun bt527 => (if (bt527.2.1.length : Int) < (part.length : Int) then (some (([] : List (List Int)),8)) else (privityref06_Inverse.l0 kk part bt527.1 ([] : List (List Int)) 0)))) hone (Ev.bind (f := fun kk t524 => (privityref06_Reduced.f p t524 (part.length : Int)).bind fun bt527 => (if (bt527.2.1.length : Int) < (part.length : Int) then (some (([] : List (List Int)),8)) else (privityref06_Inverse.l0 kk part bt527.1 ([] : List (List Int)) 0))) hbs ?_)) (fun h => by cases h)).congr fun k => rfl
 refine ev_now_bind (by rw [hk];exact hred) ?_
 by_cases hf : (red p (wideM part) k).2.1.length < k
 ·rw [if_pos hf]
  exact Ev.congr (fun kk => if_pos (by omega)) (Ev.now _)
 ·rw [if_neg hf]
  refine Ev.congr (f := fun kk => privityref06_Inverse.l0 kk part (red p (wideM part) k).1 ([] : List (List Int)) 0) (fun kk => if_neg (by omega)) ?_
  have hRl := hr.len
  have hrows := hr.rows
  obtain ⟨R,hR⟩ : ∃ R,R = (red p (wideM part) k).1 := ⟨_,rfl⟩
  rw [← hR] at hRl hrows ⊢
  have main := up (Q := fun i => Ev (fun kk => privityref06_Inverse.l0 kk part R ((R.map fun x => x.drop k).take i) (i : Int)) (R.map fun x => x.drop k,0)) (n := R.length) ?_ (fun i hi h => ?_)
  ·exact main.congr fun kk => rfl
  ·refine Ev.step (fun kk => ?_) (Ev.now _)
   simp only [privityref06_Inverse.l0]
   rw [if_neg (by omega),List.take_of_length_le (by simp)]
  ·have e1 : R.getD i [] = R[i] := by rw [List.getD_eq_getElem?_getD,List.getElem?_eq_getElem hi];rfl
   have l1 := (hrows.at hi).1
   refine Ev.step (fun kk => ?_) h
   simp only [privityref06_Inverse.l0]
   rw [if_pos (by omega),if_pos (by omega),if_pos (by omega),rdM_nat,e1,l1,if_pos (by omega),if_pos (by rw [List.length_take];omega),wnat (by omega),List.take_succ_eq_append_getElem (by simp;omega),List.getElem_map,hk,Int.toNat_natCast]
theorem val7_snoc {L : List (Int × Int)} {x y z : Int} (hx : x ∉ keys7 L) : val7 (L ++ [(x,y)]) z = if z = x then y else val7 L z := by
 unfold val7
 rw [List.find?_append]
 by_cases e : z = x
 ·subst e
  rw [if_pos rfl,List.find?_eq_none.2 fun e he => by simp only [beq_iff_eq];exact fun hx2 => hx (List.mem_map.2 ⟨e,he,hx2⟩)]
  simp
 ·rw [if_neg e]
  have : List.find? (fun e => e.1 == z) [(x,y)] = none := by
   rw [List.find?_cons_of_neg (by simp;exact fun h => e h.symm)];rfl
  rw [this,Option.or_none]
theorem rng_set {α : Type} {F G : Nat → α} {n k : Nat} {v : α} (hG : ∀ j,j < n → G j = if j = k then v else F j) : ((List.range n).map F).set k v = (List.range n).map G := by
 refine List.ext_getElem (by simp) fun j h1 h2 => ?_
 simp only [List.length_set,List.length_map,List.length_range] at h1
 rw [List.getElem_set]
 simp only [List.getElem_map,List.getElem_range]
 rw [hG j h1]
 by_cases e : k = j
 ·rw [if_pos e,if_pos e.symm]
 ·rw [if_neg e,if_neg (fun h => e h.symm)]
def refX (ins : List S56) (n i : Nat) : List Int := (List.range n).map fun (k : Nat) => val7 (ptsM (ins.take i)) (k : Int)
def refT (ins : List S56) (n i : Nat) : List Bool := (List.range n).map fun (k : Nat) => decide ((k : Int) ∈ keys7 (ptsM (ins.take i)))
theorem refX_len (ins : List S56) (n i : Nat) : (refX ins n i).length = n := by simp [refX]
theorem refT_len (ins : List S56) (n i : Nat) : (refT ins n i).length = n := by simp [refT]
theorem ref_next {ins : List S56} {n i : Nat} (hi : i < ins.length) (h0 : 0 ≤ ins[i].f0) (hnd : (keys7 (ptsM ins)).Nodup) : (refX ins n i).set ins[i].f0.toNat ins[i].f1 = refX ins n (i + 1) ∧ (refT ins n i).set ins[i].f0.toNat true = refT ins n (i + 1) := by
 have hne : ins[i].f0 ∉ keys7 (ptsM (ins.take i)) := fun h => by
  have h4 : (keys7 (ptsM (ins.take (i + 1)))).Nodup := by
   refine List.Nodup.sublist ?_ hnd
   unfold keys7 ptsM
   exact ((List.take_sublist _ _).map _).map _
  rw [← ptsM_next ins i hi] at h4
  unfold keys7 at h4 h
  rw [List.map_append] at h4
  exact (List.nodup_append.1 h4).2.2 _ h _ (by simp) rfl
 constructor
 ·refine rng_set fun j hj => ?_
  rw [← ptsM_next ins i hi,val7_snoc hne]
  by_cases e : j = ins[i].f0.toNat
  ·rw [if_pos e,if_pos (by omega)]
  ·rw [if_neg e,if_neg (by omega)]
 ·refine rng_set fun j hj => ?_
  rw [← ptsM_next ins i hi]
  have hm : ((j : Int) ∈ keys7 (ptsM (ins.take i) ++ [(ins[i].f0,ins[i].f1)])) ↔ ((j : Int) ∈ keys7 (ptsM (ins.take i)) ∨ (j : Int) = ins[i].f0) := by unfold keys7;rw [List.map_append,List.mem_append];simp
  by_cases e : j = ins[i].f0.toNat
  ·rw [if_pos e]
   exact decide_eq_true (hm.2 (Or.inr (by omega)))
  ·rw [if_neg e]
   exact decide_eq_decide.2 ⟨fun h => (hm.1 h).elim id (fun h => by omega),fun h => hm.2 (Or.inl h)⟩
section
variable {p : Int} {m : List (List Int)} {ins outs : List S56}
theorem rc_out (hp : Supp p) (hM : ∀ r ∈ m,r.length = cpN m ∧ ∀ x ∈ r,Res p x) (hm : m.length ≤ 1000) (hn : cpN m ≤ 1000) {x : List Int} (hx : ∀ y ∈ x,Res p y) (hxl : x.length = cpN m) : Ev (fun k => privityref07_Complete.j5 k p m x) (x,cpOut p m x,0) := by
 refine Ev.step (f := fun k => privityref07_Complete.l4 k p m x ((cpOut p m x).take 0) ((0 : Nat) : Int)) (fun k => rfl) ?_
 have hol : (cpOut p m x).length = m.length := by simp [cpOut]
 refine up (Q := fun i => Ev (fun k => privityref07_Complete.l4 k p m x ((cpOut p m x).take i) (i : Int)) (x,cpOut p m x,0)) (n := m.length) ?_ (fun i hi h => ?_)
 ·refine Ev.step (fun k => ?_) (Ev.now _)
  simp only [privityref07_Complete.l4]
  rw [if_neg (by omega),List.take_of_length_le (by omega)]
 ·have hr := hM _ (List.getElem_mem hi)
  have hd := rdot_ev hp (r := m[i]) (l := x) hr.2 hx (by omega) (by omega)
  rw [hr.1] at hd
  refine Ev.step (f := fun k => (privityref07_dot.f k p m[i] x).bind fun t => (if ((cpOut p m x).take i).length < 17592186044416 then privityref07_Complete.l4 k p m x (((cpOut p m x).take i) ++ [t]) ((i + 1 : Nat) : Int) else none)) (fun k => ?_) (Ev.bind hd (h.congr fun k => ?_))
  ·simp only [privityref07_Complete.l4]
   rw [if_pos (by omega),if_pos (by omega),wnat (by omega),rdM_nat,List.getD_eq_getElem?_getD,List.getElem?_eq_getElem hi];rfl
  ·rw [if_pos (by rw [List.length_take];omega),List.take_succ_eq_append_getElem (show i < (cpOut p m x).length by omega)]
   unfold cpOut
   rw [List.getElem_map]
theorem rc_fill (hp : Supp p) {cols right vals x0 : List Int} {inv : List (List Int)} (hil : inv.length = cols.length) (hi : ∀ r ∈ inv,r.length = right.length ∧ ∀ y ∈ r,Res p y) (hr : ∀ y ∈ right,Res p y) (hc : ∀ c ∈ cols,0 ≤ c ∧ c < (x0.length : Int)) (hv : vals = inv.map fun r => dotP p r right right.length) (hcl : cols.length ≤ 1000) (hrl : right.length ≤ 1000) {r : List Int × List Int × Int}
  (h : Ev (fun k => privityref07_Complete.j5 k p m (fillN cols vals x0 cols.length)) r) : Ev (fun k => privityref07_Complete.l3 k p m x0 cols right inv 0) r := by
 refine up (Q := fun i => Ev (fun k => privityref07_Complete.l3 k p m (fillN cols vals x0 i) cols right inv (i : Int)) r) (n := cols.length) ?_ (fun i hi2 h2 => ?_)
 ·refine Ev.step (fun k => ?_) h
  simp only [privityref07_Complete.l3]
  rw [if_neg (by omega)]
 ·have hil2 : i < inv.length := by omega
  have hri := hi _ (List.getElem_mem hil2)
  have hd := rdot_ev hp (r := inv[i]) (l := right) hri.2 hr (by omega) (by omega)
  rw [hri.1] at hd
  have hci := hc _ (rd_mem hi2)
  have hvi : vals.getD i 0 = dotP p inv[i] right right.length := by rw [hv,List.getD_eq_getElem?_getD,List.getElem?_map,List.getElem?_eq_getElem hil2];rfl
  refine Ev.step (f := fun k => (privityref07_dot.f k p inv[i] right).bind fun t => privityref07_Complete.l3 k p m ((fillN cols vals x0 i).set (rd cols (i : Int)).toNat t) cols right inv ((i + 1 : Nat) : Int)) (fun k => ?_) (Ev.bind hd (h2.congr fun k => ?_))
  ·simp only [privityref07_Complete.l3]
   rw [if_pos (by omega),if_pos (by omega),if_pos (by omega),rdM_nat,List.getD_eq_getElem?_getD,List.getElem?_eq_getElem hil2,wnat (by omega)]
   show Option.bind _ _ = Option.bind _ _
   congr 1
   funext t
   rw [if_pos hci.1,if_pos (by rw [fillN_len];exact hci.2)]
  ·show privityref07_Complete.l3 k p m ((fillN cols vals x0 i).set (rd cols (i : Int)).toNat _) cols right inv ((i + 1 : Nat) : Int) = privityref07_Complete.l3 k p m (fillN cols vals x0 (i + 1)) cols right inv ((i + 1 : Nat) : Int)
   rw [← hvi];rfl
def rcRows (outs : List S56) : List Int := outs.map fun y => y.f0
def rcRight (p : Int) (m : List (List Int)) (x : List Int) (outs : List S56) : List Int := outs.map fun y => (y.f1 - dotP p (rd_L2 m y.f0) x (cpN m)) % p
theorem rcomplete_ev (h : CpOk p m ins outs) : Ev (fun k => privityref07_Complete.f k p m ins outs) (cpR p m ins outs) := by
 have hml := h.lm
 have hil := h.li
 have hol := h.lo
 have herr : Ev (fun k => privityref07_Complete.j0 k p m ins outs true) (([] : List Int),([] : List Int),1) := Ev.step (fun k => by simp only [privityref07_Complete.j0];rw [if_pos trivial]) (Ev.now _)
 have hr0 : rd_L2 m 0 = m.getD 0 [] := rdM_nat m 0
 have hN : ((rd_L2 m 0).length : Int) = (cpN m : Int) := by rw [hr0];rfl
 have hcN : cpN m ≤ 60 := by
  unfold cpN
  by_cases h0 : 0 < m.length
  ·rw [List.getD_eq_getElem?_getD,List.getElem?_eq_getElem h0]
   exact (h.rows _ (List.getElem_mem h0)).1
  ·rw [List.getD_eq_getElem?_getD,List.getElem?_eq_none (by omega)];simp
 by_cases hg : cpGo m ins outs = true
 ·obtain ⟨g1,g2,g3,g4⟩ := cpGo_iff.1 hg
  obtain ⟨f1,f2,f3⟩ := flatB_iff.1 g1
  refine (ev_if (even_ev m (by omega)) (fun _ => Ev.congr (f := fun k => (privityref07_places.f k ins ((rd_L2 m 0).length : Int)).bind fun t545 => (if t545 = true then ((privityref07_places.f k outs (m.length : Int)).bind fun t546 => (if t546 = true then (privityref07_Complete.j0 k p m ins outs ((wrap64 ((ins.length : Int) + (outs.length : Int))) != ((rd_L2 m 0).length : Int))) else (privityref07_Complete.j0 k p m ins outs true))) else (privityref07_Complete.j0 k p m ins outs true))) (fun k => if_pos (by omega)) ?_) (fun h2 => by rw [g1] at h2;cases h2)).congr fun k => rfl
  rw [hN]
  refine ev_if (places_ev ins (cpN m) (by omega) (by omega)) (fun _ => ?_) (fun h2 => by rw [g2] at h2;cases h2)
  refine ev_if (places_ev outs m.length (by omega) (by omega)) (fun _ => ?_) (fun h2 => by rw [g3] at h2;cases h2)
  rw [wcap (by omega) (by omega),ne_bool g4]
  have hM : ∀ r ∈ m,r.length = cpN m ∧ ∀ x ∈ r,Res p x := fun r hr => ⟨f3 r hr,(h.rows r hr).2⟩
  have nI := (plcB_iff.1 g2).2
  have nO := (plcB_iff.1 g3).2
  have hA0 : refX ins (cpN m) ins.length = cpAll0 m ins := by unfold refX cpAll0;rw [List.take_length]
  have hA0r := cpAll0_res h hg
  have hA0l := cpAll0_len m ins
  obtain ⟨l1,l2⟩ := cp_lens h hg
  have hkeys : rcRows outs = keys7 (ptsM outs) := by unfold rcRows keys7 ptsM;rw [List.map_map];rfl
  have hmem : ∀ x,x ∈ cpRows m outs ↔ x ∈ rcRows outs := fun x => by
   rw [hkeys]
   unfold cpRows
   rw [selR_mem]
   constructor
   ·exact fun h => h.2.2.2 rfl
   ·intro hx
    have := keys_in g3 (fun y hy => (h.po y hy).1.1) x hx
    exact ⟨this.1,this.2,⟨fun _ => rfl,fun _ => hx⟩⟩
  have hrl : (rcRows outs).length = outs.length := by unfold rcRows;rw [List.length_map]
  have hcr : ∀ x ∈ cpCols m ins,0 ≤ x ∧ x < (cpN m : Int) := fun x hx => by
   have := selR_mem.1 hx
   exact ⟨this.1,this.2.1⟩
  have hrr : ∀ x ∈ cpRows m outs,0 ≤ x ∧ x < (m.length : Int) := fun x hx => by
   have := selR_mem.1 hx
   exact ⟨this.1,this.2.1⟩
  obtain ⟨e1,e2,e3⟩ := cp_part h hg
  have hoR : ∀ y ∈ outs,0 ≤ y.f0 ∧ y.f0 < (m.length : Int) ∧ (rd_L2 m y.f0) ∈ m := fun y hy => by
   have h1 := (h.po y hy).1.1
   have h2 := (plcB_iff.1 g3).1 y hy
   refine ⟨h1,h2,?_⟩
   unfold rd_L2
   rw [List.getD_eq_getElem?_getD,List.getElem?_eq_getElem (by omega)]
   exact List.getElem_mem _
  have hsub : RowsOk p (rcRows outs).length (subM m (rcRows outs) (cpCols m ins)) ∧ subOk m (rcRows outs) (cpCols m ins) = true := by
   refine ⟨fun r hr => ?_,?_⟩
   ·obtain ⟨i,hi,rfl⟩ := List.mem_map.1 hr
    have := e2 _ (List.mem_map.2 ⟨i,(hmem i).2 hi,rfl⟩)
    exact ⟨by rw [this.1,l1,hrl],this.2⟩
   ·refine subOk_iff.2 fun i hi => subOk_iff.1 e3 i ((hmem i).2 hi)
  have hW : rcRight p m (cpAll0 m ins) outs = (rcRows outs).map fun i => (val7 (ptsM outs) i - dotP p (rd_L2 m i) (cpAll0 m ins) (cpN m)) % p := by
   unfold rcRight rcRows
   rw [List.map_map]
   refine List.map_congr_left fun y hy => ?_
   show _ = (val7 (ptsM outs) y.f0 - _) % p
   rw [val7_pts nO hy]
  have hend : Ev (fun k => privityref07_Complete.l2 k p m outs (cpAll0 m ins) (cpCols m ins) (rcRows outs) (rcRight p m (cpAll0 m ins) outs) (outs.length : Int)) (cpR p m ins outs) := by
   by_cases hz : outs.length = 0
   ·have hcp : cpR p m ins outs = (cpAll0 m ins,cpOut p m (cpAll0 m ins),0) := by unfold cpR;rw [if_pos hg,if_pos (by omega)]
    rw [hcp]
    refine Ev.step (fun k => ?_) (rc_out h.hp hM (by omega) (by omega) hA0r hA0l)
    simp only [privityref07_Complete.l2]
    rw [if_neg (by omega),if_neg (by omega)]
   ·have hsm := rsubm_ev m (rcRows outs) (cpCols m ins) (by omega) (by omega)
    have hsr : subR m (rcRows outs) (cpCols m ins) = (subM m (rcRows outs) (cpCols m ins),0) := by unfold subR;rw [if_pos hsub.2]
    rw [hsr] at hsm
    have hiv := rinverse_ev h.hp (k := (rcRows outs).length) (sub_len m (rcRows outs) (cpCols m ins)) (by omega) (by omega) hsub.1
    have hrr' : ∀ x ∈ cpRows m outs,0 ≤ x := fun x hx => (hrr x hx).1
    have hcc' : ∀ x ∈ cpCols m ins,0 ≤ x := fun x hx => (hcr x hx).1
    have hfull : (red p (wideM (subM m (cpRows m outs) (cpCols m ins))) (cpRows m outs).length).2.1.length = (cpRows m outs).length ↔ (red p (wideM (subM m (rcRows outs) (cpCols m ins))) (rcRows outs).length).2.1.length = (rcRows outs).length :=
     ⟨perm_full h.hp hrr' hcc' (by omega) (by omega) hmem e2 hsub.1,perm_full h.hp (fun x hx => hrr' x ((hmem x).2 hx)) hcc' (by omega) (by omega) (fun x => (hmem x).symm) hsub.1 e2⟩
    have hle : ∀ {rows : List Int},RowsOk p rows.length (subM m rows (cpCols m ins)) → (red p (wideM (subM m rows (cpCols m ins))) rows.length).2.1.length ≤ rows.length := fun {rows} hk => by
     have hw := wideM_ok h.hp (l := subM m rows (cpCols m ins)) (by rw [sub_len];exact hk)
     have := (red_ok h.hp hw rows.length).piv
     rw [wideM_len,sub_len] at this
     exact this
    have hle1 := hle e2
    have hle2 := hle hsub.1
    refine Ev.step (f := fun k => (privityref07_Submatrix.f k m (rcRows outs) (cpCols m ins)).bind fun bt576 => ((privityref06_Inverse.f k p bt576.1).bind fun bt580 => (if bt580.2 = 0 then (privityref07_Complete.l3 k p m (cpAll0 m ins) (cpCols m ins) (rcRight p m (cpAll0 m ins) outs) bt580.1 0) else (some (([] : List Int),([] : List Int),8))))) (fun k => ?_) (Ev.bind hsm (Ev.bind hiv ?_))
    ·simp only [privityref07_Complete.l2]
     rw [if_neg (by omega),if_pos (by omega)]
    ·by_cases hf : (red p (wideM (subM m (rcRows outs) (cpCols m ins))) (rcRows outs).length).2.1.length < (rcRows outs).length
     ·have hcp : cpR p m ins outs = ([],[],8) := by
       unfold cpR
       rw [if_pos hg,if_neg (by omega),if_pos]
       unfold cpRed
       have : ¬ (red p (wideM (subM m (cpRows m outs) (cpCols m ins))) (cpRows m outs).length).2.1.length = (cpRows m outs).length := fun e => by have := hfull.1 e;omega
       omega
      rw [hcp,if_pos hf]
      exact Ev.congr (fun k => if_neg (by decide)) (Ev.now _)
     ·have hfl := hfull.2 (by omega)
      have hcp : cpR p m ins outs = (cpAll1 p m ins outs,cpOut p m (cpAll1 p m ins outs),0) := by
       unfold cpR
       rw [if_pos hg,if_neg (by omega),if_neg]
       unfold cpRed
       omega
      rw [hcp,if_neg hf]
      refine Ev.congr (f := fun k => privityref07_Complete.l3 k p m (cpAll0 m ins) (cpCols m ins) (rcRight p m (cpAll0 m ins) outs) ((red p (wideM (subM m (rcRows outs) (cpCols m ins))) (rcRows outs).length).1.map (·.drop (rcRows outs).length)) 0) (fun k => if_pos rfl) ?_
      have hw := wideM_ok h.hp (l := subM m (rcRows outs) (cpCols m ins)) (by rw [sub_len];exact hsub.1)
      have hro := red_ok h.hp hw (rcRows outs).length
      have hright : (rcRight p m (cpAll0 m ins) outs).length = (rcRows outs).length := by unfold rcRight rcRows;rw [List.length_map,List.length_map]
      have hvals : cpVals p m ins outs = ((red p (wideM (subM m (rcRows outs) (cpCols m ins))) (rcRows outs).length).1.map (·.drop (rcRows outs).length)).map fun r => dotP p r (rcRight p m (cpAll0 m ins) outs) (rcRight p m (cpAll0 m ins) outs).length := by
       have hs := perm_sol h.hp (w := fun i => (val7 (ptsM outs) i - dotP p (rd_L2 m i) (cpAll0 m ins) (cpN m)) % p) hrr' hcc' (by omega) (by omega) hmem e2 hsub.1 hfl
       rw [hright]
       show solV p m (cpRows m outs) (cpCols m ins) (cpLeft p m ins outs) = solV p m (rcRows outs) (cpCols m ins) (rcRight p m (cpAll0 m ins) outs)
       rw [hW]
       exact hs
      refine rc_fill h.hp (vals := cpVals p m ins outs) ?_ ?_ ?_ ?_ hvals (by omega) (by omega) ?_
      ·rw [List.length_map,hro.len,wideM_len,sub_len];omega
      ·intro r hr
       obtain ⟨r0,hr0,rfl⟩ := List.mem_map.1 hr
       have h5 := hro.rows _ hr0
       rw [sub_len] at h5
       refine ⟨by rw [List.length_drop,h5.1,hright];omega,fun y hy => h5.2 y (List.mem_of_mem_drop hy)⟩
      ·intro y hy
       obtain ⟨z,_,rfl⟩ := List.mem_map.1 hy
       exact Res.mod h.hp _
      ·rw [hA0l];exact hcr
      ·have hall : fillN (cpCols m ins) (cpVals p m ins outs) (cpAll0 m ins) (cpCols m ins).length = cpAll1 p m ins outs := by unfold cpAll1;rw [l1,l2]
       rw [hall]
       refine rc_out h.hp hM (by omega) (by omega) ?_ (by unfold cpAll1;rw [fillN_len,hA0l])
       exact fillN_res h.hp (cpVals_res h) hA0r _
  have h2 : Ev (fun k => privityref07_Complete.l2 k p m outs (cpAll0 m ins) (cpCols m ins) ([] : List Int) ([] : List Int) 0) (cpR p m ins outs) := by
   refine up (Q := fun i => Ev (fun k => privityref07_Complete.l2 k p m outs (cpAll0 m ins) (cpCols m ins) ((rcRows outs).take i) ((rcRight p m (cpAll0 m ins) outs).take i) (i : Int)) (cpR p m ins outs)) (n := outs.length) ?_ (fun i hi h2 => ?_)
   ·rw [List.take_of_length_le (by omega),List.take_of_length_le (by unfold rcRight;rw [List.length_map];exact Nat.le_refl _)]
    exact hend
   ·have ho := hoR _ (List.getElem_mem hi)
    have hrow := hM _ ho.2.2
    have hd := rdot_ev h.hp (r := rd_L2 m outs[i].f0) (l := cpAll0 m ins) hrow.2 hA0r (by omega) (by omega)
    rw [hrow.1] at hd
    have hsb := rsub_eq h.hp (h.po _ (List.getElem_mem hi)).2 (dotP_res h.hp (rd_L2 m outs[i].f0) (cpAll0 m ins) (cpN m))
    have ht := rdT_nat outs i hi
    refine Ev.step (f := fun k => (privityref07_dot.f k p (rd_L2 m outs[i].f0) (cpAll0 m ins)).bind fun t571 => ((privityref01_Sub.f p outs[i].f1 t571).bind fun t572 => (if ((rcRight p m (cpAll0 m ins) outs).take i).length < 17592186044416 then (privityref07_Complete.l2 k p m outs (cpAll0 m ins) (cpCols m ins) ((rcRows outs).take i ++ [wrap64 outs[i].f0]) ((rcRight p m (cpAll0 m ins) outs).take i ++ [t572]) ((i + 1 : Nat) : Int)) else none))) (fun k => ?_) (Ev.bind hd (ev_now_bind hsb (h2.congr fun k => ?_)))
    ·simp only [privityref07_Complete.l2]
     rw [if_pos (by omega),if_pos (by omega),if_pos (by rw [List.length_take];omega),ht,if_pos ho.1,if_pos ho.2.1,wnat (by omega)]
    ·rw [if_pos (by rw [List.length_take];omega),wcap ho.1 (by omega),List.take_succ_eq_append_getElem (show i < (rcRows outs).length by omega),List.take_succ_eq_append_getElem (show i < (rcRight p m (cpAll0 m ins) outs).length by unfold rcRight;rw [List.length_map];exact hi)]
     unfold rcRows rcRight
     rw [List.getElem_map,List.getElem_map]
  have h1 : Ev (fun k => privityref07_Complete.l1 k p m outs (cpN m : Int) (refT ins (cpN m) ins.length) (cpAll0 m ins) ([] : List Int) 0) (cpR p m ins outs) := by
   refine up (Q := fun i => Ev (fun k => privityref07_Complete.l1 k p m outs (cpN m : Int) (refT ins (cpN m) ins.length) (cpAll0 m ins) (selR (keys7 (ptsM ins)) false i) (i : Int)) (cpR p m ins outs)) (n := cpN m) ?_ (fun i hi h3 => ?_)
   ·refine Ev.step (fun k => ?_) h2
    simp only [privityref07_Complete.l1]
    rw [if_neg (by omega)];rfl
   ·have htd : rdOf false (refT ins (cpN m) ins.length) (i : Int) = decide ((i : Int) ∈ keys7 (ptsM ins)) := by
     unfold rdOf refT
     rw [Int.toNat_natCast,List.getD_eq_getElem?_getD,List.getElem?_map,List.getElem?_range hi,List.take_length];rfl
    have hsl := selR_len_le (keys7 (ptsM ins)) false i
    refine Ev.step (fun k => ?_) h3
    simp only [privityref07_Complete.l1]
    rw [if_pos (by omega),if_pos (by omega),if_pos (by rw [refT_len];omega),htd,wnat (by omega),selR_next]
    cases hb : decide ((i : Int) ∈ keys7 (ptsM ins)) with
    | true => rw [if_pos rfl,if_neg (by decide)]
    | false => rw [if_neg (by decide),if_pos (by omega),if_pos (by decide)]
  have h0 : Ev (fun k => privityref07_Complete.l0 k p m ins outs (cpN m : Int) (refT ins (cpN m) 0) (refX ins (cpN m) 0) ((0 : Nat) : Int)) (cpR p m ins outs) := by
   refine up (Q := fun i => Ev (fun k => privityref07_Complete.l0 k p m ins outs (cpN m : Int) (refT ins (cpN m) i) (refX ins (cpN m) i) (i : Int)) (cpR p m ins outs)) (n := ins.length) ?_ (fun i hi h3 => ?_)
   ·refine Ev.step (fun k => ?_) h1
    simp only [privityref07_Complete.l0]
    rw [if_neg (by omega),hA0]
   ·have ht := rdT_nat ins i hi
    have hb1 := (h.pi _ (List.getElem_mem hi)).1.1
    have hb2 := (plcB_iff.1 g2).1 _ (List.getElem_mem hi)
    obtain ⟨n1,n2⟩ := ref_next (n := cpN m) hi hb1 nI
    refine Ev.step (fun k => ?_) h3
    simp only [privityref07_Complete.l0]
    rw [if_pos (by omega),if_pos (by omega),ht,if_pos hb1,if_pos (by rw [refT_len];exact hb2),if_pos (by rw [refX_len];exact hb2),wnat (by omega),n1,n2]
  refine Ev.step (fun k => ?_) h0
  simp only [privityref07_Complete.j0]
  rw [if_neg (by simp),if_pos (by omega),hN,if_pos (by omega),if_pos (by omega),if_pos (by omega),Int.toNat_natCast]
  have hx0 : refX ins (cpN m) 0 = List.replicate (cpN m) 0 := by
   unfold refX
   refine List.ext_getElem (by simp) fun i h1 h2 => ?_
   simp [ptsM,val7]
  have ht0 : refT ins (cpN m) 0 = List.replicate (cpN m) false := by
   unfold refT
   refine List.ext_getElem (by simp) fun i h1 h2 => ?_
   simp [ptsM,keys7]
  rw [hx0,ht0];rfl
 ·have hcp : cpR p m ins outs = ([],[],1) := by unfold cpR;rw [if_neg hg]
  rw [hcp]
  refine (ev_if (even_ev m (by omega)) (fun g1 => ?_) (fun _ => herr)).congr fun k => rfl
  obtain ⟨f1,f2,f3⟩ := flatB_iff.1 g1
  refine Ev.congr (f := fun k => (privityref07_places.f k ins ((rd_L2 m 0).length : Int)).bind fun t545 => (if t545 = true then ((privityref07_places.f k outs (m.length : Int)).bind fun t546 => (if t546 = true then (privityref07_Complete.j0 k p m ins outs ((wrap64 ((ins.length : Int) + (outs.length : Int))) != ((rd_L2 m 0).length : Int))) else (privityref07_Complete.j0 k p m ins outs true))) else (privityref07_Complete.j0 k p m ins outs true))) (fun k => if_pos (by omega)) ?_
  rw [hN]
  refine ev_if (places_ev ins (cpN m) (by omega) (by omega)) (fun g2 => ?_) (fun _ => herr)
  refine ev_if (places_ev outs m.length (by omega) (by omega)) (fun g3 => ?_) (fun _ => herr)
  have hne : ((ins.length : Int) + (outs.length : Int) != (cpN m : Int)) = true := by
   refine bne_iff_ne.2 fun e => hg (cpGo_iff.2 ⟨g1,g2,g3,e⟩)
  rw [wcap (by omega) (by omega),hne]
  exact herr
end
theorem cmp_skip (p : Int) (m : List (List Int)) (ins outs : List S56) : Ev (fun k => privitylaw07_HyperinvertibleCompleteMatchesReference.j0 k true p m ins outs) true :=
 Ev.step (f := fun _ => some true) (fun k => by simp only [privitylaw07_HyperinvertibleCompleteMatchesReference.j0];rw [if_pos trivial]) (Ev.now _)
theorem cmp_main {p : Int} {m : List (List Int)} {ins outs : List S56} (h : CpOk p m ins outs) : Ev (fun k => privitylaw07_HyperinvertibleCompleteMatchesReference.j0 k false p m ins outs) true := by
 have hc : hyperinvertible_Complete.f p m ins outs = some (cpR p m ins outs) := by unfold hyperinvertible_Complete.f;rw [if_pos (cpOkB_iff.2 h)]
 have hml := h.lm
 have hcN : cpN m ≤ 60 := by
  unfold cpN
  by_cases h0 : 0 < m.length
  ·rw [List.getD_eq_getElem?_getD,List.getElem?_eq_getElem h0]
   exact (h.rows _ (List.getElem_mem h0)).1
  ·rw [List.getD_eq_getElem?_getD,List.getElem?_eq_none (by omega)];simp
 have hl1 : (cpR p m ins outs).1.length ≤ 1000 := by
  unfold cpR
  split
  ·split
   ·rw [cpAll0_len];omega
   ·split
    ·simp
    ·unfold cpAll1;rw [fillN_len,cpAll0_len];omega
  ·simp
 have hl2 : (cpR p m ins outs).2.1.length ≤ 1000 := by
  unfold cpR
  split
  ·split
   ·simp [cpOut];omega
   ·split
    ·simp
    ·simp [cpOut];omega
  ·simp
 refine Ev.step (f := fun k => (hyperinvertible_Complete.f p m ins outs).bind fun bt600 => ((privityref07_Complete.f k p m ins outs).bind fun bt607 => (if bt600.2.2 = bt607.2.2 then ((privityref05_Same.f k bt600.1 bt607.1).bind fun t614 => (if t614 = true then ((privityref05_Same.f k bt600.2.1 bt607.2.1).bind fun t615 => (some t615)) else (some false))) else (some false)))) (fun k => ?_) (ev_now_bind hc (Ev.bind (rcomplete_ev h) (Ev.congr (fun k => if_pos rfl) (ev_if (same_ev _ _ (by omega)) (fun _ => Ev.bind (same_ev _ _ (by omega)) ?_) (fun h2 => ?_)))))
 ·simp only [privitylaw07_HyperinvertibleCompleteMatchesReference.j0]
  rw [if_neg (by simp)]
 ·rw [decide_eq_true rfl];exact Ev.now _
 ·rw [decide_eq_true rfl] at h2;cases h2
theorem HyperinvertibleCompleteMatchesReference (p : Int) (m : List (List Int)) (ins outs : List S56) (wp : (Lit.int .u64 p).wf = true) (wm : ∀ x ∈ m,∀ y ∈ x,(Lit.int .u64 y).wf = true) (wi : ∀ x ∈ ins,(Lit.int .u64 x.f0).wf = true ∧ (Lit.int .u64 x.f1).wf = true) (wo : ∀ x ∈ outs,(Lit.int .u64 x.f0).wf = true ∧ (Lit.int .u64 x.f1).wf = true) : ∃ k,privitylaw07_HyperinvertibleCompleteMatchesReference.f k p m ins outs = some true := by
 refine Ev.rounds (r := true) ?_
 refine ev_if awake07 (fun _ => ev_if (supported_ev p) (fun hs => ?_) fun _ => cmp_skip p m ins outs) (fun h => by cases h)
 refine ev_if (small_ev m 7 7 (by omega)) (fun hsm => ?_) fun _ => cmp_skip p m ins outs
 obtain ⟨hm7,hr7⟩ := of_decide_eq_true hsm
 have hrow : ∀ r ∈ m,r.length ≤ 7 := fun r hr => by
  obtain ⟨i,hi,rfl⟩ := List.getElem_of_mem hr
  have := hr7 i hi
  rwa [List.getD_eq_getElem?_getD,List.getElem?_eq_getElem hi] at this
 refine ev_if (bel07_ev p m (by omega) (fun r hr => by have := hrow r hr;omega)) (fun hb => ?_) fun _ => cmp_skip p m ins outs
 have hbm := of_decide_eq_true hb
 refine ev_ite (fun _ => cmp_skip p m ins outs) fun h1 => ev_ite (fun _ => cmp_skip p m ins outs) fun h2 => ?_
 refine ev_if (belowO_ev p ins (by omega)) (fun hi => ?_) fun _ => cmp_skip p m ins outs
 have hbi := of_decide_eq_true hi
 refine Ev.bind (f := fun k t => privitylaw07_HyperinvertibleCompleteMatchesReference.j0 k (!t) p m ins outs) (belowO_ev p outs (by omega)) ?_
 by_cases hv : ∀ i,i < outs.length → (rd_T56 outs (i : Int)).f1 < p
 ·rw [decide_eq_true hv]
  refine cmp_main ⟨supB_of hs,by omega,fun r hr => ⟨by have := hrow r hr;omega,?_⟩,by omega,by omega,fun x hx => ?_,fun x hx => ?_⟩
  ·obtain ⟨i,hi,rfl⟩ := List.getElem_of_mem hr
   have h3 := hbm i hi
   rw [show m.getD i [] = m[i] from by rw [List.getD_eq_getElem?_getD,List.getElem?_eq_getElem hi];rfl] at h3
   exact below_res h3 fun x hx => (wf64 (wm _ (List.getElem_mem hi) x hx)).1
  ·obtain ⟨i,hi,rfl⟩ := List.getElem_of_mem hx
   have h3 := hbi i hi
   rw [rdT_nat ins i hi] at h3
   exact ⟨wf64 (wi _ hx).1,⟨(wf64 (wi _ hx).2).1,h3⟩⟩
  ·obtain ⟨i,hi,rfl⟩ := List.getElem_of_mem hx
   have h3 := hv i hi
   rw [rdT_nat outs i hi] at h3
   exact ⟨wf64 (wo _ hx).1,⟨(wf64 (wo _ hx).2).1,h3⟩⟩
 ·rw [decide_eq_false hv]
  exact cmp_skip p m ins outs
end Go.Proofs.Ytmdoaijkaaaglaa.Pure
end
section
namespace Go.Proofs.Ytmdoaijkaaaglaa.Op
open Go.RowKit Go.Proofs.YtmdoaijkaaaglaaW.PrintWords
def OpenK {α : Type} (P : Program) (t : TypeId) (d : Kd α) (Q : α → Prop) : Prop :=
 ∀ {H : Type} {enc : TypeId × Value → H} {w : World} {base : Nat} {sp : Nat → Bool} {hd : Bool} {fuel : Nat} {cs : List Value} {x : DataW H × List MemPlace},DataW.trod enc P w base sp hd fuel t cs = some x → ∃ v : α,d.K w v cs ∧ Q v
theorem openInt {P : Program} {t : TypeId} {k : IntKind} (ht : P.underlying t = some (.int k)) : OpenK P t (Kd.int k) (fun n => (Lit.int k n).wf = true) := by
 intro H enc w base sp hd fuel cs x h
 obtain ⟨n,rfl,_,hw⟩ := DataW.trod_int ht h
 exact ⟨n,rfl,hw⟩
theorem exists_list {α : Type} {R : Nat → α → Prop} : ∀ (n : Nat),(∀ i,i < n → ∃ v,R i v) → ∃ l : List α,l.length = n ∧ ∀ i v,l[i]? = some v → R i v
 | 0,_ => ⟨[],rfl,fun i v h => by simp at h⟩
 | n + 1,h => by
  obtain ⟨l,hl,hr⟩ := exists_list n (fun i hi => h i (by omega))
  obtain ⟨v,hv⟩ := h n (by omega)
  refine ⟨l ++ [v],by simp [hl],fun i u hu => ?_⟩
  by_cases hi : i < n
  ·rw [List.getElem?_append_left (by omega)] at hu
   exact hr i u hu
  ·rw [List.getElem?_append_right (by omega)] at hu
   by_cases h0 : i - l.length = 0
   ·rw [h0] at hu
    simp only [List.getElem?_cons_zero,Option.some.injEq] at hu
    rw [← hu,show i = n from by omega];exact hv
   ·rw [List.getElem?_eq_none (by simp;omega)] at hu;cases hu
theorem openSlice {α : Type} {P : Program} {t e : TypeId} {d : Kd α} {Q : α → Prop} (ht : P.underlying t = some (.slice e)) (hc : P.cellsOf e = d.sz) (he : OpenK P e d Q) : OpenK P t (Kd.slice e d) (fun l => ∀ x ∈ l,Q x) := by
 intro H enc w base sp hd fuel cs x h
 rcases DataW.trod_slice ht h with ⟨rfl,_⟩|⟨a,len,cap,elems,rest,n,_,rfl,_,_,hlc,hm,hlen,hel,_,_⟩
 ·exact ⟨[],⟨none,0,rfl,Nat.le_refl _,rfl,Nat.zero_le _,fun h => absurd h (Nat.lt_irrefl 0)⟩,fun x hx => by cases hx⟩
 ·have each : ∀ i,i < len → ∃ v,(∃ c,c.length = d.sz ∧ d.K w v c ∧ ∀ j u,c[j]? = some u → w.cell? (a.add (i * d.sz + j)) = some u) ∧ Q v := by
   intro i hi
   have h1 := hel i hi
   rw [List.getElem?_eq_getElem (by omega),hc] at h1
   obtain ⟨c,hcs,htr⟩ := Option.bind_eq_some_iff.1 h1
   obtain ⟨v,hk,hq⟩ := he htr
   refine ⟨v,⟨c,d.K_len hk,hk,fun j u hu => ?_⟩,hq⟩
   have h2 := World.cells?_some hcs
   have hj := (List.getElem?_eq_some_iff.1 hu).1
   have h3 := h2.2.2 j (by rw [← d.K_len hk];exact hj)
   rw [hu] at h3
   rw [← h3,← Addr.add_add]
  obtain ⟨l,hl,hr⟩ := exists_list len each
  refine ⟨l,⟨some a,cap,by rw [hl],by omega,rfl,by rw [hl];simp only [maxLen] at hm;omega,fun _ => ⟨a,rfl,fun j p hj => (hr j p hj).1⟩⟩,fun x hx => ?_⟩
  obtain ⟨i,hi,rfl⟩ := List.getElem_of_mem hx
  exact (hr i _ (List.getElem?_eq_getElem hi)).2
theorem openFields {P : Program} {H : Type} {enc : TypeId × Value → H} {w : World} {base : Nat} {sp : Nat → Bool} {hd : Bool} {fuel : Nat} {t : TypeId} {cs : List Value} {x : DataW H × List MemPlace} {fs : Array Field} (ht : P.underlying t = some (.struct fs))
  (h : DataW.trod enc P w base sp hd fuel t cs = some x) : cs.length = P.cellsOf t ∧ ∀ (i : Nat) (f : Field),fs[i]? = some f → ∃ n y,DataW.trod enc P w base sp hd n f.type ((cs.drop f.offset).take (P.cellsOf f.type)) = some y := by
 obtain ⟨xs,n,_,_,hl,hlen,hf⟩ := DataW.trod_struct ht h
 refine ⟨hl,fun i f hi => ?_⟩
 have h1 := hf i f hi
 have h2 : i < fs.size := (Array.getElem?_eq_some_iff.1 hi).1
 rw [List.getElem?_eq_getElem (by omega)] at h1
 exact ⟨n,_,h1⟩
end Go.Proofs.Ytmdoaijkaaaglaa.Op
end
section
/- The row of the law HyperinvertibleCompleteMatchesReference, out of its plain law and the walk. -/
namespace Go.Proofs.Ytmdoaijkaaaglaa.hyperinvertibleCompleteMatchesReference
open Go.ChangeShapes Go.WideShapes Go.ChangeAt Go.RowKit Go.Proofs.Ytmdoaijkaaaglaa.Pr Go.Proofs.YtmdoaijkaaaglaaW.PrintWords
theorem own : ownKnob Try.prog.godebug = none := by kernel_rfl
theorem laidOut : laidOutB Try.prog = true := by kernel_rfl
set_option maxRecDepth 100000 in
theorem open56 : Op.OpenK Try.prog 56 k56 (fun x_ => ((Lit.int .u64 x_.f0).wf = true) ∧ ((Lit.int .u64 x_.f1).wf = true)) := by
  intro H enc w base sp hd fuel cs x h
  obtain ⟨hl, hf⟩ := Op.openFields Try.underlying56 h
  have hN : Try.prog.cellsOf 56 = 2 := by kernel_rfl
  rw [hN] at hl
  obtain ⟨c0_, c1_, rfl⟩ : ∃ c0_ c1_, cs = [c0_, c1_] := by
    match cs, hl with
    | [c0_, c1_], _ => exact ⟨_, _, rfl⟩
  obtain ⟨n0_, y0_, e0_⟩ := hf 0 _ rfl
  have g0_ := (Op.openInt (k := .u64) Try.underlying22) e0_
  obtain ⟨v0_, m0_, q0_⟩ := g0_
  obtain ⟨n1_, y1_, e1_⟩ := hf 1 _ rfl
  have g1_ := (Op.openInt (k := .u64) Try.underlying22) e1_
  obtain ⟨v1_, m1_, q1_⟩ := g1_
  exact ⟨⟨v0_, v1_⟩, ⟨_, _, rfl, m0_, m1_⟩, ⟨q0_, q1_⟩⟩
set_option maxRecDepth 100000 in
theorem arr4 (cs : Array Value) (h : cs.size = 4) : ∃ c0_ c1_ c2_ c3_, cs = #[c0_, c1_, c2_, c3_] := by
  obtain ⟨l_⟩ := cs
  match l_, h with
  | [c0_, c1_, c2_, c3_], _ => exact ⟨_, _, _, _, rfl⟩
set_option maxHeartbeats 4000000 in
set_option maxRecDepth 100000 in
theorem lifted (os : Os) (started : os.Started) (H : Type) (enc : TypeId × Value → H) :
    ReturnsInHanded {} Try.checked os 5 .any (Rows.hyperinvertibleCompleteMatchesReferenceSpec.pre6 enc Try.prog Try.f5 Rows.hyperinvertibleCompleteMatchesReferenceRow.domain false) (Rows.hyperinvertibleCompleteMatchesReferenceSpec.post enc Try.prog Try.f5 false true false false) := by
  refine returnsInHanded_of_change_sized (C := Try.checked) own started (by kernel_rfl) Try.func5
    (ChangeSpec.witness6 (enc := enc) (C := Try.checked) false ⟨#[], #[.agg #[.int .u64 0, .slice none 0 0, .slice none 0 0, .slice none 0 0]], []⟩ 8 (by kernel_rfl) (by kernel_rfl) (by kernel_rfl) (by kernel_rfl)) ?_
  intro W base args ds gs before hval0 hW hcnd hsz0 _
  have hval : ∀ (j : Nat) t v, Try.f5.params[j]? = some t → args[j]? = some v → Value.okWide Try.prog W .any base t v := hval0
  have hW' := hW
  obtain ⟨p, q, hA0, hV, rfl, hfz, hnd⟩ := hW
  have hA : DataW.TrodAll enc Try.prog W 0 (fun _ => true) true Try.f5.params.toList args.toList ds p := hA0
  rw [Try.params5] at hA hval
  obtain ⟨v0, vs0, d0, ds0, p0, q0, hargs, rfl, rfl, h0, r0⟩ := trodAll_cons hA
  obtain ⟨rfl, rfl, rfl⟩ := trodAll_nil r0
  obtain rfl : args = #[v0] := by cases args; simp_all
  obtain ⟨rfl, rfl⟩ := trodVars_none hV
  have k0 := h0
  have lt0 : ∀ x ∈ p0, x.block < W.heap.size := by obtain ⟨m, hm⟩ := k0; exact DataW.trod_lt m _ _ _ hm
  obtain ⟨cs0, rfl, hs0⟩ := okWide_struct Try.underlying37 (hval 0 37 v0 rfl rfl)
  have hN0 : Try.prog.cellsOf 37 = 4 := by kernel_rfl
  rw [hN0] at hs0
  obtain ⟨x0_0, x0_1, x0_2, x0_3, rfl⟩ := arr4 cs0 hs0
  obtain ⟨fu0, hf0⟩ := h0
  have hg0 : DataW.trod enc Try.prog W 0 (fun _ => true) true fu0 37 [x0_0, x0_1, x0_2, x0_3] = some (d0, p0) := hf0
  have f0 := (Op.openFields Try.underlying37 hg0).2
  obtain ⟨n0_0, y0_0, e0_0⟩ := f0 0 _ rfl
  have b0_0 : DataW.trod enc Try.prog W 0 (fun _ => true) true n0_0 22 [x0_0] = some y0_0 := e0_0
  obtain ⟨a0_0, e0_0, w0_0⟩ := (Op.openInt (k := .u64) Try.underlying22) b0_0
  cases e0_0
  obtain ⟨n0_1, y0_1, e0_1⟩ := f0 1 _ rfl
  have b0_1 : DataW.trod enc Try.prog W 0 (fun _ => true) true n0_1 25 [x0_1] = some y0_1 := e0_1
  obtain ⟨z0_1, ⟨A0_1, c0_1, e0_1, hc0_1, g0_1⟩, w0_1⟩ := (Op.openSlice (d := (Kd.slice 22 (Kd.int .u64))) Try.underlying25 (by kernel_rfl) (Op.openSlice (d := (Kd.int .u64)) Try.underlying40 (by kernel_rfl) (Op.openInt (k := .u64) Try.underlying22))) b0_1
  cases e0_1
  obtain ⟨n0_2, y0_2, e0_2⟩ := f0 2 _ rfl
  have b0_2 : DataW.trod enc Try.prog W 0 (fun _ => true) true n0_2 35 [x0_2] = some y0_2 := e0_2
  obtain ⟨z0_2, ⟨A0_2, c0_2, e0_2, hc0_2, g0_2⟩, w0_2⟩ := (Op.openSlice (d := k56) Try.underlying35 (by kernel_rfl) open56) b0_2
  cases e0_2
  obtain ⟨n0_3, y0_3, e0_3⟩ := f0 3 _ rfl
  have b0_3 : DataW.trod enc Try.prog W 0 (fun _ => true) true n0_3 35 [x0_3] = some y0_3 := e0_3
  obtain ⟨z0_3, ⟨A0_3, c0_3, e0_3, hc0_3, g0_3⟩, w0_3⟩ := (Op.openSlice (d := k56) Try.underlying35 (by kernel_rfl) open56) b0_3
  cases e0_3
  clear hA0 hval0 hsz0
  obtain ⟨kk, hk⟩ := Pure.HyperinvertibleCompleteMatchesReference a0_0 z0_1 z0_2 z0_3 w0_0 w0_1 w0_2 w0_3
  refine (privitylaw07_HyperinvertibleCompleteMatchesReference.calls kk a0_0 _ _ z0_1 _ _ z0_2 _ _ z0_3 true W g0_1 hc0_1 g0_2 hc0_2 g0_3 hc0_3 rfl hk).mono fun e W' ⟨he, bel⟩ => ?_
  subst he
  exact ⟨_, rfl, _, _, _, [], _, [], hW', trodAll_mk1 (shut_bool Try.underlying4 _), (trodAll_cons_mk (Below.trod laidOut (by kernel_rfl) (of_decide_eq_true (by kernel_rfl)) k0 bel lt0) trodAll_mk0), rfl, bel.frame _, fun h => by cases h⟩
theorem over : Rows.hyperinvertibleCompleteMatchesReferenceRow.holds Try.pinned (OpenSpec.ofChange Rows.hyperinvertibleCompleteMatchesReferenceSpec) :=
  OpenClaim.holds_of_wide 5 Try.f5 rfl rfl rfl rfl rfl rfl rfl ⟨rfl, rfl, rfl, rfl, rfl⟩ rfl rfl rfl rfl rfl (by kernel_rfl) Try.func5 (by kernel_rfl)
    (of_decide_eq_true (by kernel_rfl)) (by unfold Func.isWrapper; first | (rw [if_pos (by decide +kernel)]; kernel_rfl) | (rw [if_neg (by decide +kernel)]; exact ⟨rfl, rfl⟩))
    (fun os started H enc _ => lifted os started H enc)
theorem proved : Rows.HyperinvertibleCompleteMatchesReferenceSaid := over
#print axioms proved
end Go.Proofs.Ytmdoaijkaaaglaa.hyperinvertibleCompleteMatchesReference
namespace Go.Proofs.Ytmdoaijkaaaglaa
/-- The row, under a short name, for the claim. -/
theorem hyperinvertibleCompleteMatchesReference_holds : Rows.HyperinvertibleCompleteMatchesReferenceSaid := hyperinvertibleCompleteMatchesReference.proved
end Go.Proofs.Ytmdoaijkaaaglaa
end
