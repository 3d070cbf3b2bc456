/- Part 4 of the proof's texts, joined in build order. -/
import Derived.Test.YtiaajmiphnjgaaaZDetects2
import Derived.Test.YtiaajmiphnjgaaaZDetects3
import Derived.ArgAppend
import Derived.Test.YtiaajmiphnjgaaaZDetects0
section
/- Printed by a program of this seat (the kit's printer, with the functions that were proved by hand given to it). What stands here: the functions that the statements reach, as plain functions, and that the Go code computes them. -/
namespace Go.Proofs.Ytiaajmiphnjgaaa.Pr
open Go.RowKit Go.Proofs.YtiaajmiphnjgaaaW.PrintWords Go.Proofs.YtiaajmiphnjgaaaW.PrintLast Go.Proofs.YtiaajmiphnjgaaaW.PrintMore
attribute [local go_sem] max2_int min2_int max_two min_two max_three min_three max_four min_four   -- for this text's walks alone
set_option linter.unusedVariables false
set_option linter.unusedSimpArgs false

open Go.Proofs.Ytiaajmiphnjgaaa.Hw
/-! ### poly_Coefficient: function 49 -/
def poly_Coefficient.f (l0 : List Int) (a1 : Int) : Option (Int) := if a1 < 0 then (some 0) else (if a1 ≥ (l0.length : Int) then (some 0) else (if 0 ≤ a1 then (if a1 < (l0.length : Int) then (some (rd l0 a1)) else (none)) else (none)))
set_option maxHeartbeats 8000000 in
set_option maxRecDepth 100000 in
theorem poly_Coefficient.calls (A0 : Option Addr) (c0 : Nat) (l0 : List Int) (a1 : Int) (r : Int) (w : World) (hr0 : Kd.C (Kd.int .u64) w A0 l0.length l0) (hc0 : l0.length ≤ c0) (h : poly_Coefficient.f l0 a1 = some r) :
  Calls Try.prog 49 #[.slice A0 l0.length c0,.int .i64 a1] w fun e w' => e = .returned (.int .u64 r) ∧ Drawn0 w w' := by
 have HR0 := Aside0.mk hr0
 have HC0 := Aside0.mk hc0
 clear hr0 hc0
 have H : (if a1 < 0 then (some 0) else (if a1 ≥ (l0.length : Int) then (some 0) else (if 0 ≤ a1 then (if a1 < (l0.length : Int) then (some (rd l0 a1)) else (none)) else (none)))) = some r := h
 clear h
 by_cases c3 : a1 < 0
 ·rw [if_pos c3] at H
  have c3b0 : decide (a1 < 0) = true := decide_eq_true c3
  clear c3
  obtain rfl := Option.some.inj H
  go_enter Try.func49,Try.ntmps49
  go_wp2
  go_ret
  exact ⟨by first|rfl|(simp;done)|(simp [*];done),by repeat (first|exact Drawn0.refl _|apply Drawn0.step)⟩
 ·rw [if_neg c3] at H
  have c3b0 : decide (a1 < 0) = false := decide_eq_false c3
  clear c3
  by_cases c4 : a1 ≥ (l0.length : Int)
  ·rw [if_pos c4] at H
   have c4b0 : decide ((l0.length : Int) ≤ a1) = true := decide_eq_true c4
   clear c4
   obtain rfl := Option.some.inj H
   go_enter Try.func49,Try.ntmps49
   go_wp2
   go_ret
   exact ⟨by first|rfl|(simp;done)|(simp [*];done),by repeat (first|exact Drawn0.refl _|apply Drawn0.step)⟩
  ·rw [if_neg c4] at H
   have c4b0 : decide ((l0.length : Int) ≤ a1) = false := decide_eq_false c4
   clear c4
   by_cases c5 : 0 ≤ a1
   ·rw [if_pos c5] at H
    have c5b0 : decide (0 ≤ a1) = true := decide_eq_true c5
    clear c5
    by_cases c6 : a1 < (l0.length : Int)
    ·rw [if_pos c6] at H
     have c6b0 : decide (a1 < (l0.length : Int)) = true := decide_eq_true c6
     clear c6
     obtain rfl := Option.some.inj H
     have p170 : 0 ≤ (a1 : Int) := of_decide_eq_true (by first|(with_reducible assumption)|assumption)
     have q170 : a1 < (l0.length : Int) := of_decide_eq_true (by first|(with_reducible assumption)|assumption)
     obtain ⟨ad170,e170,hx170_0⟩ := Kd.at_int HR0.out a1 p170 q170
     cases e170
     replace p170 := eq_true p170
     replace q170 := eq_true q170
     go_enter Try.func49,Try.ntmps49
     go_wp2
     go_ret
     exact ⟨by first|rfl|(simp;done)|(simp [*];done),by repeat (first|exact Drawn0.refl _|apply Drawn0.step)⟩
    ·rw [if_neg c6] at H
     exact absurd H (by simp)
   ·rw [if_neg c5] at H
    exact absurd H (by simp)
/-! ### shamir_Reconstruct: function 19 -/
def shamir_Reconstruct.j0 : Nat → Int → Int → List (S34) → Bool → Option (Int × Int)
 | 0,_,_,_,_ => none
 | k + 1,x0,x1,x2,x22 => if x22 = true then (some (0,1)) else ((interpolate_Polynomial.f x0 x2).bind fun bt172 => (if bt172.2 = 0 then ((poly_Degree.f k bt172.1).bind fun t176 => (if t176 > x1 then (some (0,9)) else ((poly_Coefficient.f bt172.1 0).bind fun t177 => (some (t177,0))))) else (some (0,bt172.2))))
def shamir_Reconstruct.f (k : Nat) (a0 : Int) (a1 : Int) (l2 : List (S34)) : Option (Int × Int) := if a1 < 0 then (shamir_Reconstruct.j0 k a0 a1 l2 true) else ((shamir_placed.f l2).bind fun t171 => (if t171 = true then (shamir_Reconstruct.j0 k a0 a1 l2 (decide ((l2.length : Int) ≤ a1))) else (shamir_Reconstruct.j0 k a0 a1 l2 true)))
theorem shamir_Reconstruct.mono_l : ∀ k, (∀ y0 y1 y2 y3, LeO (shamir_Reconstruct.j0 k y0 y1 y2 y3) (shamir_Reconstruct.j0 (k + 1) y0 y1 y2 y3))
 | 0 => fun _ _ _ _ r h => by simp [shamir_Reconstruct.j0] at h
 | k + 1 => by
  have ih0 := shamir_Reconstruct.mono_l k
  ·intro y0 y1 y2 y3
   unfold shamir_Reconstruct.j0
   repeat' first
   | (with_reducible exact ih0 _ _ _ _)
   | (with_reducible exact poly_Degree.mono _ _)
   | (with_reducible exact LeO.refl _)
   | (with_reducible exact LeO.none _)
   | (with_reducible refine LeO.ite ?_ ?_)
   | (with_reducible refine LeO.bind ?_ (fun _ => ?_))
   | exact ih0 _ _ _ _
   | exact poly_Degree.mono _ _
   | exact LeO.none _
   | refine LeO.ite ?_ ?_
   | refine LeO.bind ?_ (fun _ => ?_)
theorem shamir_Reconstruct.mono : ∀ a0 a1 a2 k, LeO (shamir_Reconstruct.f k a0 a1 a2) (shamir_Reconstruct.f (k + 1) a0 a1 a2) := by
 intro a0 a1 a2 k
 have ih0 := shamir_Reconstruct.mono_l k
 unfold shamir_Reconstruct.f
 repeat' first
   | (with_reducible exact ih0 _ _ _ _)
   | (with_reducible exact poly_Degree.mono _ _)
   | (with_reducible exact LeO.refl _)
   | (with_reducible exact LeO.none _)
   | (with_reducible refine LeO.ite ?_ ?_)
   | (with_reducible refine LeO.bind ?_ (fun _ => ?_))
   | exact ih0 _ _ _ _
   | exact poly_Degree.mono _ _
   | exact LeO.none _
   | refine LeO.ite ?_ ?_
   | refine LeO.bind ?_ (fun _ => ?_)
set_option maxHeartbeats 8000000 in
set_option maxRecDepth 100000 in
theorem shamir_Reconstruct.calls (k : Nat) (a0 : Int) (a1 : Int) (A2 : Option Addr) (c2 : Nat) (l2 : List (S34)) (r1 : Int) (r2 : Int) (w : World) (hr2 : Kd.C k34 w A2 l2.length l2) (hc2 : l2.length ≤ c2) (h : shamir_Reconstruct.f k a0 a1 l2 = some (r1, r2)) :
  Calls Try.prog 19 #[.int .u64 a0,.int .i64 a1,.slice A2 l2.length c2] w fun e w' => e = .returned (.tuple #[.int .u64 r1,.int .i64 r2]) ∧ Below w.heap.size w w' := by
 have HR2 := Aside0.mk hr2
 have HC2 := Aside0.mk hc2
 clear hr2 hc2
 have HB := Aside0.mk (Below.refl w.heap.size w)
 have H : (if a1 < 0 then (shamir_Reconstruct.j0 k a0 a1 l2 true) else ((shamir_placed.f l2).bind fun t171 => (if t171 = true then (shamir_Reconstruct.j0 k a0 a1 l2 (decide ((l2.length : Int) ≤ a1))) else (shamir_Reconstruct.j0 k a0 a1 l2 true)))) = some (r1,r2) := h
 clear h
 have HC4 := Aside0.mk H
 clear H
 go_enter Try.func19,Try.ntmps19
 go_upto_region 1 with (fail)
 go_cut [22] (fun v22 wc => ∃ (kq : Nat) (x22_3 : Bool),v22 = .bool x22_3 ∧ Aside0 (shamir_Reconstruct.j0 kq a0 a1 l2 x22_3 = some (r1,r2)) ∧ Aside0 (kq ≤ k) ∧ Aside0 (Below w.heap.size w wc))
 case first =>
  have H := HC4.out
  clear HC4
  by_cases c5 : a1 < 0
  ·rw [if_pos c5] at H
   have c5b0 : decide (a1 < 0) = true := decide_eq_true c5
   clear c5
   (first|rw [c5b0]|(simp only [i64_w,i32_w];rw [c5b0])|skip)
   have H' := Aside0.mk H
   clear H
   go_wp2
   go_meet
   case rel => exact ⟨_,(true),(by first|rfl|(simp;done)|(simp [*];done)),H',⟨by first|omega|exact Nat.le_refl _⟩,⟨by repeat (first|(with_reducible first|exact HB.out|apply below_alloc|apply pw_below_drewN|apply below_drew1)|exact HB.out)⟩⟩
  ·rw [if_neg c5] at H
   have c5b0 : decide (a1 < 0) = false := decide_eq_false c5
   clear c5
   (first|rw [c5b0]|(simp only [i64_w,i32_w];rw [c5b0])|skip)
   replace H := Option.bind_eq_some_iff.mp H
   obtain ⟨t171,A60,H⟩ := H
   replace H : (if t171 = true then (shamir_Reconstruct.j0 k a0 a1 l2 (decide ((l2.length : Int) ≤ a1))) else (shamir_Reconstruct.j0 k a0 a1 l2 true)) = some (r1,r2) := H
   have A6 := Aside0.mk A60
   clear A60
   by_cases c7 : t171 = true
   ·subst c7
    have H1 : (shamir_Reconstruct.j0 k a0 a1 l2 (decide ((l2.length : Int) ≤ a1))) = some (r1,r2) := by rw [if_pos rfl] at H;exact H
    clear H
    have H := H1
    clear H1
    have H' := Aside0.mk H
    clear H
    go_wp2_with (first|(go_at_call 46;(with_reducible refine (shamir_placed.calls _ _ l2 true _ ?side1 ?side2 A6.out).mono ?_);(case side1 => repeat (first|exact (Kd.C_below HR2.out HB.out)|(with_reducible refine Kd.C_alloc ?_ _)|(with_reducible refine Kd.C_drewN ?_ _)|(with_reducible refine Kd.C_drew ?_)));(case side2 => exact HC2.out);rintro e w8 ⟨rfl,hb⟩;have n0_ := Aside0.mk (below_step (by repeat (first|(with_reducible first|exact HB.out|apply below_alloc|apply pw_below_drewN|apply below_drew1)|exact HB.out)) hb);clear HB;have HB := n0_;clear n0_;(try clear hb);(try clear hb2);(try clear hk);(try clear hi)))
    go_meet
    case rel => exact ⟨_,(decide ((l2.length : Int) ≤ a1)),(by first|rfl|(simp;done)|(simp [*];done)),H',⟨by first|omega|exact Nat.le_refl _⟩,⟨by repeat (first|(with_reducible first|exact HB.out|apply below_alloc|apply pw_below_drewN|apply below_drew1)|exact HB.out)⟩⟩
   ·replace c7 := Bool.eq_false_iff.mpr c7
    subst c7
    have H1 : (shamir_Reconstruct.j0 k a0 a1 l2 true) = some (r1,r2) := by rw [if_neg (show ¬ (false = true) by decide)] at H;exact H
    clear H
    have H := H1
    clear H1
    have H' := Aside0.mk H
    clear H
    go_wp2_with (first|(go_at_call 46;(with_reducible refine (shamir_placed.calls _ _ l2 false _ ?side1 ?side2 A6.out).mono ?_);(case side1 => repeat (first|exact (Kd.C_below HR2.out HB.out)|(with_reducible refine Kd.C_alloc ?_ _)|(with_reducible refine Kd.C_drewN ?_ _)|(with_reducible refine Kd.C_drew ?_)));(case side2 => exact HC2.out);rintro e w9 ⟨rfl,hb⟩;have n0_ := Aside0.mk (below_step (by repeat (first|(with_reducible first|exact HB.out|apply below_alloc|apply pw_below_drewN|apply below_drew1)|exact HB.out)) hb);clear HB;have HB := n0_;clear n0_;(try clear hb);(try clear hb2);(try clear hk);(try clear hi)))
    go_meet
    case rel => exact ⟨_,(true),(by first|rfl|(simp;done)|(simp [*];done)),H',⟨by first|omega|exact Nat.le_refl _⟩,⟨by repeat (first|(with_reducible first|exact HB.out|apply below_alloc|apply pw_below_drewN|apply below_drew1)|exact HB.out)⟩⟩
 case rest =>
  clear HC4
  try clear c1
  try clear c2
  try clear p2
  try clear c5
  try clear c5b0
  try clear c7
  obtain ⟨kq,x22_3,rfl,HA,HJ3,HB⟩ := hcut
  cases kq with
  | zero => exact absurd HA.out (by simp [shamir_Reconstruct.j0])
  | succ kj3 =>
   have H := HA.out
   clear HA
   simp only [shamir_Reconstruct.j0] at H
   by_cases c10 : x22_3 = true
   ·subst c10
    have H1 : (some (0,1)) = some (r1,r2) := by rw [if_pos rfl] at H;exact H
    clear H
    have H := H1
    clear H1
    simp only [Option.some.injEq,Prod.mk.injEq] at H
    obtain ⟨rfl,rfl⟩ := H
    go_wp2
    go_ret2
    exact ⟨by first|rfl|(simp [errW_none,errW_some] <;> rfl)|(simp [*,errW_none,errW_some] <;> rfl),by repeat (first|(with_reducible first|exact HB.out|apply below_alloc|apply pw_below_drewN|apply below_drew1)|exact HB.out)⟩
   ·replace c10 := Bool.eq_false_iff.mpr c10
    subst c10
    have H1 : ((interpolate_Polynomial.f a0 l2).bind fun bt172 => (if bt172.2 = 0 then ((poly_Degree.f kj3 bt172.1).bind fun t176 => (if t176 > a1 then (some (0,9)) else ((poly_Coefficient.f bt172.1 0).bind fun t177 => (some (t177,0))))) else (some (0,bt172.2)))) = some (r1,r2) := by rw [if_neg (show ¬ (false = true) by decide)] at H;exact H
    clear H
    have H := H1
    clear H1
    replace H := Option.bind_eq_some_iff.mp H
    obtain ⟨⟨t172,t173⟩,A110,H⟩ := H
    replace H : (if t173 = 0 then ((poly_Degree.f kj3 t172).bind fun t176 => (if t176 > a1 then (some (0,9)) else ((poly_Coefficient.f t172 0).bind fun t177 => (some (t177,0))))) else (some (0,t173))) = some (r1,r2) := H
    have A11 := Aside0.mk A110
    clear A110
    by_cases c12 : t173 = 0
    ·rw [if_pos c12] at H
     have c12b0 : (t173 == 0) = true := beq_iff_eq.mpr c12
     have c12b1 : (t173 != 0) = false := bne_eq_false_iff_eq.mpr c12
     clear c12
     replace H := Option.bind_eq_some_iff.mp H
     obtain ⟨t176,A130,H⟩ := H
     replace H : (if t176 > a1 then (some (0,9)) else ((poly_Coefficient.f t172 0).bind fun t177 => (some (t177,0)))) = some (r1,r2) := H
     have A13 := Aside0.mk A130
     clear A130
     by_cases c14 : t176 > a1
     ·rw [if_pos c14] at H
      have c14b0 : decide (a1 < t176) = true := decide_eq_true c14
      clear c14
      simp only [Option.some.injEq,Prod.mk.injEq] at H
      obtain ⟨rfl,rfl⟩ := H
      go_wp2_with (first|((with_reducible refine gate_callee (f := 47) rfl ?_);refine goesL_ (some 26) rfl rfl Try.func47 (by kernel_rfl) rfl #[.int .u64 a0,.slice A2 l2.length c2] rfl (by (try simp only [List.map_toArray,List.map_cons,List.map_nil]);first|done|rfl|(simp only [List.length_drop,List.length_take];rfl)) ?_;(with_reducible refine (interpolate_Polynomial.calls a0 _ _ l2 t172 t173 _ ?side1 ?side2 A11.out).mono ?_);(case side1 => repeat (first|exact (Kd.C_below HR2.out HB.out)|(with_reducible refine Kd.C_alloc ?_ _)|(with_reducible refine Kd.C_drewN ?_ _)|(with_reducible refine Kd.C_drew ?_)));(case side2 => exact HC2.out);rintro e w15 ⟨v174,rfl,ho0,hb⟩;refine ⟨_,rfl,?_⟩;have n0_ := Aside0.mk (Kd.R_lower ho0 (below_size (by repeat (first|(with_reducible first|exact HB.out|apply below_alloc|apply pw_below_drewN|apply below_drew1)|exact HB.out))));have n1_ := Aside0.mk (below_step (by repeat (first|(with_reducible first|exact HB.out|apply below_alloc|apply pw_below_drewN|apply below_drew1)|exact HB.out)) hb);clear HB;have HO175 := n0_;have HB := n1_;clear n0_ n1_;(try clear hb);(try clear hb2);(try clear hk);(try clear hi);(try clear ho0);obtain ⟨Ao16,co16,eo16⟩ := Kd.R_slice HO175.out;subst eo16)|((with_reducible refine gate_callee (f := 48) rfl ?_);refine goesL_ (some 33) rfl rfl Try.func48 (by kernel_rfl) rfl #[.slice Ao16 t172.length co16] rfl (by (try simp only [List.map_toArray,List.map_cons,List.map_nil]);first|done|rfl|(simp only [List.length_drop,List.length_take];rfl)) ?_;(with_reducible refine (poly_Degree.calls kj3 _ _ t172 t176 _ ?side1 ?side2 A13.out).mono ?_);(case side1 => repeat (first|exact (Kd.R_reads' HO175.out).2.2|(with_reducible refine Kd.C_alloc ?_ _)|(with_reducible refine Kd.C_drewN ?_ _)|(with_reducible refine Kd.C_drew ?_)));(case side2 => exact (Kd.R_reads' HO175.out).2.1);rintro e w' ⟨rfl,⟨nd,rfl⟩⟩;refine ⟨_,rfl,?_⟩))
      go_ret2
      exact ⟨by first|rfl|(simp [errW_none,errW_some] <;> rfl)|(simp [*,errW_none,errW_some] <;> rfl),by repeat (first|(with_reducible first|exact HB.out|apply below_alloc|apply pw_below_drewN|apply below_drew1)|exact HB.out)⟩
     ·rw [if_neg c14] at H
      have c14b0 : decide (a1 < t176) = false := decide_eq_false c14
      clear c14
      replace H := Option.bind_eq_some_iff.mp H
      obtain ⟨t177,A170,H⟩ := H
      replace H : (some (t177,0)) = some (r1,r2) := H
      have A17 := Aside0.mk A170
      clear A170
      simp only [Option.some.injEq,Prod.mk.injEq] at H
      obtain ⟨rfl,rfl⟩ := H
      go_wp2_with (first|((with_reducible refine gate_callee (f := 47) rfl ?_);refine goesL_ (some 26) rfl rfl Try.func47 (by kernel_rfl) rfl #[.int .u64 a0,.slice A2 l2.length c2] rfl (by (try simp only [List.map_toArray,List.map_cons,List.map_nil]);first|done|rfl|(simp only [List.length_drop,List.length_take];rfl)) ?_;(with_reducible refine (interpolate_Polynomial.calls a0 _ _ l2 t172 t173 _ ?side1 ?side2 A11.out).mono ?_);(case side1 => repeat (first|exact (Kd.C_below HR2.out HB.out)|(with_reducible refine Kd.C_alloc ?_ _)|(with_reducible refine Kd.C_drewN ?_ _)|(with_reducible refine Kd.C_drew ?_)));(case side2 => exact HC2.out);rintro e w18 ⟨v174,rfl,ho0,hb⟩;refine ⟨_,rfl,?_⟩;have n0_ := Aside0.mk (Kd.R_lower ho0 (below_size (by repeat (first|(with_reducible first|exact HB.out|apply below_alloc|apply pw_below_drewN|apply below_drew1)|exact HB.out))));have n1_ := Aside0.mk (below_step (by repeat (first|(with_reducible first|exact HB.out|apply below_alloc|apply pw_below_drewN|apply below_drew1)|exact HB.out)) hb);clear HB;have HO175 := n0_;have HB := n1_;clear n0_ n1_;(try clear hb);(try clear hb2);(try clear hk);(try clear hi);(try clear ho0);obtain ⟨Ao19,co19,eo19⟩ := Kd.R_slice HO175.out;subst eo19)|((with_reducible refine gate_callee (f := 48) rfl ?_);refine goesL_ (some 33) rfl rfl Try.func48 (by kernel_rfl) rfl #[.slice Ao19 t172.length co19] rfl (by (try simp only [List.map_toArray,List.map_cons,List.map_nil]);first|done|rfl|(simp only [List.length_drop,List.length_take];rfl)) ?_;(with_reducible refine (poly_Degree.calls kj3 _ _ t172 t176 _ ?side1 ?side2 A13.out).mono ?_);(case side1 => repeat (first|exact (Kd.R_reads' HO175.out).2.2|(with_reducible refine Kd.C_alloc ?_ _)|(with_reducible refine Kd.C_drewN ?_ _)|(with_reducible refine Kd.C_drew ?_)));(case side2 => exact (Kd.R_reads' HO175.out).2.1);rintro e w' ⟨rfl,⟨nd,rfl⟩⟩;refine ⟨_,rfl,?_⟩)|((with_reducible refine gate_callee (f := 49) rfl ?_);refine goesL_ (some 37) rfl rfl Try.func49 (by kernel_rfl) rfl #[.slice Ao19 t172.length co19,.int .i64 0] rfl (by (try simp only [List.map_toArray,List.map_cons,List.map_nil]);first|done|rfl|(simp only [List.length_drop,List.length_take];rfl)) ?_;(with_reducible refine (poly_Coefficient.calls _ _ t172 0 t177 _ ?side1 ?side2 A17.out).mono ?_);(case side1 => repeat (first|exact (Kd.R_reads' HO175.out).2.2|(with_reducible refine Kd.C_alloc ?_ _)|(with_reducible refine Kd.C_drewN ?_ _)|(with_reducible refine Kd.C_drew ?_)));(case side2 => exact (Kd.R_reads' HO175.out).2.1);rintro e w' ⟨rfl,⟨nd,rfl⟩⟩;refine ⟨_,rfl,?_⟩))
      go_ret2
      exact ⟨by first|rfl|(simp [errW_none,errW_some] <;> rfl)|(simp [*,errW_none,errW_some] <;> rfl),by repeat (first|(with_reducible first|exact HB.out|apply below_alloc|apply pw_below_drewN|apply below_drew1)|exact HB.out)⟩
    ·rw [if_neg c12] at H
     have c12b0 : (t173 == 0) = false := beq_eq_false_iff_ne.mpr c12
     have c12b1 : (t173 != 0) = true := bne_iff_ne.mpr c12
     simp only [Option.some.injEq,Prod.mk.injEq] at H
     obtain ⟨rfl,rfl⟩ := H
     go_wp2_with (first|((with_reducible refine gate_callee (f := 47) rfl ?_);refine goesL_ (some 26) rfl rfl Try.func47 (by kernel_rfl) rfl #[.int .u64 a0,.slice A2 l2.length c2] rfl (by (try simp only [List.map_toArray,List.map_cons,List.map_nil]);first|done|rfl|(simp only [List.length_drop,List.length_take];rfl)) ?_;(with_reducible refine (interpolate_Polynomial.calls a0 _ _ l2 t172 t173 _ ?side1 ?side2 A11.out).mono ?_);(case side1 => repeat (first|exact (Kd.C_below HR2.out HB.out)|(with_reducible refine Kd.C_alloc ?_ _)|(with_reducible refine Kd.C_drewN ?_ _)|(with_reducible refine Kd.C_drew ?_)));(case side2 => exact HC2.out);rintro e w20 ⟨v174,rfl,ho0,hb⟩;refine ⟨_,rfl,?_⟩;have n0_ := Aside0.mk (Kd.R_lower ho0 (below_size (by repeat (first|(with_reducible first|exact HB.out|apply below_alloc|apply pw_below_drewN|apply below_drew1)|exact HB.out))));have n1_ := Aside0.mk (below_step (by repeat (first|(with_reducible first|exact HB.out|apply below_alloc|apply pw_below_drewN|apply below_drew1)|exact HB.out)) hb);clear HB;have HO175 := n0_;have HB := n1_;clear n0_ n1_;(try clear hb);(try clear hb2);(try clear hk);(try clear hi);(try clear ho0)))
     go_ret2
     exact ⟨by first|rfl|(simp [errW_none,errW_some] <;> rfl)|(simp [*,errW_none,errW_some] <;> rfl),by repeat (first|(with_reducible first|exact HB.out|apply below_alloc|apply pw_below_drewN|apply below_drew1)|exact HB.out)⟩
end Go.Proofs.Ytiaajmiphnjgaaa.Pr
end
section
/- Printed by a program of this seat (the kit's printer, with the functions that were proved by hand given to it). What stands here: the functions that the statements reach, as plain functions, and that the Go code computes them. -/
namespace Go.Proofs.Ytiaajmiphnjgaaa.Pr
open Go.RowKit Go.Proofs.YtiaajmiphnjgaaaW.PrintWords Go.Proofs.YtiaajmiphnjgaaaW.PrintLast Go.Proofs.YtiaajmiphnjgaaaW.PrintMore
attribute [local go_sem] max2_int min2_int max_two min_two max_three min_three max_four min_four   -- for this text's walks alone
set_option linter.unusedVariables false
set_option linter.unusedSimpArgs false

open Go.Proofs.Ytiaajmiphnjgaaa.Hw
/-! ### privityref05_SameRows: function 39 -/
def privityref05_SameRows.l0 : Nat → List (List Int) → List (List Int) → Int → Option (Bool)
 | 0,_,_,_ => none
 | k + 1,x0,x1,x5 => if x5 < (x0.length : Int) then (if 0 ≤ x5 then (if x5 < (x1.length : Int) then ((privityref05_Same.f k (rd_L3 x0 x5) (rd_L3 x1 x5)).bind fun t180 => (if t180 = true then (privityref05_SameRows.l0 k x0 x1 (wrap64 (x5 + 1))) else (some false))) else (none)) else (none)) else (some true)
def privityref05_SameRows.f (k : Nat) (l0 : List (List Int)) (l1 : List (List Int)) : Option (Bool) := if (l0.length : Int) = (l1.length : Int) then (privityref05_SameRows.l0 k l0 l1 0) else (some false)
theorem privityref05_SameRows.mono_l : ∀ k, (∀ y0 y1 y2, LeO (privityref05_SameRows.l0 k y0 y1 y2) (privityref05_SameRows.l0 (k + 1) y0 y1 y2))
 | 0 => fun _ _ _ r h => by simp [privityref05_SameRows.l0] at h
 | k + 1 => by
  have ih0 := privityref05_SameRows.mono_l k
  ·intro y0 y1 y2
   unfold privityref05_SameRows.l0
   repeat' first
   | (with_reducible exact ih0 _ _ _)
   | (with_reducible exact privityref05_Same.mono _ _ _)
   | (with_reducible exact LeO.refl _)
   | (with_reducible exact LeO.none _)
   | (with_reducible refine LeO.ite ?_ ?_)
   | (with_reducible refine LeO.bind ?_ (fun _ => ?_))
   | exact ih0 _ _ _
   | exact privityref05_Same.mono _ _ _
   | exact LeO.none _
   | refine LeO.ite ?_ ?_
   | refine LeO.bind ?_ (fun _ => ?_)
theorem privityref05_SameRows.mono : ∀ a0 a1 k, LeO (privityref05_SameRows.f k a0 a1) (privityref05_SameRows.f (k + 1) a0 a1) := by
 intro a0 a1 k
 have ih0 := privityref05_SameRows.mono_l k
 unfold privityref05_SameRows.f
 repeat' first
   | (with_reducible exact ih0 _ _ _)
   | (with_reducible exact privityref05_Same.mono _ _ _)
   | (with_reducible exact LeO.refl _)
   | (with_reducible exact LeO.none _)
   | (with_reducible refine LeO.ite ?_ ?_)
   | (with_reducible refine LeO.bind ?_ (fun _ => ?_))
   | exact ih0 _ _ _
   | exact privityref05_Same.mono _ _ _
   | exact LeO.none _
   | refine LeO.ite ?_ ?_
   | refine LeO.bind ?_ (fun _ => ?_)
set_option maxHeartbeats 8000000 in
set_option maxRecDepth 100000 in
theorem privityref05_SameRows.calls (k : Nat) (A0 : Option Addr) (c0 : Nat) (l0 : List (List Int)) (A1 : Option Addr) (c1 : Nat) (l1 : List (List Int)) (r : Bool) (w : World) (hr0 : Kd.C (Kd.slice 22 (Kd.int .u64)) w A0 l0.length l0) (hc0 : l0.length ≤ c0) (hr1 : Kd.C (Kd.slice 22 (Kd.int .u64)) w A1 l1.length l1) (hc1 : l1.length ≤ c1) (h : privityref05_SameRows.f k l0 l1 = some r) :
  Calls Try.prog 39 #[.slice A0 l0.length c0,.slice A1 l1.length c1] w fun e w' => e = .returned (.bool r) ∧ Drawn0 w w' := by
 have HR0 := Aside0.mk hr0
 have HC0 := Aside0.mk hc0
 clear hr0 hc0
 have HR1 := Aside0.mk hr1
 have HC1 := Aside0.mk hc1
 clear hr1 hc1
 have H : (if (l0.length : Int) = (l1.length : Int) then (privityref05_SameRows.l0 k l0 l1 0) else (some false)) = some r := h
 clear h
 by_cases c3 : (l0.length : Int) = (l1.length : Int)
 ·rw [if_pos c3] at H
  have c3b0 : ((l0.length : Int) == (l1.length : Int)) = true := beq_iff_eq.mpr c3
  have c3b1 : ((l0.length : Int) != (l1.length : Int)) = false := bne_eq_false_iff_eq.mpr c3
  have c3b2 : (l0.length == l1.length) = true := by first|simpa using c3|(simp at c3 ⊢;omega)
  clear c3
  have H' := Aside0.mk H
  clear H
  go_enter Try.func39,Try.ntmps39
  go_wp2
  repeat (go_quiet (fail);try go_wp2)
  go_loopg [5] k (fun kq v5 w' => ∃ (x5_1 : Int),v5 = .int .i64 x5_1 ∧ Aside0 (privityref05_SameRows.l0 kq l0 l1 x5_1 = some r) ∧ Aside0 (kq ≤ k) ∧ Drawn0 w w')
  case atStart => exact ⟨(0),(by first|rfl|(simp;done)|(simp [*];done)),H',⟨Nat.le_refl _⟩,by repeat (first|exact Drawn0.refl _|apply Drawn0.step)⟩
  case round =>
   clear H'
   try clear c1
   try clear p2
   try clear c3
   try clear c3b0
   try clear c3b1
   try clear c3b2
   obtain ⟨x5_1,rfl,HA,HK1,⟨m1,rfl⟩⟩ := hrel
   cases gk with
   | zero => exact absurd HA.out (by simp [privityref05_SameRows.l0])
   | succ k1 =>
    have H := HA.out
    clear HA
    simp only [privityref05_SameRows.l0] at H
    by_cases c4 : x5_1 < (l0.length : Int)
    ·rw [if_pos c4] at H
     have c4b0 : decide (x5_1 < (l0.length : Int)) = true := decide_eq_true c4
     clear c4
     by_cases c5 : 0 ≤ x5_1
     ·rw [if_pos c5] at H
      have c5b0 : decide (0 ≤ x5_1) = true := decide_eq_true c5
      clear c5
      by_cases c6 : x5_1 < (l1.length : Int)
      ·rw [if_pos c6] at H
       have c6b0 : decide (x5_1 < (l1.length : Int)) = true := decide_eq_true c6
       clear c6
       replace H := Option.bind_eq_some_iff.mp H
       obtain ⟨t180,A70,H⟩ := H
       replace H : (if t180 = true then (privityref05_SameRows.l0 k1 l0 l1 (wrap64 (x5_1 + 1))) else (some false)) = some r := H
       have A7 := Aside0.mk A70
       clear A70
       by_cases c8 : t180 = true
       ·subst c8
        have H1 : (privityref05_SameRows.l0 k1 l0 l1 (wrap64 (x5_1 + 1))) = some r := by rw [if_pos rfl] at H;exact H
        clear H
        have H := H1
        clear H1
        have H' := Aside0.mk H
        clear H
        have p178 : 0 ≤ (x5_1 : Int) := of_decide_eq_true (by first|(with_reducible assumption)|assumption)
        have q178 : x5_1 < (l0.length : Int) := of_decide_eq_true (by first|(with_reducible assumption)|assumption)
        obtain ⟨ad178,A178_0,c178_0,e178,hx178_0,hl178_0,hi178_0⟩ := at_L3 HR0.out x5_1 p178 q178
        cases e178
        have HR178_0 := Aside0.mk hi178_0
        have HC178_0 := Aside0.mk hl178_0
        clear hi178_0 hl178_0
        replace p178 := eq_true p178
        replace q178 := eq_true q178
        have p179 : 0 ≤ (x5_1 : Int) := of_decide_eq_true (by first|(with_reducible assumption)|assumption)
        have q179 : x5_1 < (l1.length : Int) := of_decide_eq_true (by first|(with_reducible assumption)|assumption)
        obtain ⟨ad179,A179_0,c179_0,e179,hx179_0,hl179_0,hi179_0⟩ := at_L3 HR1.out x5_1 p179 q179
        cases e179
        have HR179_0 := Aside0.mk hi179_0
        have HC179_0 := Aside0.mk hl179_0
        clear hi179_0 hl179_0
        replace p179 := eq_true p179
        replace q179 := eq_true q179
        go_wp2_with (first|(go_at_call 14;(with_reducible refine (privityref05_Same.calls k1 _ _ (rd_L3 l0 x5_1) _ _ (rd_L3 l1 x5_1) true _ ?side1 ?side2 ?side3 ?side4 A7.out).mono ?_);(case side1 => repeat (first|exact HR178_0.out|(with_reducible refine Kd.C_alloc ?_ _)|(with_reducible refine Kd.C_drewN ?_ _)|(with_reducible refine Kd.C_drew ?_)));(case side2 => exact HC178_0.out);(case side3 => repeat (first|exact HR179_0.out|(with_reducible refine Kd.C_alloc ?_ _)|(with_reducible refine Kd.C_drewN ?_ _)|(with_reducible refine Kd.C_drew ?_)));(case side4 => exact HC179_0.out);rintro e w' ⟨rfl,⟨nd,rfl⟩⟩;(try first|exact ⟨rfl,_,World.drewN_drewN _ _ _⟩|exact ⟨rfl,_,Eq.trans (World.drewN_drewN _ _ _) (congrArg (World.drewN _) (Nat.add_assoc _ _ _))⟩)))
        repeat (go_quiet (first|(go_at_call 14;(with_reducible refine (privityref05_Same.calls k1 _ _ (rd_L3 l0 x5_1) _ _ (rd_L3 l1 x5_1) true _ ?side1 ?side2 ?side3 ?side4 A7.out).mono ?_);(case side1 => repeat (first|exact HR178_0.out|(with_reducible refine Kd.C_alloc ?_ _)|(with_reducible refine Kd.C_drewN ?_ _)|(with_reducible refine Kd.C_drew ?_)));(case side2 => exact HC178_0.out);(case side3 => repeat (first|exact HR179_0.out|(with_reducible refine Kd.C_alloc ?_ _)|(with_reducible refine Kd.C_drewN ?_ _)|(with_reducible refine Kd.C_drew ?_)));(case side4 => exact HC179_0.out);rintro e w' ⟨rfl,⟨nd,rfl⟩⟩;(try first|exact ⟨rfl,_,World.drewN_drewN _ _ _⟩|exact ⟨rfl,_,Eq.trans (World.drewN_drewN _ _ _) (congrArg (World.drewN _) (Nat.add_assoc _ _ _))⟩)));try go_wp2_with (first|(go_at_call 14;(with_reducible refine (privityref05_Same.calls k1 _ _ (rd_L3 l0 x5_1) _ _ (rd_L3 l1 x5_1) true _ ?side1 ?side2 ?side3 ?side4 A7.out).mono ?_);(case side1 => repeat (first|exact HR178_0.out|(with_reducible refine Kd.C_alloc ?_ _)|(with_reducible refine Kd.C_drewN ?_ _)|(with_reducible refine Kd.C_drew ?_)));(case side2 => exact HC178_0.out);(case side3 => repeat (first|exact HR179_0.out|(with_reducible refine Kd.C_alloc ?_ _)|(with_reducible refine Kd.C_drewN ?_ _)|(with_reducible refine Kd.C_drew ?_)));(case side4 => exact HC179_0.out);rintro e w' ⟨rfl,⟨nd,rfl⟩⟩;(try first|exact ⟨rfl,_,World.drewN_drewN _ _ _⟩|exact ⟨rfl,_,Eq.trans (World.drewN_drewN _ _ _) (congrArg (World.drewN _) (Nat.add_assoc _ _ _))⟩))))
        go_roundg k1
        case measure => have := HK1.out;omega
        case rel => exact ⟨(wrap64 (x5_1 + 1)),(by first|rfl|(simp;done)|(simp [*];done)),H',⟨by have := HK1.out;omega⟩,by repeat (first|exact Drawn0.refl _|apply Drawn0.step)⟩
       ·replace c8 := Bool.eq_false_iff.mpr c8
        subst c8
        have H1 : (some false) = some r := by rw [if_neg (show ¬ (false = true) by decide)] at H;exact H
        clear H
        have H := H1
        clear H1
        obtain rfl := Option.some.inj H
        have p178 : 0 ≤ (x5_1 : Int) := of_decide_eq_true (by first|(with_reducible assumption)|assumption)
        have q178 : x5_1 < (l0.length : Int) := of_decide_eq_true (by first|(with_reducible assumption)|assumption)
        obtain ⟨ad178,A178_0,c178_0,e178,hx178_0,hl178_0,hi178_0⟩ := at_L3 HR0.out x5_1 p178 q178
        cases e178
        have HR178_0 := Aside0.mk hi178_0
        have HC178_0 := Aside0.mk hl178_0
        clear hi178_0 hl178_0
        replace p178 := eq_true p178
        replace q178 := eq_true q178
        have p179 : 0 ≤ (x5_1 : Int) := of_decide_eq_true (by first|(with_reducible assumption)|assumption)
        have q179 : x5_1 < (l1.length : Int) := of_decide_eq_true (by first|(with_reducible assumption)|assumption)
        obtain ⟨ad179,A179_0,c179_0,e179,hx179_0,hl179_0,hi179_0⟩ := at_L3 HR1.out x5_1 p179 q179
        cases e179
        have HR179_0 := Aside0.mk hi179_0
        have HC179_0 := Aside0.mk hl179_0
        clear hi179_0 hl179_0
        replace p179 := eq_true p179
        replace q179 := eq_true q179
        go_wp2_with (first|(go_at_call 14;(with_reducible refine (privityref05_Same.calls k1 _ _ (rd_L3 l0 x5_1) _ _ (rd_L3 l1 x5_1) false _ ?side1 ?side2 ?side3 ?side4 A7.out).mono ?_);(case side1 => repeat (first|exact HR178_0.out|(with_reducible refine Kd.C_alloc ?_ _)|(with_reducible refine Kd.C_drewN ?_ _)|(with_reducible refine Kd.C_drew ?_)));(case side2 => exact HC178_0.out);(case side3 => repeat (first|exact HR179_0.out|(with_reducible refine Kd.C_alloc ?_ _)|(with_reducible refine Kd.C_drewN ?_ _)|(with_reducible refine Kd.C_drew ?_)));(case side4 => exact HC179_0.out);rintro e w' ⟨rfl,⟨nd,rfl⟩⟩;(try first|exact ⟨rfl,_,World.drewN_drewN _ _ _⟩|exact ⟨rfl,_,Eq.trans (World.drewN_drewN _ _ _) (congrArg (World.drewN _) (Nat.add_assoc _ _ _))⟩)))
        repeat (go_quiet (first|(go_at_call 14;(with_reducible refine (privityref05_Same.calls k1 _ _ (rd_L3 l0 x5_1) _ _ (rd_L3 l1 x5_1) false _ ?side1 ?side2 ?side3 ?side4 A7.out).mono ?_);(case side1 => repeat (first|exact HR178_0.out|(with_reducible refine Kd.C_alloc ?_ _)|(with_reducible refine Kd.C_drewN ?_ _)|(with_reducible refine Kd.C_drew ?_)));(case side2 => exact HC178_0.out);(case side3 => repeat (first|exact HR179_0.out|(with_reducible refine Kd.C_alloc ?_ _)|(with_reducible refine Kd.C_drewN ?_ _)|(with_reducible refine Kd.C_drew ?_)));(case side4 => exact HC179_0.out);rintro e w' ⟨rfl,⟨nd,rfl⟩⟩;(try first|exact ⟨rfl,_,World.drewN_drewN _ _ _⟩|exact ⟨rfl,_,Eq.trans (World.drewN_drewN _ _ _) (congrArg (World.drewN _) (Nat.add_assoc _ _ _))⟩)));try go_wp2_with (first|(go_at_call 14;(with_reducible refine (privityref05_Same.calls k1 _ _ (rd_L3 l0 x5_1) _ _ (rd_L3 l1 x5_1) false _ ?side1 ?side2 ?side3 ?side4 A7.out).mono ?_);(case side1 => repeat (first|exact HR178_0.out|(with_reducible refine Kd.C_alloc ?_ _)|(with_reducible refine Kd.C_drewN ?_ _)|(with_reducible refine Kd.C_drew ?_)));(case side2 => exact HC178_0.out);(case side3 => repeat (first|exact HR179_0.out|(with_reducible refine Kd.C_alloc ?_ _)|(with_reducible refine Kd.C_drewN ?_ _)|(with_reducible refine Kd.C_drew ?_)));(case side4 => exact HC179_0.out);rintro e w' ⟨rfl,⟨nd,rfl⟩⟩;(try first|exact ⟨rfl,_,World.drewN_drewN _ _ _⟩|exact ⟨rfl,_,Eq.trans (World.drewN_drewN _ _ _) (congrArg (World.drewN _) (Nat.add_assoc _ _ _))⟩))))
        go_ret
        exact ⟨by first|rfl|(simp;done)|(simp [*];done),by repeat (first|exact Drawn0.refl _|apply Drawn0.step)⟩
      ·rw [if_neg c6] at H
       exact absurd H (by simp)
     ·rw [if_neg c5] at H
      exact absurd H (by simp)
    ·rw [if_neg c4] at H
     have c4b0 : decide (x5_1 < (l0.length : Int)) = false := decide_eq_false c4
     clear c4
     obtain rfl := Option.some.inj H
     go_wp2
     repeat (go_quiet (fail);try go_wp2)
     go_ret
     exact ⟨by first|rfl|(simp;done)|(simp [*];done),by repeat (first|exact Drawn0.refl _|apply Drawn0.step)⟩
 ·rw [if_neg c3] at H
  have c3b0 : ((l0.length : Int) == (l1.length : Int)) = false := beq_eq_false_iff_ne.mpr c3
  have c3b1 : ((l0.length : Int) != (l1.length : Int)) = true := bne_iff_ne.mpr c3
  have c3b2 : (l0.length == l1.length) = false := by first|simpa using c3|(simp at c3 ⊢;omega)
  obtain rfl := Option.some.inj H
  go_enter Try.func39,Try.ntmps39
  go_wp2
  repeat (go_quiet (fail);try go_wp2)
  go_ret
  exact ⟨by first|rfl|(simp;done)|(simp [*];done),by repeat (first|exact Drawn0.refl _|apply Drawn0.step)⟩
/-! ### privityref09_Same: function 30 -/
def privityref09_Same.f (k : Nat) (l0 : List (List Int)) (l1 : List (List Int)) : Option (Bool) := (privityref05_SameRows.f k l0 l1).bind fun t181 => (some t181)
theorem privityref09_Same.mono : ∀ a0 a1 k, LeO (privityref09_Same.f k a0 a1) (privityref09_Same.f (k + 1) a0 a1) := by
 intro a0 a1 k
 unfold privityref09_Same.f
 repeat' first
   | (with_reducible exact privityref05_SameRows.mono _ _ _)
   | (with_reducible exact LeO.refl _)
   | (with_reducible exact LeO.none _)
   | (with_reducible refine LeO.ite ?_ ?_)
   | (with_reducible refine LeO.bind ?_ (fun _ => ?_))
   | exact privityref05_SameRows.mono _ _ _
   | exact LeO.none _
   | refine LeO.ite ?_ ?_
   | refine LeO.bind ?_ (fun _ => ?_)
set_option maxHeartbeats 8000000 in
set_option maxRecDepth 100000 in
theorem privityref09_Same.calls (k : Nat) (A0 : Option Addr) (c0 : Nat) (l0 : List (List Int)) (A1 : Option Addr) (c1 : Nat) (l1 : List (List Int)) (r : Bool) (w : World) (hr0 : Kd.C (Kd.slice 22 (Kd.int .u64)) w A0 l0.length l0) (hc0 : l0.length ≤ c0) (hr1 : Kd.C (Kd.slice 22 (Kd.int .u64)) w A1 l1.length l1) (hc1 : l1.length ≤ c1) (h : privityref09_Same.f k l0 l1 = some r) :
  Calls Try.prog 30 #[.slice A0 l0.length c0,.slice A1 l1.length c1] w fun e w' => e = .returned (.bool r) ∧ Drawn0 w w' := by
 have HR0 := Aside0.mk hr0
 have HC0 := Aside0.mk hc0
 clear hr0 hc0
 have HR1 := Aside0.mk hr1
 have HC1 := Aside0.mk hc1
 clear hr1 hc1
 have H : ((privityref05_SameRows.f k l0 l1).bind fun t181 => (some t181)) = some r := h
 clear h
 replace H := Option.bind_eq_some_iff.mp H
 obtain ⟨t181,A30,H⟩ := H
 replace H : (some t181) = some r := H
 have A3 := Aside0.mk A30
 clear A30
 obtain rfl := Option.some.inj H
 go_enter Try.func30,Try.ntmps30
 go_wp2_with (first|((with_reducible refine gate_callee (f := 39) rfl ?_);refine goesL_ (some 7) rfl rfl Try.func39 (by kernel_rfl) rfl #[.slice A0 l0.length c0,.slice A1 l1.length c1] rfl (by (try simp only [List.map_toArray,List.map_cons,List.map_nil]);first|done|rfl|(simp only [List.length_drop,List.length_take];rfl)) ?_;(with_reducible refine (privityref05_SameRows.calls k _ _ l0 _ _ l1 t181 _ ?side1 ?side2 ?side3 ?side4 A3.out).mono ?_);(case side1 => repeat (first|exact HR0.out|(with_reducible refine Kd.C_alloc ?_ _)|(with_reducible refine Kd.C_drewN ?_ _)|(with_reducible refine Kd.C_drew ?_)));(case side2 => exact HC0.out);(case side3 => repeat (first|exact HR1.out|(with_reducible refine Kd.C_alloc ?_ _)|(with_reducible refine Kd.C_drewN ?_ _)|(with_reducible refine Kd.C_drew ?_)));(case side4 => exact HC1.out);rintro e w' ⟨rfl,⟨nd,rfl⟩⟩;refine ⟨_,rfl,?_⟩))
 go_ret
 exact ⟨by first|rfl|(simp;done)|(simp [*];done),by repeat (first|exact Drawn0.refl _|apply Drawn0.step)⟩
/-! ### shamir_Constant: function 37 -/
def shamir_Constant.l0 : Nat → Int → List (List Int) → Int → Int → Int → Int → Int → Option ((List (List Int)))
 | 0,_,_,_,_,_,_,_ => none
 | k + 1,x1,x5,x8,x9,x183000,x183001,x183002 => if x9 < x8 then (if 0 ≤ (wrap64 (x183002 + 1)) then (if (wrap64 (x183002 + 1) : Int).toNat ≤ 35184372088832 then ((some (List.replicate (wrap64 (x183002 + 1) : Int).toNat 0 : List Int)).bind fun y183 => (if 0 < (y183.length : Int) then (if x5.length < 5864062014805 then (shamir_Constant.l0 k x1 (x5 ++ [(y183.set (0 : Int).toNat x1)]) x8 (wrap64 (x9 + 1)) x183000 x183001 x183002) else (none)) else (none))) else (none)) else (none)) else (some x5)
def shamir_Constant.f (k : Nat) (a0_0 : Int) (a0_1 : Int) (a0_2 : Int) (a1 : Int) : Option ((List (List Int))) := shamir_Constant.l0 k a1 ([] : List (List Int)) a0_1 0 a0_0 a0_1 a0_2
theorem shamir_Constant.mono_l : ∀ k, (∀ y0 y1 y2 y3 y4 y5 y6, LeO (shamir_Constant.l0 k y0 y1 y2 y3 y4 y5 y6) (shamir_Constant.l0 (k + 1) y0 y1 y2 y3 y4 y5 y6))
 | 0 => fun _ _ _ _ _ _ _ r h => by simp [shamir_Constant.l0] at h
 | k + 1 => by
  have ih0 := shamir_Constant.mono_l k
  ·intro y0 y1 y2 y3 y4 y5 y6
   unfold shamir_Constant.l0
   repeat' first
   | (with_reducible exact ih0 _ _ _ _ _ _ _)
   | (with_reducible exact LeO.refl _)
   | (with_reducible exact LeO.none _)
   | (with_reducible refine LeO.ite ?_ ?_)
   | (with_reducible refine LeO.bind ?_ (fun _ => ?_))
   | exact ih0 _ _ _ _ _ _ _
   | exact LeO.none _
   | refine LeO.ite ?_ ?_
   | refine LeO.bind ?_ (fun _ => ?_)
theorem shamir_Constant.mono : ∀ a0 a1 a2 a3 k, LeO (shamir_Constant.f k a0 a1 a2 a3) (shamir_Constant.f (k + 1) a0 a1 a2 a3) := by
 intro a0 a1 a2 a3 k
 have ih0 := shamir_Constant.mono_l k
 unfold shamir_Constant.f
 repeat' first
   | (with_reducible exact ih0 _ _ _ _ _ _ _)
   | (with_reducible exact LeO.refl _)
   | (with_reducible exact LeO.none _)
   | (with_reducible refine LeO.ite ?_ ?_)
   | (with_reducible refine LeO.bind ?_ (fun _ => ?_))
   | exact ih0 _ _ _ _ _ _ _
   | exact LeO.none _
   | refine LeO.ite ?_ ?_
   | refine LeO.bind ?_ (fun _ => ?_)
set_option maxHeartbeats 8000000 in
set_option maxRecDepth 100000 in
theorem shamir_Constant.calls (k : Nat) (a0_0 : Int) (a0_1 : Int) (a0_2 : Int) (a1 : Int) (r : List (List Int)) (w : World) (h : shamir_Constant.f k a0_0 a0_1 a0_2 a1 = some r) :
  Calls Try.prog 37 #[.agg #[.int .u64 a0_0,.int .i64 a0_1,.int .i64 a0_2],.int .u64 a1] w fun e w' => ∃ v0_ : Value,e = .returned (v0_) ∧ Kd.S (Kd.slice 22 (Kd.int .u64)) 23 w' w.heap.size (fun _ => True) v0_ r ∧ Below w.heap.size w w' := by
 have hu55 := Try.underlying55
 have HB := Aside0.mk (Below.refl w.heap.size w)
 have H : (shamir_Constant.l0 k a1 ([] : List (List Int)) a0_1 0 a0_0 a0_1 a0_2) = some r := h
 clear h
 have H' := Aside0.mk H
 clear H
 go_enter Try.func37,Try.ntmps37
 go_wp2_with (first|((with_reducible refine gate_dst (N := 2) rfl ?_);refine box_event ?hg (N := 2) ?hd (cs := #[.int .u64 a0_0,.int .i64 a0_1,.int .i64 a0_2]) (t := 55) ?hr ?_;(case hd => rfl);(case hg => rfl);(case hr => first|(go_simp;done)|(go_simp;rfl));intro gb182 hg w3 hbox hb;have n0_ := Aside0.mk (below_step (by repeat (first|(with_reducible first|exact HB.out|apply below_alloc|apply pw_below_drewN|apply below_drew1)|exact HB.out)) hb);have n1_ := Aside0.mk (hbox);have n2_ := Aside0.mk ((by rw [hg];exact (below_size (by repeat (first|(with_reducible first|exact HB.out|apply below_alloc|apply pw_below_drewN|apply below_drew1)|exact HB.out))) : w.heap.size ≤ gb182));have n3_ := Aside0.mk ((by rw [hg];exact (below_size (by repeat (first|(with_reducible first|exact HB.out|apply below_alloc|apply pw_below_drewN|apply below_drew1)|exact HB.out))) : w.heap.size ≤ gb182));clear HB;have HB := n0_;have BK182 := n1_;have GW182 := n2_;have GE182 := n3_;clear n0_ n1_ n2_ n3_;clear hb hbox hg;have hcz4_0 : w3.cell? ⟨gb182,0,none⟩ = some (.int .u64 a0_0) := (blk_cell BK182.out 0).trans rfl;have hcz4_1 : w3.cell? ⟨gb182,1,none⟩ = some (.int .i64 a0_1) := (blk_cell BK182.out 1).trans rfl;have hcz4_2 : w3.cell? ⟨gb182,2,none⟩ = some (.int .i64 a0_2) := (blk_cell BK182.out 2).trans rfl;have hfz4_0 := blk_frozen BK182.out 0;have hfz4_1 := blk_frozen BK182.out 1;have hfz4_2 := blk_frozen BK182.out 2))
 go_loopg [5,9] k (fun kq v5 v9 w' => ∃ (x5_1 : List (List Int)) (x9_1 : Int),v9 = .int .i64 x9_1 ∧ Aside0 (shamir_Constant.l0 kq a1 x5_1 a0_1 x9_1 a0_0 a0_1 a0_2 = some r) ∧ Aside0 (kq ≤ k) ∧ Aside0 (Kd.S (Kd.slice 22 (Kd.int .u64)) 23 w' w.heap.size (fun _ => True) v5 x5_1) ∧ Aside0 (w'.heap[gb182]? = some (.cells #[.int .u64 a0_0,.int .i64 a0_1,.int .i64 a0_2] 55 (0,0))) ∧ Aside0 (Below w.heap.size w w'))
 case atStart => exact ⟨(([] : List (List Int))),(0),(by first|rfl|(simp;done)|(simp [*];done)),H',⟨Nat.le_refl _⟩,⟨by first|exact Kd.S_nil _ _ _ _ _|exact Kd.N_nil _ _ _ _ _|exact Kd.V_nil _ _ _ _ _|exact Kd.Q_nil _ _ _ _ _|exact Kd.R_nil _ _ _ _ _⟩,⟨by (with_reducible repeat (first|refine blk_drewN ?_ _|refine blk_drew ?_|refine blk_alloc ?_ _));exact BK182.out⟩,⟨by repeat (first|(with_reducible first|exact HB.out|apply below_alloc|apply pw_below_drewN|apply below_drew1|refine below_set ?_ GE182.out)|exact HB.out)⟩⟩
 case round =>
  clear H'
  try clear p2
  try clear c3
  try clear hcz4_0
  try clear hcz4_1
  try clear hcz4_2
  try clear hfz4_0
  try clear hfz4_1
  try clear hfz4_2
  obtain ⟨x5_1,x9_1,rfl,HA,HK1,HO_5,BK182,HB⟩ := hrel
  cases gk with
  | zero => exact absurd HA.out (by simp [shamir_Constant.l0])
  | succ k1 =>
   have H := HA.out
   clear HA
   simp only [shamir_Constant.l0] at H
   by_cases c5 : x9_1 < a0_1
   ·rw [if_pos c5] at H
    have c5b0 : decide (x9_1 < a0_1) = true := decide_eq_true c5
    clear c5
    obtain ⟨ji6,hji6⟩ : ∃ j_ : Int,(wrap64 (a0_2 + 1)) = j_ := ⟨_,rfl⟩
    replace H : (if 0 ≤ (ji6) then (if (ji6 : Int).toNat ≤ 35184372088832 then ((some (List.replicate (ji6 : Int).toNat 0 : List Int)).bind fun y183 => (if 0 < (y183.length : Int) then (if x5_1.length < 5864062014805 then (shamir_Constant.l0 k1 a1 (x5_1 ++ [(y183.set (0 : Int).toNat a1)]) a0_1 (wrap64 (x9_1 + 1)) a0_0 a0_1 a0_2) else (none)) else (none))) else (none)) else (none)) = some r := by first|(rw [hji6] at H;exact H)|(simp only [hji6] at H ⊢;exact H)
    have hji6w : (IntKind.i64.wrap (a0_2 + 1)) = ji6 := (i64_w _).trans hji6
    by_cases c7 : 0 ≤ (ji6)
    ·rw [if_pos c7] at H
     have c7b0 := eq_true c7
     have c7b1 : decide (0 ≤ (ji6)) = true := decide_eq_true c7
     clear c7
     by_cases c8 : (ji6 : Int).toNat ≤ 35184372088832
     ·rw [if_pos c8] at H
      have c8b0 := eq_true c8
      have c8b1 : decide ((ji6 : Int).toNat ≤ 35184372088832) = true := decide_eq_true c8
      clear c8
      obtain ⟨y183,hy183⟩ : ∃ y_ : List Int,y_ = (List.replicate (ji6 : Int).toNat 0) := ⟨_,rfl⟩
      replace H : (if 0 < (y183.length : Int) then (if x5_1.length < 5864062014805 then (shamir_Constant.l0 k1 a1 (x5_1 ++ [(y183.set (0 : Int).toNat a1)]) a0_1 (wrap64 (x9_1 + 1)) a0_0 a0_1 a0_2) else (none)) else (none)) = some r := by first|(rw [hy183];with_reducible exact H)|(have H2_ := (Option.bind_some _ _).symm.trans H;rw [hy183];with_reducible exact H2_)|(have H2_ := (Option.bind_some _ _).symm.trans H;with_reducible exact H2_)|with_reducible exact H|(rw [hy183];exact H)|exact H
      have Ny183 := Aside0.mk hy183
      clear hy183
      by_cases c9 : 0 < (y183.length : Int)
      ·rw [if_pos c9] at H
       have c9b0 : decide (0 < (y183.length : Int)) = true := decide_eq_true c9
       have c9b1 : decide (0 < y183.length) = true := decide_eq_true (by omega)
       clear c9
       obtain ⟨y186,hy186⟩ : ∃ y_ : List Int,y_ = (y183.set (0 : Int).toNat a1) := ⟨_,rfl⟩
       replace H : (if x5_1.length < 5864062014805 then (shamir_Constant.l0 k1 a1 (x5_1 ++ [y186]) a0_1 (wrap64 (x9_1 + 1)) a0_0 a0_1 a0_2) else (none)) = some r := by first|(rw [hy186];with_reducible exact H)|(have H2_ := (Option.bind_some _ _).symm.trans H;rw [hy186];with_reducible exact H2_)|(have H2_ := (Option.bind_some _ _).symm.trans H;with_reducible exact H2_)|with_reducible exact H|(rw [hy186];exact H)|exact H
       have Ny186 := Aside0.mk hy186
       clear hy186
       by_cases c11 : x5_1.length < 5864062014805
       ·rw [if_pos c11] at H
        have LMc11 := Aside0.mk c11
        clear c11
        obtain ⟨y187,hy187⟩ : ∃ y_ : List (List Int),y_ = (x5_1 ++ [y186]) := ⟨_,rfl⟩
        replace H : (shamir_Constant.l0 k1 a1 y187 a0_1 (wrap64 (x9_1 + 1)) a0_0 a0_1 a0_2) = some r := by first|(rw [hy187];with_reducible exact H)|(have H2_ := (Option.bind_some _ _).symm.trans H;rw [hy187];with_reducible exact H2_)|(have H2_ := (Option.bind_some _ _).symm.trans H;with_reducible exact H2_)|with_reducible exact H|(rw [hy187];exact H)|exact H
        have Ny187 := Aside0.mk hy187
        clear hy187
        have H' := Aside0.mk H
        clear H
        have hcz12_0 : wr.cell? ⟨gb182,0,none⟩ = some (.int .u64 a0_0) := (blk_cell BK182.out 0).trans rfl
        have hcz12_1 : wr.cell? ⟨gb182,1,none⟩ = some (.int .i64 a0_1) := (blk_cell BK182.out 1).trans rfl
        have hcz12_2 : wr.cell? ⟨gb182,2,none⟩ = some (.int .i64 a0_2) := (blk_cell BK182.out 2).trans rfl
        have hfz12_0 := blk_frozen BK182.out 0
        have hfz12_1 := blk_frozen BK182.out 1
        have hfz12_2 := blk_frozen BK182.out 2
        go_wp2_with (first|((with_reducible refine gate_dst (N := 14) rfl ?_);refine Kd.R_make (Kd.int .u64) _ 22 rfl (N := 14) rfl 23 _ _ rfl ji6 rfl rfl Try.underlying23 (.int .u64 0) 8 info22 rfl (by decide) (by omega) 0 (ok := fun _ => True) (okp := fun _ => True) rfl (fun _ hk => hk) trivial (of_decide_eq_true (by first|(with_reducible assumption)|assumption)) (Nat.le_trans (Nat.mul_le_mul_right _ (of_decide_eq_true (by first|(with_reducible assumption)|assumption) : ji6.toNat ≤ 35184372088832)) (by omega)) (Below.refl _ _) (Nat.le_refl _) ?_;intro v184 w13 ho14 hb hg_ hnew_;clear hg_ hnew_;(first|rw [← Ny183.out] at ho14|(simp only [Int.reduceToNat] at ho14;rw [← Ny183.out] at ho14));have n0_ := Aside0.mk (Kd.S_elder' (by (with_reducible repeat (first|apply Kd.S_alloc|apply Kd.S_drewN|apply Kd.S_drew));exact HO_5.out) (Kd.R_base ho14) hb);have n1_ := Aside0.mk (Kd.R_lower ho14 (below_size (by repeat (first|(with_reducible first|exact HB.out|apply below_alloc|apply pw_below_drewN|apply below_drew1|refine below_set ?_ GE182.out)|exact HB.out))));have n2_ := Aside0.mk (blk_below (g := gb182) (o := .cells #[.int .u64 a0_0,.int .i64 a0_1,.int .i64 a0_2] 55 (0,0)) (by (with_reducible repeat (first|refine blk_drewN ?_ _|refine blk_drew ?_|refine blk_alloc ?_ _));exact BK182.out) hb);have n3_ := Aside0.mk (below_step (by repeat (first|(with_reducible first|exact HB.out|apply below_alloc|apply pw_below_drewN|apply below_drew1|refine below_set ?_ GE182.out)|exact HB.out)) hb);clear HO_5;clear BK182;clear HB;have HO_5 := n0_;have HO185 := n1_;have BK182 := n2_;have HB := n3_;clear n0_ n1_ n2_ n3_;clear hb ho14;have p10 : 0 ≤ (0 : Int) := (by omega);have q10 : (0 : Int) < ((y183.length : Int) : Int) := of_decide_eq_true (by first|(with_reducible assumption)|assumption);have qi10 : (0 < y183.length) = True := eq_true (by omega);obtain ⟨go10,co10,eo10,gb10,gl10,cl10,HG10⟩ := Kd.R_form HO185.out (by omega);(first|cases eo10|(injection eo10 with ea_ en_ ec_;(first|subst ea_|(injection ea_ with ea_;subst ea_));subst ec_;clear en_));have GB10 := Aside0.mk gb10;have GG10 := Aside0.mk HG10;clear gb10 gl10 HG10;obtain ⟨hx10_0,hf10_0⟩ := Kd.R_celln 0 HO185.out (0 : Int) p10 q10;(try rw [show ((0 : Int)).toNat = 0 from rfl] at hx10_0);(try simp only [Nat.reduceMul,Nat.zero_mul,Nat.zero_add,Nat.reduceAdd] at hx10_0);(try rw [show ((0 : Int)).toNat = 0 from rfl] at hf10_0);(try simp only [Nat.reduceMul,Nat.zero_mul,Nat.zero_add,Nat.reduceAdd] at hf10_0);replace p10 := eq_true p10;replace q10 := eq_true q10;obtain ⟨hy15_,hz15_⟩ := Kd.R_celln 0 HO185.out (0 : Int) (by omega) (of_decide_eq_true (by first|(with_reducible assumption)|assumption));(try simp only [Int.reduceToNat,Int.toNat_zero,Int.toNat_ofNat,Nat.reduceMul,Nat.zero_mul,Nat.zero_add] at hy15_ hz15_);(try rw [show ((0 : Int)).toNat = 0 from rfl] at hy15_);(try rw [show ((0 : Int)).toNat = 0 from rfl] at hz15_);have HP15 := Kd.R_putg HO185.out (0 : Int) a1)|((with_reducible refine gate_store (t := 22) (p := 17) rfl ?_);refine store_event (t := 22) (p := 17) (v := ?vo_w16) (w1 := (w13.setCell ⟨go10,(0 : Int).toNat,none⟩ (.int .u64 a1))) ?hg ?ho ?hn ?hr ?_;(case ho => rfl);(case hg => rfl);(case hn => rfl);(case hr => first|(go_simp;done)|(go_simp;rfl));intro w16 hw;have hg : w13.grownBy w16 (some go10) := (by rw [hw];exact HP15.2);have hp_ : Kd.R (Kd.int .u64) 22 w16 w.heap.size (fun _ => True) (.slice (some ⟨go10,0,none⟩) y183.length co10) y186 := (by rw [hw,Ny186.out];exact HP15.1);clear HP15;have n0_ := Aside0.mk (Kd.S_after (v := (.slice (some ⟨go10,0,none⟩) y183.length co10)) (v1 := (.slice (some ⟨go10,0,none⟩) y183.length co10)) (ok := (fun _ => True)) (by (with_reducible repeat (first|apply Kd.S_alloc|apply Kd.S_drewN|apply Kd.S_drew));exact HO_5.out) hg (.inl rfl));have n1_ := Aside0.mk (blk_grown (g := gb182) (o := .cells #[.int .u64 a0_0,.int .i64 a0_1,.int .i64 a0_2] 55 (0,0)) (by (with_reducible repeat (first|refine blk_drewN ?_ _|refine blk_drew ?_|refine blk_alloc ?_ _));exact BK182.out) hg (Kd.R_ne HO185.out BK182.out (by decide)));have n2_ := Aside0.mk (hp_);have n3_ := Aside0.mk ((by rw [hw];exact below_set (HB.out) GB10.out : Below w.heap.size w w16));clear HO_5;clear BK182;clear HO185;clear HB;have HO_5 := n0_;have BK182 := n1_;have HO185 := n2_;have HB := n3_;clear n0_ n1_ n2_ n3_;clear hg hw hp_)|((with_reducible refine gate_builtin (b := .append) (xs := #[.tmp 18,.tmp 20]) rfl ?_);at_builtin;refine Kd.S_append (Kd.slice 22 (Kd.int .u64)) (w0 := w) w.heap.size rfl (.tmp 18) (.tmp 20) 57 23 (.slice none 0 0) 24 rfl Try.underlying57 info23 rfl (by decide) (by omega) u5 x5_1 y186 [.slice (some ⟨go10,0,none⟩) y183.length co10] (fun _ => True) (fun k_ => some k_ = (.slice (some ⟨go10,0,none⟩) y183.length co10 : Value).ownBlock) rfl rfl ?aP (fun k_ hk_ => ((Kd.R_mono (ok' := fun k_ => ((fun _ => True)) k_ ∧ some k_ ≠ (u5 : Value).ownBlock) (Kd.R_apart' (HO185.out) (Kd.S_typed HO_5.out) (by decide)) (fun k_ hk => ⟨trivial,hk.2⟩))).1 k_ hk_.symm) ?aF ?aO ?aB ?aS ?aL ?_;(case aP => exact Kd.M_row (Kd.R_mono (Kd.R_tight rfl (Kd.R_mono (ok' := fun k_ => ((fun _ => True)) k_ ∧ some k_ ≠ (u5 : Value).ownBlock) (Kd.R_apart' (HO185.out) (Kd.S_typed HO_5.out) (by decide)) (fun k_ hk => ⟨trivial,hk.2⟩))) (fun _ h_ => h_)));(case aB => exact (by repeat (first|(with_reducible first|exact HB.out|apply below_alloc|apply pw_below_drewN|apply below_drew1|refine below_set ?_ GE182.out)|exact HB.out)));(case aF => exact (fun _ _ => trivial));(case aO => exact (by (with_reducible repeat (first|apply Kd.S_alloc|apply Kd.S_drewN|apply Kd.S_drew));exact Kd.S_mono HO_5.out (fun k_ hk => ⟨trivial,fun e_ => hk.2 e_⟩)));(case aS => exact (below_size (by repeat (first|(with_reducible first|exact HB.out|apply below_alloc|apply pw_below_drewN|apply below_drew1|refine below_set ?_ GE182.out)|exact HB.out))));(case aL => have := LMc11.out;omega);intro v188 w17 ho hb hg hat;rw [← Ny187.out] at ho;have n0_ := Aside0.mk (blk_grown (g := gb182) (o := .cells #[.int .u64 a0_0,.int .i64 a0_1,.int .i64 a0_2] 55 (0,0)) (by (with_reducible repeat (first|refine blk_drewN ?_ _|refine blk_drew ?_|refine blk_alloc ?_ _));exact BK182.out) hg (Kd.S_ne HO_5.out BK182.out (by decide)));have n1_ := Aside0.mk (hb);have n2_ := Aside0.mk (ho);clear BK182;clear HB;clear HO_5;clear HO185;have BK182 := n0_;have HB := n1_;have HO189 := n2_;clear n0_ n1_ n2_;clear ho hb hg hat))
        go_roundg k1
        case measure => have := HK1.out;omega
        case rel => exact ⟨(y187),(wrap64 (x9_1 + 1)),(by first|rfl|(simp;done)|(simp [*];done)),H',⟨by have := HK1.out;omega⟩,⟨by (with_reducible repeat (first|apply Kd.S_alloc|apply Kd.S_drewN|apply Kd.S_drew));exact HO189.out⟩,⟨by (with_reducible repeat (first|refine blk_drewN ?_ _|refine blk_drew ?_|refine blk_alloc ?_ _));exact BK182.out⟩,⟨by repeat (first|(with_reducible first|exact HB.out|apply below_alloc|apply pw_below_drewN|apply below_drew1|refine below_set ?_ GE182.out)|exact HB.out)⟩⟩
       ·rw [if_neg c11] at H
        exact absurd H (by simp)
      ·rw [if_neg c9] at H
       exact absurd H (by simp)
     ·rw [if_neg c8] at H
      exact absurd H (by simp)
    ·rw [if_neg c7] at H
     exact absurd H (by simp)
   ·rw [if_neg c5] at H
    have c5b0 : decide (x9_1 < a0_1) = false := decide_eq_false c5
    clear c5
    obtain rfl := Option.some.inj H
    go_wp2
    go_ret
    exact ⟨_,by first|rfl|(simp [errW_none,errW_some] <;> rfl)|(simp [*,errW_none,errW_some] <;> rfl),by (with_reducible repeat (first|apply Kd.S_alloc|apply Kd.S_drewN|apply Kd.S_drew));exact HO_5.out,by repeat (first|(with_reducible first|exact HB.out|apply below_alloc|apply pw_below_drewN|apply below_drew1|refine below_set ?_ GE182.out)|exact HB.out)⟩
end Go.Proofs.Ytiaajmiphnjgaaa.Pr
end
section
/-
  Plain mathematics: polynomials over a prime field, as lists of coefficients: values, roots, uniqueness. No program in sight.
-/
namespace Go.Proofs.Ytiaajmiphnjgaaa.Pl
open Go.Proofs.Ytiaajmiphnjgaaa.Fd

section
variable {p : Nat} [NeZero p]

/-- The value at x: the lowest coefficient first. -/
def ev (x : Fin p) : List (Fin p) → Fin p
  | [] => 0
  | c :: f => c + x * ev x f
/-- The quotient by X - a. -/
def quot (a : Fin p) : List (Fin p) → List (Fin p)
  | [] => []
  | _ :: f => match f with
    | [] => []
    | _ => ev a f :: quot a f
theorem quot_length (a : Fin p) : ∀ f : List (Fin p), (quot a f).length = f.length - 1
  | [] => rfl
  | [_] => rfl
  | _ :: d :: f => by
    have := quot_length a (d :: f)
    simp only [quot, List.length_cons] at *
    omega
theorem quot_spec (a x : Fin p) : ∀ f : List (Fin p), ev x f = (x - a) * ev x (quot a f) + ev a f
  | [] => by simp only [quot, ev]; grind
  | [c] => by simp only [quot, ev]; grind
  | c :: d :: f => by
    have h := quot_spec a x (d :: f)
    have e : quot a (c :: d :: f) = ev a (d :: f) :: quot a (d :: f) := rfl
    rw [e]
    generalize hq : quot a (d :: f) = q at *
    rw [ev, h]
    show _ = (x - a) * (ev a (d :: f) + x * ev x q) + (c + a * ev a (d :: f))
    grind
theorem zero_of_quot (a : Fin p) : ∀ f : List (Fin p), (∀ c ∈ quot a f, c = 0) → ev a f = 0 → ∀ c ∈ f, c = 0
  | [], _, _ => by simp
  | [c], _, h => by
    intro x hx
    have h : c + a * 0 = 0 := h
    simp only [List.mem_cons, List.not_mem_nil, or_false] at hx
    subst hx; grind
  | c :: d :: f, hq, h => by
    have e : quot a (c :: d :: f) = ev a (d :: f) :: quot a (d :: f) := rfl
    rw [e] at hq
    have h1 : ev a (d :: f) = 0 := hq _ (by simp)
    have ih := zero_of_quot a (d :: f) (fun x hx => hq x (List.mem_cons_of_mem _ hx)) h1
    have h2 : c + a * ev a (d :: f) = 0 := h
    rw [h1] at h2
    have hc : c = 0 := by grind
    intro x hx
    rcases List.mem_cons.1 hx with rfl | hx
    · exact hc
    · exact ih x hx
/-- No zero divisors. -/
def Dom (p : Nat) [NeZero p] : Prop := ∀ a b : Fin p, a * b = 0 → a = 0 ∨ b = 0
theorem zero_of_roots (hd : Dom p) : ∀ (xs f : List (Fin p)), xs.Nodup → f.length ≤ xs.length → (∀ x ∈ xs, ev x f = 0) → ∀ c ∈ f, c = 0
  | [], f, _, hl, _ => by
    have : f = [] := by cases f with | nil => rfl | cons _ _ => simp at hl
    subst this; simp
  | a :: xs, f, hn, hl, h => by
    have hn' := List.nodup_cons.1 hn
    refine zero_of_quot a f (zero_of_roots hd xs (quot a f) hn'.2 (by rw [quot_length]; simp at hl; omega) fun x hx => ?_) (h a (by simp))
    have h1 := quot_spec a x f
    rw [h x (List.mem_cons_of_mem _ hx), h a (by simp)] at h1
    have h2 : (x - a) * ev x (quot a f) = 0 := by grind
    rcases hd _ _ h2 with h3 | h3
    · have : x = a := by grind
      subst this; exact absurd hx hn'.1
    · exact h3
/-- The difference, coefficient by coefficient. -/
def sub : List (Fin p) → List (Fin p) → List (Fin p)
  | [], g => g.map fun c => -c
  | f, [] => f
  | c :: f, d :: g => (c - d) :: sub f g
omit [NeZero p] in
theorem sub_length : ∀ f g : List (Fin p), (sub f g).length = max f.length g.length
  | [], g => by simp [sub]
  | _ :: _, [] => by simp [sub]
  | _ :: f, _ :: g => by simp [sub, sub_length f g]
theorem ev_neg (x : Fin p) : ∀ f : List (Fin p), ev x (f.map fun c => -c) = - ev x f
  | [] => by simp only [List.map_nil, ev]; grind
  | c :: f => by simp only [List.map_cons, ev, ev_neg x f]; grind
theorem ev_sub (x : Fin p) : ∀ f g : List (Fin p), ev x (sub f g) = ev x f - ev x g
  | [], g => by simp only [sub, ev_neg, ev]; grind
  | _ :: _, [] => by simp only [sub, ev]; grind
  | c :: f, d :: g => by simp only [sub, ev, ev_sub x f g]; grind
theorem getD_sub (i : Nat) : ∀ f g : List (Fin p), (sub f g).getD i 0 = f.getD i 0 - g.getD i 0 := by
  induction i with
  | zero =>
    intro f g
    cases f with
    | nil => cases g with
      | nil => simp only [sub, List.map_nil, List.getD_nil]; grind
      | cons d g => simp only [sub, List.map_cons, List.getD_cons_zero, List.getD_nil]; grind
    | cons c f => cases g with
      | nil => simp only [sub, List.getD_cons_zero, List.getD_nil]; grind
      | cons d g => simp only [sub, List.getD_cons_zero]
  | succ i ih =>
    intro f g
    cases f with
    | nil => cases g with
      | nil => simp only [sub, List.map_nil, List.getD_nil]; grind
      | cons d g =>
        have := ih [] g
        simp only [sub, List.map_cons, List.getD_cons_succ, List.getD_nil] at *
        exact this
    | cons c f => cases g with
      | nil => simp only [sub, List.getD_cons_succ, List.getD_nil]; grind
      | cons d g => simp only [sub, List.getD_cons_succ]; exact ih f g
theorem getD_zero {f : List (Fin p)} (h : ∀ c ∈ f, c = 0) (i : Nat) : f.getD i 0 = 0 := by
  rw [List.getD_eq_getElem?_getD]
  by_cases hi : i < f.length
  · rw [List.getElem?_eq_getElem hi]; exact h _ (List.getElem_mem hi)
  · rw [List.getElem?_eq_none (by omega)]; rfl
/-- Two polynomials of at most n coefficients that agree at n points are one. -/
theorem unique (hd : Dom p) (xs f g : List (Fin p)) (hn : xs.Nodup) (hf : f.length ≤ xs.length) (hg : g.length ≤ xs.length) (h : ∀ x ∈ xs, ev x f = ev x g) (i : Nat) : f.getD i 0 = g.getD i 0 := by
  have h1 := getD_zero (zero_of_roots hd xs (sub f g) hn (by rw [sub_length]; omega) fun x hx => by rw [ev_sub, h x hx]; grind) i
  rw [getD_sub] at h1
  grind
/-- Values do not see zeros at the end. -/
theorem ev_congr (x : Fin p) : ∀ f g : List (Fin p), (∀ i, f.getD i 0 = g.getD i 0) → ev x f = ev x g := by
  intro f g h
  have : ∀ c ∈ sub f g, c = 0 := by
    intro c hc
    obtain ⟨i, hi, rfl⟩ := List.getElem_of_mem hc
    have := getD_sub i f g
    rw [h i, List.getD_eq_getElem?_getD, List.getElem?_eq_getElem hi] at this
    simp only [Option.getD_some] at this
    rw [this]; grind
  have h0 : ∀ l : List (Fin p), (∀ c ∈ l, c = 0) → ev x l = 0 := by
    intro l
    induction l with
    | nil => intro _; rfl
    | cons c l ih => intro hl; rw [ev, ih (fun d hd => hl d (List.mem_cons_of_mem _ hd)), hl c (by simp)]; grind
  have h1 := h0 _ this
  rw [ev_sub] at h1
  grind
end
end Go.Proofs.Ytiaajmiphnjgaaa.Pl
end
section
/-
  Plain mathematics: values of lists of residues, whole numbers as residues, products of linear factors. No program in sight.
-/
namespace Go.Proofs.Ytiaajmiphnjgaaa.Pl
open Go.Proofs.Ytiaajmiphnjgaaa.Fd

section
variable {p : Nat} [NeZero p]

/-- The n-th power. -/
def mono (x : Fin p) : Nat → Fin p
  | 0 => 1
  | n + 1 => x * mono x n
theorem mono_add (x : Fin p) (a : Nat) : ∀ b, mono x (a + b) = mono x a * mono x b
  | 0 => by simp only [mono, Nat.add_zero]; grind
  | b + 1 => by rw [← Nat.add_assoc]; simp only [mono]; rw [mono_add x a b]; grind
theorem ev_append (x : Fin p) : ∀ f g : List (Fin p), ev x (f ++ g) = ev x f + mono x f.length * ev x g
  | [], g => by simp only [List.nil_append, ev, List.length_nil, mono]; grind
  | c :: f, g => by simp only [List.cons_append, ev, List.length_cons, mono, ev_append x f g]; grind
theorem ev_zeros (x : Fin p) : ∀ n, ev x (List.replicate n 0) = 0
  | 0 => rfl
  | n + 1 => by simp only [List.replicate_succ, ev, ev_zeros x n]; grind
theorem ev_set (x v : Fin p) : ∀ (f : List (Fin p)) (i : Nat), i < f.length → ev x (f.set i v) = ev x f + (v - f.getD i 0) * mono x i
  | [], _, h => by simp at h
  | c :: f, 0, _ => by simp only [List.set_cons_zero, ev, mono, List.getD_cons_zero]; grind
  | c :: f, i + 1, h => by
    have := ev_set x v f i (by simpa using h)
    simp only [List.set_cons_succ, ev, mono, List.getD_cons_succ, this]; grind
theorem ev_take_succ (x : Fin p) : ∀ (f : List (Fin p)) (n : Nat), ev x (f.take (n + 1)) = ev x (f.take n) + f.getD n 0 * mono x n
  | [], n => by simp only [List.take_nil, List.getD_nil, ev]; grind
  | c :: f, 0 => by simp only [List.take_succ_cons, List.take_zero, ev, List.getD_cons_zero, mono]; grind
  | c :: f, n + 1 => by
    have := ev_take_succ x f n
    simp only [List.take_succ_cons, ev, List.getD_cons_succ, mono] at *
    rw [this]; grind
/-- A whole number's residue. -/
def tf (p : Nat) [NeZero p] (a : Int) : Fin p := ⟨(a % (p : Int)).toNat, by
  have h : (0 : Int) < p := by have := Nat.pos_of_neZero p; omega
  have := Int.emod_lt_of_pos a h
  have := Int.emod_nonneg a (by omega : (p : Int) ≠ 0)
  omega⟩
theorem tf_val (a : Int) : (((tf p a).val : Nat) : Int) = a % (p : Int) := by
  have h : (0 : Int) < p := by have := Nat.pos_of_neZero p; omega
  show (((a % (p : Int)).toNat : Nat) : Int) = _
  rw [Int.toNat_of_nonneg (Int.emod_nonneg a (by omega))]
theorem tf_eq {a : Int} {x : Fin p} (h : ((x.val : Nat) : Int) = a % (p : Int)) : tf p a = x := by
  apply Fin.ext
  have := tf_val (p := p) a
  omega
theorem tf_of_emod {a b : Int} (h : a % (p : Int) = b % (p : Int)) : tf p a = tf p b := tf_eq (by rw [tf_val, h])
theorem tf_emod (a : Int) : tf p (a % (p : Int)) = tf p a := tf_of_emod (Int.emod_emod_of_dvd _ (Int.dvd_refl _))
theorem tf_add (a b : Int) : tf p (a + b) = tf p a + tf p b := by
  refine tf_eq ?_
  rw [Fin.val_add, Int.natCast_emod, Int.natCast_add, tf_val, tf_val, ← Int.add_emod]
theorem tf_mul (a b : Int) : tf p (a * b) = tf p a * tf p b := by
  refine tf_eq ?_
  rw [Fin.val_mul, Int.natCast_emod, Int.natCast_mul, tf_val, tf_val, ← Int.mul_emod]
theorem tf_zero : tf p 0 = 0 := tf_eq (by simp)
theorem tf_one : tf p 1 = 1 := by
  refine tf_eq ?_
  rw [show ((1 : Fin p).val) = 1 % p from rfl]; simp
theorem tf_neg (a : Int) : tf p (-a) = - tf p a := by
  have h : tf p (-a) + tf p a = 0 := by rw [← tf_add, show -a + a = 0 from by omega, tf_zero]
  grind
theorem tf_sub (a b : Int) : tf p (a - b) = tf p a - tf p b := by rw [Int.sub_eq_add_neg, tf_add, tf_neg]; grind
theorem tf_of_val (x : Fin p) : tf p ((x.val : Nat) : Int) = x := tf_eq (by
  have := x.isLt
  rw [← Int.natCast_emod, Nat.mod_eq_of_lt this])
theorem tf_inj {a b : Int} (ha : 0 ≤ a ∧ a < (p : Int)) (hb : 0 ≤ b ∧ b < (p : Int)) (h : tf p a = tf p b) : a = b := by
  have h1 := tf_val (p := p) a
  rw [h, tf_val, Int.emod_eq_of_lt ha.1 ha.2, Int.emod_eq_of_lt hb.1 hb.2] at h1
  exact h1.symm
theorem getD_tf (l : List Int) (i : Nat) : (l.map (tf p)).getD i 0 = tf p (l.getD i 0) := by
  rw [List.getD_eq_getElem?_getD, List.getD_eq_getElem?_getD, List.getElem?_map]
  cases l[i]? with
  | none => simp [tf_zero]
  | some v => rfl
/-- The product of the factors y - o. -/
def lin (y : Fin p) : List (Fin p) → Fin p
  | [] => 1
  | o :: l => (y - o) * lin y l
theorem lin_zero {y : Fin p} : ∀ {l : List (Fin p)}, y ∈ l → lin y l = 0
  | o :: l, h => by
    rcases List.mem_cons.1 h with h | h
    · subst h; simp only [lin]; grind
    · simp only [lin]; rw [lin_zero h]; grind
end
end Go.Proofs.Ytiaajmiphnjgaaa.Pl
end
section
/-
  What the hand-proved functions compute, as polynomials over the field: values, lengths, uniqueness.
-/
namespace Go.Proofs.Ytiaajmiphnjgaaa.E
open Go.RowKit Go.Proofs.Ytiaajmiphnjgaaa.Pr Go.Proofs.Ytiaajmiphnjgaaa.Hw Go.Proofs.Ytiaajmiphnjgaaa.Pl Go.Proofs.YtiaajmiphnjgaaaW.PrintWords Go.Proofs.YtiaajmiphnjgaaaW.PrintLast Go.Proofs.YtiaajmiphnjgaaaW.PrintMore
set_option linter.unusedVariables false
set_option linter.unusedSimpArgs false

theorem nz {p : Int} (hp : Supp p) : NeZero p.toNat := ⟨by have := hp.bd; omega⟩
theorem cast_p {p : Int} (hp : Supp p) : ((p.toNat : Nat) : Int) = p := by have := hp.bd; omega
section
variable {p : Int} (hp : Supp p) [NeZero p.toNat]

/-- The residue, in the field. -/
def T (p : Int) [NeZero p.toNat] (a : Int) : Fin p.toNat := tf p.toNat a
def M (p : Int) [NeZero p.toNat] (l : List Int) : List (Fin p.toNat) := l.map (T p)
include hp in
theorem T_mod (a : Int) : T p (a % p) = T p a := by
  have h := tf_emod (p := p.toNat) a
  rw [cast_p hp] at h; exact h
theorem T_add (a b : Int) : T p (a + b) = T p a + T p b := tf_add a b
theorem T_mul (a b : Int) : T p (a * b) = T p a * T p b := tf_mul a b
theorem T_sub (a b : Int) : T p (a - b) = T p a - T p b := tf_sub a b
theorem T_neg (a : Int) : T p (-a) = - T p a := tf_neg a
theorem T_zero : T p 0 = 0 := tf_zero
theorem T_one : T p 1 = 1 := tf_one
include hp in
theorem T_inj {a b : Int} (ha : Res p a) (hb : Res p b) (h : T p a = T p b) : a = b :=
  tf_inj (p := p.toNat) (by rw [cast_p hp]; exact ha) (by rw [cast_p hp]; exact hb) h
include hp in
theorem T_inv {a : Int} (ha : Res p a) (h0 : a ≠ 0) : T p a * T p (invp p a) = 1 := by
  rw [← T_mul, ← T_one, ← T_mod hp (a * invp p a), inv_spec hp ha h0]
include hp in
theorem T_back (x : Fin p.toNat) : Res p ((x.val : Nat) : Int) ∧ T p ((x.val : Nat) : Int) = x := by
  have := x.isLt
  have := cast_p hp
  exact ⟨⟨by omega, by omega⟩, tf_of_val x⟩
include hp in
theorem dom : Dom p.toNat := by
  intro a b h
  obtain ⟨r, e⟩ := T_back hp a
  by_cases h0 : ((a.val : Nat) : Int) = 0
  · left; rw [← e, h0, T_zero]
  · right
    have h1 := T_inv hp r h0
    rw [e] at h1
    grind
include hp in
theorem ev_evI (x : Int) : ∀ l, T p (evI p x l) = ev (T p x) (M p l)
  | [] => T_zero
  | c :: l => by
    have := ev_evI x l
    simp only [evI, M, List.map_cons, ev]
    rw [T_mod hp, T_add, T_mod hp, T_mul, this, M]
    grind
theorem M_getD (l : List Int) (i : Nat) : (M p l).getD i 0 = T p (l.getD i 0) := getD_tf l i
theorem M_length (l : List Int) : (M p l).length = l.length := List.length_map _
theorem ev_trimL (x : Fin p.toNat) (l : List Int) : ev x (M p (trimL l)) = ev x (M p l) :=
  ev_congr x _ _ (fun i => by rw [M_getD, M_getD, trimL_getD])
theorem ev_grow (x : Fin p.toNat) (l : List Int) (n : Nat) : ev x (M p (grow l n)) = ev x (M p l) := by
  have : M p (grow l n) = M p l ++ List.replicate (n - l.length) 0 := by
    unfold grow M; rw [List.map_append, List.map_replicate, T_zero]
  rw [this, ev_append, ev_zeros]; grind
include hp in
theorem ev_put (x : Fin p.toNat) (l : List Int) (i : Nat) (k : Int) : ev x (M p (putL p l i k)) = ev x (M p l) + T p k * mono x i := by
  have hg : i < (grow l (i + 1)).length := by unfold grow; simp; omega
  have : M p (putL p l i k) = (M p (grow l (i + 1))).set i (T p ((grow l (i + 1)).getD i 0) + T p k) := by
    unfold putL M; rw [List.map_set, T_mod hp, T_add]
  rw [this, ev_set _ _ _ _ (by rw [M_length]; exact hg), ev_grow, M_getD]
  grind
include hp in
theorem ev_puts (x : Fin p.toNat) (m l : List Int) : ∀ n, ev x (M p (putsL p m l n)) = ev x (M p m) + ev x ((M p l).take n)
  | 0 => by simp only [putsL, List.take_zero, ev]; grind
  | n + 1 => by rw [putsL, ev_put hp, ev_puts x m l n, ev_take_succ, M_getD]; grind
theorem M_take_all (l : List Int) : (M p l).take l.length = M p l := by rw [← M_length (p := p) l, List.take_length]
include hp in
theorem ev_addP (x : Fin p.toNat) (a b : List Int) : ev x (M p (addP p a b)) = ev x (M p a) + ev x (M p b) := by
  unfold addP
  rw [ev_puts hp, ev_puts hp, M_take_all, M_take_all]
  show ev x [] + _ + _ = _
  simp only [ev]; grind
include hp in
theorem ev_row (x : Fin p.toNat) (m : List Int) (u : Int) (b : List Int) (i : Nat) : ∀ n, ev x (M p (rowL p m u b i n)) = ev x (M p m) + T p u * mono x i * ev x ((M p b).take n)
  | 0 => by simp only [rowL, List.take_zero, ev]; grind
  | n + 1 => by
    rw [rowL, ev_put hp, ev_row x m u b i n, ev_take_succ, M_getD, T_mod hp, T_mul, mono_add, rd_nat]; grind
include hp in
theorem ev_muls (x : Fin p.toNat) (a b : List Int) : ∀ n, ev x (M p (mulsL p a b n)) = ev x ((M p a).take n) * ev x (M p b)
  | 0 => by simp only [mulsL, List.take_zero, M, List.map_nil, ev]; grind
  | n + 1 => by rw [mulsL, ev_row hp, ev_muls x a b n, M_take_all, ev_take_succ, M_getD, rd_nat]; grind
include hp in
theorem ev_scaleL (x : Fin p.toNat) (k : Int) : ∀ l, ev x (M p (l.map fun v => k * v % p)) = T p k * ev x (M p l)
  | [] => by simp only [M, List.map_nil, ev]; grind
  | c :: l => by
    have := ev_scaleL x k l
    simp only [M, List.map_cons, ev] at *
    rw [this, T_mod hp, T_mul]; grind
include hp in
theorem M_nodup : ∀ {xs : List Int}, (∀ x ∈ xs, Res p x) → xs.Nodup → (M p xs).Nodup
  | [], _, _ => List.nodup_nil
  | a :: xs, h, hn => by
    have hn' := List.nodup_cons.1 hn
    refine List.nodup_cons.2 ⟨fun hm => ?_, M_nodup (fun x hx => h x (List.mem_cons_of_mem _ hx)) hn'.2⟩
    obtain ⟨b, hb, e⟩ := List.mem_map.1 hm
    have := T_inj hp (h b (List.mem_cons_of_mem _ hb)) (h a (by simp)) e
    exact hn'.1 (this ▸ hb)
end

/-- Two lists of residues with at most n coefficients that agree at n points are one, but for zeros at the end. -/
theorem uniq {p : Int} (hp : Supp p) {xs f g : List Int} (hx : ∀ x ∈ xs, Res p x) (hn : xs.Nodup) (hf : ∀ x ∈ f, Res p x) (hg : ∀ x ∈ g, Res p x) (lf : f.length ≤ xs.length) (lg : g.length ≤ xs.length)
    (h : ∀ x ∈ xs, evI p x f = evI p x g) : trimL f = trimL g := by
  haveI := nz hp
  have hb := hp.bd
  refine trimL_ext fun i => ?_
  have hz : ∀ {l : List Int}, (∀ x ∈ l, Res p x) → Res p (l.getD i 0) := by
    intro l hl
    rw [List.getD_eq_getElem?_getD]
    by_cases hi : i < l.length
    · rw [List.getElem?_eq_getElem hi]; exact hl _ (List.getElem_mem hi)
    · rw [List.getElem?_eq_none (by omega)]; exact ⟨Int.le_refl 0, by show (0 : Int) < p; omega⟩
  refine T_inj hp (hz hf) (hz hg) ?_
  rw [← M_getD, ← M_getD]
  refine unique (dom hp) (M p xs) (M p f) (M p g) (M_nodup hp hx hn) (by simp only [M_length]; exact lf) (by simp only [M_length]; exact lg) (fun y hy => ?_) i
  obtain ⟨x, hxx, rfl⟩ := List.mem_map.1 hy
  rw [← ev_evI hp, ← ev_evI hp, h x hxx]
theorem mulsL_lin_length {p : Int} (f : List Int) (o : Int) : ∀ n, (mulsL p f [o, 1] n).length ≤ n + 1 := by
  intro n
  induction n with
  | zero => simp [mulsL]
  | succ n ih =>
    show (rowL p (mulsL p f [o, 1] n) (rd f n) [o, 1] n 2).length ≤ _
    simp only [rowL, putL_length, Nat.add_zero]; omega
section
variable {p : Int} (hp : Supp p) [NeZero p.toNat]
include hp in
/-- The factors of one round, as values. -/
theorem polS_ev (y : Fin p.toNat) (X : Int) : ∀ (l : List Int) (s : List Int × Int),
    ev y (M p (l.foldl (polStep p X) s).1) = ev y (M p s.1) * lin y (M p l) ∧ T p (l.foldl (polStep p X) s).2 = T p s.2 * lin (T p X) (M p l) ∧ (l.foldl (polStep p X) s).1.length ≤ s.1.length + l.length
  | [], s => ⟨by show _ = _ * 1; grind, by show _ = _ * 1; grind, by simp⟩
  | o :: l, s => by
    obtain ⟨h1, h2, h3⟩ := polS_ev y X l (polStep p X s o)
    have e1 : ev y (M p (polStep p X s o).1) = ev y (M p s.1) * (y - T p o) := by
      show ev y (M p (trimL (mulsL p s.1 [-o % p, 1] s.1.length))) = _
      rw [ev_trimL, ev_muls hp, M_take_all]
      simp only [M, List.map_cons, List.map_nil, ev, T_mod hp, T_neg, T_one]
      grind
    have e2 : T p (polStep p X s o).2 = T p s.2 * (T p X - T p o) := by
      show T p (s.2 * ((X - o) % p) % p) = _
      rw [T_mod hp, T_mul, T_mod hp, T_sub]
    have e3 : (polStep p X s o).1.length ≤ s.1.length + 1 := Nat.le_trans (trimL_length _) (mulsL_lin_length s.1 _ _)
    simp only [List.foldl_cons, List.length_cons]
    rw [h1, h2, e1, e2]
    refine ⟨?_, ?_, by omega⟩
    · simp only [M, List.map_cons, lin]; grind
    · simp only [M, List.map_cons, lin]; grind
end

theorem othersN_len (xs : List Int) (i : Nat) : ∀ n, (othersN xs i n).length = if i < n then n - 1 else n
  | 0 => rfl
  | n + 1 => by
    have ih := othersN_len xs i n
    unfold othersN
    by_cases h : n = i
    · subst h; rw [if_pos rfl, ih, if_neg (by omega), if_pos (by omega)]; omega
    · rw [if_neg h, List.length_append, ih]
      by_cases h2 : i < n
      · rw [if_pos h2, if_pos (by omega)]; simp; omega
      · rw [if_neg h2, if_neg (by omega)]; simp
theorem othersN_has (xs : List Int) (i j : Nat) (hne : j ≠ i) : ∀ n, j < n → rd xs j ∈ othersN xs i n
  | n + 1, h => by
    unfold othersN
    by_cases hj : j = n
    · subst hj; rw [if_neg hne]; simp
    · have := othersN_has xs i j hne n (by omega)
      split
      · exact this
      · exact List.mem_append_left _ this
section
variable {p : Int} (hp : Supp p) [NeZero p.toNat]
/-- The sum of n values. -/
def sumF (f : Nat → Fin p.toNat) : Nat → Fin p.toNat
  | 0 => 0
  | n + 1 => sumF f n + f n
theorem sumF_one {f : Nat → Fin p.toNat} {j : Nat} : ∀ n, (∀ i, i < n → i ≠ j → f i = 0) → sumF f n = if j < n then f j else 0
  | 0, _ => rfl
  | n + 1, h => by
    simp only [sumF]
    rw [sumF_one n (fun i hi => h i (by omega))]
    by_cases hj : j = n
    · subst hj; rw [if_neg (by omega), if_pos (by omega)]; grind
    · rw [h n (by omega) (fun e => hj e.symm)]
      by_cases h2 : j < n
      · rw [if_pos h2, if_pos (by omega)]; grind
      · rw [if_neg h2, if_neg (by omega)]; grind
/-- The other places, in the field. -/
def oth (p : Int) [NeZero p.toNat] (xs : List Int) (i : Nat) : List (Fin p.toNat) := M p (othersN xs i xs.length)
/-- One over the product of the differences. -/
def dinv (p : Int) [NeZero p.toNat] (xs : List Int) (i : Nat) : Fin p.toNat := T p (invp p (lagS p 0 xs i).2)
include hp in
theorem lagS_ev (a : Int) (X : Int) : ∀ (l : List Int) (s : Int × Int),
    T p (l.foldl (lagStep p a X) s).1 = T p s.1 * lin (T p a) (M p l) ∧ T p (l.foldl (lagStep p a X) s).2 = T p s.2 * lin (T p X) (M p l)
  | [], s => ⟨by show _ = _ * 1; grind, by show _ = _ * 1; grind⟩
  | o :: l, s => by
    obtain ⟨h1, h2⟩ := lagS_ev a X l (lagStep p a X s o)
    simp only [List.foldl_cons, M, List.map_cons, lin]
    rw [h1, h2]
    simp only [lagStep, M]
    rw [T_mod hp, T_mod hp, T_mul, T_mul, T_mod hp, T_mod hp, T_sub, T_sub]
    constructor <;> grind
include hp in
theorem dinv_spec {xs : List Int} (hx : ∀ x ∈ xs, Res p x) (hn : xs.Nodup) (i : Nat) (hi : i < xs.length) : lin (T p (rd xs i)) (oth p xs i) * dinv p xs i = 1 := by
  have hb := hp.bd
  obtain ⟨h1, h2, h3⟩ := lagS_ok hp (a := 0) hx hn i hi
  have h := (lagS_ev hp 0 (rd xs i) (othersN xs i xs.length) (1, 1)).2
  have e := T_inv hp h2 h3
  have h' : T p (lagS p 0 xs i).2 = lin (T p (rd xs i)) (oth p xs i) := by
    unfold lagS oth; rw [h, T_one]; grind
  rw [h'] at e
  exact e
include hp in
theorem polTerm_ev {pts : List S34} (hx : PtsOk p pts) (hn : (xsOf pts).Nodup) (i : Nat) (hi : i < pts.length) (y : Fin p.toNat) :
    ev y (M p (polTerm p pts i)) = T p (rd_T34 pts (i : Int)).f1 * (lin y (oth p (xsOf pts) i) * dinv p (xsOf pts) i) := by
  have hl : (xsOf pts).length = pts.length := by simp [xsOf]
  obtain ⟨h1, h2, h3⟩ := polS_ev hp y (rd_T34 pts (i : Int)).f0 (othersN (xsOf pts) i pts.length) ([1], 1)
  obtain ⟨hr1, hr2, hlen, hD0⟩ := polS_ok hp hx hi hn
  have d := dinv_spec hp hx.xs hn i (by omega)
  have e := T_inv hp hr2 hD0
  unfold polTerm
  rw [ev_trimL, ev_scaleL hp, T_mod hp, T_mul]
  have e1 : ev y (M p (polS p pts i).1) = lin y (oth p (xsOf pts) i) := by
    unfold polS oth; rw [h1, hl]; simp only [M, List.map_cons, List.map_nil, ev, T_one]; grind
  have e2 : T p (polS p pts i).2 = lin (T p (rd (xsOf pts) i)) (oth p (xsOf pts) i) := by
    unfold polS oth; rw [h2, T_one, xsOf_rd pts i hi, hl]; grind
  rw [e1]
  rw [e2] at e
  generalize lin (T p (rd (xsOf pts) i)) (oth p (xsOf pts) i) = D at *
  have : T p (invp p (polS p pts i).2) = dinv p (xsOf pts) i := by grind
  rw [this]; grind
include hp in
theorem polSum_ev {pts : List S34} (hx : PtsOk p pts) (hn : (xsOf pts).Nodup) (y : Fin p.toNat) : ∀ n, n ≤ pts.length →
    ev y (M p (polSum p pts n)) = sumF (fun i => T p (rd_T34 pts (i : Int)).f1 * (lin y (oth p (xsOf pts) i) * dinv p (xsOf pts) i)) n
  | 0, _ => rfl
  | n + 1, h => by
    rw [polSum, ev_trimL, ev_addP hp, polSum_ev hx hn y n (by omega), polTerm_ev hp hx hn n (by omega) y]; rfl
include hp in
theorem polTerm_len {pts : List S34} (i : Nat) (hi : i < pts.length) : (polTerm p pts i).length ≤ pts.length := by
  obtain ⟨h1, h2, h3⟩ := polS_ev hp 0 (rd_T34 pts (i : Int)).f0 (othersN (xsOf pts) i pts.length) ([1], 1)
  rw [othersN_len, if_pos hi] at h3
  simp only [List.length_cons, List.length_nil] at h3
  refine Nat.le_trans (trimL_length _) ?_
  rw [List.length_map]
  unfold polS
  omega
include hp in
theorem polSum_len {pts : List S34} : ∀ n, n ≤ pts.length → (polSum p pts n).length ≤ pts.length
  | 0, _ => by simp [polSum]
  | n + 1, h => by
    have h1 := polSum_len (pts := pts) n (by omega)
    have h2 := polTerm_len hp (pts := pts) n (by omega)
    refine Nat.le_trans (trimL_length _) ?_
    rw [addP_length]; omega
include hp in
theorem polL_ev {pts : List S34} (hx : PtsOk p pts) (hn : (xsOf pts).Nodup) (y : Fin p.toNat) :
    ev y (M p (polL p pts)) = sumF (fun i => T p (rd_T34 pts (i : Int)).f1 * (lin y (oth p (xsOf pts) i) * dinv p (xsOf pts) i)) pts.length := by
  unfold polL; rw [ev_trimL, polSum_ev hp hx hn y pts.length (Nat.le_refl _)]
end

theorem polL_res {p : Int} (hp : Supp p) {pts : List S34} (hx : PtsOk p pts) : ∀ x ∈ polL p pts, Res p x := fun x h => (polSum_ok hp hx pts.length (Nat.le_refl _)).1 x (trimL_mem h)
theorem polL_len {p : Int} (hp : Supp p) {pts : List S34} : (polL p pts).length ≤ pts.length := by
  haveI := nz hp
  exact Nat.le_trans (trimL_length _) (polSum_len hp pts.length (Nat.le_refl _))
theorem polL_trim (p : Int) (pts : List S34) : trimL (polL p pts) = polL p pts := trimL_trimL _
/-- The polynomial passes through the points. -/
theorem polL_at {p : Int} (hp : Supp p) {pts : List S34} (hx : PtsOk p pts) (hn : (xsOf pts).Nodup) (j : Nat) (hj : j < pts.length) :
    evI p (rd_T34 pts (j : Int)).f0 (polL p pts) = (rd_T34 pts (j : Int)).f1 := by
  haveI := nz hp
  have hl : (xsOf pts).length = pts.length := by simp [xsOf]
  refine T_inj hp (evI_res hp _ _) (hx.at_ j hj).2 ?_
  rw [ev_evI hp, polL_ev hp hx hn, sumF_one (j := j) _ (fun i hi hij => ?_), if_pos hj]
  · have d := dinv_spec hp hx.xs hn j (by omega)
    rw [xsOf_rd pts j hj] at d
    grind
  · have : lin (T p (rd_T34 pts (j : Int)).f0) (oth p (xsOf pts) i) = 0 := by
      refine lin_zero ?_
      rw [← xsOf_rd pts j hj]
      exact List.mem_map_of_mem (othersN_has _ _ _ (fun e => hij e.symm) _ (by omega))
    rw [this]; grind
/-- The points of a polynomial over places. -/
def ptsOf (p : Int) (xs : List Int) (f : List Int) : List S34 := xs.map fun x => ⟨x, evI p x f⟩
theorem ptsOf_xs (p : Int) (xs f : List Int) : xsOf (ptsOf p xs f) = xs := by unfold xsOf ptsOf; rw [List.map_map]; exact List.map_id _
theorem ptsOf_rd (p : Int) (xs f : List Int) (j : Nat) (hj : j < xs.length) : rd_T34 (ptsOf p xs f) (j : Int) = ⟨rd xs j, evI p (rd xs j) f⟩ := by
  rw [rdT_nat _ _ (by unfold ptsOf; simpa using hj), rd_nat, Hw.getD_in _ _ hj]; simp [ptsOf]
theorem ptsOf_ok {p : Int} (hp : Supp p) {xs : List Int} (hx : ∀ x ∈ xs, Res p x) (f : List Int) : PtsOk p (ptsOf p xs f) := by
  intro y hy
  obtain ⟨x, h, rfl⟩ := List.mem_map.1 hy
  exact ⟨hx x h, evI_res hp _ _⟩
theorem ptsOf_length (p : Int) (xs f : List Int) : (ptsOf p xs f).length = xs.length := List.length_map _
end Go.Proofs.Ytiaajmiphnjgaaa.E
end
section
/-
  FitSecret of package shamir, proved by hand: what it computes, in plain lists.
-/
namespace Go.Proofs.Ytiaajmiphnjgaaa.Hw
open Go.RowKit Go.Proofs.Ytiaajmiphnjgaaa.Pr Go.Proofs.YtiaajmiphnjgaaaW.PrintWords Go.Proofs.YtiaajmiphnjgaaaW.PrintLast Go.Proofs.YtiaajmiphnjgaaaW.PrintMore Go.Proofs.Ytiaajmiphnjgaaa.E
set_option linter.unusedVariables false
set_option linter.unusedSimpArgs false

/-- Further places x, x + 1, .. with the value 0, as far as they are free, until there are t + 1 points. -/
def fitRun (t : Nat) : Nat → List S34 → Int → List S34
  | 0, all, _ => all
  | k + 1, all, x => if all.length ≤ t then (if x ∈ xsOf all then fitRun t k all (x + 1) else fitRun t k (all ++ [⟨x, 0⟩]) (x + 1)) else all
def fitAll (p : Int) (t : Nat) (pts : List S34) (s : Int) : List S34 := fitRun t (t + 1) (⟨0, s⟩ :: pts) 1
def fitL (p : Int) (t : Nat) (pts : List S34) (s : Int) : List Int := polL p (fitAll p t pts s) ++ List.replicate (t + 1 - (polL p (fitAll p t pts s)).length) 0
/-- The state of the search: the places are distinct residues, and all numbers below x are among them. -/
structure FitI (p : Int) (t : Nat) (all : List S34) (x : Nat) : Prop where
  ok : PtsOk p all
  nd : (xsOf all).Nodup
  hd : ∃ m, xsOf all = 0 :: m
  len : all.length ≤ t + 1
  cov : ∀ y : Nat, y < x → (y : Int) ∈ xsOf all
theorem sub_len : ∀ (l m : List Int), l.Nodup → (∀ x ∈ l, x ∈ m) → l.length ≤ m.length
  | [], m, _, _ => Nat.zero_le _
  | a :: l, m, hn, h => by
    have hn' := List.nodup_cons.1 hn
    have ha := h a (by simp)
    have h1 := sub_len l (m.erase a) hn'.2 (fun x hx => (List.mem_erase_of_ne (fun e => hn'.1 (by rw [← e]; exact hx))).2 (h x (List.mem_cons_of_mem _ hx)))
    rw [List.length_erase_of_mem ha] at h1
    have := List.length_pos_of_mem ha
    simp only [List.length_cons]; omega
theorem nat_list_nodup (x : Nat) : ((List.range x).map fun (i : Nat) => (i : Int)).Nodup := by
  refine List.Pairwise.map _ (fun a b h => ?_) (List.nodup_range (n := x))
  intro e; exact h (by omega)
theorem FitI.xlen {p : Int} {t : Nat} {all : List S34} {x : Nat} (h : FitI p t all x) : x ≤ all.length := by
  have := sub_len ((List.range x).map fun (i : Nat) => (i : Int)) (xsOf all) (nat_list_nodup x) (fun y hy => by
    obtain ⟨i, hi, rfl⟩ := List.mem_map.1 hy
    exact h.cov i (List.mem_range.1 hi))
  simpa [xsOf] using this
theorem fit_start {p : Int} (hp : Supp p) {t : Nat} {pts : List S34} (hx : PtsOk p pts) (hnd : (0 :: xsOf pts).Nodup) (hl : pts.length ≤ t) {s : Int} (hs : Res p s) : FitI p t ([(⟨0, s⟩ : S34)] ++ pts) 1 := by
  have hb := hp.bd
  have e : xsOf ([(⟨0, s⟩ : S34)] ++ pts) = 0 :: xsOf pts := rfl
  refine ⟨fun y hy => ?_, by rw [e]; exact hnd, ⟨_, e⟩, by simp; omega, fun y hy => ?_⟩
  · rcases List.mem_append.1 hy with h | h
    · simp only [List.mem_cons, List.not_mem_nil, or_false] at h
      rw [h]; exact ⟨⟨Int.le_refl 0, by show (0 : Int) < p; omega⟩, hs⟩
    · exact hx y h
  · rw [e, show y = 0 from by omega]; simp
theorem FitI.skip {p : Int} {t : Nat} {all : List S34} {x : Nat} (h : FitI p t all x) (hx : (x : Int) ∈ xsOf all) : FitI p t all (x + 1) :=
  ⟨h.ok, h.nd, h.hd, h.len, fun y hy => by
    by_cases e : y = x
    · rw [e]; exact hx
    · exact h.cov y (by omega)⟩
theorem FitI.add {p : Int} (hp : Supp p) {t : Nat} {all : List S34} {x : Nat} (h : FitI p t all x) (hx : (x : Int) ∉ xsOf all) (hlt : all.length ≤ t) (htp : (t : Int) < p) : FitI p t (all ++ [(⟨(x : Int), 0⟩ : S34)]) (x + 1) := by
  have hb := hp.bd
  have hxl := h.xlen
  have e : xsOf (all ++ [(⟨(x : Int), 0⟩ : S34)]) = xsOf all ++ [(x : Int)] := by simp [xsOf]
  obtain ⟨m, hm⟩ := h.hd
  refine ⟨fun y hy => ?_, ?_, ⟨m ++ [(x : Int)], by rw [e, hm]; rfl⟩, by simp; omega, fun y hy => ?_⟩
  · rcases List.mem_append.1 hy with h1 | h1
    · exact h.ok y h1
    · simp only [List.mem_cons, List.not_mem_nil, or_false] at h1
      rw [h1]; exact ⟨⟨by show (0 : Int) ≤ x; omega, by show (x : Int) < p; omega⟩, ⟨Int.le_refl 0, by show (0 : Int) < p; omega⟩⟩
  · rw [e]; exact List.nodup_append.2 ⟨h.nd, by simp, fun a ha b hb e => by simp only [List.mem_cons, List.not_mem_nil, or_false] at hb; subst hb; subst e; exact hx ha⟩
  · rw [e]
    by_cases e2 : y = x
    · rw [e2]; simp
    · exact List.mem_append_left _ (h.cov y (by omega))
theorem C_of_owns {w : World} {base : Nat} {v : Value} {L : List S34} {inner : List Value} (h : w.ownsRow base 34 2 v L.length inner) (hr : Reps (fun (x : S34) cs => cs = [.int .u64 x.f0, .int .u64 x.f1]) 2 L inner) (hn : 0 < L.length) (hm : L.length ≤ 9223372036854775807) :
    ∃ A c, v = .slice A L.length c ∧ L.length ≤ c ∧ Kd.C k34 w A L.length L := by
  rcases h.2 with ⟨_, h0⟩ | ⟨g, cap, cur, rfl, _, hh, hcap, _, hcs, htk⟩
  · omega
  · refine ⟨some ⟨g, 0, none⟩, cap, rfl, hcap, rfl, hm, fun _ => ⟨⟨g, 0, none⟩, rfl, fun j x hj => ?_⟩⟩
    have hj' := hr.2 j x hj
    refine ⟨[.int .u64 x.f0, .int .u64 x.f1], rfl, k34_mk _ _, fun i u hu => ?_⟩
    rw [← hj', List.getElem?_take] at hu
    split at hu
    · rw [List.getElem?_drop] at hu
      exact h.cells (by simp [Value.ownBlock]) _ u hu
    · cases hu
section
variable {ops : Array Oper} {rest : List Oper} {o : Oper} {a : Act} {Q : Exit → Act → World → Prop}
/-- append to a row that is full: a new row. -/
theorem wp_append_pt {W : World} (hgd : o.guard = none) (s x : Operand) (ho : o.op = .call { callee := .builtin .append, args := #[s, x], argTypes := #[31, 31] }) {A : Option Addr} {L : List S34} {X Y : Int}
    (hs : a.eval s = .slice A L.length L.length) (hx : a.eval x = .slice (some ⟨W.heap.size, 0, none⟩) 1 1) (hC : Kd.C k34 W A L.length L) (hn : 0 < L.length) (hl : L.length ≤ 1000000)
    (h : ∀ v1 w1, (∃ A' c', v1 = .slice A' (L ++ [(⟨X, Y⟩ : S34)]).length c' ∧ (L ++ [(⟨X, Y⟩ : S34)]).length ≤ c' ∧ Kd.C k34 w1 A' (L ++ [(⟨X, Y⟩ : S34)]).length (L ++ [(⟨X, Y⟩ : S34)])) → Below W.heap.size W w1 → wpList Try.prog ops Q rest (a.put o.dst v1) w1) :
    wpList Try.prog ops Q (o :: rest) a (W.alloc (.cells #[.int .u64 X, .int .u64 Y] 34)) := by
  obtain ⟨i0, hi, hzz⟩ := Option.map_eq_some_iff.1 info34
  simp only [Prod.mk.injEq] at hzz
  obtain ⟨hz0, hz1, hz2⟩ := hzz
  obtain ⟨ad, rfl, _⟩ := hC.2.2 hn
  obtain ⟨inner, hr, hc⟩ := ReadsRow.inner_ (Kd.C_alloc hC (.cells #[.int .u64 X, .int .u64 Y] 34))
  have hil : inner.length = L.length * 2 := hr.1
  refine wpList_append_grows _ hgd s x 31 ho 34 i0 _ 2 16 Try.underlying31 hi hz0 hz1 hz2 rfl (by decide) (some ad) L.length L.length inner hs (fun e => by cases e) hil (fun b e j u hu => by cases e; exact hc j u hu)
    ⟨W.heap.size, 0, none⟩ 1 1 [.int .u64 X, .int .u64 Y] hx rfl (World.news_of_block (cs := #[.int .u64 X, .int .u64 Y]) (t := 34) (fr := (0, 0)) (heap_alloc_new W _)) (by intro u hu; simp only [List.mem_cons, List.not_mem_nil, or_false] at hu; rcases hu with rfl | rfl <;> rfl) (by omega) (by simp only [maxLen]; omega) (by omega) ?_
  intro v1 w1 hown hg
  refine h v1 w1 ?_ ?_
  · have hR : Reps (fun (x : S34) cs => cs = [.int .u64 x.f0, .int .u64 x.f1]) 2 (L ++ [(⟨X, Y⟩ : S34)]) (inner ++ [.int .u64 X, .int .u64 Y]) := by
      refine ⟨by simp [hil]; omega, fun j p hj => ?_⟩
      by_cases hlt : j < L.length
      · rw [List.getElem?_append_left hlt] at hj
        have h1 := k34_open (hr.2 j p hj)
        rw [← h1, List.drop_append_of_le_length (by omega), List.take_append_of_le_length (by simp; omega)]
        rfl
      · have hjl := (List.getElem?_eq_some_iff.1 hj).1
        have : j = L.length := by simp at hjl; omega
        subst this
        rw [List.getElem?_append_right (Nat.le_refl _), Nat.sub_self] at hj
        simp only [List.getElem?_cons_zero, Option.some.injEq] at hj
        rw [← hj, ← hil, List.drop_left]; rfl
    have hlen : (L ++ [(⟨X, Y⟩ : S34)]).length = L.length + 1 := by simp
    refine C_of_owns (inner := inner ++ [.int .u64 X, .int .u64 Y]) (base := (W.alloc (.cells #[.int .u64 X, .int .u64 Y] 34)).heap.size) ?_ hR (by omega) (by omega)
    rw [hlen]; exact hown
  · exact (below_alloc (Below.refl _ _) _).grown hg (by show _ ≤ (Array.push _ _).size; rw [Array.size_push]; omega) (fun k hk => by cases hk)
end
theorem fit_probe {p : Int} {t : Nat} {all : List S34} {x : Nat} (hI : FitI p t all x) (hlt : all.length ≤ t) (ht : t ≤ 11) {A5 : Option Addr} {c5 : Nat} {w5 : World} (hC : Kd.C k34 w5 A5 (all ++ [(⟨(x : Int), 0⟩ : S34)]).length (all ++ [(⟨(x : Int), 0⟩ : S34)])) (hc : (all ++ [(⟨(x : Int), 0⟩ : S34)]).length ≤ c5) (b : Bool) (hb : decide ((x : Int) ∉ xsOf all) = b) :
    Calls Try.prog 46 #[.slice (Option.map (fun a => { block := a.block, off := a.off + 2 }) A5) all.length (c5 - 1)] w5 fun e w' => e = .returned (.bool b) ∧ Below w5.heap.size w5 w' := by
  have hx : (xsOf all).length = all.length := by simp [xsOf]
  obtain ⟨m, hm⟩ := hI.hd
  have hpos : 0 < all.length := by rw [hm] at hx; simp at hx; omega
  have hl : (all ++ [(⟨(x : Int), 0⟩ : S34)]).length = all.length + 1 := by simp
  obtain ⟨M, hM⟩ : ∃ M, M = (all ++ [(⟨(x : Int), 0⟩ : S34)]).drop 1 := ⟨_, rfl⟩
  have hML : M.length = all.length := by rw [hM, List.length_drop, hl]; omega
  have hC2 := Kd.C_drop (m := 1) (c := c5) hC (by omega) hc
  rw [if_neg (by omega), ← hM] at hC2
  have hA : Option.map (fun a => a.add (1 * (k34).sz)) A5 = Option.map (fun a => { block := a.block, off := a.off + 2 }) A5 := by cases A5 <;> rfl
  rw [hA] at hC2
  have h := placed_walk (Option.map (fun a => { block := a.block, off := a.off + 2 }) A5) (c5 - 1) M (by omega) w5 hC2 (by omega)
  have hxs : 0 :: xsOf M = xsOf all ++ [(x : Int)] := by
    have e1 : xsOf (all ++ [(⟨(x : Int), 0⟩ : S34)]) = xsOf all ++ [(x : Int)] := by simp [xsOf]
    have e2 : xsOf M = (xsOf all ++ [(x : Int)]).drop 1 := by rw [← e1, hM]; unfold xsOf; rw [List.map_drop]
    rw [e2, hm]; rfl
  rw [hxs, hML] at h
  have hd : decide (xsOf all ++ [(x : Int)]).Nodup = decide ((x : Int) ∉ xsOf all) := by
    refine decide_eq_decide.2 ⟨fun hn hx => (List.nodup_append.1 hn).2.2 _ hx _ (by simp) rfl, fun hn => List.nodup_append.2 ⟨hI.nd, by simp, fun a ha b hb e => by simp only [List.mem_cons, List.not_mem_nil, or_false] at hb; subst hb; subst e; exact hn ha⟩⟩
  rw [hd, hb] at h
  exact h
set_option maxHeartbeats 2000000 in
set_option maxRecDepth 100000 in
theorem fit_walk {p : Int} (hp : Supp p) (t : Nat) (ht : t ≤ 11) (htp : (t : Int) < p) (A : Option Addr) (c : Nat) (pts : List S34) (hx : PtsOk p pts) (hnd : (0 :: xsOf pts).Nodup) (hl : pts.length ≤ t) (s : Int) (hs : Res p s) (w : World) (hr : Kd.C k34 w A pts.length pts) (hc : pts.length ≤ c) :
    Calls Try.prog 21 #[.int .u64 p, .int .i64 (t : Int), .slice A pts.length c, .int .u64 s] w fun e w' => ∃ v0_ : Value, e = .returned (.tuple #[v0_, .int .i64 0]) ∧ Kd.R (Kd.int .u64) 22 w' w.heap.size (fun _ => True) v0_ (fitL p t pts s) ∧ Below w.heap.size w w' := by
  have hpb := hp.bd
  have HP := Aside0.mk (placed_walk A c pts (by omega) w hr hc)
  have hd0 : decide (0 :: xsOf pts).Nodup = true := decide_eq_true hnd
  rw [hd0] at HP
  have HX := Aside0.mk hx
  have HND := Aside0.mk hnd
  have HR := Aside0.mk hr
  have g1 : decide ((t : Int) < 0) = false := decide_eq_false (by omega)
  have g2 : decide ((t : Int) < (pts.length : Int)) = false := decide_eq_false (by omega)
  have g3 : IntKind.u64.wrap (t : Int) = (t : Int) := wrapU_id (by omega) (by omega)
  have g4 : decide (p ≤ (t : Int)) = false := decide_eq_false (by omega)
  clear hx hnd hr hd0
  go_enter Try.func21, Try.ntmps21
  go_wp2_with (first
    | (go_at_call 46; (with_reducible refine HP.out.mono ?_); rintro e w1 ⟨rfl, hb1⟩; have HB1 := Aside0.mk hb1; clear hb1)
    | ((with_reducible refine gate_dst (N := 36) rfl ?_); (try (refine gate_guard (by rfl) ?_; dsimp only)); refine Kd.R_lit k34 _ 34 ?hg (N := 36) ?hd (xs := ([(⟨0, s⟩ : S34)] : List (S34))) (inner := [.int .u64 0, .int .u64 s]) (ok := fun _ => True) (okp := fun _ => True) ?hr ?hp (fun _ hk => hk) trivial (Below.refl _ _) (Nat.le_refl _) (by simp) ?_; (case hd => rfl); (case hg => rfl); (case hr => first | (go_simp; done) | (go_simp; rfl)); (case hp => exact (Reps.c2 (show Kd.M k34 _ _ _ (⟨0, s⟩ : S34) [.int .u64 0, .int .u64 s] from (k34_mkM _ _ _ (⟨0, s⟩ : S34) )) (Reps.none _ _))); intro v2 w2 ho2 hb2 hg2 hn2; have HO2 := Aside0.mk (Kd.R_lower ho2 (below_size HB1.out)); have HB2 := Aside0.mk (below_step HB1.out hb2); clear ho2 hb2 hg2 hn2)
    | ((with_reducible refine gate_builtin (b := .append) (xs := #[.tmp 36, .tmp 37]) rfl ?_); at_builtin; refine Kd.R_append_rows k34 (w0 := w) w.heap.size rfl (.tmp 36) (.tmp 37) 31 34 (.agg #[(.int .u64 0), (.int .u64 0)]) 16 rfl Try.underlying31 info34 rfl (by decide) (by omega) v2 [(⟨0, s⟩ : S34)] pts A _ _ (fun _ => True) (fun _ => False) rfl rfl HO2.out (Kd.C_below HR.out HB2.out) (fun x cs hk => by rw [k34_open hk]; exact k34_mkM _ _ _ _) (fun _ h => h.elim) (fun _ _ => trivial) HB2.out (below_size HB2.out) (by simp; omega) ?_; intro v3 w3 ho3 hb3 hg3 ha3; have HO3 := Aside0.mk ho3; have HB3 := Aside0.mk hb3; clear ho3 hb3 hg3 ha3))
  clear HO2 HB2 HB1
  obtain ⟨A3, c3, e3, hc3, hC3⟩ := Kd.R_reads HO3.out
  cases e3
  have HC3 := Aside0.mk hC3
  have HI0 := Aside0.mk (fit_start hp HX.out HND.out hl hs)
  clear hC3 HO3
  go_loopg [10, 11] (t + 1) (fun kq v10 v11 w' => ∃ (all : List S34) (x : Nat) (A' : Option Addr) (c' : Nat), v10 = .slice A' all.length c' ∧ v11 = .int .u64 (x : Int) ∧ Aside0 (all.length ≤ c' ∧ Kd.C k34 w' A' all.length all) ∧ Aside0 (FitI p t all x) ∧ Aside0 (kq + x = t + 2) ∧ Aside0 (fitRun t kq all x = fitAll p t pts s) ∧ Aside0 (Below w.heap.size w w'))
  case atStart => exact ⟨_, 1, _, _, rfl, rfl, ⟨hc3, HC3.out⟩, HI0, ⟨by omega⟩, ⟨rfl⟩, HB3⟩
  case round =>
    clear HC3 HI0 HB3
    obtain ⟨all, x, A', c', rfl, rfl, HC, HI, HK, HF, HB⟩ := hrel
    by_cases hlt : all.length ≤ t
    · have q1 : ((all.length : Int) ≤ (t : Int)) = True := eq_true (by omega)
      have q2 : (0 : Int) ≤ (all.length : Int) := by omega
      obtain ⟨hcl, hCC⟩ := HC.out
      have hpos : 0 < all.length := by
        obtain ⟨m, e⟩ := HI.out.hd
        have : (xsOf all).length = all.length := by simp [xsOf]
        rw [e] at this; simp at this; omega
      obtain ⟨ad, e1, _⟩ := hCC.2.2 hpos
      cases e1
      have q3 : ((all.length : Int) ≤ (c' : Int)) = True := eq_true (by omega)
      have HCC := Aside0.mk hCC
      clear hCC
      have hxl := HI.out.xlen
      have hw : IntKind.u64.wrap ((x : Int) + 1) = ((x + 1 : Nat) : Int) := by rw [wrapU_id (by omega) (by omega)]; omega
      obtain ⟨g, rfl⟩ : ∃ g, gk = g + 1 := ⟨gk - 1, by have := HK.out; omega⟩
      have hf := HF.out
      rw [fitRun, if_pos hlt] at hf
      by_cases hxm : (x : Int) ∈ xsOf all
      · have hd1 : decide ((x : Int) ∉ xsOf all) = false := decide_eq_false (fun h => h hxm)
        rw [if_pos hxm] at hf
        have HF2 := Aside0.mk hf
        have HI2 := Aside0.mk (HI.out.skip hxm)
        have HD1 := Aside0.mk hd1
        clear hxm hf hd1
        go_wp2_with (first
          | ((with_reducible refine gate_builtin (b := .append) (xs := #[.tmp 50, .tmp 53]) rfl ?_); at_builtin; refine wp_append_pt rfl (.tmp 50) (.tmp 53) rfl (A := some ad) (L := all) (X := x) (Y := 0) rfl rfl HCC.out hpos (by omega) ?_; rintro v5 w5 ⟨A5, c5, rfl, hc5, hC5⟩ hb5; have hpl := fit_probe HI.out hlt ht hC5 hc5 _ HD1.out; have q5 : (c5 = 1) = False := eq_false (by have h5 := hc5; rw [List.length_append] at h5; simp only [List.length_cons, List.length_nil] at h5; omega); have HB5 := Aside0.mk hb5; have HPl := Aside0.mk hpl; clear hC5 hb5 hc5 hpl)
          | (go_at_call 46; (with_reducible refine HPl.out.mono ?_); rintro e w6 ⟨rfl, hb6⟩; have HB6 := Aside0.mk (below_step HB5.out hb6); clear hb6))
        go_roundg g
        case measure => omega
        case rel => exact ⟨all, x + 1, some ad, c', rfl, by rw [Int.natCast_add] <;> rfl, ⟨hcl, Kd.C_below HCC.out HB6.out⟩, HI2, ⟨by have := HK.out; omega⟩, ⟨by rw [← HF2.out]; congr 1⟩, ⟨below_step HB.out HB6.out⟩⟩
      · have hd1 : decide ((x : Int) ∉ xsOf all) = true := decide_eq_true hxm
        rw [if_neg hxm] at hf
        have HF2 := Aside0.mk hf
        have HI2 := Aside0.mk (HI.out.add hp hxm hlt htp)
        have HD1 := Aside0.mk hd1
        clear hxm hf hd1
        go_wp2_with (first
          | ((with_reducible refine gate_builtin (b := .append) (xs := #[.tmp 50, .tmp 53]) rfl ?_); at_builtin; refine wp_append_pt rfl (.tmp 50) (.tmp 53) rfl (A := some ad) (L := all) (X := x) (Y := 0) rfl rfl HCC.out hpos (by omega) ?_; rintro v5 w5 ⟨A5, c5, rfl, hc5, hC5⟩ hb5; have hpl := fit_probe HI.out hlt ht hC5 hc5 _ HD1.out; have q5 : (c5 = 1) = False := eq_false (by have h5 := hc5; rw [List.length_append] at h5; simp only [List.length_cons, List.length_nil] at h5; omega); have HC5 := Aside0.mk (And.intro hc5 hC5); have HB5 := Aside0.mk hb5; have HPl := Aside0.mk hpl; clear hC5 hb5 hc5 hpl)
          | (go_at_call 46; (with_reducible refine HPl.out.mono ?_); rintro e w6 ⟨rfl, hb6⟩; have HB6 := Aside0.mk (below_step HB5.out hb6); have HC6 := Aside0.mk (And.intro HC5.out.1 (Kd.C_below HC5.out.2 hb6)); clear hb6))
        go_roundg g
        case measure => omega
        case rel => exact ⟨all ++ [(⟨(x : Int), 0⟩ : S34)], x + 1, A5, c5, by simp, by rw [Int.natCast_add] <;> rfl, HC6, HI2, ⟨by have := HK.out; omega⟩, ⟨by rw [← HF2.out]; congr 1⟩, ⟨below_step HB.out HB6.out⟩⟩
    · have q1 : decide ((all.length : Int) ≤ (t : Int)) = false := decide_eq_false (by omega)
      have hal : all.length = t + 1 := by have := HI.out.len; omega
      have hall : all = fitAll p t pts s := by
        rw [← HF.out]
        cases gk with
        | zero => rfl
        | succ g => rw [fitRun, if_neg hlt]
      have hpf : interpolate_Polynomial.f p all = some (polL p all, 0) := by
        unfold interpolate_Polynomial.f
        rw [if_pos (supB_iff.2 hp), if_pos (ptsB_iff.2 HI.out.ok), if_pos (by omega), if_pos HI.out.nd, if_pos HI.out.nd]
      have hP := interpolate_Polynomial.calls p A' c' all (polL p all) 0 wr HC.out.2 HC.out.1 hpf
      have hpl : (polL p all).length ≤ t + 1 := by have := polL_len hp (pts := all); omega
      obtain ⟨f, hf⟩ : ∃ f, f = polL p all := ⟨_, rfl⟩
      rw [← hf] at hP hpl
      have HP2 := Aside0.mk hP
      have HFin := Aside0.mk (show fitL p t pts s = f ++ List.replicate (t + 1 - f.length) 0 from by unfold fitL; rw [← hall, ← hf])
      have HAL := Aside0.mk hal
      clear hP hall hpf hf HF hal
      go_wp2_with (first
        | (go_at_call 47; (with_reducible refine HP2.out.mono ?_); rintro e w4 ⟨v4, rfl, ho4, hb4⟩; have HO4 := Aside0.mk (Kd.R_lower ho4 (below_size HB.out)); have HB4 := Aside0.mk (below_step HB.out hb4); clear ho4 hb4; obtain ⟨A4, c4, e4⟩ := Kd.R_slice HO4.out; subst e4)
        | ((with_reducible refine gate_builtin (b := .append) (xs := #[.tmp 68, .tmp 73]) rfl ?_); at_builtin; refine Kd.R_append_zeros (Kd.int .u64) (w0 := w) w.heap.size rfl (.tmp 68) (.tmp 73) 23 3 22 (.int .u64 0) 8 rfl Try.underlying23 (k := .i64) Try.underlying3 info22 rfl (by decide) (by omega) (.slice A4 f.length c4) f (0 : Int) (kx := .i64) ((t : Int) + 1 - (f.length : Int)) (fun _ => True) rfl rfl rfl (fun _ _ => trivial) HO4.out (by omega) HB4.out (below_size HB4.out) (by omega) ?_; intro v6 w6 ho6 hb6 hg6 ha6; have HO6 := Aside0.mk ho6; have HB6 := Aside0.mk hb6; clear ho6 hb6 hg6 ha6))
      first | go_ret2 | ((try simp only [Exit.inBlock, Exit.then]); refine bodyPost_ret (results_tmp2 rfl _ _ _) rfl ?_)
      refine ⟨_, rfl, ?_, HB6.out⟩
      rw [HFin.out, show t + 1 - f.length = ((t : Int) + 1 - (f.length : Int)).toNat from by omega]
      exact HO6.out
set_option maxHeartbeats 2000000 in
set_option maxRecDepth 100000 in
theorem fit_err {p : Int} (t : Int) (t0 : -9223372036854775808 ≤ t) (t1 : t < 9223372036854775808) (A : Option Addr) (c : Nat) (pts : List S34) (hlp : pts.length ≤ 1000000) (s : Int) (w : World) (hr : Kd.C k34 w A pts.length pts) (hc : pts.length ≤ c)
    (hbad : t < 0 ∨ ¬ (0 :: xsOf pts).Nodup ∨ t < (pts.length : Int) ∨ p ≤ t) :
    Calls Try.prog 21 #[.int .u64 p, .int .i64 t, .slice A pts.length c, .int .u64 s] w fun e w' => ∃ v0_ : Value, e = .returned (.tuple #[v0_, .int .i64 1]) ∧ Kd.R (Kd.int .u64) 22 w' w.heap.size (fun _ => True) v0_ [] ∧ Below w.heap.size w w' := by
  have HP := Aside0.mk (placed_walk A c pts (by omega) w hr hc)
  by_cases h1 : t < 0
  · have g1 : decide (t < 0) = true := decide_eq_true h1
    clear hbad
    go_enter Try.func21, Try.ntmps21
    go_wp2
    first | go_ret2 | ((try simp only [Exit.inBlock, Exit.then]); refine bodyPost_ret (results_tmp2 rfl _ _ _) rfl ?_)
    exact ⟨_, rfl, Kd.R_nil _ _ _ _ _, Below.refl _ _⟩
  · have g1 : decide (t < 0) = false := decide_eq_false h1
    by_cases h2 : (0 :: xsOf pts).Nodup
    · have hd : decide (0 :: xsOf pts).Nodup = true := decide_eq_true h2
      rw [hd] at HP
      by_cases h3 : t < (pts.length : Int)
      · have g3 : decide (t < (pts.length : Int)) = true := decide_eq_true h3
        clear hbad h2 hd
        go_enter Try.func21, Try.ntmps21
        go_wp2_with (first | (go_at_call 46; (with_reducible refine HP.out.mono ?_); rintro e w1 ⟨rfl, hb1⟩; have HB1 := Aside0.mk hb1; clear hb1))
        first | go_ret2 | ((try simp only [Exit.inBlock, Exit.then]); refine bodyPost_ret (results_tmp2 rfl _ _ _) rfl ?_)
        exact ⟨_, rfl, Kd.R_nil _ _ _ _ _, HB1.out⟩
      · have g3 : decide (t < (pts.length : Int)) = false := decide_eq_false h3
        have h4 : p ≤ t := by
          rcases hbad with h | h | h | h
          · exact absurd h h1
          · exact absurd h2 h
          · exact absurd h h3
          · exact h
        have g4 : IntKind.u64.wrap t = t := wrapU_id (by omega) (by omega)
        have g5 : decide (p ≤ t) = true := decide_eq_true h4
        clear hbad h2 hd
        go_enter Try.func21, Try.ntmps21
        go_wp2_with (first | (go_at_call 46; (with_reducible refine HP.out.mono ?_); rintro e w1 ⟨rfl, hb1⟩; have HB1 := Aside0.mk hb1; clear hb1))
        first | go_ret2 | ((try simp only [Exit.inBlock, Exit.then]); refine bodyPost_ret (results_tmp2 rfl _ _ _) rfl ?_)
        exact ⟨_, rfl, Kd.R_nil _ _ _ _ _, HB1.out⟩
    · have hd : decide (0 :: xsOf pts).Nodup = false := decide_eq_false h2
      rw [hd] at HP
      clear hbad h2 hd
      go_enter Try.func21, Try.ntmps21
      go_wp2_with (first | (go_at_call 46; (with_reducible refine HP.out.mono ?_); rintro e w1 ⟨rfl, hb1⟩; have HB1 := Aside0.mk hb1; clear hb1))
      first | go_ret2 | ((try simp only [Exit.inBlock, Exit.then]); refine bodyPost_ret (results_tmp2 rfl _ _ _) rfl ?_)
      exact ⟨_, rfl, Kd.R_nil _ _ _ _ _, HB1.out⟩
/-- The arguments that FitSecret refuses. -/
def fitBad (p t : Int) (pts : List S34) : Bool := decide (t < 0) || (!decide (0 :: xsOf pts).Nodup || (decide (t < (pts.length : Int)) || decide (p ≤ t)))
theorem fitBad_iff {p t : Int} {pts : List S34} : fitBad p t pts = true ↔ (t < 0 ∨ ¬ (0 :: xsOf pts).Nodup ∨ t < (pts.length : Int) ∨ p ≤ t) := by
  unfold fitBad
  simp only [Bool.or_eq_true, decide_eq_true_eq, Bool.not_eq_true', decide_eq_false_iff_not]
def shamir_FitSecret.f (a0 a1 : Int) (l2 : List S34) (a3 : Int) : Option (List Int × Int) :=
  if supB a0 = true then (if ptsB a0 l2 = true then (if resB a0 a3 = true then (if l2.length ≤ 1000000 then (if -9223372036854775808 ≤ a1 then (if a1 < 9223372036854775808 then
    (if fitBad a0 a1 l2 = true then some ([], 1) else (if a1 ≤ 11 then some (fitL a0 a1.toNat l2 a3, 0) else none)) else none) else none) else none) else none) else none) else none
theorem shamir_FitSecret.calls (a0 a1 : Int) (A2 : Option Addr) (c2 : Nat) (l2 : List S34) (a3 : Int) (r1 : List Int) (r2 : Int) (w : World) (hr2 : Kd.C k34 w A2 l2.length l2) (hc2 : l2.length ≤ c2) (h : shamir_FitSecret.f a0 a1 l2 a3 = some (r1, r2)) :
    Calls Try.prog 21 #[.int .u64 a0, .int .i64 a1, .slice A2 l2.length c2, .int .u64 a3] w fun e w' => ∃ v0_ : Value, e = .returned (.tuple #[v0_, .int .i64 r2]) ∧ Kd.R (Kd.int .u64) 22 w' w.heap.size (fun _ => True) v0_ r1 ∧ Below w.heap.size w w' := by
  unfold shamir_FitSecret.f at h
  obtain ⟨h1, h⟩ := ifs h
  obtain ⟨h2, h⟩ := ifs h
  obtain ⟨h3, h⟩ := ifs h
  obtain ⟨h4, h⟩ := ifs h
  obtain ⟨h5, h⟩ := ifs h
  obtain ⟨h6, h⟩ := ifs h
  by_cases hb : fitBad a0 a1 l2 = true
  · rw [if_pos hb] at h
    have h := Option.some.inj h
    rw [← (Prod.mk.inj h).1, ← (Prod.mk.inj h).2]
    exact fit_err a1 h5 h6 A2 c2 l2 h4 a3 w hr2 hc2 (fitBad_iff.1 hb)
  · rw [if_neg hb] at h
    obtain ⟨h7, h⟩ := ifs h
    have h := Option.some.inj h
    rw [← (Prod.mk.inj h).1, ← (Prod.mk.inj h).2]
    have hn : ¬ (a1 < 0 ∨ ¬ (0 :: xsOf l2).Nodup ∨ a1 < (l2.length : Int) ∨ a0 ≤ a1) := fun hx => hb (fitBad_iff.2 hx)
    have e : ((a1.toNat : Nat) : Int) = a1 := Int.toNat_of_nonneg (by omega)
    have hg := fit_walk (supB_of h1) a1.toNat (by omega) (by omega) A2 c2 l2 (ptsB_iff.1 h2) (Classical.byContradiction fun hx => hn (Or.inr (Or.inl hx))) (by omega) a3 (resB_iff.1 h3) w hr2 hc2
    rw [e] at hg
    exact hg
end Go.Proofs.Ytiaajmiphnjgaaa.Hw
end
section
/- Printed by a program of this seat (the kit's printer, with the functions that were proved by hand given to it). What stands here: the functions that the statements reach, as plain functions, and that the Go code computes them. -/
namespace Go.Proofs.Ytiaajmiphnjgaaa.Pr
open Go.RowKit Go.Proofs.YtiaajmiphnjgaaaW.PrintWords Go.Proofs.YtiaajmiphnjgaaaW.PrintLast Go.Proofs.YtiaajmiphnjgaaaW.PrintMore
attribute [local go_sem] max2_int min2_int max_two min_two max_three min_three max_four min_four   -- for this text's walks alone
set_option linter.unusedVariables false
set_option linter.unusedSimpArgs false

open Go.Proofs.Ytiaajmiphnjgaaa.Hw
/-! ### privitylaw09_awake: function 11 -/
def privitylaw09_awake.f (k : Nat)  : Option (Bool) := (shamir_Reconstruct.f k 31 1 (([(⟨3,8⟩ : S34),(⟨1,6⟩ : S34)] : List (S34)))).bind fun bt193 => ((shamir_FitSecret.f 31 1 (([(⟨1,6⟩ : S34)] : List (S34))) 9).bind fun bt198 => ((shamir_Reconstruct.f k 31 1 (([(⟨1,6⟩ : S34)] : List (S34)))).bind fun bt205 => ((shamir_Reconstruct.f k 31 1 (([(⟨1,6⟩ : S34),(⟨2,7⟩ : S34),(⟨3,9⟩ : S34)] : List (S34)))).bind fun bt210 => ((shamir_Constant.f k 31 4 1 7).bind fun t212 => ((shamir_Shares.f k 31 3 (([5,1] : List Int))).bind fun t218 => ((privityref05_Same.f k t218 (([6,7,8] : List Int))).bind fun t224 => (if t224 = true then (if bt193.1 = 5 then (if bt193.2 = 0 then ((privityref05_Same.f k bt198.1 (([9,28] : List Int))).bind fun t228 => (if t228 = true then (if bt198.2 = 0 then (if bt205.2 = 1 then (if bt210.2 = 9 then ((privityref09_Same.f k t212 (([(([7,0] : List Int)),(([7,0] : List Int)),(([7,0] : List Int)),(([7,0] : List Int))] : List (List Int)))).bind fun t244 => (some t244)) else (some false)) else (some false)) else (some false)) else (some false))) else (some false)) else (some false)) else (some false))))))))
theorem privitylaw09_awake.mono : ∀ k,LeO (privitylaw09_awake.f k ) (privitylaw09_awake.f (k + 1) ) := by
 intro  k
 unfold privitylaw09_awake.f
 repeat' first
   | (with_reducible exact privityref05_Same.mono _ _ _)
   | (with_reducible exact privityref09_Same.mono _ _ _)
   | (with_reducible exact shamir_Constant.mono _ _ _ _ _)
   | (with_reducible exact shamir_Reconstruct.mono _ _ _ _)
   | (with_reducible exact shamir_Shares.mono _ _ _ _)
   | (with_reducible exact LeO.refl _)
   | (with_reducible exact LeO.none _)
   | (with_reducible refine LeO.ite ?_ ?_)
   | (with_reducible refine LeO.bind ?_ (fun _ => ?_))
   | exact privityref05_Same.mono _ _ _
   | exact privityref09_Same.mono _ _ _
   | exact shamir_Constant.mono _ _ _ _ _
   | exact shamir_Reconstruct.mono _ _ _ _
   | exact shamir_Shares.mono _ _ _ _
   | exact LeO.none _
   | refine LeO.ite ?_ ?_
   | refine LeO.bind ?_ (fun _ => ?_)
theorem privitylaw09_awake.more (k : Nat) : ∀ d, LeO (privitylaw09_awake.f k) (privitylaw09_awake.f (k + d))
  | 0 => fun r h => h
  | d + 1 => fun r h => privitylaw09_awake.mono (k + d) r (privitylaw09_awake.more k d r h)
theorem privitylaw09_awake.is : privitylaw09_awake.f 60 = some true := by kernel_rfl
theorem privitylaw09_awake.one (k : Nat) (r : Bool) (h : privitylaw09_awake.f k = some r) : r = true := by
  have h1 := privitylaw09_awake.more k 60 r h
  have h2 := privitylaw09_awake.more 60 k true privitylaw09_awake.is
  rw [Nat.add_comm, h1] at h2
  exact Option.some.inj h2
set_option maxHeartbeats 8000000 in
set_option maxRecDepth 100000 in
theorem privitylaw09_awake.calls (k : Nat)  (r : Bool) (w : World) (h : privitylaw09_awake.f k  = some r) :
  Calls Try.prog 11 #[] w fun e w' => e = .returned (.bool r) ∧ Below w.heap.size w w' := by
 have HR1 := Aside0.mk (privitylaw09_awake.one k r h)
 have hu34 := Try.underlying34
 have hu55 := Try.underlying55
 have HB := Aside0.mk (Below.refl w.heap.size w)
 have H : ((shamir_Reconstruct.f k 31 1 (([(⟨3,8⟩ : S34),(⟨1,6⟩ : S34)] : List (S34)))).bind fun bt193 => ((shamir_FitSecret.f 31 1 (([(⟨1,6⟩ : S34)] : List (S34))) 9).bind fun bt198 => ((shamir_Reconstruct.f k 31 1 (([(⟨1,6⟩ : S34)] : List (S34)))).bind fun bt205 => ((shamir_Reconstruct.f k 31 1 (([(⟨1,6⟩ : S34),(⟨2,7⟩ : S34),(⟨3,9⟩ : S34)] : List (S34)))).bind fun bt210 => ((shamir_Constant.f k 31 4 1 7).bind fun t212 => ((shamir_Shares.f k 31 3 (([5,1] : List Int))).bind fun t218 => ((privityref05_Same.f k t218 (([6,7,8] : List Int))).bind fun t224 => (if t224 = true then (if bt193.1 = 5 then (if bt193.2 = 0 then ((privityref05_Same.f k bt198.1 (([9,28] : List Int))).bind fun t228 => (if t228 = true then (if bt198.2 = 0 then (if bt205.2 = 1 then (if bt210.2 = 9 then ((privityref09_Same.f k t212 (([(([7,0] : List Int)),(([7,0] : List Int)),(([7,0] : List Int)),(([7,0] : List Int))] : List (List Int)))).bind fun t244 => (some t244)) else (some false)) else (some false)) else (some false)) else (some false))) else (some false)) else (some false)) else (some false))))))))) = some r := h
 clear h
 obtain ⟨y190,hy190⟩ : ∃ y_ : List (S34),y_ = (([(⟨3,8⟩ : S34),(⟨1,6⟩ : S34)] : List (S34))) := ⟨_,rfl⟩
 replace H : ((shamir_Reconstruct.f k 31 1 y190).bind fun bt193 => ((shamir_FitSecret.f 31 1 (([(⟨1,6⟩ : S34)] : List (S34))) 9).bind fun bt198 => ((shamir_Reconstruct.f k 31 1 (([(⟨1,6⟩ : S34)] : List (S34)))).bind fun bt205 => ((shamir_Reconstruct.f k 31 1 (([(⟨1,6⟩ : S34),(⟨2,7⟩ : S34),(⟨3,9⟩ : S34)] : List (S34)))).bind fun bt210 => ((shamir_Constant.f k 31 4 1 7).bind fun t212 => ((shamir_Shares.f k 31 3 (([5,1] : List Int))).bind fun t218 => ((privityref05_Same.f k t218 (([6,7,8] : List Int))).bind fun t224 => (if t224 = true then (if bt193.1 = 5 then (if bt193.2 = 0 then ((privityref05_Same.f k bt198.1 (([9,28] : List Int))).bind fun t228 => (if t228 = true then (if bt198.2 = 0 then (if bt205.2 = 1 then (if bt210.2 = 9 then ((privityref09_Same.f k t212 (([(([7,0] : List Int)),(([7,0] : List Int)),(([7,0] : List Int)),(([7,0] : List Int))] : List (List Int)))).bind fun t244 => (some t244)) else (some false)) else (some false)) else (some false)) else (some false))) else (some false)) else (some false)) else (some false))))))))) = some r := by first|(rw [hy190];with_reducible exact H)|(have H2_ := (Option.bind_some _ _).symm.trans H;rw [hy190];with_reducible exact H2_)|(have H2_ := (Option.bind_some _ _).symm.trans H;with_reducible exact H2_)|with_reducible exact H|(rw [hy190];exact H)|exact H
 have Ny190 := Aside0.mk hy190
 clear hy190
 replace H := Option.bind_eq_some_iff.mp H
 obtain ⟨⟨t193,t194⟩,A10,H⟩ := H
 replace H : ((shamir_FitSecret.f 31 1 (([(⟨1,6⟩ : S34)] : List (S34))) 9).bind fun bt198 => ((shamir_Reconstruct.f k 31 1 (([(⟨1,6⟩ : S34)] : List (S34)))).bind fun bt205 => ((shamir_Reconstruct.f k 31 1 (([(⟨1,6⟩ : S34),(⟨2,7⟩ : S34),(⟨3,9⟩ : S34)] : List (S34)))).bind fun bt210 => ((shamir_Constant.f k 31 4 1 7).bind fun t212 => ((shamir_Shares.f k 31 3 (([5,1] : List Int))).bind fun t218 => ((privityref05_Same.f k t218 (([6,7,8] : List Int))).bind fun t224 => (if t224 = true then (if t193 = 5 then (if t194 = 0 then ((privityref05_Same.f k bt198.1 (([9,28] : List Int))).bind fun t228 => (if t228 = true then (if bt198.2 = 0 then (if bt205.2 = 1 then (if bt210.2 = 9 then ((privityref09_Same.f k t212 (([(([7,0] : List Int)),(([7,0] : List Int)),(([7,0] : List Int)),(([7,0] : List Int))] : List (List Int)))).bind fun t244 => (some t244)) else (some false)) else (some false)) else (some false)) else (some false))) else (some false)) else (some false)) else (some false)))))))) = some r := H
 have A1 := Aside0.mk A10
 clear A10
 obtain ⟨y195,hy195⟩ : ∃ y_ : List (S34),y_ = (([(⟨1,6⟩ : S34)] : List (S34))) := ⟨_,rfl⟩
 replace H : ((shamir_FitSecret.f 31 1 y195 9).bind fun bt198 => ((shamir_Reconstruct.f k 31 1 (([(⟨1,6⟩ : S34)] : List (S34)))).bind fun bt205 => ((shamir_Reconstruct.f k 31 1 (([(⟨1,6⟩ : S34),(⟨2,7⟩ : S34),(⟨3,9⟩ : S34)] : List (S34)))).bind fun bt210 => ((shamir_Constant.f k 31 4 1 7).bind fun t212 => ((shamir_Shares.f k 31 3 (([5,1] : List Int))).bind fun t218 => ((privityref05_Same.f k t218 (([6,7,8] : List Int))).bind fun t224 => (if t224 = true then (if t193 = 5 then (if t194 = 0 then ((privityref05_Same.f k bt198.1 (([9,28] : List Int))).bind fun t228 => (if t228 = true then (if bt198.2 = 0 then (if bt205.2 = 1 then (if bt210.2 = 9 then ((privityref09_Same.f k t212 (([(([7,0] : List Int)),(([7,0] : List Int)),(([7,0] : List Int)),(([7,0] : List Int))] : List (List Int)))).bind fun t244 => (some t244)) else (some false)) else (some false)) else (some false)) else (some false))) else (some false)) else (some false)) else (some false)))))))) = some r := by first|(rw [hy195];with_reducible exact H)|(have H2_ := (Option.bind_some _ _).symm.trans H;rw [hy195];with_reducible exact H2_)|(have H2_ := (Option.bind_some _ _).symm.trans H;with_reducible exact H2_)|with_reducible exact H|(rw [hy195];exact H)|exact H
 have Ny195 := Aside0.mk hy195
 clear hy195
 replace H := Option.bind_eq_some_iff.mp H
 obtain ⟨⟨t198,t199⟩,A20,H⟩ := H
 replace H : ((shamir_Reconstruct.f k 31 1 (([(⟨1,6⟩ : S34)] : List (S34)))).bind fun bt205 => ((shamir_Reconstruct.f k 31 1 (([(⟨1,6⟩ : S34),(⟨2,7⟩ : S34),(⟨3,9⟩ : S34)] : List (S34)))).bind fun bt210 => ((shamir_Constant.f k 31 4 1 7).bind fun t212 => ((shamir_Shares.f k 31 3 (([5,1] : List Int))).bind fun t218 => ((privityref05_Same.f k t218 (([6,7,8] : List Int))).bind fun t224 => (if t224 = true then (if t193 = 5 then (if t194 = 0 then ((privityref05_Same.f k t198 (([9,28] : List Int))).bind fun t228 => (if t228 = true then (if t199 = 0 then (if bt205.2 = 1 then (if bt210.2 = 9 then ((privityref09_Same.f k t212 (([(([7,0] : List Int)),(([7,0] : List Int)),(([7,0] : List Int)),(([7,0] : List Int))] : List (List Int)))).bind fun t244 => (some t244)) else (some false)) else (some false)) else (some false)) else (some false))) else (some false)) else (some false)) else (some false))))))) = some r := H
 have A2 := Aside0.mk A20
 clear A20
 obtain ⟨y202,hy202⟩ : ∃ y_ : List (S34),y_ = (([(⟨1,6⟩ : S34)] : List (S34))) := ⟨_,rfl⟩
 replace H : ((shamir_Reconstruct.f k 31 1 y202).bind fun bt205 => ((shamir_Reconstruct.f k 31 1 (([(⟨1,6⟩ : S34),(⟨2,7⟩ : S34),(⟨3,9⟩ : S34)] : List (S34)))).bind fun bt210 => ((shamir_Constant.f k 31 4 1 7).bind fun t212 => ((shamir_Shares.f k 31 3 (([5,1] : List Int))).bind fun t218 => ((privityref05_Same.f k t218 (([6,7,8] : List Int))).bind fun t224 => (if t224 = true then (if t193 = 5 then (if t194 = 0 then ((privityref05_Same.f k t198 (([9,28] : List Int))).bind fun t228 => (if t228 = true then (if t199 = 0 then (if bt205.2 = 1 then (if bt210.2 = 9 then ((privityref09_Same.f k t212 (([(([7,0] : List Int)),(([7,0] : List Int)),(([7,0] : List Int)),(([7,0] : List Int))] : List (List Int)))).bind fun t244 => (some t244)) else (some false)) else (some false)) else (some false)) else (some false))) else (some false)) else (some false)) else (some false))))))) = some r := by first|(rw [hy202];with_reducible exact H)|(have H2_ := (Option.bind_some _ _).symm.trans H;rw [hy202];with_reducible exact H2_)|(have H2_ := (Option.bind_some _ _).symm.trans H;with_reducible exact H2_)|with_reducible exact H|(rw [hy202];exact H)|exact H
 have Ny202 := Aside0.mk hy202
 clear hy202
 replace H := Option.bind_eq_some_iff.mp H
 obtain ⟨⟨t205,t206⟩,A30,H⟩ := H
 replace H : ((shamir_Reconstruct.f k 31 1 (([(⟨1,6⟩ : S34),(⟨2,7⟩ : S34),(⟨3,9⟩ : S34)] : List (S34)))).bind fun bt210 => ((shamir_Constant.f k 31 4 1 7).bind fun t212 => ((shamir_Shares.f k 31 3 (([5,1] : List Int))).bind fun t218 => ((privityref05_Same.f k t218 (([6,7,8] : List Int))).bind fun t224 => (if t224 = true then (if t193 = 5 then (if t194 = 0 then ((privityref05_Same.f k t198 (([9,28] : List Int))).bind fun t228 => (if t228 = true then (if t199 = 0 then (if t206 = 1 then (if bt210.2 = 9 then ((privityref09_Same.f k t212 (([(([7,0] : List Int)),(([7,0] : List Int)),(([7,0] : List Int)),(([7,0] : List Int))] : List (List Int)))).bind fun t244 => (some t244)) else (some false)) else (some false)) else (some false)) else (some false))) else (some false)) else (some false)) else (some false)))))) = some r := H
 have A3 := Aside0.mk A30
 clear A30
 obtain ⟨y207,hy207⟩ : ∃ y_ : List (S34),y_ = (([(⟨1,6⟩ : S34),(⟨2,7⟩ : S34),(⟨3,9⟩ : S34)] : List (S34))) := ⟨_,rfl⟩
 replace H : ((shamir_Reconstruct.f k 31 1 y207).bind fun bt210 => ((shamir_Constant.f k 31 4 1 7).bind fun t212 => ((shamir_Shares.f k 31 3 (([5,1] : List Int))).bind fun t218 => ((privityref05_Same.f k t218 (([6,7,8] : List Int))).bind fun t224 => (if t224 = true then (if t193 = 5 then (if t194 = 0 then ((privityref05_Same.f k t198 (([9,28] : List Int))).bind fun t228 => (if t228 = true then (if t199 = 0 then (if t206 = 1 then (if bt210.2 = 9 then ((privityref09_Same.f k t212 (([(([7,0] : List Int)),(([7,0] : List Int)),(([7,0] : List Int)),(([7,0] : List Int))] : List (List Int)))).bind fun t244 => (some t244)) else (some false)) else (some false)) else (some false)) else (some false))) else (some false)) else (some false)) else (some false)))))) = some r := by first|(rw [hy207];with_reducible exact H)|(have H2_ := (Option.bind_some _ _).symm.trans H;rw [hy207];with_reducible exact H2_)|(have H2_ := (Option.bind_some _ _).symm.trans H;with_reducible exact H2_)|with_reducible exact H|(rw [hy207];exact H)|exact H
 have Ny207 := Aside0.mk hy207
 clear hy207
 replace H := Option.bind_eq_some_iff.mp H
 obtain ⟨⟨t210,t211⟩,A40,H⟩ := H
 replace H : ((shamir_Constant.f k 31 4 1 7).bind fun t212 => ((shamir_Shares.f k 31 3 (([5,1] : List Int))).bind fun t218 => ((privityref05_Same.f k t218 (([6,7,8] : List Int))).bind fun t224 => (if t224 = true then (if t193 = 5 then (if t194 = 0 then ((privityref05_Same.f k t198 (([9,28] : List Int))).bind fun t228 => (if t228 = true then (if t199 = 0 then (if t206 = 1 then (if t211 = 9 then ((privityref09_Same.f k t212 (([(([7,0] : List Int)),(([7,0] : List Int)),(([7,0] : List Int)),(([7,0] : List Int))] : List (List Int)))).bind fun t244 => (some t244)) else (some false)) else (some false)) else (some false)) else (some false))) else (some false)) else (some false)) else (some false))))) = some r := H
 have A4 := Aside0.mk A40
 clear A40
 replace H := Option.bind_eq_some_iff.mp H
 obtain ⟨t212,A50,H⟩ := H
 replace H : ((shamir_Shares.f k 31 3 (([5,1] : List Int))).bind fun t218 => ((privityref05_Same.f k t218 (([6,7,8] : List Int))).bind fun t224 => (if t224 = true then (if t193 = 5 then (if t194 = 0 then ((privityref05_Same.f k t198 (([9,28] : List Int))).bind fun t228 => (if t228 = true then (if t199 = 0 then (if t206 = 1 then (if t211 = 9 then ((privityref09_Same.f k t212 (([(([7,0] : List Int)),(([7,0] : List Int)),(([7,0] : List Int)),(([7,0] : List Int))] : List (List Int)))).bind fun t244 => (some t244)) else (some false)) else (some false)) else (some false)) else (some false))) else (some false)) else (some false)) else (some false)))) = some r := H
 have A5 := Aside0.mk A50
 clear A50
 obtain ⟨y215,hy215⟩ : ∃ y_ : List Int,y_ = (([5,1] : List Int)) := ⟨_,rfl⟩
 replace H : ((shamir_Shares.f k 31 3 y215).bind fun t218 => ((privityref05_Same.f k t218 (([6,7,8] : List Int))).bind fun t224 => (if t224 = true then (if t193 = 5 then (if t194 = 0 then ((privityref05_Same.f k t198 (([9,28] : List Int))).bind fun t228 => (if t228 = true then (if t199 = 0 then (if t206 = 1 then (if t211 = 9 then ((privityref09_Same.f k t212 (([(([7,0] : List Int)),(([7,0] : List Int)),(([7,0] : List Int)),(([7,0] : List Int))] : List (List Int)))).bind fun t244 => (some t244)) else (some false)) else (some false)) else (some false)) else (some false))) else (some false)) else (some false)) else (some false)))) = some r := by first|(rw [hy215];with_reducible exact H)|(have H2_ := (Option.bind_some _ _).symm.trans H;rw [hy215];with_reducible exact H2_)|(have H2_ := (Option.bind_some _ _).symm.trans H;with_reducible exact H2_)|with_reducible exact H|(rw [hy215];exact H)|exact H
 have Ny215 := Aside0.mk hy215
 clear hy215
 replace H := Option.bind_eq_some_iff.mp H
 obtain ⟨t218,A60,H⟩ := H
 replace H : ((privityref05_Same.f k t218 (([6,7,8] : List Int))).bind fun t224 => (if t224 = true then (if t193 = 5 then (if t194 = 0 then ((privityref05_Same.f k t198 (([9,28] : List Int))).bind fun t228 => (if t228 = true then (if t199 = 0 then (if t206 = 1 then (if t211 = 9 then ((privityref09_Same.f k t212 (([(([7,0] : List Int)),(([7,0] : List Int)),(([7,0] : List Int)),(([7,0] : List Int))] : List (List Int)))).bind fun t244 => (some t244)) else (some false)) else (some false)) else (some false)) else (some false))) else (some false)) else (some false)) else (some false))) = some r := H
 have A6 := Aside0.mk A60
 clear A60
 obtain ⟨y221,hy221⟩ : ∃ y_ : List Int,y_ = (([6,7,8] : List Int)) := ⟨_,rfl⟩
 replace H : ((privityref05_Same.f k t218 y221).bind fun t224 => (if t224 = true then (if t193 = 5 then (if t194 = 0 then ((privityref05_Same.f k t198 (([9,28] : List Int))).bind fun t228 => (if t228 = true then (if t199 = 0 then (if t206 = 1 then (if t211 = 9 then ((privityref09_Same.f k t212 (([(([7,0] : List Int)),(([7,0] : List Int)),(([7,0] : List Int)),(([7,0] : List Int))] : List (List Int)))).bind fun t244 => (some t244)) else (some false)) else (some false)) else (some false)) else (some false))) else (some false)) else (some false)) else (some false))) = some r := by first|(rw [hy221];with_reducible exact H)|(have H2_ := (Option.bind_some _ _).symm.trans H;rw [hy221];with_reducible exact H2_)|(have H2_ := (Option.bind_some _ _).symm.trans H;with_reducible exact H2_)|with_reducible exact H|(rw [hy221];exact H)|exact H
 have Ny221 := Aside0.mk hy221
 clear hy221
 replace H := Option.bind_eq_some_iff.mp H
 obtain ⟨t224,A70,H⟩ := H
 replace H : (if t224 = true then (if t193 = 5 then (if t194 = 0 then ((privityref05_Same.f k t198 (([9,28] : List Int))).bind fun t228 => (if t228 = true then (if t199 = 0 then (if t206 = 1 then (if t211 = 9 then ((privityref09_Same.f k t212 (([(([7,0] : List Int)),(([7,0] : List Int)),(([7,0] : List Int)),(([7,0] : List Int))] : List (List Int)))).bind fun t244 => (some t244)) else (some false)) else (some false)) else (some false)) else (some false))) else (some false)) else (some false)) else (some false)) = some r := H
 have A7 := Aside0.mk A70
 clear A70
 by_cases c8 : t224 = true
 ·subst c8
  have H1 : (if t193 = 5 then (if t194 = 0 then ((privityref05_Same.f k t198 (([9,28] : List Int))).bind fun t228 => (if t228 = true then (if t199 = 0 then (if t206 = 1 then (if t211 = 9 then ((privityref09_Same.f k t212 (([(([7,0] : List Int)),(([7,0] : List Int)),(([7,0] : List Int)),(([7,0] : List Int))] : List (List Int)))).bind fun t244 => (some t244)) else (some false)) else (some false)) else (some false)) else (some false))) else (some false)) else (some false)) = some r := by rw [if_pos rfl] at H;exact H
  clear H
  have H := H1
  clear H1
  by_cases c9 : t193 = 5
  ·rw [if_pos c9] at H
   have c9b0 : (t193 == 5) = true := beq_iff_eq.mpr c9
   have c9b1 : (t193 != 5) = false := bne_eq_false_iff_eq.mpr c9
   clear c9
   by_cases c10 : t194 = 0
   ·rw [if_pos c10] at H
    have c10b0 : (t194 == 0) = true := beq_iff_eq.mpr c10
    have c10b1 : (t194 != 0) = false := bne_eq_false_iff_eq.mpr c10
    clear c10
    obtain ⟨y225,hy225⟩ : ∃ y_ : List Int,y_ = (([9,28] : List Int)) := ⟨_,rfl⟩
    replace H : ((privityref05_Same.f k t198 y225).bind fun t228 => (if t228 = true then (if t199 = 0 then (if t206 = 1 then (if t211 = 9 then ((privityref09_Same.f k t212 (([(([7,0] : List Int)),(([7,0] : List Int)),(([7,0] : List Int)),(([7,0] : List Int))] : List (List Int)))).bind fun t244 => (some t244)) else (some false)) else (some false)) else (some false)) else (some false))) = some r := by first|(rw [hy225];with_reducible exact H)|(have H2_ := (Option.bind_some _ _).symm.trans H;rw [hy225];with_reducible exact H2_)|(have H2_ := (Option.bind_some _ _).symm.trans H;with_reducible exact H2_)|with_reducible exact H|(rw [hy225];exact H)|exact H
    have Ny225 := Aside0.mk hy225
    clear hy225
    replace H := Option.bind_eq_some_iff.mp H
    obtain ⟨t228,A110,H⟩ := H
    replace H : (if t228 = true then (if t199 = 0 then (if t206 = 1 then (if t211 = 9 then ((privityref09_Same.f k t212 (([(([7,0] : List Int)),(([7,0] : List Int)),(([7,0] : List Int)),(([7,0] : List Int))] : List (List Int)))).bind fun t244 => (some t244)) else (some false)) else (some false)) else (some false)) else (some false)) = some r := H
    have A11 := Aside0.mk A110
    clear A110
    by_cases c12 : t228 = true
    ·subst c12
     have H1 : (if t199 = 0 then (if t206 = 1 then (if t211 = 9 then ((privityref09_Same.f k t212 (([(([7,0] : List Int)),(([7,0] : List Int)),(([7,0] : List Int)),(([7,0] : List Int))] : List (List Int)))).bind fun t244 => (some t244)) else (some false)) else (some false)) else (some false)) = some r := by rw [if_pos rfl] at H;exact H
     clear H
     have H := H1
     clear H1
     by_cases c13 : t199 = 0
     ·rw [if_pos c13] at H
      have c13b0 : (t199 == 0) = true := beq_iff_eq.mpr c13
      have c13b1 : (t199 != 0) = false := bne_eq_false_iff_eq.mpr c13
      clear c13
      by_cases c14 : t206 = 1
      ·rw [if_pos c14] at H
       have c14b0 : (t206 == 1) = true := beq_iff_eq.mpr c14
       have c14b1 : (t206 != 1) = false := bne_eq_false_iff_eq.mpr c14
       clear c14
       by_cases c15 : t211 = 9
       ·rw [if_pos c15] at H
        have c15b0 : (t211 == 9) = true := beq_iff_eq.mpr c15
        have c15b1 : (t211 != 9) = false := bne_eq_false_iff_eq.mpr c15
        clear c15
        obtain ⟨y229,hy229⟩ : ∃ y_ : List Int,y_ = (([7,0] : List Int)) := ⟨_,rfl⟩
        replace H : ((privityref09_Same.f k t212 (([y229,(([7,0] : List Int)),(([7,0] : List Int)),(([7,0] : List Int))] : List (List Int)))).bind fun t244 => (some t244)) = some r := by first|(rw [hy229];with_reducible exact H)|(have H2_ := (Option.bind_some _ _).symm.trans H;rw [hy229];with_reducible exact H2_)|(have H2_ := (Option.bind_some _ _).symm.trans H;with_reducible exact H2_)|with_reducible exact H|(rw [hy229];exact H)|exact H
        have Ny229 := Aside0.mk hy229
        clear hy229
        obtain ⟨y232,hy232⟩ : ∃ y_ : List Int,y_ = (([7,0] : List Int)) := ⟨_,rfl⟩
        replace H : ((privityref09_Same.f k t212 (([y229,y232,(([7,0] : List Int)),(([7,0] : List Int))] : List (List Int)))).bind fun t244 => (some t244)) = some r := by first|(rw [hy232];with_reducible exact H)|(have H2_ := (Option.bind_some _ _).symm.trans H;rw [hy232];with_reducible exact H2_)|(have H2_ := (Option.bind_some _ _).symm.trans H;with_reducible exact H2_)|with_reducible exact H|(rw [hy232];exact H)|exact H
        have Ny232 := Aside0.mk hy232
        clear hy232
        obtain ⟨y235,hy235⟩ : ∃ y_ : List Int,y_ = (([7,0] : List Int)) := ⟨_,rfl⟩
        replace H : ((privityref09_Same.f k t212 (([y229,y232,y235,(([7,0] : List Int))] : List (List Int)))).bind fun t244 => (some t244)) = some r := by first|(rw [hy235];with_reducible exact H)|(have H2_ := (Option.bind_some _ _).symm.trans H;rw [hy235];with_reducible exact H2_)|(have H2_ := (Option.bind_some _ _).symm.trans H;with_reducible exact H2_)|with_reducible exact H|(rw [hy235];exact H)|exact H
        have Ny235 := Aside0.mk hy235
        clear hy235
        obtain ⟨y238,hy238⟩ : ∃ y_ : List Int,y_ = (([7,0] : List Int)) := ⟨_,rfl⟩
        replace H : ((privityref09_Same.f k t212 (([y229,y232,y235,y238] : List (List Int)))).bind fun t244 => (some t244)) = some r := by first|(rw [hy238];with_reducible exact H)|(have H2_ := (Option.bind_some _ _).symm.trans H;rw [hy238];with_reducible exact H2_)|(have H2_ := (Option.bind_some _ _).symm.trans H;with_reducible exact H2_)|with_reducible exact H|(rw [hy238];exact H)|exact H
        have Ny238 := Aside0.mk hy238
        clear hy238
        obtain ⟨y241,hy241⟩ : ∃ y_ : List (List Int),y_ = (([y229,y232,y235,y238] : List (List Int))) := ⟨_,rfl⟩
        replace H : ((privityref09_Same.f k t212 y241).bind fun t244 => (some t244)) = some r := by first|(rw [hy241];with_reducible exact H)|(have H2_ := (Option.bind_some _ _).symm.trans H;rw [hy241];with_reducible exact H2_)|(have H2_ := (Option.bind_some _ _).symm.trans H;with_reducible exact H2_)|with_reducible exact H|(rw [hy241];exact H)|exact H
        have Ny241 := Aside0.mk hy241
        clear hy241
        replace H := Option.bind_eq_some_iff.mp H
        obtain ⟨t244,A160,H⟩ := H
        replace H : (some t244) = some r := H
        have A16 := Aside0.mk A160
        clear A160
        obtain rfl := Option.some.inj H
        go_enter Try.func11,Try.ntmps11
        go_wp2_with (first|((with_reducible refine gate_dst (N := 13) rfl ?_);(try (refine gate_guard (by rfl) ?_;dsimp only));refine Kd.R_lit k34 _ 34 ?hg (N := 13) ?hd (xs := ([(⟨3,8⟩ : S34),(⟨1,6⟩ : S34)] : List (S34))) (inner := [.int .u64 3,.int .u64 8,.int .u64 1,.int .u64 6]) (ok := fun _ => True) (okp := fun _ => True) ?hr ?hp (fun _ hk => hk) trivial (Below.refl _ _) (Nat.le_refl _) (by simp) ?_;(case hd => rfl);(case hg => rfl);(case hr => first|(go_simp;done)|(go_simp;rfl));(case hp => exact (Reps.c2 (show Kd.M k34 _ _ _ (⟨3,8⟩ : S34) [.int .u64 3,.int .u64 8] from (k34_mkM _ _ _ (⟨3,8⟩ : S34) )) (Reps.c2 (show Kd.M k34 _ _ _ (⟨1,6⟩ : S34) [.int .u64 1,.int .u64 6] from (k34_mkM _ _ _ (⟨1,6⟩ : S34) )) (Reps.none _ _))));intro v191 w17 ho18 hb hg_ hnew_;clear hg_ hnew_;(first|rw [← Ny190.out] at ho18|(simp only [Int.reduceToNat] at ho18;rw [← Ny190.out] at ho18));have n0_ := Aside0.mk (Kd.R_lower ho18 (below_size (by repeat (first|(with_reducible first|exact HB.out|apply below_alloc|apply pw_below_drewN|apply below_drew1)|exact HB.out))));have n1_ := Aside0.mk (below_step (by repeat (first|(with_reducible first|exact HB.out|apply below_alloc|apply pw_below_drewN|apply below_drew1)|exact HB.out)) hb);clear HB;have HO192 := n0_;have HB := n1_;clear n0_ n1_;clear hb ho18;obtain ⟨Ao19,co19,eo19⟩ := Kd.R_slice HO192.out;subst eo19)|((with_reducible refine gate_callee (f := 19) rfl ?_);refine goesL_ (some 14) rfl rfl Try.func19 (by kernel_rfl) rfl #[.int .u64 31,.int .i64 1,.slice Ao19 y190.length co19] rfl (by (try simp only [List.map_toArray,List.map_cons,List.map_nil]);first|done|rfl|(simp only [List.length_drop,List.length_take];rfl)) ?_;(with_reducible refine (shamir_Reconstruct.calls k 31 1 _ _ y190 t193 t194 _ ?side1 ?side2 A1.out).mono ?_);(case side1 => repeat (first|exact (Kd.R_reads' HO192.out).2.2|(with_reducible refine Kd.C_alloc ?_ _)|(with_reducible refine Kd.C_drewN ?_ _)|(with_reducible refine Kd.C_drew ?_)));(case side2 => exact (Kd.R_reads' HO192.out).2.1);rintro e w20 ⟨rfl,hb⟩;refine ⟨_,rfl,?_⟩;have n0_ := Aside0.mk (Kd.R_below (by (with_reducible repeat (first|apply Kd.R_alloc|apply Kd.R_drewN|apply Kd.R_drew));exact HO192.out) hb);have n1_ := Aside0.mk (below_step (by repeat (first|(with_reducible first|exact HB.out|apply below_alloc|apply pw_below_drewN|apply below_drew1)|exact HB.out)) hb);clear HO192;clear HB;have HO192 := n0_;have HB := n1_;clear n0_ n1_;(try clear hb);(try clear hb2);(try clear hk);(try clear hi))|((with_reducible refine gate_dst (N := 19) rfl ?_);(try (refine gate_guard (by rfl) ?_;dsimp only));refine Kd.R_lit k34 _ 34 ?hg (N := 19) ?hd (xs := ([(⟨1,6⟩ : S34)] : List (S34))) (inner := [.int .u64 1,.int .u64 6]) (ok := fun _ => True) (okp := fun _ => True) ?hr ?hp (fun _ hk => hk) trivial (Below.refl _ _) (Nat.le_refl _) (by simp) ?_;(case hd => rfl);(case hg => rfl);(case hr => first|(go_simp;done)|(go_simp;rfl));(case hp => exact (Reps.c2 (show Kd.M k34 _ _ _ (⟨1,6⟩ : S34) [.int .u64 1,.int .u64 6] from (k34_mkM _ _ _ (⟨1,6⟩ : S34) )) (Reps.none _ _)));intro v196 w21 ho22 hb hg_ hnew_;clear hg_ hnew_;(first|rw [← Ny195.out] at ho22|(simp only [Int.reduceToNat] at ho22;rw [← Ny195.out] at ho22));have n0_ := Aside0.mk (Kd.R_elder' (by (with_reducible repeat (first|apply Kd.R_alloc|apply Kd.R_drewN|apply Kd.R_drew));exact HO192.out) (Kd.R_base ho22) hb);have n1_ := Aside0.mk (Kd.R_lower (Kd.R_new' ho22 (Kd.R_lt (by (with_reducible repeat (first|apply Kd.R_alloc|apply Kd.R_drewN|apply Kd.R_drew));exact HO192.out))) (below_size (by repeat (first|(with_reducible first|exact HB.out|apply below_alloc|apply pw_below_drewN|apply below_drew1)|exact HB.out))));have n2_ := Aside0.mk (below_step (by repeat (first|(with_reducible first|exact HB.out|apply below_alloc|apply pw_below_drewN|apply below_drew1)|exact HB.out)) hb);clear HO192;clear HB;have HO192 := n0_;have HO197 := n1_;have HB := n2_;clear n0_ n1_ n2_;clear hb ho22;obtain ⟨Ao23,co23,eo23⟩ := Kd.R_slice HO197.out;subst eo23)|((with_reducible refine gate_callee (f := 21) rfl ?_);refine goesL_ (some 20) rfl rfl Try.func21 (by kernel_rfl) rfl #[.int .u64 31,.int .i64 1,.slice Ao23 y195.length co23,.int .u64 9] rfl (by (try simp only [List.map_toArray,List.map_cons,List.map_nil]);first|done|rfl|(simp only [List.length_drop,List.length_take];rfl)) ?_;(with_reducible refine (shamir_FitSecret.calls 31 1 _ _ y195 9 t198 t199 _ ?side1 ?side2 A2.out).mono ?_);(case side1 => repeat (first|exact (Kd.R_reads' HO197.out).2.2|(with_reducible refine Kd.C_alloc ?_ _)|(with_reducible refine Kd.C_drewN ?_ _)|(with_reducible refine Kd.C_drew ?_)));(case side2 => exact (Kd.R_reads' HO197.out).2.1);rintro e w24 ⟨v200,rfl,ho0,hb⟩;refine ⟨_,rfl,?_⟩;have n0_ := Aside0.mk (Kd.R_below (by (with_reducible repeat (first|apply Kd.R_alloc|apply Kd.R_drewN|apply Kd.R_drew));exact HO192.out) hb);have n1_ := Aside0.mk (Kd.R_below (by (with_reducible repeat (first|apply Kd.R_alloc|apply Kd.R_drewN|apply Kd.R_drew));exact HO197.out) hb);have n2_ := Aside0.mk (Kd.R_lower ho0 (below_size (by repeat (first|(with_reducible first|exact HB.out|apply below_alloc|apply pw_below_drewN|apply below_drew1)|exact HB.out))));have n3_ := Aside0.mk (below_step (by repeat (first|(with_reducible first|exact HB.out|apply below_alloc|apply pw_below_drewN|apply below_drew1)|exact HB.out)) hb);clear HO192;clear HO197;clear HB;have HO192 := n0_;have HO197 := n1_;have HO201 := n2_;have HB := n3_;clear n0_ n1_ n2_ n3_;(try clear hb);(try clear hb2);(try clear hk);(try clear hi);(try clear ho0))|((with_reducible refine gate_dst (N := 25) rfl ?_);(try (refine gate_guard (by rfl) ?_;dsimp only));refine Kd.R_lit k34 _ 34 ?hg (N := 25) ?hd (xs := ([(⟨1,6⟩ : S34)] : List (S34))) (inner := [.int .u64 1,.int .u64 6]) (ok := fun _ => True) (okp := fun _ => True) ?hr ?hp (fun _ hk => hk) trivial (Below.refl _ _) (Nat.le_refl _) (by simp) ?_;(case hd => rfl);(case hg => rfl);(case hr => first|(go_simp;done)|(go_simp;rfl));(case hp => exact (Reps.c2 (show Kd.M k34 _ _ _ (⟨1,6⟩ : S34) [.int .u64 1,.int .u64 6] from (k34_mkM _ _ _ (⟨1,6⟩ : S34) )) (Reps.none _ _)));intro v203 w25 ho26 hb hg_ hnew_;clear hg_ hnew_;(first|rw [← Ny202.out] at ho26|(simp only [Int.reduceToNat] at ho26;rw [← Ny202.out] at ho26));have n0_ := Aside0.mk (Kd.R_elder' (by (with_reducible repeat (first|apply Kd.R_alloc|apply Kd.R_drewN|apply Kd.R_drew));exact HO192.out) (Kd.R_base ho26) hb);have n1_ := Aside0.mk (Kd.R_elder' (by (with_reducible repeat (first|apply Kd.R_alloc|apply Kd.R_drewN|apply Kd.R_drew));exact HO197.out) (Kd.R_base ho26) hb);have n2_ := Aside0.mk (Kd.R_below (by (with_reducible repeat (first|apply Kd.R_alloc|apply Kd.R_drewN|apply Kd.R_drew));exact HO201.out) hb);have n3_ := Aside0.mk (Kd.R_lower (Kd.R_new' (Kd.R_new' ho26 (Kd.R_lt (by (with_reducible repeat (first|apply Kd.R_alloc|apply Kd.R_drewN|apply Kd.R_drew));exact HO192.out))) (Kd.R_lt (by (with_reducible repeat (first|apply Kd.R_alloc|apply Kd.R_drewN|apply Kd.R_drew));exact HO197.out))) (below_size (by repeat (first|(with_reducible first|exact HB.out|apply below_alloc|apply pw_below_drewN|apply below_drew1)|exact HB.out))));have n4_ := Aside0.mk (below_step (by repeat (first|(with_reducible first|exact HB.out|apply below_alloc|apply pw_below_drewN|apply below_drew1)|exact HB.out)) hb);clear HO192;clear HO197;clear HO201;clear HB;have HO192 := n0_;have HO197 := n1_;have HO201 := n2_;have HO204 := n3_;have HB := n4_;clear n0_ n1_ n2_ n3_ n4_;clear hb ho26;obtain ⟨Ao27,co27,eo27⟩ := Kd.R_slice HO204.out;subst eo27)|((with_reducible refine gate_callee (f := 19) rfl ?_);refine goesL_ (some 26) rfl rfl Try.func19 (by kernel_rfl) rfl #[.int .u64 31,.int .i64 1,.slice Ao27 y202.length co27] rfl (by (try simp only [List.map_toArray,List.map_cons,List.map_nil]);first|done|rfl|(simp only [List.length_drop,List.length_take];rfl)) ?_;(with_reducible refine (shamir_Reconstruct.calls k 31 1 _ _ y202 t205 t206 _ ?side1 ?side2 A3.out).mono ?_);(case side1 => repeat (first|exact (Kd.R_reads' HO204.out).2.2|(with_reducible refine Kd.C_alloc ?_ _)|(with_reducible refine Kd.C_drewN ?_ _)|(with_reducible refine Kd.C_drew ?_)));(case side2 => exact (Kd.R_reads' HO204.out).2.1);rintro e w28 ⟨rfl,hb⟩;refine ⟨_,rfl,?_⟩;have n0_ := Aside0.mk (Kd.R_below (by (with_reducible repeat (first|apply Kd.R_alloc|apply Kd.R_drewN|apply Kd.R_drew));exact HO192.out) hb);have n1_ := Aside0.mk (Kd.R_below (by (with_reducible repeat (first|apply Kd.R_alloc|apply Kd.R_drewN|apply Kd.R_drew));exact HO197.out) hb);have n2_ := Aside0.mk (Kd.R_below (by (with_reducible repeat (first|apply Kd.R_alloc|apply Kd.R_drewN|apply Kd.R_drew));exact HO201.out) hb);have n3_ := Aside0.mk (Kd.R_below (by (with_reducible repeat (first|apply Kd.R_alloc|apply Kd.R_drewN|apply Kd.R_drew));exact HO204.out) hb);have n4_ := Aside0.mk (below_step (by repeat (first|(with_reducible first|exact HB.out|apply below_alloc|apply pw_below_drewN|apply below_drew1)|exact HB.out)) hb);clear HO192;clear HO197;clear HO201;clear HO204;clear HB;have HO192 := n0_;have HO197 := n1_;have HO201 := n2_;have HO204 := n3_;have HB := n4_;clear n0_ n1_ n2_ n3_ n4_;(try clear hb);(try clear hb2);(try clear hk);(try clear hi))|((with_reducible refine gate_dst (N := 33) rfl ?_);(try (refine gate_guard (by rfl) ?_;dsimp only));refine Kd.R_lit k34 _ 34 ?hg (N := 33) ?hd (xs := ([(⟨1,6⟩ : S34),(⟨2,7⟩ : S34),(⟨3,9⟩ : S34)] : List (S34))) (inner := [.int .u64 1,.int .u64 6,.int .u64 2,.int .u64 7,.int .u64 3,.int .u64 9]) (ok := fun _ => True) (okp := fun _ => True) ?hr ?hp (fun _ hk => hk) trivial (Below.refl _ _) (Nat.le_refl _) (by simp) ?_;(case hd => rfl);(case hg => rfl);(case hr => first|(go_simp;done)|(go_simp;rfl));(case hp => exact (Reps.c2 (show Kd.M k34 _ _ _ (⟨1,6⟩ : S34) [.int .u64 1,.int .u64 6] from (k34_mkM _ _ _ (⟨1,6⟩ : S34) )) (Reps.c2 (show Kd.M k34 _ _ _ (⟨2,7⟩ : S34) [.int .u64 2,.int .u64 7] from (k34_mkM _ _ _ (⟨2,7⟩ : S34) )) (Reps.c2 (show Kd.M k34 _ _ _ (⟨3,9⟩ : S34) [.int .u64 3,.int .u64 9] from (k34_mkM _ _ _ (⟨3,9⟩ : S34) )) (Reps.none _ _)))));intro v208 w29 ho30 hb hg_ hnew_;clear hg_ hnew_;(first|rw [← Ny207.out] at ho30|(simp only [Int.reduceToNat] at ho30;rw [← Ny207.out] at ho30));have n0_ := Aside0.mk (Kd.R_elder' (by (with_reducible repeat (first|apply Kd.R_alloc|apply Kd.R_drewN|apply Kd.R_drew));exact HO192.out) (Kd.R_base ho30) hb);have n1_ := Aside0.mk (Kd.R_elder' (by (with_reducible repeat (first|apply Kd.R_alloc|apply Kd.R_drewN|apply Kd.R_drew));exact HO197.out) (Kd.R_base ho30) hb);have n2_ := Aside0.mk (Kd.R_below (by (with_reducible repeat (first|apply Kd.R_alloc|apply Kd.R_drewN|apply Kd.R_drew));exact HO201.out) hb);have n3_ := Aside0.mk (Kd.R_elder' (by (with_reducible repeat (first|apply Kd.R_alloc|apply Kd.R_drewN|apply Kd.R_drew));exact HO204.out) (Kd.R_base ho30) hb);have n4_ := Aside0.mk (Kd.R_lower (Kd.R_new' (Kd.R_new' (Kd.R_new' ho30 (Kd.R_lt (by (with_reducible repeat (first|apply Kd.R_alloc|apply Kd.R_drewN|apply Kd.R_drew));exact HO192.out))) (Kd.R_lt (by (with_reducible repeat (first|apply Kd.R_alloc|apply Kd.R_drewN|apply Kd.R_drew));exact HO197.out))) (Kd.R_lt (by (with_reducible repeat (first|apply Kd.R_alloc|apply Kd.R_drewN|apply Kd.R_drew));exact HO204.out))) (below_size (by repeat (first|(with_reducible first|exact HB.out|apply below_alloc|apply pw_below_drewN|apply below_drew1)|exact HB.out))));have n5_ := Aside0.mk (below_step (by repeat (first|(with_reducible first|exact HB.out|apply below_alloc|apply pw_below_drewN|apply below_drew1)|exact HB.out)) hb);clear HO192;clear HO197;clear HO201;clear HO204;clear HB;have HO192 := n0_;have HO197 := n1_;have HO201 := n2_;have HO204 := n3_;have HO209 := n4_;have HB := n5_;clear n0_ n1_ n2_ n3_ n4_ n5_;clear hb ho30;obtain ⟨Ao31,co31,eo31⟩ := Kd.R_slice HO209.out;subst eo31)|((with_reducible refine gate_callee (f := 19) rfl ?_);refine goesL_ (some 34) rfl rfl Try.func19 (by kernel_rfl) rfl #[.int .u64 31,.int .i64 1,.slice Ao31 y207.length co31] rfl (by (try simp only [List.map_toArray,List.map_cons,List.map_nil]);first|done|rfl|(simp only [List.length_drop,List.length_take];rfl)) ?_;(with_reducible refine (shamir_Reconstruct.calls k 31 1 _ _ y207 t210 t211 _ ?side1 ?side2 A4.out).mono ?_);(case side1 => repeat (first|exact (Kd.R_reads' HO209.out).2.2|(with_reducible refine Kd.C_alloc ?_ _)|(with_reducible refine Kd.C_drewN ?_ _)|(with_reducible refine Kd.C_drew ?_)));(case side2 => exact (Kd.R_reads' HO209.out).2.1);rintro e w32 ⟨rfl,hb⟩;refine ⟨_,rfl,?_⟩;have n0_ := Aside0.mk (Kd.R_below (by (with_reducible repeat (first|apply Kd.R_alloc|apply Kd.R_drewN|apply Kd.R_drew));exact HO192.out) hb);have n1_ := Aside0.mk (Kd.R_below (by (with_reducible repeat (first|apply Kd.R_alloc|apply Kd.R_drewN|apply Kd.R_drew));exact HO197.out) hb);have n2_ := Aside0.mk (Kd.R_below (by (with_reducible repeat (first|apply Kd.R_alloc|apply Kd.R_drewN|apply Kd.R_drew));exact HO201.out) hb);have n3_ := Aside0.mk (Kd.R_below (by (with_reducible repeat (first|apply Kd.R_alloc|apply Kd.R_drewN|apply Kd.R_drew));exact HO204.out) hb);have n4_ := Aside0.mk (Kd.R_below (by (with_reducible repeat (first|apply Kd.R_alloc|apply Kd.R_drewN|apply Kd.R_drew));exact HO209.out) hb);have n5_ := Aside0.mk (below_step (by repeat (first|(with_reducible first|exact HB.out|apply below_alloc|apply pw_below_drewN|apply below_drew1)|exact HB.out)) hb);clear HO192;clear HO197;clear HO201;clear HO204;clear HO209;clear HB;have HO192 := n0_;have HO197 := n1_;have HO201 := n2_;have HO204 := n3_;have HO209 := n4_;have HB := n5_;clear n0_ n1_ n2_ n3_ n4_ n5_;(try clear hb);(try clear hb2);(try clear hk);(try clear hi))|((with_reducible refine gate_callee (f := 37) rfl ?_);refine goesL_ (some 38) rfl rfl Try.func37 (by kernel_rfl) rfl #[.agg #[.int .u64 31,.int .i64 4,.int .i64 1],.int .u64 7] rfl (by (try simp only [List.map_toArray,List.map_cons,List.map_nil]);first|done|rfl|(simp only [List.length_drop,List.length_take];rfl)) ?_;(with_reducible refine (shamir_Constant.calls k 31 4 1 7 t212 _ A5.out).mono ?_);rintro e w33 ⟨v213,rfl,ho0,hb⟩;refine ⟨_,rfl,?_⟩;have n0_ := Aside0.mk (Kd.R_below (by (with_reducible repeat (first|apply Kd.R_alloc|apply Kd.R_drewN|apply Kd.R_drew));exact HO192.out) hb);have n1_ := Aside0.mk (Kd.R_below (by (with_reducible repeat (first|apply Kd.R_alloc|apply Kd.R_drewN|apply Kd.R_drew));exact HO197.out) hb);have n2_ := Aside0.mk (Kd.R_below (by (with_reducible repeat (first|apply Kd.R_alloc|apply Kd.R_drewN|apply Kd.R_drew));exact HO201.out) hb);have n3_ := Aside0.mk (Kd.R_below (by (with_reducible repeat (first|apply Kd.R_alloc|apply Kd.R_drewN|apply Kd.R_drew));exact HO204.out) hb);have n4_ := Aside0.mk (Kd.R_below (by (with_reducible repeat (first|apply Kd.R_alloc|apply Kd.R_drewN|apply Kd.R_drew));exact HO209.out) hb);have n5_ := Aside0.mk (Kd.N_lower (Kd.N_mono (ok' := fun k_ => some k_ ≠ (.slice Ao19 y190.length co19 : Value).ownBlock ∧ some k_ ≠ (.slice Ao23 y195.length co23 : Value).ownBlock ∧ some k_ ≠ (v200 : Value).ownBlock ∧ some k_ ≠ (.slice Ao27 y202.length co27 : Value).ownBlock ∧ some k_ ≠ (.slice Ao31 y207.length co31 : Value).ownBlock) (Kd.S_N (Kd.S_bound ho0)) (fun k_ hk_ => ⟨(Kd.fresh' (Kd.R_lt (by (with_reducible repeat (first|apply Kd.R_alloc|apply Kd.R_drewN|apply Kd.R_drew));exact HO192.out)) k_ hk_.2.1),(Kd.fresh' (Kd.R_lt (by (with_reducible repeat (first|apply Kd.R_alloc|apply Kd.R_drewN|apply Kd.R_drew));exact HO197.out)) k_ hk_.2.1),(Kd.fresh' (Kd.R_lt (by (with_reducible repeat (first|apply Kd.R_alloc|apply Kd.R_drewN|apply Kd.R_drew));exact HO201.out)) k_ hk_.2.1),(Kd.fresh' (Kd.R_lt (by (with_reducible repeat (first|apply Kd.R_alloc|apply Kd.R_drewN|apply Kd.R_drew));exact HO204.out)) k_ hk_.2.1),(Kd.fresh' (Kd.R_lt (by (with_reducible repeat (first|apply Kd.R_alloc|apply Kd.R_drewN|apply Kd.R_drew));exact HO209.out)) k_ hk_.2.1)⟩)) (below_size (by repeat (first|(with_reducible first|exact HB.out|apply below_alloc|apply pw_below_drewN|apply below_drew1)|exact HB.out))));have n6_ := Aside0.mk (below_step (by repeat (first|(with_reducible first|exact HB.out|apply below_alloc|apply pw_below_drewN|apply below_drew1)|exact HB.out)) hb);clear HO192;clear HO197;clear HO201;clear HO204;clear HO209;clear HB;have HO192 := n0_;have HO197 := n1_;have HO201 := n2_;have HO204 := n3_;have HO209 := n4_;have HO214 := n5_;have HB := n6_;clear n0_ n1_ n2_ n3_ n4_ n5_ n6_;(try clear hb);(try clear hb2);(try clear hk);(try clear hi);(try clear ho0))|((with_reducible refine gate_dst (N := 39) rfl ?_);(try (refine gate_guard (by rfl) ?_;dsimp only));refine Kd.R_lit (Kd.int .u64) _ 22 ?hg (N := 39) ?hd (xs := ([5,1] : List Int)) (inner := [.int .u64 5,.int .u64 1]) (ok := fun _ => True) (okp := fun _ => True) ?hr ?hp (fun _ hk => hk) trivial (Below.refl _ _) (Nat.le_refl _) (by simp) ?_;(case hd => rfl);(case hg => rfl);(case hr => first|(go_simp;done)|(go_simp;rfl));(case hp => exact (Reps.one (show Kd.M (Kd.int .u64) _ _ _ 5 [.int .u64 5] from rfl) (Reps.one (show Kd.M (Kd.int .u64) _ _ _ 1 [.int .u64 1] from rfl) (Reps.none _ _))));intro v216 w34 ho35 hb hg_ hnew_;clear hg_ hnew_;(first|rw [← Ny215.out] at ho35|(simp only [Int.reduceToNat] at ho35;rw [← Ny215.out] at ho35));have n0_ := Aside0.mk (Kd.R_below (by (with_reducible repeat (first|apply Kd.R_alloc|apply Kd.R_drewN|apply Kd.R_drew));exact HO192.out) hb);have n1_ := Aside0.mk (Kd.R_below (by (with_reducible repeat (first|apply Kd.R_alloc|apply Kd.R_drewN|apply Kd.R_drew));exact HO197.out) hb);have n2_ := Aside0.mk (Kd.R_elder' (by (with_reducible repeat (first|apply Kd.R_alloc|apply Kd.R_drewN|apply Kd.R_drew));exact HO201.out) (Kd.R_base ho35) hb);have n3_ := Aside0.mk (Kd.R_below (by (with_reducible repeat (first|apply Kd.R_alloc|apply Kd.R_drewN|apply Kd.R_drew));exact HO204.out) hb);have n4_ := Aside0.mk (Kd.R_below (by (with_reducible repeat (first|apply Kd.R_alloc|apply Kd.R_drewN|apply Kd.R_drew));exact HO209.out) hb);have n5_ := Aside0.mk (Kd.N_elder' (by (with_reducible repeat (first|apply Kd.N_alloc|apply Kd.N_drewN|apply Kd.N_drew));exact HO214.out) (Kd.R_base ho35) hb);have n6_ := Aside0.mk (Kd.R_lower (Kd.R_new' ho35 (Kd.R_lt (by (with_reducible repeat (first|apply Kd.R_alloc|apply Kd.R_drewN|apply Kd.R_drew));exact HO201.out))) (below_size (by repeat (first|(with_reducible first|exact HB.out|apply below_alloc|apply pw_below_drewN|apply below_drew1)|exact HB.out))));have n7_ := Aside0.mk (below_step (by repeat (first|(with_reducible first|exact HB.out|apply below_alloc|apply pw_below_drewN|apply below_drew1)|exact HB.out)) hb);clear HO192;clear HO197;clear HO201;clear HO204;clear HO209;clear HO214;clear HB;have HO192 := n0_;have HO197 := n1_;have HO201 := n2_;have HO204 := n3_;have HO209 := n4_;have HO214 := n5_;have HO217 := n6_;have HB := n7_;clear n0_ n1_ n2_ n3_ n4_ n5_ n6_ n7_;clear hb ho35;obtain ⟨Ao36,co36,eo36⟩ := Kd.R_slice HO217.out;subst eo36)|((with_reducible refine gate_callee (f := 15) rfl ?_);refine goesL_ (some 40) rfl rfl Try.func15 (by kernel_rfl) rfl #[.int .u64 31,.int .i64 3,.slice Ao36 y215.length co36] rfl (by (try simp only [List.map_toArray,List.map_cons,List.map_nil]);first|done|rfl|(simp only [List.length_drop,List.length_take];rfl)) ?_;(with_reducible refine (shamir_Shares.calls k 31 3 _ _ y215 t218 _ ?side1 ?side2 A6.out).mono ?_);(case side1 => repeat (first|exact (Kd.R_reads' HO217.out).2.2|(with_reducible refine Kd.C_alloc ?_ _)|(with_reducible refine Kd.C_drewN ?_ _)|(with_reducible refine Kd.C_drew ?_)));(case side2 => exact (Kd.R_reads' HO217.out).2.1);rintro e w37 ⟨v219,rfl,ho0,hb⟩;refine ⟨_,rfl,?_⟩;have n0_ := Aside0.mk (Kd.R_below (by (with_reducible repeat (first|apply Kd.R_alloc|apply Kd.R_drewN|apply Kd.R_drew));exact HO192.out) hb);have n1_ := Aside0.mk (Kd.R_below (by (with_reducible repeat (first|apply Kd.R_alloc|apply Kd.R_drewN|apply Kd.R_drew));exact HO197.out) hb);have n2_ := Aside0.mk (Kd.R_elder' (by (with_reducible repeat (first|apply Kd.R_alloc|apply Kd.R_drewN|apply Kd.R_drew));exact HO201.out) (Kd.R_base ho0) hb);have n3_ := Aside0.mk (Kd.R_below (by (with_reducible repeat (first|apply Kd.R_alloc|apply Kd.R_drewN|apply Kd.R_drew));exact HO204.out) hb);have n4_ := Aside0.mk (Kd.R_below (by (with_reducible repeat (first|apply Kd.R_alloc|apply Kd.R_drewN|apply Kd.R_drew));exact HO209.out) hb);have n5_ := Aside0.mk (Kd.N_elder' (by (with_reducible repeat (first|apply Kd.N_alloc|apply Kd.N_drewN|apply Kd.N_drew));exact HO214.out) (Kd.R_base ho0) hb);have n6_ := Aside0.mk (Kd.R_elder' (by (with_reducible repeat (first|apply Kd.R_alloc|apply Kd.R_drewN|apply Kd.R_drew));exact HO217.out) (Kd.R_base ho0) hb);have n7_ := Aside0.mk (Kd.R_lower (Kd.R_new' (Kd.R_new' ho0 (Kd.R_lt (by (with_reducible repeat (first|apply Kd.R_alloc|apply Kd.R_drewN|apply Kd.R_drew));exact HO201.out))) (Kd.R_lt (by (with_reducible repeat (first|apply Kd.R_alloc|apply Kd.R_drewN|apply Kd.R_drew));exact HO217.out))) (below_size (by repeat (first|(with_reducible first|exact HB.out|apply below_alloc|apply pw_below_drewN|apply below_drew1)|exact HB.out))));have n8_ := Aside0.mk (below_step (by repeat (first|(with_reducible first|exact HB.out|apply below_alloc|apply pw_below_drewN|apply below_drew1)|exact HB.out)) hb);clear HO192;clear HO197;clear HO201;clear HO204;clear HO209;clear HO214;clear HO217;clear HB;have HO192 := n0_;have HO197 := n1_;have HO201 := n2_;have HO204 := n3_;have HO209 := n4_;have HO214 := n5_;have HO217 := n6_;have HO220 := n7_;have HB := n8_;clear n0_ n1_ n2_ n3_ n4_ n5_ n6_ n7_ n8_;(try clear hb);(try clear hb2);(try clear hk);(try clear hi);(try clear ho0))|((with_reducible refine gate_dst (N := 41) rfl ?_);(try (refine gate_guard (by rfl) ?_;dsimp only));refine Kd.R_lit (Kd.int .u64) _ 22 ?hg (N := 41) ?hd (xs := ([6,7,8] : List Int)) (inner := [.int .u64 6,.int .u64 7,.int .u64 8]) (ok := fun _ => True) (okp := fun _ => True) ?hr ?hp (fun _ hk => hk) trivial (Below.refl _ _) (Nat.le_refl _) (by simp) ?_;(case hd => rfl);(case hg => rfl);(case hr => first|(go_simp;done)|(go_simp;rfl));(case hp => exact (Reps.one (show Kd.M (Kd.int .u64) _ _ _ 6 [.int .u64 6] from rfl) (Reps.one (show Kd.M (Kd.int .u64) _ _ _ 7 [.int .u64 7] from rfl) (Reps.one (show Kd.M (Kd.int .u64) _ _ _ 8 [.int .u64 8] from rfl) (Reps.none _ _)))));intro v222 w38 ho39 hb hg_ hnew_;clear hg_ hnew_;(first|rw [← Ny221.out] at ho39|(simp only [Int.reduceToNat] at ho39;rw [← Ny221.out] at ho39));have n0_ := Aside0.mk (Kd.R_below (by (with_reducible repeat (first|apply Kd.R_alloc|apply Kd.R_drewN|apply Kd.R_drew));exact HO192.out) hb);have n1_ := Aside0.mk (Kd.R_below (by (with_reducible repeat (first|apply Kd.R_alloc|apply Kd.R_drewN|apply Kd.R_drew));exact HO197.out) hb);have n2_ := Aside0.mk (Kd.R_elder' (by (with_reducible repeat (first|apply Kd.R_alloc|apply Kd.R_drewN|apply Kd.R_drew));exact HO201.out) (Kd.R_base ho39) hb);have n3_ := Aside0.mk (Kd.R_below (by (with_reducible repeat (first|apply Kd.R_alloc|apply Kd.R_drewN|apply Kd.R_drew));exact HO204.out) hb);have n4_ := Aside0.mk (Kd.R_below (by (with_reducible repeat (first|apply Kd.R_alloc|apply Kd.R_drewN|apply Kd.R_drew));exact HO209.out) hb);have n5_ := Aside0.mk (Kd.N_elder' (by (with_reducible repeat (first|apply Kd.N_alloc|apply Kd.N_drewN|apply Kd.N_drew));exact HO214.out) (Kd.R_base ho39) hb);have n6_ := Aside0.mk (Kd.R_elder' (by (with_reducible repeat (first|apply Kd.R_alloc|apply Kd.R_drewN|apply Kd.R_drew));exact HO217.out) (Kd.R_base ho39) hb);have n7_ := Aside0.mk (Kd.R_elder' (by (with_reducible repeat (first|apply Kd.R_alloc|apply Kd.R_drewN|apply Kd.R_drew));exact HO220.out) (Kd.R_base ho39) hb);have n8_ := Aside0.mk (Kd.R_lower (Kd.R_new' (Kd.R_new' (Kd.R_new' ho39 (Kd.R_lt (by (with_reducible repeat (first|apply Kd.R_alloc|apply Kd.R_drewN|apply Kd.R_drew));exact HO201.out))) (Kd.R_lt (by (with_reducible repeat (first|apply Kd.R_alloc|apply Kd.R_drewN|apply Kd.R_drew));exact HO217.out))) (Kd.R_lt (by (with_reducible repeat (first|apply Kd.R_alloc|apply Kd.R_drewN|apply Kd.R_drew));exact HO220.out))) (below_size (by repeat (first|(with_reducible first|exact HB.out|apply below_alloc|apply pw_below_drewN|apply below_drew1)|exact HB.out))));have n9_ := Aside0.mk (below_step (by repeat (first|(with_reducible first|exact HB.out|apply below_alloc|apply pw_below_drewN|apply below_drew1)|exact HB.out)) hb);clear HO192;clear HO197;clear HO201;clear HO204;clear HO209;clear HO214;clear HO217;clear HO220;clear HB;have HO192 := n0_;have HO197 := n1_;have HO201 := n2_;have HO204 := n3_;have HO209 := n4_;have HO214 := n5_;have HO217 := n6_;have HO220 := n7_;have HO223 := n8_;have HB := n9_;clear n0_ n1_ n2_ n3_ n4_ n5_ n6_ n7_ n8_ n9_;clear hb ho39;obtain ⟨Ao40,co40,eo40⟩ := Kd.R_slice HO220.out;subst eo40;obtain ⟨Ao41,co41,eo41⟩ := Kd.R_slice HO223.out;subst eo41)|((with_reducible refine gate_callee (f := 14) rfl ?_);refine goesL_ (some 42) rfl rfl Try.func14 (by kernel_rfl) rfl #[.slice Ao40 t218.length co40,.slice Ao41 y221.length co41] rfl (by (try simp only [List.map_toArray,List.map_cons,List.map_nil]);first|done|rfl|(simp only [List.length_drop,List.length_take];rfl)) ?_;(with_reducible refine (privityref05_Same.calls k _ _ t218 _ _ y221 true _ ?side1 ?side2 ?side3 ?side4 A7.out).mono ?_);(case side1 => repeat (first|exact (Kd.R_reads' HO220.out).2.2|(with_reducible refine Kd.C_alloc ?_ _)|(with_reducible refine Kd.C_drewN ?_ _)|(with_reducible refine Kd.C_drew ?_)));(case side2 => exact (Kd.R_reads' HO220.out).2.1);(case side3 => repeat (first|exact (Kd.R_reads' HO223.out).2.2|(with_reducible refine Kd.C_alloc ?_ _)|(with_reducible refine Kd.C_drewN ?_ _)|(with_reducible refine Kd.C_drew ?_)));(case side4 => exact (Kd.R_reads' HO223.out).2.1);rintro e w' ⟨rfl,⟨nd,rfl⟩⟩;refine ⟨_,rfl,?_⟩)|((with_reducible refine gate_dst (N := 53) rfl ?_);(try (refine gate_guard (by rfl) ?_;dsimp only));refine Kd.R_lit (Kd.int .u64) _ 22 ?hg (N := 53) ?hd (xs := ([9,28] : List Int)) (inner := [.int .u64 9,.int .u64 28]) (ok := fun _ => True) (okp := fun _ => True) ?hr ?hp (fun _ hk => hk) trivial (Below.refl _ _) (Nat.le_refl _) (by simp) ?_;(case hd => rfl);(case hg => rfl);(case hr => first|(go_simp;done)|(go_simp;rfl));(case hp => exact (Reps.one (show Kd.M (Kd.int .u64) _ _ _ 9 [.int .u64 9] from rfl) (Reps.one (show Kd.M (Kd.int .u64) _ _ _ 28 [.int .u64 28] from rfl) (Reps.none _ _))));intro v226 w42 ho43 hb hg_ hnew_;clear hg_ hnew_;(first|rw [← Ny225.out] at ho43|(simp only [Int.reduceToNat] at ho43;rw [← Ny225.out] at ho43));have n0_ := Aside0.mk (Kd.R_below (by (with_reducible repeat (first|apply Kd.R_alloc|apply Kd.R_drewN|apply Kd.R_drew));exact HO192.out) hb);have n1_ := Aside0.mk (Kd.R_below (by (with_reducible repeat (first|apply Kd.R_alloc|apply Kd.R_drewN|apply Kd.R_drew));exact HO197.out) hb);have n2_ := Aside0.mk (Kd.R_elder' (by (with_reducible repeat (first|apply Kd.R_alloc|apply Kd.R_drewN|apply Kd.R_drew));exact HO201.out) (Kd.R_base ho43) hb);have n3_ := Aside0.mk (Kd.R_below (by (with_reducible repeat (first|apply Kd.R_alloc|apply Kd.R_drewN|apply Kd.R_drew));exact HO204.out) hb);have n4_ := Aside0.mk (Kd.R_below (by (with_reducible repeat (first|apply Kd.R_alloc|apply Kd.R_drewN|apply Kd.R_drew));exact HO209.out) hb);have n5_ := Aside0.mk (Kd.N_elder' (by (with_reducible repeat (first|apply Kd.N_alloc|apply Kd.N_drewN|apply Kd.N_drew));exact HO214.out) (Kd.R_base ho43) hb);have n6_ := Aside0.mk (Kd.R_elder' (by (with_reducible repeat (first|apply Kd.R_alloc|apply Kd.R_drewN|apply Kd.R_drew));exact HO217.out) (Kd.R_base ho43) hb);have n7_ := Aside0.mk (Kd.R_elder' (by (with_reducible repeat (first|apply Kd.R_alloc|apply Kd.R_drewN|apply Kd.R_drew));exact HO220.out) (Kd.R_base ho43) hb);have n8_ := Aside0.mk (Kd.R_elder' (by (with_reducible repeat (first|apply Kd.R_alloc|apply Kd.R_drewN|apply Kd.R_drew));exact HO223.out) (Kd.R_base ho43) hb);have n9_ := Aside0.mk (Kd.R_lower (Kd.R_new' (Kd.R_new' (Kd.R_new' (Kd.R_new' ho43 (Kd.R_lt (by (with_reducible repeat (first|apply Kd.R_alloc|apply Kd.R_drewN|apply Kd.R_drew));exact HO201.out))) (Kd.R_lt (by (with_reducible repeat (first|apply Kd.R_alloc|apply Kd.R_drewN|apply Kd.R_drew));exact HO217.out))) (Kd.R_lt (by (with_reducible repeat (first|apply Kd.R_alloc|apply Kd.R_drewN|apply Kd.R_drew));exact HO220.out))) (Kd.R_lt (by (with_reducible repeat (first|apply Kd.R_alloc|apply Kd.R_drewN|apply Kd.R_drew));exact HO223.out))) (below_size (by repeat (first|(with_reducible first|exact HB.out|apply below_alloc|apply pw_below_drewN|apply below_drew1)|exact HB.out))));have n10_ := Aside0.mk (below_step (by repeat (first|(with_reducible first|exact HB.out|apply below_alloc|apply pw_below_drewN|apply below_drew1)|exact HB.out)) hb);clear HO192;clear HO197;clear HO201;clear HO204;clear HO209;clear HO214;clear HO217;clear HO220;clear HO223;clear HB;have HO192 := n0_;have HO197 := n1_;have HO201 := n2_;have HO204 := n3_;have HO209 := n4_;have HO214 := n5_;have HO217 := n6_;have HO220 := n7_;have HO223 := n8_;have HO227 := n9_;have HB := n10_;clear n0_ n1_ n2_ n3_ n4_ n5_ n6_ n7_ n8_ n9_ n10_;clear hb ho43;obtain ⟨Ao44,co44,eo44⟩ := Kd.R_slice HO201.out;subst eo44;obtain ⟨Ao45,co45,eo45⟩ := Kd.R_slice HO227.out;subst eo45)|(go_at_call 14;(with_reducible refine (privityref05_Same.calls k _ _ t198 _ _ y225 true _ ?side1 ?side2 ?side3 ?side4 A11.out).mono ?_);(case side1 => repeat (first|exact (Kd.R_reads' HO201.out).2.2|(with_reducible refine Kd.C_alloc ?_ _)|(with_reducible refine Kd.C_drewN ?_ _)|(with_reducible refine Kd.C_drew ?_)));(case side2 => exact (Kd.R_reads' HO201.out).2.1);(case side3 => repeat (first|exact (Kd.R_reads' HO227.out).2.2|(with_reducible refine Kd.C_alloc ?_ _)|(with_reducible refine Kd.C_drewN ?_ _)|(with_reducible refine Kd.C_drew ?_)));(case side4 => exact (Kd.R_reads' HO227.out).2.1);rintro e w' ⟨rfl,⟨nd,rfl⟩⟩)|((with_reducible refine gate_dst (N := 70) rfl ?_);(try (refine gate_guard (by rfl) ?_;dsimp only));refine Kd.R_lit (Kd.int .u64) _ 22 ?hg (N := 70) ?hd (xs := ([7,0] : List Int)) (inner := [.int .u64 7,.int .u64 0]) (ok := fun _ => True) (okp := fun _ => True) ?hr ?hp (fun _ hk => hk) trivial (Below.refl _ _) (Nat.le_refl _) (by simp) ?_;(case hd => rfl);(case hg => rfl);(case hr => first|(go_simp;done)|(go_simp;rfl));(case hp => exact (Reps.one (show Kd.M (Kd.int .u64) _ _ _ 7 [.int .u64 7] from rfl) (Reps.one (show Kd.M (Kd.int .u64) _ _ _ 0 [.int .u64 0] from rfl) (Reps.none _ _))));intro v230 w46 ho47 hb hg_ hnew_;clear hg_ hnew_;(first|rw [← Ny229.out] at ho47|(simp only [Int.reduceToNat] at ho47;rw [← Ny229.out] at ho47));have n0_ := Aside0.mk (Kd.R_below (by (with_reducible repeat (first|apply Kd.R_alloc|apply Kd.R_drewN|apply Kd.R_drew));exact HO192.out) hb);have n1_ := Aside0.mk (Kd.R_below (by (with_reducible repeat (first|apply Kd.R_alloc|apply Kd.R_drewN|apply Kd.R_drew));exact HO197.out) hb);have n2_ := Aside0.mk (Kd.R_elder' (by (with_reducible repeat (first|apply Kd.R_alloc|apply Kd.R_drewN|apply Kd.R_drew));exact HO201.out) (Kd.R_base ho47) hb);have n3_ := Aside0.mk (Kd.R_below (by (with_reducible repeat (first|apply Kd.R_alloc|apply Kd.R_drewN|apply Kd.R_drew));exact HO204.out) hb);have n4_ := Aside0.mk (Kd.R_below (by (with_reducible repeat (first|apply Kd.R_alloc|apply Kd.R_drewN|apply Kd.R_drew));exact HO209.out) hb);have n5_ := Aside0.mk (Kd.N_elder' (by (with_reducible repeat (first|apply Kd.N_alloc|apply Kd.N_drewN|apply Kd.N_drew));exact HO214.out) (Kd.R_base ho47) hb);have n6_ := Aside0.mk (Kd.R_elder' (by (with_reducible repeat (first|apply Kd.R_alloc|apply Kd.R_drewN|apply Kd.R_drew));exact HO217.out) (Kd.R_base ho47) hb);have n7_ := Aside0.mk (Kd.R_elder' (by (with_reducible repeat (first|apply Kd.R_alloc|apply Kd.R_drewN|apply Kd.R_drew));exact HO220.out) (Kd.R_base ho47) hb);have n8_ := Aside0.mk (Kd.R_elder' (by (with_reducible repeat (first|apply Kd.R_alloc|apply Kd.R_drewN|apply Kd.R_drew));exact HO223.out) (Kd.R_base ho47) hb);have n9_ := Aside0.mk (Kd.R_elder' (by (with_reducible repeat (first|apply Kd.R_alloc|apply Kd.R_drewN|apply Kd.R_drew));exact HO227.out) (Kd.R_base ho47) hb);have n10_ := Aside0.mk (Kd.R_lower (Kd.R_new' (Kd.R_new' (Kd.R_new' (Kd.R_new' (Kd.R_new' ho47 (Kd.R_lt (by (with_reducible repeat (first|apply Kd.R_alloc|apply Kd.R_drewN|apply Kd.R_drew));exact HO201.out))) (Kd.R_lt (by (with_reducible repeat (first|apply Kd.R_alloc|apply Kd.R_drewN|apply Kd.R_drew));exact HO217.out))) (Kd.R_lt (by (with_reducible repeat (first|apply Kd.R_alloc|apply Kd.R_drewN|apply Kd.R_drew));exact HO220.out))) (Kd.R_lt (by (with_reducible repeat (first|apply Kd.R_alloc|apply Kd.R_drewN|apply Kd.R_drew));exact HO223.out))) (Kd.R_lt (by (with_reducible repeat (first|apply Kd.R_alloc|apply Kd.R_drewN|apply Kd.R_drew));exact HO227.out))) (below_size (by repeat (first|(with_reducible first|exact HB.out|apply below_alloc|apply pw_below_drewN|apply below_drew1)|exact HB.out))));have n11_ := Aside0.mk (below_step (by repeat (first|(with_reducible first|exact HB.out|apply below_alloc|apply pw_below_drewN|apply below_drew1)|exact HB.out)) hb);clear HO192;clear HO197;clear HO201;clear HO204;clear HO209;clear HO214;clear HO217;clear HO220;clear HO223;clear HO227;clear HB;have HO192 := n0_;have HO197 := n1_;have HO201 := n2_;have HO204 := n3_;have HO209 := n4_;have HO214 := n5_;have HO217 := n6_;have HO220 := n7_;have HO223 := n8_;have HO227 := n9_;have HO231 := n10_;have HB := n11_;clear n0_ n1_ n2_ n3_ n4_ n5_ n6_ n7_ n8_ n9_ n10_ n11_;clear hb ho47)|((with_reducible refine gate_dst (N := 71) rfl ?_);(try (refine gate_guard (by rfl) ?_;dsimp only));refine Kd.R_lit (Kd.int .u64) _ 22 ?hg (N := 71) ?hd (xs := ([7,0] : List Int)) (inner := [.int .u64 7,.int .u64 0]) (ok := fun _ => True) (okp := fun _ => True) ?hr ?hp (fun _ hk => hk) trivial (Below.refl _ _) (Nat.le_refl _) (by simp) ?_;(case hd => rfl);(case hg => rfl);(case hr => first|(go_simp;done)|(go_simp;rfl));(case hp => exact (Reps.one (show Kd.M (Kd.int .u64) _ _ _ 7 [.int .u64 7] from rfl) (Reps.one (show Kd.M (Kd.int .u64) _ _ _ 0 [.int .u64 0] from rfl) (Reps.none _ _))));intro v233 w48 ho49 hb hg_ hnew_;clear hg_ hnew_;(first|rw [← Ny232.out] at ho49|(simp only [Int.reduceToNat] at ho49;rw [← Ny232.out] at ho49));have n0_ := Aside0.mk (Kd.R_below (by (with_reducible repeat (first|apply Kd.R_alloc|apply Kd.R_drewN|apply Kd.R_drew));exact HO192.out) hb);have n1_ := Aside0.mk (Kd.R_below (by (with_reducible repeat (first|apply Kd.R_alloc|apply Kd.R_drewN|apply Kd.R_drew));exact HO197.out) hb);have n2_ := Aside0.mk (Kd.R_elder' (by (with_reducible repeat (first|apply Kd.R_alloc|apply Kd.R_drewN|apply Kd.R_drew));exact HO201.out) (Kd.R_base ho49) hb);have n3_ := Aside0.mk (Kd.R_below (by (with_reducible repeat (first|apply Kd.R_alloc|apply Kd.R_drewN|apply Kd.R_drew));exact HO204.out) hb);have n4_ := Aside0.mk (Kd.R_below (by (with_reducible repeat (first|apply Kd.R_alloc|apply Kd.R_drewN|apply Kd.R_drew));exact HO209.out) hb);have n5_ := Aside0.mk (Kd.N_elder' (by (with_reducible repeat (first|apply Kd.N_alloc|apply Kd.N_drewN|apply Kd.N_drew));exact HO214.out) (Kd.R_base ho49) hb);have n6_ := Aside0.mk (Kd.R_elder' (by (with_reducible repeat (first|apply Kd.R_alloc|apply Kd.R_drewN|apply Kd.R_drew));exact HO217.out) (Kd.R_base ho49) hb);have n7_ := Aside0.mk (Kd.R_elder' (by (with_reducible repeat (first|apply Kd.R_alloc|apply Kd.R_drewN|apply Kd.R_drew));exact HO220.out) (Kd.R_base ho49) hb);have n8_ := Aside0.mk (Kd.R_elder' (by (with_reducible repeat (first|apply Kd.R_alloc|apply Kd.R_drewN|apply Kd.R_drew));exact HO223.out) (Kd.R_base ho49) hb);have n9_ := Aside0.mk (Kd.R_elder' (by (with_reducible repeat (first|apply Kd.R_alloc|apply Kd.R_drewN|apply Kd.R_drew));exact HO227.out) (Kd.R_base ho49) hb);have n10_ := Aside0.mk (Kd.R_elder' (by (with_reducible repeat (first|apply Kd.R_alloc|apply Kd.R_drewN|apply Kd.R_drew));exact HO231.out) (Kd.R_base ho49) hb);have n11_ := Aside0.mk (Kd.R_lower (Kd.R_new' (Kd.R_new' (Kd.R_new' (Kd.R_new' (Kd.R_new' (Kd.R_new' ho49 (Kd.R_lt (by (with_reducible repeat (first|apply Kd.R_alloc|apply Kd.R_drewN|apply Kd.R_drew));exact HO201.out))) (Kd.R_lt (by (with_reducible repeat (first|apply Kd.R_alloc|apply Kd.R_drewN|apply Kd.R_drew));exact HO217.out))) (Kd.R_lt (by (with_reducible repeat (first|apply Kd.R_alloc|apply Kd.R_drewN|apply Kd.R_drew));exact HO220.out))) (Kd.R_lt (by (with_reducible repeat (first|apply Kd.R_alloc|apply Kd.R_drewN|apply Kd.R_drew));exact HO223.out))) (Kd.R_lt (by (with_reducible repeat (first|apply Kd.R_alloc|apply Kd.R_drewN|apply Kd.R_drew));exact HO227.out))) (Kd.R_lt (by (with_reducible repeat (first|apply Kd.R_alloc|apply Kd.R_drewN|apply Kd.R_drew));exact HO231.out))) (below_size (by repeat (first|(with_reducible first|exact HB.out|apply below_alloc|apply pw_below_drewN|apply below_drew1)|exact HB.out))));have n12_ := Aside0.mk (below_step (by repeat (first|(with_reducible first|exact HB.out|apply below_alloc|apply pw_below_drewN|apply below_drew1)|exact HB.out)) hb);clear HO192;clear HO197;clear HO201;clear HO204;clear HO209;clear HO214;clear HO217;clear HO220;clear HO223;clear HO227;clear HO231;clear HB;have HO192 := n0_;have HO197 := n1_;have HO201 := n2_;have HO204 := n3_;have HO209 := n4_;have HO214 := n5_;have HO217 := n6_;have HO220 := n7_;have HO223 := n8_;have HO227 := n9_;have HO231 := n10_;have HO234 := n11_;have HB := n12_;clear n0_ n1_ n2_ n3_ n4_ n5_ n6_ n7_ n8_ n9_ n10_ n11_ n12_;clear hb ho49)|((with_reducible refine gate_dst (N := 72) rfl ?_);(try (refine gate_guard (by rfl) ?_;dsimp only));refine Kd.R_lit (Kd.int .u64) _ 22 ?hg (N := 72) ?hd (xs := ([7,0] : List Int)) (inner := [.int .u64 7,.int .u64 0]) (ok := fun _ => True) (okp := fun _ => True) ?hr ?hp (fun _ hk => hk) trivial (Below.refl _ _) (Nat.le_refl _) (by simp) ?_;(case hd => rfl);(case hg => rfl);(case hr => first|(go_simp;done)|(go_simp;rfl));(case hp => exact (Reps.one (show Kd.M (Kd.int .u64) _ _ _ 7 [.int .u64 7] from rfl) (Reps.one (show Kd.M (Kd.int .u64) _ _ _ 0 [.int .u64 0] from rfl) (Reps.none _ _))));intro v236 w50 ho51 hb hg_ hnew_;clear hg_ hnew_;(first|rw [← Ny235.out] at ho51|(simp only [Int.reduceToNat] at ho51;rw [← Ny235.out] at ho51));have n0_ := Aside0.mk (Kd.R_below (by (with_reducible repeat (first|apply Kd.R_alloc|apply Kd.R_drewN|apply Kd.R_drew));exact HO192.out) hb);have n1_ := Aside0.mk (Kd.R_below (by (with_reducible repeat (first|apply Kd.R_alloc|apply Kd.R_drewN|apply Kd.R_drew));exact HO197.out) hb);have n2_ := Aside0.mk (Kd.R_elder' (by (with_reducible repeat (first|apply Kd.R_alloc|apply Kd.R_drewN|apply Kd.R_drew));exact HO201.out) (Kd.R_base ho51) hb);have n3_ := Aside0.mk (Kd.R_below (by (with_reducible repeat (first|apply Kd.R_alloc|apply Kd.R_drewN|apply Kd.R_drew));exact HO204.out) hb);have n4_ := Aside0.mk (Kd.R_below (by (with_reducible repeat (first|apply Kd.R_alloc|apply Kd.R_drewN|apply Kd.R_drew));exact HO209.out) hb);have n5_ := Aside0.mk (Kd.N_elder' (by (with_reducible repeat (first|apply Kd.N_alloc|apply Kd.N_drewN|apply Kd.N_drew));exact HO214.out) (Kd.R_base ho51) hb);have n6_ := Aside0.mk (Kd.R_elder' (by (with_reducible repeat (first|apply Kd.R_alloc|apply Kd.R_drewN|apply Kd.R_drew));exact HO217.out) (Kd.R_base ho51) hb);have n7_ := Aside0.mk (Kd.R_elder' (by (with_reducible repeat (first|apply Kd.R_alloc|apply Kd.R_drewN|apply Kd.R_drew));exact HO220.out) (Kd.R_base ho51) hb);have n8_ := Aside0.mk (Kd.R_elder' (by (with_reducible repeat (first|apply Kd.R_alloc|apply Kd.R_drewN|apply Kd.R_drew));exact HO223.out) (Kd.R_base ho51) hb);have n9_ := Aside0.mk (Kd.R_elder' (by (with_reducible repeat (first|apply Kd.R_alloc|apply Kd.R_drewN|apply Kd.R_drew));exact HO227.out) (Kd.R_base ho51) hb);have n10_ := Aside0.mk (Kd.R_elder' (by (with_reducible repeat (first|apply Kd.R_alloc|apply Kd.R_drewN|apply Kd.R_drew));exact HO231.out) (Kd.R_base ho51) hb);have n11_ := Aside0.mk (Kd.R_elder' (by (with_reducible repeat (first|apply Kd.R_alloc|apply Kd.R_drewN|apply Kd.R_drew));exact HO234.out) (Kd.R_base ho51) hb);have n12_ := Aside0.mk (Kd.R_lower (Kd.R_new' (Kd.R_new' (Kd.R_new' (Kd.R_new' (Kd.R_new' (Kd.R_new' (Kd.R_new' ho51 (Kd.R_lt (by (with_reducible repeat (first|apply Kd.R_alloc|apply Kd.R_drewN|apply Kd.R_drew));exact HO201.out))) (Kd.R_lt (by (with_reducible repeat (first|apply Kd.R_alloc|apply Kd.R_drewN|apply Kd.R_drew));exact HO217.out))) (Kd.R_lt (by (with_reducible repeat (first|apply Kd.R_alloc|apply Kd.R_drewN|apply Kd.R_drew));exact HO220.out))) (Kd.R_lt (by (with_reducible repeat (first|apply Kd.R_alloc|apply Kd.R_drewN|apply Kd.R_drew));exact HO223.out))) (Kd.R_lt (by (with_reducible repeat (first|apply Kd.R_alloc|apply Kd.R_drewN|apply Kd.R_drew));exact HO227.out))) (Kd.R_lt (by (with_reducible repeat (first|apply Kd.R_alloc|apply Kd.R_drewN|apply Kd.R_drew));exact HO231.out))) (Kd.R_lt (by (with_reducible repeat (first|apply Kd.R_alloc|apply Kd.R_drewN|apply Kd.R_drew));exact HO234.out))) (below_size (by repeat (first|(with_reducible first|exact HB.out|apply below_alloc|apply pw_below_drewN|apply below_drew1)|exact HB.out))));have n13_ := Aside0.mk (below_step (by repeat (first|(with_reducible first|exact HB.out|apply below_alloc|apply pw_below_drewN|apply below_drew1)|exact HB.out)) hb);clear HO192;clear HO197;clear HO201;clear HO204;clear HO209;clear HO214;clear HO217;clear HO220;clear HO223;clear HO227;clear HO231;clear HO234;clear HB;have HO192 := n0_;have HO197 := n1_;have HO201 := n2_;have HO204 := n3_;have HO209 := n4_;have HO214 := n5_;have HO217 := n6_;have HO220 := n7_;have HO223 := n8_;have HO227 := n9_;have HO231 := n10_;have HO234 := n11_;have HO237 := n12_;have HB := n13_;clear n0_ n1_ n2_ n3_ n4_ n5_ n6_ n7_ n8_ n9_ n10_ n11_ n12_ n13_;clear hb ho51)|((with_reducible refine gate_dst (N := 73) rfl ?_);(try (refine gate_guard (by rfl) ?_;dsimp only));refine Kd.R_lit (Kd.int .u64) _ 22 ?hg (N := 73) ?hd (xs := ([7,0] : List Int)) (inner := [.int .u64 7,.int .u64 0]) (ok := fun _ => True) (okp := fun _ => True) ?hr ?hp (fun _ hk => hk) trivial (Below.refl _ _) (Nat.le_refl _) (by simp) ?_;(case hd => rfl);(case hg => rfl);(case hr => first|(go_simp;done)|(go_simp;rfl));(case hp => exact (Reps.one (show Kd.M (Kd.int .u64) _ _ _ 7 [.int .u64 7] from rfl) (Reps.one (show Kd.M (Kd.int .u64) _ _ _ 0 [.int .u64 0] from rfl) (Reps.none _ _))));intro v239 w52 ho53 hb hg_ hnew_;clear hg_ hnew_;(first|rw [← Ny238.out] at ho53|(simp only [Int.reduceToNat] at ho53;rw [← Ny238.out] at ho53));have n0_ := Aside0.mk (Kd.R_below (by (with_reducible repeat (first|apply Kd.R_alloc|apply Kd.R_drewN|apply Kd.R_drew));exact HO192.out) hb);have n1_ := Aside0.mk (Kd.R_below (by (with_reducible repeat (first|apply Kd.R_alloc|apply Kd.R_drewN|apply Kd.R_drew));exact HO197.out) hb);have n2_ := Aside0.mk (Kd.R_elder' (by (with_reducible repeat (first|apply Kd.R_alloc|apply Kd.R_drewN|apply Kd.R_drew));exact HO201.out) (Kd.R_base ho53) hb);have n3_ := Aside0.mk (Kd.R_below (by (with_reducible repeat (first|apply Kd.R_alloc|apply Kd.R_drewN|apply Kd.R_drew));exact HO204.out) hb);have n4_ := Aside0.mk (Kd.R_below (by (with_reducible repeat (first|apply Kd.R_alloc|apply Kd.R_drewN|apply Kd.R_drew));exact HO209.out) hb);have n5_ := Aside0.mk (Kd.N_elder' (by (with_reducible repeat (first|apply Kd.N_alloc|apply Kd.N_drewN|apply Kd.N_drew));exact HO214.out) (Kd.R_base ho53) hb);have n6_ := Aside0.mk (Kd.R_elder' (by (with_reducible repeat (first|apply Kd.R_alloc|apply Kd.R_drewN|apply Kd.R_drew));exact HO217.out) (Kd.R_base ho53) hb);have n7_ := Aside0.mk (Kd.R_elder' (by (with_reducible repeat (first|apply Kd.R_alloc|apply Kd.R_drewN|apply Kd.R_drew));exact HO220.out) (Kd.R_base ho53) hb);have n8_ := Aside0.mk (Kd.R_elder' (by (with_reducible repeat (first|apply Kd.R_alloc|apply Kd.R_drewN|apply Kd.R_drew));exact HO223.out) (Kd.R_base ho53) hb);have n9_ := Aside0.mk (Kd.R_elder' (by (with_reducible repeat (first|apply Kd.R_alloc|apply Kd.R_drewN|apply Kd.R_drew));exact HO227.out) (Kd.R_base ho53) hb);have n10_ := Aside0.mk (Kd.R_elder' (by (with_reducible repeat (first|apply Kd.R_alloc|apply Kd.R_drewN|apply Kd.R_drew));exact HO231.out) (Kd.R_base ho53) hb);have n11_ := Aside0.mk (Kd.R_elder' (by (with_reducible repeat (first|apply Kd.R_alloc|apply Kd.R_drewN|apply Kd.R_drew));exact HO234.out) (Kd.R_base ho53) hb);have n12_ := Aside0.mk (Kd.R_elder' (by (with_reducible repeat (first|apply Kd.R_alloc|apply Kd.R_drewN|apply Kd.R_drew));exact HO237.out) (Kd.R_base ho53) hb);have n13_ := Aside0.mk (Kd.R_lower (Kd.R_new' (Kd.R_new' (Kd.R_new' (Kd.R_new' (Kd.R_new' (Kd.R_new' (Kd.R_new' (Kd.R_new' ho53 (Kd.R_lt (by (with_reducible repeat (first|apply Kd.R_alloc|apply Kd.R_drewN|apply Kd.R_drew));exact HO201.out))) (Kd.R_lt (by (with_reducible repeat (first|apply Kd.R_alloc|apply Kd.R_drewN|apply Kd.R_drew));exact HO217.out))) (Kd.R_lt (by (with_reducible repeat (first|apply Kd.R_alloc|apply Kd.R_drewN|apply Kd.R_drew));exact HO220.out))) (Kd.R_lt (by (with_reducible repeat (first|apply Kd.R_alloc|apply Kd.R_drewN|apply Kd.R_drew));exact HO223.out))) (Kd.R_lt (by (with_reducible repeat (first|apply Kd.R_alloc|apply Kd.R_drewN|apply Kd.R_drew));exact HO227.out))) (Kd.R_lt (by (with_reducible repeat (first|apply Kd.R_alloc|apply Kd.R_drewN|apply Kd.R_drew));exact HO231.out))) (Kd.R_lt (by (with_reducible repeat (first|apply Kd.R_alloc|apply Kd.R_drewN|apply Kd.R_drew));exact HO234.out))) (Kd.R_lt (by (with_reducible repeat (first|apply Kd.R_alloc|apply Kd.R_drewN|apply Kd.R_drew));exact HO237.out))) (below_size (by repeat (first|(with_reducible first|exact HB.out|apply below_alloc|apply pw_below_drewN|apply below_drew1)|exact HB.out))));have n14_ := Aside0.mk (below_step (by repeat (first|(with_reducible first|exact HB.out|apply below_alloc|apply pw_below_drewN|apply below_drew1)|exact HB.out)) hb);clear HO192;clear HO197;clear HO201;clear HO204;clear HO209;clear HO214;clear HO217;clear HO220;clear HO223;clear HO227;clear HO231;clear HO234;clear HO237;clear HB;have HO192 := n0_;have HO197 := n1_;have HO201 := n2_;have HO204 := n3_;have HO209 := n4_;have HO214 := n5_;have HO217 := n6_;have HO220 := n7_;have HO223 := n8_;have HO227 := n9_;have HO231 := n10_;have HO234 := n11_;have HO237 := n12_;have HO240 := n13_;have HB := n14_;clear n0_ n1_ n2_ n3_ n4_ n5_ n6_ n7_ n8_ n9_ n10_ n11_ n12_ n13_ n14_;clear hb ho53;obtain ⟨Ao54,co54,eo54⟩ := Kd.R_slice HO231.out;subst eo54;obtain ⟨Ao55,co55,eo55⟩ := Kd.R_slice HO234.out;subst eo55;obtain ⟨Ao56,co56,eo56⟩ := Kd.R_slice HO237.out;subst eo56;obtain ⟨Ao57,co57,eo57⟩ := Kd.R_slice HO240.out;subst eo57)|((with_reducible refine gate_dst (N := 74) rfl ?_);(try (refine gate_guard (by rfl) ?_;dsimp only));refine Kd.N_lit (Kd.slice 22 (Kd.int .u64)) _ 23 ?hg (N' := 74) ?hd (xs := ([y229,y232,y235,y238] : List (List Int))) (inner := [.slice Ao54 y229.length co54,.slice Ao55 y232.length co55,.slice Ao56 y235.length co56,.slice Ao57 y238.length co57]) (ok := (fun k_ => some k_ ≠ (.slice Ao19 y190.length co19 : Value).ownBlock ∧ some k_ ≠ (.slice Ao23 y195.length co23 : Value).ownBlock ∧ some k_ ≠ (.slice Ao44 t198.length co44 : Value).ownBlock ∧ some k_ ≠ (.slice Ao27 y202.length co27 : Value).ownBlock ∧ some k_ ≠ (.slice Ao31 y207.length co31 : Value).ownBlock ∧ some k_ ≠ (v213 : Value).ownBlock ∧ some k_ ≠ (.slice Ao36 y215.length co36 : Value).ownBlock ∧ some k_ ≠ (.slice Ao40 t218.length co40 : Value).ownBlock ∧ some k_ ≠ (.slice Ao41 y221.length co41 : Value).ownBlock ∧ some k_ ≠ (.slice Ao45 y225.length co45 : Value).ownBlock)) (okp := (fun k_ => some k_ ≠ (.slice Ao19 y190.length co19 : Value).ownBlock ∧ some k_ ≠ (.slice Ao23 y195.length co23 : Value).ownBlock ∧ some k_ ≠ (.slice Ao44 t198.length co44 : Value).ownBlock ∧ some k_ ≠ (.slice Ao27 y202.length co27 : Value).ownBlock ∧ some k_ ≠ (.slice Ao31 y207.length co31 : Value).ownBlock ∧ some k_ ≠ (v213 : Value).ownBlock ∧ some k_ ≠ (.slice Ao36 y215.length co36 : Value).ownBlock ∧ some k_ ≠ (.slice Ao40 t218.length co40 : Value).ownBlock ∧ some k_ ≠ (.slice Ao41 y221.length co41 : Value).ownBlock ∧ some k_ ≠ (.slice Ao45 y225.length co45 : Value).ownBlock)) ?hr ?hp (fun _ hk => hk) ((show ∀ k_,w52.heap.size ≤ k_ → (fun k_ => some k_ ≠ (.slice Ao19 y190.length co19 : Value).ownBlock ∧ some k_ ≠ (.slice Ao23 y195.length co23 : Value).ownBlock ∧ some k_ ≠ (.slice Ao44 t198.length co44 : Value).ownBlock ∧ some k_ ≠ (.slice Ao27 y202.length co27 : Value).ownBlock ∧ some k_ ≠ (.slice Ao31 y207.length co31 : Value).ownBlock ∧ some k_ ≠ (v213 : Value).ownBlock ∧ some k_ ≠ (.slice Ao36 y215.length co36 : Value).ownBlock ∧ some k_ ≠ (.slice Ao40 t218.length co40 : Value).ownBlock ∧ some k_ ≠ (.slice Ao41 y221.length co41 : Value).ownBlock ∧ some k_ ≠ (.slice Ao45 y225.length co45 : Value).ownBlock) k_ from fun k_ hk => ⟨Kd.fresh' (Kd.R_lt (by (with_reducible repeat (first|apply Kd.R_alloc|apply Kd.R_drewN|apply Kd.R_drew));exact HO192.out)) k_ hk,Kd.fresh' (Kd.R_lt (by (with_reducible repeat (first|apply Kd.R_alloc|apply Kd.R_drewN|apply Kd.R_drew));exact HO197.out)) k_ hk,Kd.fresh' (Kd.R_lt (by (with_reducible repeat (first|apply Kd.R_alloc|apply Kd.R_drewN|apply Kd.R_drew));exact HO201.out)) k_ hk,Kd.fresh' (Kd.R_lt (by (with_reducible repeat (first|apply Kd.R_alloc|apply Kd.R_drewN|apply Kd.R_drew));exact HO204.out)) k_ hk,Kd.fresh' (Kd.R_lt (by (with_reducible repeat (first|apply Kd.R_alloc|apply Kd.R_drewN|apply Kd.R_drew));exact HO209.out)) k_ hk,Kd.fresh' (Kd.N_lt (by (with_reducible repeat (first|apply Kd.N_alloc|apply Kd.N_drewN|apply Kd.N_drew));exact HO214.out)) k_ hk,Kd.fresh' (Kd.R_lt (by (with_reducible repeat (first|apply Kd.R_alloc|apply Kd.R_drewN|apply Kd.R_drew));exact HO217.out)) k_ hk,Kd.fresh' (Kd.R_lt (by (with_reducible repeat (first|apply Kd.R_alloc|apply Kd.R_drewN|apply Kd.R_drew));exact HO220.out)) k_ hk,Kd.fresh' (Kd.R_lt (by (with_reducible repeat (first|apply Kd.R_alloc|apply Kd.R_drewN|apply Kd.R_drew));exact HO223.out)) k_ hk,Kd.fresh' (Kd.R_lt (by (with_reducible repeat (first|apply Kd.R_alloc|apply Kd.R_drewN|apply Kd.R_drew));exact HO227.out)) k_ hk⟩) _ (Nat.le_refl _)) (Below.refl _ _) (Nat.le_refl _) (by simp) ?_;(case hd => rfl);(case hg => rfl);(case hr => first|(go_simp;done)|(go_simp;rfl));(case hp => exact (Reps.one (show Kd.FK (Kd.slice 22 (Kd.int .u64)) _ _ y229 [.slice Ao54 y229.length co54] from (Kd.FK_slice_mk (Kd.R_reads' (Kd.R_mono (ok' := (fun k_ => some k_ ≠ (.slice Ao19 y190.length co19 : Value).ownBlock ∧ some k_ ≠ (.slice Ao23 y195.length co23 : Value).ownBlock ∧ some k_ ≠ (.slice Ao44 t198.length co44 : Value).ownBlock ∧ some k_ ≠ (.slice Ao27 y202.length co27 : Value).ownBlock ∧ some k_ ≠ (.slice Ao31 y207.length co31 : Value).ownBlock ∧ some k_ ≠ (v213 : Value).ownBlock ∧ some k_ ≠ (.slice Ao36 y215.length co36 : Value).ownBlock ∧ some k_ ≠ (.slice Ao40 t218.length co40 : Value).ownBlock ∧ some k_ ≠ (.slice Ao41 y221.length co41 : Value).ownBlock ∧ some k_ ≠ (.slice Ao45 y225.length co45 : Value).ownBlock)) (Kd.R_apart' (Kd.R_apart' (Kd.R_apart' (Kd.R_apart' (Kd.R_apart' (HO231.out) (Kd.R_typed HO192.out) (by decide)) (Kd.R_typed HO197.out) (by decide)) (Kd.R_typed HO204.out) (by decide)) (Kd.R_typed HO209.out) (by decide)) (Kd.N_typed HO214.out) (by decide)) (fun k_ hk => ⟨hk.1.1.1.1.2,⟨hk.1.1.1.2,⟨hk.1.1.1.1.1.1.1.1.1.1.1.1.2,⟨hk.1.1.2,⟨hk.1.2,⟨hk.2,⟨hk.1.1.1.1.1.1.1.1.1.1.1.2,⟨hk.1.1.1.1.1.1.1.1.1.1.2,⟨hk.1.1.1.1.1.1.1.1.1.2,hk.1.1.1.1.1.1.1.1.2⟩⟩⟩⟩⟩⟩⟩⟩⟩))).2.1 (Kd.R_F (Kd.R_mono (ok' := (fun k_ => some k_ ≠ (.slice Ao19 y190.length co19 : Value).ownBlock ∧ some k_ ≠ (.slice Ao23 y195.length co23 : Value).ownBlock ∧ some k_ ≠ (.slice Ao44 t198.length co44 : Value).ownBlock ∧ some k_ ≠ (.slice Ao27 y202.length co27 : Value).ownBlock ∧ some k_ ≠ (.slice Ao31 y207.length co31 : Value).ownBlock ∧ some k_ ≠ (v213 : Value).ownBlock ∧ some k_ ≠ (.slice Ao36 y215.length co36 : Value).ownBlock ∧ some k_ ≠ (.slice Ao40 t218.length co40 : Value).ownBlock ∧ some k_ ≠ (.slice Ao41 y221.length co41 : Value).ownBlock ∧ some k_ ≠ (.slice Ao45 y225.length co45 : Value).ownBlock)) (Kd.R_apart' (Kd.R_apart' (Kd.R_apart' (Kd.R_apart' (Kd.R_apart' (HO231.out) (Kd.R_typed HO192.out) (by decide)) (Kd.R_typed HO197.out) (by decide)) (Kd.R_typed HO204.out) (by decide)) (Kd.R_typed HO209.out) (by decide)) (Kd.N_typed HO214.out) (by decide)) (fun k_ hk => ⟨hk.1.1.1.1.2,⟨hk.1.1.1.2,⟨hk.1.1.1.1.1.1.1.1.1.1.1.1.2,⟨hk.1.1.2,⟨hk.1.2,⟨hk.2,⟨hk.1.1.1.1.1.1.1.1.1.1.1.2,⟨hk.1.1.1.1.1.1.1.1.1.1.2,⟨hk.1.1.1.1.1.1.1.1.1.2,hk.1.1.1.1.1.1.1.1.2⟩⟩⟩⟩⟩⟩⟩⟩⟩))))) (Reps.one (show Kd.FK (Kd.slice 22 (Kd.int .u64)) _ _ y232 [.slice Ao55 y232.length co55] from (Kd.FK_slice_mk (Kd.R_reads' (Kd.R_mono (ok' := (fun k_ => some k_ ≠ (.slice Ao19 y190.length co19 : Value).ownBlock ∧ some k_ ≠ (.slice Ao23 y195.length co23 : Value).ownBlock ∧ some k_ ≠ (.slice Ao44 t198.length co44 : Value).ownBlock ∧ some k_ ≠ (.slice Ao27 y202.length co27 : Value).ownBlock ∧ some k_ ≠ (.slice Ao31 y207.length co31 : Value).ownBlock ∧ some k_ ≠ (v213 : Value).ownBlock ∧ some k_ ≠ (.slice Ao36 y215.length co36 : Value).ownBlock ∧ some k_ ≠ (.slice Ao40 t218.length co40 : Value).ownBlock ∧ some k_ ≠ (.slice Ao41 y221.length co41 : Value).ownBlock ∧ some k_ ≠ (.slice Ao45 y225.length co45 : Value).ownBlock)) (Kd.R_apart' (Kd.R_apart' (Kd.R_apart' (Kd.R_apart' (Kd.R_apart' (HO234.out) (Kd.R_typed HO192.out) (by decide)) (Kd.R_typed HO197.out) (by decide)) (Kd.R_typed HO204.out) (by decide)) (Kd.R_typed HO209.out) (by decide)) (Kd.N_typed HO214.out) (by decide)) (fun k_ hk => ⟨hk.1.1.1.1.2,⟨hk.1.1.1.2,⟨hk.1.1.1.1.1.1.1.1.1.1.1.1.2,⟨hk.1.1.2,⟨hk.1.2,⟨hk.2,⟨hk.1.1.1.1.1.1.1.1.1.1.1.2,⟨hk.1.1.1.1.1.1.1.1.1.1.2,⟨hk.1.1.1.1.1.1.1.1.1.2,hk.1.1.1.1.1.1.1.1.2⟩⟩⟩⟩⟩⟩⟩⟩⟩))).2.1 (Kd.R_F (Kd.R_mono (ok' := (fun k_ => some k_ ≠ (.slice Ao19 y190.length co19 : Value).ownBlock ∧ some k_ ≠ (.slice Ao23 y195.length co23 : Value).ownBlock ∧ some k_ ≠ (.slice Ao44 t198.length co44 : Value).ownBlock ∧ some k_ ≠ (.slice Ao27 y202.length co27 : Value).ownBlock ∧ some k_ ≠ (.slice Ao31 y207.length co31 : Value).ownBlock ∧ some k_ ≠ (v213 : Value).ownBlock ∧ some k_ ≠ (.slice Ao36 y215.length co36 : Value).ownBlock ∧ some k_ ≠ (.slice Ao40 t218.length co40 : Value).ownBlock ∧ some k_ ≠ (.slice Ao41 y221.length co41 : Value).ownBlock ∧ some k_ ≠ (.slice Ao45 y225.length co45 : Value).ownBlock)) (Kd.R_apart' (Kd.R_apart' (Kd.R_apart' (Kd.R_apart' (Kd.R_apart' (HO234.out) (Kd.R_typed HO192.out) (by decide)) (Kd.R_typed HO197.out) (by decide)) (Kd.R_typed HO204.out) (by decide)) (Kd.R_typed HO209.out) (by decide)) (Kd.N_typed HO214.out) (by decide)) (fun k_ hk => ⟨hk.1.1.1.1.2,⟨hk.1.1.1.2,⟨hk.1.1.1.1.1.1.1.1.1.1.1.1.2,⟨hk.1.1.2,⟨hk.1.2,⟨hk.2,⟨hk.1.1.1.1.1.1.1.1.1.1.1.2,⟨hk.1.1.1.1.1.1.1.1.1.1.2,⟨hk.1.1.1.1.1.1.1.1.1.2,hk.1.1.1.1.1.1.1.1.2⟩⟩⟩⟩⟩⟩⟩⟩⟩))))) (Reps.one (show Kd.FK (Kd.slice 22 (Kd.int .u64)) _ _ y235 [.slice Ao56 y235.length co56] from (Kd.FK_slice_mk (Kd.R_reads' (Kd.R_mono (ok' := (fun k_ => some k_ ≠ (.slice Ao19 y190.length co19 : Value).ownBlock ∧ some k_ ≠ (.slice Ao23 y195.length co23 : Value).ownBlock ∧ some k_ ≠ (.slice Ao44 t198.length co44 : Value).ownBlock ∧ some k_ ≠ (.slice Ao27 y202.length co27 : Value).ownBlock ∧ some k_ ≠ (.slice Ao31 y207.length co31 : Value).ownBlock ∧ some k_ ≠ (v213 : Value).ownBlock ∧ some k_ ≠ (.slice Ao36 y215.length co36 : Value).ownBlock ∧ some k_ ≠ (.slice Ao40 t218.length co40 : Value).ownBlock ∧ some k_ ≠ (.slice Ao41 y221.length co41 : Value).ownBlock ∧ some k_ ≠ (.slice Ao45 y225.length co45 : Value).ownBlock)) (Kd.R_apart' (Kd.R_apart' (Kd.R_apart' (Kd.R_apart' (Kd.R_apart' (HO237.out) (Kd.R_typed HO192.out) (by decide)) (Kd.R_typed HO197.out) (by decide)) (Kd.R_typed HO204.out) (by decide)) (Kd.R_typed HO209.out) (by decide)) (Kd.N_typed HO214.out) (by decide)) (fun k_ hk => ⟨hk.1.1.1.1.2,⟨hk.1.1.1.2,⟨hk.1.1.1.1.1.1.1.1.1.1.1.1.2,⟨hk.1.1.2,⟨hk.1.2,⟨hk.2,⟨hk.1.1.1.1.1.1.1.1.1.1.1.2,⟨hk.1.1.1.1.1.1.1.1.1.1.2,⟨hk.1.1.1.1.1.1.1.1.1.2,hk.1.1.1.1.1.1.1.1.2⟩⟩⟩⟩⟩⟩⟩⟩⟩))).2.1 (Kd.R_F (Kd.R_mono (ok' := (fun k_ => some k_ ≠ (.slice Ao19 y190.length co19 : Value).ownBlock ∧ some k_ ≠ (.slice Ao23 y195.length co23 : Value).ownBlock ∧ some k_ ≠ (.slice Ao44 t198.length co44 : Value).ownBlock ∧ some k_ ≠ (.slice Ao27 y202.length co27 : Value).ownBlock ∧ some k_ ≠ (.slice Ao31 y207.length co31 : Value).ownBlock ∧ some k_ ≠ (v213 : Value).ownBlock ∧ some k_ ≠ (.slice Ao36 y215.length co36 : Value).ownBlock ∧ some k_ ≠ (.slice Ao40 t218.length co40 : Value).ownBlock ∧ some k_ ≠ (.slice Ao41 y221.length co41 : Value).ownBlock ∧ some k_ ≠ (.slice Ao45 y225.length co45 : Value).ownBlock)) (Kd.R_apart' (Kd.R_apart' (Kd.R_apart' (Kd.R_apart' (Kd.R_apart' (HO237.out) (Kd.R_typed HO192.out) (by decide)) (Kd.R_typed HO197.out) (by decide)) (Kd.R_typed HO204.out) (by decide)) (Kd.R_typed HO209.out) (by decide)) (Kd.N_typed HO214.out) (by decide)) (fun k_ hk => ⟨hk.1.1.1.1.2,⟨hk.1.1.1.2,⟨hk.1.1.1.1.1.1.1.1.1.1.1.1.2,⟨hk.1.1.2,⟨hk.1.2,⟨hk.2,⟨hk.1.1.1.1.1.1.1.1.1.1.1.2,⟨hk.1.1.1.1.1.1.1.1.1.1.2,⟨hk.1.1.1.1.1.1.1.1.1.2,hk.1.1.1.1.1.1.1.1.2⟩⟩⟩⟩⟩⟩⟩⟩⟩))))) (Reps.one (show Kd.FK (Kd.slice 22 (Kd.int .u64)) _ _ y238 [.slice Ao57 y238.length co57] from (Kd.FK_slice_mk (Kd.R_reads' (Kd.R_mono (ok' := (fun k_ => some k_ ≠ (.slice Ao19 y190.length co19 : Value).ownBlock ∧ some k_ ≠ (.slice Ao23 y195.length co23 : Value).ownBlock ∧ some k_ ≠ (.slice Ao44 t198.length co44 : Value).ownBlock ∧ some k_ ≠ (.slice Ao27 y202.length co27 : Value).ownBlock ∧ some k_ ≠ (.slice Ao31 y207.length co31 : Value).ownBlock ∧ some k_ ≠ (v213 : Value).ownBlock ∧ some k_ ≠ (.slice Ao36 y215.length co36 : Value).ownBlock ∧ some k_ ≠ (.slice Ao40 t218.length co40 : Value).ownBlock ∧ some k_ ≠ (.slice Ao41 y221.length co41 : Value).ownBlock ∧ some k_ ≠ (.slice Ao45 y225.length co45 : Value).ownBlock)) (Kd.R_apart' (Kd.R_apart' (Kd.R_apart' (Kd.R_apart' (Kd.R_apart' (HO240.out) (Kd.R_typed HO192.out) (by decide)) (Kd.R_typed HO197.out) (by decide)) (Kd.R_typed HO204.out) (by decide)) (Kd.R_typed HO209.out) (by decide)) (Kd.N_typed HO214.out) (by decide)) (fun k_ hk => ⟨hk.1.1.1.1.2,⟨hk.1.1.1.2,⟨hk.1.1.1.1.1.1.1.1.1.1.1.1.2,⟨hk.1.1.2,⟨hk.1.2,⟨hk.2,⟨hk.1.1.1.1.1.1.1.1.1.1.1.2,⟨hk.1.1.1.1.1.1.1.1.1.1.2,⟨hk.1.1.1.1.1.1.1.1.1.2,hk.1.1.1.1.1.1.1.1.2⟩⟩⟩⟩⟩⟩⟩⟩⟩))).2.1 (Kd.R_F (Kd.R_mono (ok' := (fun k_ => some k_ ≠ (.slice Ao19 y190.length co19 : Value).ownBlock ∧ some k_ ≠ (.slice Ao23 y195.length co23 : Value).ownBlock ∧ some k_ ≠ (.slice Ao44 t198.length co44 : Value).ownBlock ∧ some k_ ≠ (.slice Ao27 y202.length co27 : Value).ownBlock ∧ some k_ ≠ (.slice Ao31 y207.length co31 : Value).ownBlock ∧ some k_ ≠ (v213 : Value).ownBlock ∧ some k_ ≠ (.slice Ao36 y215.length co36 : Value).ownBlock ∧ some k_ ≠ (.slice Ao40 t218.length co40 : Value).ownBlock ∧ some k_ ≠ (.slice Ao41 y221.length co41 : Value).ownBlock ∧ some k_ ≠ (.slice Ao45 y225.length co45 : Value).ownBlock)) (Kd.R_apart' (Kd.R_apart' (Kd.R_apart' (Kd.R_apart' (Kd.R_apart' (HO240.out) (Kd.R_typed HO192.out) (by decide)) (Kd.R_typed HO197.out) (by decide)) (Kd.R_typed HO204.out) (by decide)) (Kd.R_typed HO209.out) (by decide)) (Kd.N_typed HO214.out) (by decide)) (fun k_ hk => ⟨hk.1.1.1.1.2,⟨hk.1.1.1.2,⟨hk.1.1.1.1.1.1.1.1.1.1.1.1.2,⟨hk.1.1.2,⟨hk.1.2,⟨hk.2,⟨hk.1.1.1.1.1.1.1.1.1.1.1.2,⟨hk.1.1.1.1.1.1.1.1.1.1.2,⟨hk.1.1.1.1.1.1.1.1.1.2,hk.1.1.1.1.1.1.1.1.2⟩⟩⟩⟩⟩⟩⟩⟩⟩))))) (Reps.none _ _))))));intro v242 w58 ho59 hb hg_ hnew_;clear hg_ hnew_;(first|rw [← Ny241.out] at ho59|(simp only [Int.reduceToNat] at ho59;rw [← Ny241.out] at ho59));have n0_ := Aside0.mk (Kd.R_below (by (with_reducible repeat (first|apply Kd.R_alloc|apply Kd.R_drewN|apply Kd.R_drew));exact HO192.out) hb);have n1_ := Aside0.mk (Kd.R_below (by (with_reducible repeat (first|apply Kd.R_alloc|apply Kd.R_drewN|apply Kd.R_drew));exact HO197.out) hb);have n2_ := Aside0.mk (Kd.R_below (by (with_reducible repeat (first|apply Kd.R_alloc|apply Kd.R_drewN|apply Kd.R_drew));exact HO201.out) hb);have n3_ := Aside0.mk (Kd.R_below (by (with_reducible repeat (first|apply Kd.R_alloc|apply Kd.R_drewN|apply Kd.R_drew));exact HO204.out) hb);have n4_ := Aside0.mk (Kd.R_below (by (with_reducible repeat (first|apply Kd.R_alloc|apply Kd.R_drewN|apply Kd.R_drew));exact HO209.out) hb);have n5_ := Aside0.mk (Kd.N_elder' (by (with_reducible repeat (first|apply Kd.N_alloc|apply Kd.N_drewN|apply Kd.N_drew));exact HO214.out) (Kd.N_base ho59) hb);have n6_ := Aside0.mk (Kd.R_below (by (with_reducible repeat (first|apply Kd.R_alloc|apply Kd.R_drewN|apply Kd.R_drew));exact HO217.out) hb);have n7_ := Aside0.mk (Kd.R_below (by (with_reducible repeat (first|apply Kd.R_alloc|apply Kd.R_drewN|apply Kd.R_drew));exact HO220.out) hb);have n8_ := Aside0.mk (Kd.R_below (by (with_reducible repeat (first|apply Kd.R_alloc|apply Kd.R_drewN|apply Kd.R_drew));exact HO223.out) hb);have n9_ := Aside0.mk (Kd.R_below (by (with_reducible repeat (first|apply Kd.R_alloc|apply Kd.R_drewN|apply Kd.R_drew));exact HO227.out) hb);have n10_ := Aside0.mk (Kd.N_lower ho59 (below_size (by repeat (first|(with_reducible first|exact HB.out|apply below_alloc|apply pw_below_drewN|apply below_drew1)|exact HB.out))));have n11_ := Aside0.mk (below_step (by repeat (first|(with_reducible first|exact HB.out|apply below_alloc|apply pw_below_drewN|apply below_drew1)|exact HB.out)) hb);clear HO192;clear HO197;clear HO201;clear HO204;clear HO209;clear HO214;clear HO217;clear HO220;clear HO223;clear HO227;clear HB;clear HO231;clear HO234;clear HO237;clear HO240;have HO192 := n0_;have HO197 := n1_;have HO201 := n2_;have HO204 := n3_;have HO209 := n4_;have HO214 := n5_;have HO217 := n6_;have HO220 := n7_;have HO223 := n8_;have HO227 := n9_;have HO243 := n10_;have HB := n11_;clear n0_ n1_ n2_ n3_ n4_ n5_ n6_ n7_ n8_ n9_ n10_ n11_;clear hb ho59;obtain ⟨Ao60,co60,eo60⟩ := Kd.N_slice HO214.out;subst eo60;obtain ⟨Ao61,co61,eo61⟩ := Kd.N_slice HO243.out;subst eo61)|(go_at_call 30;(with_reducible refine (privityref09_Same.calls k _ _ t212 _ _ y241 t244 _ ?side1 ?side2 ?side3 ?side4 A16.out).mono ?_);(case side1 => repeat (first|exact (Kd.N_reads' HO214.out).2.2|(with_reducible refine Kd.C_alloc ?_ _)|(with_reducible refine Kd.C_drewN ?_ _)|(with_reducible refine Kd.C_drew ?_)));(case side2 => exact (Kd.N_reads' HO214.out).2.1);(case side3 => repeat (first|exact (Kd.N_reads' HO243.out).2.2|(with_reducible refine Kd.C_alloc ?_ _)|(with_reducible refine Kd.C_drewN ?_ _)|(with_reducible refine Kd.C_drew ?_)));(case side4 => exact (Kd.N_reads' HO243.out).2.1);rintro e w' ⟨rfl,⟨nd,rfl⟩⟩))
        go_ret
        exact ⟨by first|rfl|(simp [errW_none,errW_some] <;> rfl)|(simp [*,errW_none,errW_some] <;> rfl),by repeat (first|(with_reducible first|exact HB.out|apply below_alloc|apply pw_below_drewN|apply below_drew1)|exact HB.out)⟩
       ·rw [if_neg c15] at H
        have c15b0 : (t211 == 9) = false := beq_eq_false_iff_ne.mpr c15
        have c15b1 : (t211 != 9) = true := bne_iff_ne.mpr c15
        exact absurd (Option.some.inj H) (by rw [HR1.out]; simp)
      ·rw [if_neg c14] at H
       have c14b0 : (t206 == 1) = false := beq_eq_false_iff_ne.mpr c14
       have c14b1 : (t206 != 1) = true := bne_iff_ne.mpr c14
       exact absurd (Option.some.inj H) (by rw [HR1.out]; simp)
     ·rw [if_neg c13] at H
      have c13b0 : (t199 == 0) = false := beq_eq_false_iff_ne.mpr c13
      have c13b1 : (t199 != 0) = true := bne_iff_ne.mpr c13
      exact absurd (Option.some.inj H) (by rw [HR1.out]; simp)
    ·replace c12 := Bool.eq_false_iff.mpr c12
     subst c12
     have H1 : (some false) = some r := by rw [if_neg (show ¬ (false = true) by decide)] at H;exact H
     clear H
     have H := H1
     clear H1
     exact absurd (Option.some.inj H) (by rw [HR1.out]; simp)
   ·rw [if_neg c10] at H
    have c10b0 : (t194 == 0) = false := beq_eq_false_iff_ne.mpr c10
    have c10b1 : (t194 != 0) = true := bne_iff_ne.mpr c10
    exact absurd (Option.some.inj H) (by rw [HR1.out]; simp)
  ·rw [if_neg c9] at H
   have c9b0 : (t193 == 5) = false := beq_eq_false_iff_ne.mpr c9
   have c9b1 : (t193 != 5) = true := bne_iff_ne.mpr c9
   exact absurd (Option.some.inj H) (by rw [HR1.out]; simp)
 ·replace c8 := Bool.eq_false_iff.mpr c8
  subst c8
  have H1 : (some false) = some r := by rw [if_neg (show ¬ (false = true) by decide)] at H;exact H
  clear H
  have H := H1
  clear H1
  exact absurd (Option.some.inj H) (by rw [HR1.out]; simp)
end Go.Proofs.Ytiaajmiphnjgaaa.Pr
end
