/- Part 7 of the proof's texts, joined in build order. -/
import Derived.Test.YtkhdocabgmemiaaZPerfectSecrecy2
import Derived.Test.YtkhdocabgmemiaaZPerfectSecrecy6
section
/- Printed by a program of this seat (the kit's printer, with the functions that were proved by hand given to it). What stands here: the functions that the statements reach, as plain functions, and that the Go code computes them. -/
namespace Go.Proofs.Ytkhdocabgmemiaa.Pr
open Go.RowKit Go.Proofs.YtkhdocabgmemiaaW.PrintWords Go.Proofs.YtkhdocabgmemiaaW.PrintLast Go.Proofs.YtkhdocabgmemiaaW.PrintMore
attribute [local go_sem] max2_int min2_int max_two min_two max_three min_three max_four min_four   -- for this text's walks alone
set_option linter.unusedVariables false
set_option linter.unusedSimpArgs false

open Go.Proofs.Ytkhdocabgmemiaa.Hw
/-! ### privityref01_Exponent: function 73 -/
def privityref01_Exponent.l0 : Nat → Int → List Int → Int → Option (Int)
 | 0,_,_,_ => none
 | k + 1,x0,x3,x4 => if x4 < (x3.length : Int) then (if 0 ≤ x4 then (if 0 ≤ (IntKind.u64.wrap (rd x3 x4)) then (if x0 = (IntKind.u64.wrap ((shl .u64 1 (IntKind.u64.wrap (rd x3 x4))) - 1)) then (some (rd x3 x4)) else (privityref01_Exponent.l0 k x0 x3 (wrap64 (x4 + 1)))) else (none)) else (none)) else (some 0)
def privityref01_Exponent.f (k : Nat) (a0 : Int) : Option (Int) := (privityref01_exps.f).bind fun t353 => (privityref01_Exponent.l0 k a0 t353 0)
theorem privityref01_Exponent.mono_l : ∀ k, (∀ y0 y1 y2, LeO (privityref01_Exponent.l0 k y0 y1 y2) (privityref01_Exponent.l0 (k + 1) y0 y1 y2))
 | 0 => fun _ _ _ r h => by simp [privityref01_Exponent.l0] at h
 | k + 1 => by
  have ih0 := privityref01_Exponent.mono_l k
  ·intro y0 y1 y2
   unfold privityref01_Exponent.l0
   repeat' first
   | (with_reducible exact ih0 _ _ _)
   | (with_reducible exact LeO.refl _)
   | (with_reducible exact LeO.none _)
   | (with_reducible refine LeO.ite ?_ ?_)
   | (with_reducible refine LeO.bind ?_ (fun _ => ?_))
   | exact ih0 _ _ _
   | exact LeO.none _
   | refine LeO.ite ?_ ?_
   | refine LeO.bind ?_ (fun _ => ?_)
theorem privityref01_Exponent.mono : ∀ a0 k, LeO (privityref01_Exponent.f k a0) (privityref01_Exponent.f (k + 1) a0) := by
 intro a0 k
 have ih0 := privityref01_Exponent.mono_l k
 unfold privityref01_Exponent.f
 repeat' first
   | (with_reducible exact ih0 _ _ _)
   | (with_reducible exact LeO.refl _)
   | (with_reducible exact LeO.none _)
   | (with_reducible refine LeO.ite ?_ ?_)
   | (with_reducible refine LeO.bind ?_ (fun _ => ?_))
   | exact ih0 _ _ _
   | exact LeO.none _
   | refine LeO.ite ?_ ?_
   | refine LeO.bind ?_ (fun _ => ?_)
set_option maxHeartbeats 8000000 in
set_option maxRecDepth 100000 in
theorem privityref01_Exponent.calls (k : Nat) (a0 : Int) (r : Int) (w : World) (h : privityref01_Exponent.f k a0 = some r) :
  Calls Try.prog 73 #[.int .u64 a0] w fun e w' => e = .returned (.int .i64 r) ∧ Below w.heap.size w w' := by
 have HB := Aside0.mk (Below.refl w.heap.size w)
 have H : ((privityref01_exps.f).bind fun t353 => (privityref01_Exponent.l0 k a0 t353 0)) = some r := h
 clear h
 replace H := Option.bind_eq_some_iff.mp H
 obtain ⟨t353,A20,H⟩ := H
 replace H : (privityref01_Exponent.l0 k a0 t353 0) = some r := H
 have A2 := Aside0.mk A20
 clear A20
 have H' := Aside0.mk H
 clear H
 go_enter Try.func73,Try.ntmps73
 go_wp2_with (first|((with_reducible refine gate_callee (f := 85) rfl ?_);refine goesL_ (some 5) rfl rfl Try.func85 (by kernel_rfl) rfl #[] rfl (by (try simp only [List.map_toArray,List.map_cons,List.map_nil]);first|done|rfl|(simp only [List.length_drop,List.length_take];rfl)) ?_;(with_reducible refine (privityref01_exps.calls  t353 _ A2.out).mono ?_);rintro e w3 ⟨v354,rfl,ho0,hb⟩;refine ⟨_,rfl,?_⟩;have n0_ := Aside0.mk (Kd.R_lower ho0 (below_size (by repeat (first|(with_reducible first|exact HB.out|apply below_alloc|apply pw_below_drewN|apply below_drew1)|exact HB.out))));have n1_ := Aside0.mk (below_step (by repeat (first|(with_reducible first|exact HB.out|apply below_alloc|apply pw_below_drewN|apply below_drew1)|exact HB.out)) hb);clear HB;have HO355 := n0_;have HB := n1_;clear n0_ n1_;(try clear hb);(try clear hb2);(try clear hk);(try clear hi);(try clear ho0)))
 go_loopg [4] k (fun kq v4 w' => ∃ (x4_1 : Int),v4 = .int .i64 x4_1 ∧ Aside0 (privityref01_Exponent.l0 kq a0 t353 x4_1 = some r) ∧ Aside0 (kq ≤ k) ∧ Aside0 (Kd.R (Kd.int .i64) 3 w' w.heap.size (fun _ => True) v354 t353) ∧ Aside0 (Below w.heap.size w w'))
 case atStart => exact ⟨(0),(by first|rfl|(simp;done)|(simp [*];done)),H',⟨Nat.le_refl _⟩,⟨by (with_reducible repeat (first|apply Kd.R_alloc|apply Kd.R_drewN|apply Kd.R_drew));exact HO355.out⟩,⟨by repeat (first|(with_reducible first|exact HB.out|apply below_alloc|apply pw_below_drewN|apply below_drew1)|exact HB.out)⟩⟩
 case round =>
  clear H'
  try clear p2
  obtain ⟨x4_1,rfl,HA,HK1,HO_3,HB⟩ := hrel
  cases gk with
  | zero => exact absurd HA.out (by simp [privityref01_Exponent.l0])
  | succ k1 =>
   have H := HA.out
   clear HA
   simp only [privityref01_Exponent.l0] at H
   by_cases c4 : x4_1 < (t353.length : Int)
   ·rw [if_pos c4] at H
    have c4b0 : decide (x4_1 < (t353.length : Int)) = true := decide_eq_true c4
    clear c4
    by_cases c5 : 0 ≤ x4_1
    ·rw [if_pos c5] at H
     have c5b0 : decide (0 ≤ x4_1) = true := decide_eq_true c5
     clear c5
     obtain ⟨ji6,hji6⟩ : ∃ j_ : Int,(IntKind.u64.wrap (rd t353 x4_1)) = j_ := ⟨_,rfl⟩
     replace H : (if 0 ≤ (ji6) then (if a0 = (IntKind.u64.wrap ((shl .u64 1 (ji6)) - 1)) then (some (rd t353 x4_1)) else (privityref01_Exponent.l0 k1 a0 t353 (wrap64 (x4_1 + 1)))) else (none)) = some r := by first|(rw [hji6] at H;exact H)|(simp only [hji6] at H ⊢;exact H)
     by_cases c7 : 0 ≤ (ji6)
     ·rw [if_pos c7] at H
      have c7b0 := eq_true c7
      have c7b1 : decide (0 ≤ (ji6)) = true := decide_eq_true c7
      clear c7
      obtain ⟨ji8,hji8⟩ : ∃ j_ : Int,(shl .u64 1 (ji6)) = j_ := ⟨_,rfl⟩
      replace H : (if a0 = (IntKind.u64.wrap ((ji8) - 1)) then (some (rd t353 x4_1)) else (privityref01_Exponent.l0 k1 a0 t353 (wrap64 (x4_1 + 1)))) = some r := by first|(rw [hji8] at H;exact H)|(simp only [hji8] at H ⊢;exact H)
      have hji8_ : (IntKind.u64.wrap (1 * 2 ^ min (ji6).toNat 64)) = ji8 := hji8
      have hji8z : (ji6) ≤ 64 → (IntKind.u64.wrap (1 * 2 ^ (ji6).toNat)) = ji8 := shl_small hji8
      have hji8u : (IntKind.u64.wrap (2 ^ min (ji6).toNat 64)) = ji8 := by have h_ := hji8_;rw [Int.one_mul] at h_;exact h_
      have hji8v : (ji6) ≤ 64 → (IntKind.u64.wrap (2 ^ (ji6).toNat)) = ji8 := fun hle_ => by have h_ := hji8z hle_;rw [Int.one_mul] at h_;exact h_
      by_cases c9 : a0 = (IntKind.u64.wrap ((ji8) - 1))
      ·rw [if_pos c9] at H
       have c9b0 : (a0 == (IntKind.u64.wrap ((ji8) - 1))) = true := beq_iff_eq.mpr c9
       have c9b1 : (a0 != (IntKind.u64.wrap ((ji8) - 1))) = false := bne_eq_false_iff_eq.mpr c9
       clear c9
       obtain rfl := Option.some.inj H
       obtain ⟨Ao10,co10,eo10⟩ := Kd.R_slice HO_3.out
       subst eo10
       have p356 : 0 ≤ (x4_1 : Int) := of_decide_eq_true (by first|(with_reducible assumption)|assumption)
       have q356 : x4_1 < (t353.length : Int) := of_decide_eq_true (by first|(with_reducible assumption)|assumption)
       obtain ⟨ad356,e356,hx356_0⟩ := Kd.at_int (Kd.R_reads' HO_3.out).2.2 x4_1 p356 q356
       cases e356
       replace p356 := eq_true p356
       replace q356 := eq_true q356
       have p357 : 0 ≤ (x4_1 : Int) := of_decide_eq_true (by first|(with_reducible assumption)|assumption)
       have q357 : x4_1 < (t353.length : Int) := of_decide_eq_true (by first|(with_reducible assumption)|assumption)
       obtain ⟨ad357,e357,hx357_0⟩ := Kd.at_int (Kd.R_reads' HO_3.out).2.2 x4_1 p357 q357
       obtain rfl : ad356 = ad357 := (by injection e357)
       replace p357 := eq_true p357
       replace q357 := eq_true q357
       go_wp2
       go_ret
       exact ⟨by first|rfl|(simp [errW_none,errW_some] <;> rfl)|(simp only [← hji6,← hji8];first|rfl|(simp [errW_none,errW_some] <;> rfl))|(simp [*,errW_none,errW_some] <;> rfl),by repeat (first|(with_reducible first|exact HB.out|apply below_alloc|apply pw_below_drewN|apply below_drew1)|exact HB.out)⟩
      ·rw [if_neg c9] at H
       have c9b0 : (a0 == (IntKind.u64.wrap ((ji8) - 1))) = false := beq_eq_false_iff_ne.mpr c9
       have c9b1 : (a0 != (IntKind.u64.wrap ((ji8) - 1))) = true := bne_iff_ne.mpr c9
       have H' := Aside0.mk H
       clear H
       obtain ⟨Ao11,co11,eo11⟩ := Kd.R_slice HO_3.out
       subst eo11
       have p356 : 0 ≤ (x4_1 : Int) := of_decide_eq_true (by first|(with_reducible assumption)|assumption)
       have q356 : x4_1 < (t353.length : Int) := of_decide_eq_true (by first|(with_reducible assumption)|assumption)
       obtain ⟨ad356,e356,hx356_0⟩ := Kd.at_int (Kd.R_reads' HO_3.out).2.2 x4_1 p356 q356
       cases e356
       replace p356 := eq_true p356
       replace q356 := eq_true q356
       go_wp2
       go_roundg k1
       case measure => have := HK1.out;omega
       case rel => exact ⟨(wrap64 (x4_1 + 1)),(by first|rfl|(simp;done)|(simp [*];done)),H',⟨by have := HK1.out;omega⟩,⟨by (with_reducible repeat (first|apply Kd.R_alloc|apply Kd.R_drewN|apply Kd.R_drew));exact HO_3.out⟩,⟨by repeat (first|(with_reducible first|exact HB.out|apply below_alloc|apply pw_below_drewN|apply below_drew1)|exact HB.out)⟩⟩
     ·rw [if_neg c7] at H
      exact absurd H (by simp)
    ·rw [if_neg c5] at H
     exact absurd H (by simp)
   ·rw [if_neg c4] at H
    have c4b0 : decide (x4_1 < (t353.length : Int)) = false := decide_eq_false c4
    clear c4
    obtain rfl := Option.some.inj H
    obtain ⟨Ao12,co12,eo12⟩ := Kd.R_slice HO_3.out
    subst eo12
    go_wp2
    go_ret
    exact ⟨by first|rfl|(simp [errW_none,errW_some] <;> rfl)|(simp [*,errW_none,errW_some] <;> rfl),by repeat (first|(with_reducible first|exact HB.out|apply below_alloc|apply pw_below_drewN|apply below_drew1)|exact HB.out)⟩
/-! ### privityref01_Supported: function 64 -/
def privityref01_Supported.f (k : Nat) (a0 : Int) : Option (Bool) := (privityref01_Exponent.f k a0).bind fun t358 => (some (decide (t358 > 0)))
theorem privityref01_Supported.mono : ∀ a0 k, LeO (privityref01_Supported.f k a0) (privityref01_Supported.f (k + 1) a0) := by
 intro a0 k
 unfold privityref01_Supported.f
 repeat' first
   | (with_reducible exact privityref01_Exponent.mono _ _)
   | (with_reducible exact LeO.refl _)
   | (with_reducible exact LeO.none _)
   | (with_reducible refine LeO.ite ?_ ?_)
   | (with_reducible refine LeO.bind ?_ (fun _ => ?_))
   | exact privityref01_Exponent.mono _ _
   | exact LeO.none _
   | refine LeO.ite ?_ ?_
   | refine LeO.bind ?_ (fun _ => ?_)
set_option maxHeartbeats 8000000 in
set_option maxRecDepth 100000 in
theorem privityref01_Supported.calls (k : Nat) (a0 : Int) (r : Bool) (w : World) (h : privityref01_Supported.f k a0 = some r) :
  Calls Try.prog 64 #[.int .u64 a0] w fun e w' => e = .returned (.bool r) ∧ Below w.heap.size w w' := by
 have HB := Aside0.mk (Below.refl w.heap.size w)
 have H : ((privityref01_Exponent.f k a0).bind fun t358 => (some (decide (t358 > 0)))) = some r := h
 clear h
 replace H := Option.bind_eq_some_iff.mp H
 obtain ⟨t358,A20,H⟩ := H
 replace H : (some (decide (t358 > 0))) = some r := H
 have A2 := Aside0.mk A20
 clear A20
 obtain rfl := Option.some.inj H
 go_enter Try.func64,Try.ntmps64
 go_wp2_with (first|((with_reducible refine gate_callee (f := 73) rfl ?_);refine goesL_ (some 4) rfl rfl Try.func73 (by kernel_rfl) rfl #[.int .u64 a0] rfl (by (try simp only [List.map_toArray,List.map_cons,List.map_nil]);first|done|rfl|(simp only [List.length_drop,List.length_take];rfl)) ?_;(with_reducible refine (privityref01_Exponent.calls k a0 t358 _ A2.out).mono ?_);rintro e w3 ⟨rfl,hb⟩;refine ⟨_,rfl,?_⟩;have n0_ := Aside0.mk (below_step (by repeat (first|(with_reducible first|exact HB.out|apply below_alloc|apply pw_below_drewN|apply below_drew1)|exact HB.out)) hb);clear HB;have HB := n0_;clear n0_;(try clear hb);(try clear hb2);(try clear hk);(try clear hi)))
 go_ret
 exact ⟨by first|rfl|(simp [errW_none,errW_some] <;> rfl)|(simp [*,errW_none,errW_some] <;> rfl),by repeat (first|(with_reducible first|exact HB.out|apply below_alloc|apply pw_below_drewN|apply below_drew1)|exact HB.out)⟩
/-! ### privityref06_Fair: function 48 -/
mutual
def privityref06_Fair.j0 : Nat → Int → List (List Int) → Int → Bool → Option (Bool)
 | 0,_,_,_,_ => none
 | k + 1,x0,x1,x2,x16 => if x16 = true then (some false) else (privityref06_Fair.l0 k x0 x1 x2 0)
def privityref06_Fair.l0 : Nat → Int → List (List Int) → Int → Int → Option (Bool)
 | 0,_,_,_,_ => none
 | k + 1,x0,x1,x2,x7 => if x7 < (x1.length : Int) then (if 0 ≤ x7 then ((privityref06_Below.f k x0 (rd_L1 x1 x7) x2).bind fun t361 => (if t361 = true then (privityref06_Fair.l0 k x0 x1 x2 (wrap64 (x7 + 1))) else (some false))) else (none)) else (some true)
end
def privityref06_Fair.f (k : Nat) (a0 : Int) (l1 : List (List Int)) (a2 : Int) : Option (Bool) := (privityref01_Supported.f k a0).bind fun t359 => (if t359 = true then (privityref06_Fair.j0 k a0 l1 a2 (decide ((l1.length : Int) > a2))) else (privityref06_Fair.j0 k a0 l1 a2 true))
set_option maxHeartbeats 8000000 in
set_option maxRecDepth 100000 in
theorem privityref06_Fair.calls (k : Nat) (a0 : Int) (A1 : Option Addr) (c1 : Nat) (l1 : List (List Int)) (a2 : Int) (r : Bool) (w : World) (hr1 : Kd.C (Kd.slice 31 (Kd.int .u64)) w A1 l1.length l1) (hc1 : l1.length ≤ c1) (h : privityref06_Fair.f k a0 l1 a2 = some r) :
  Calls Try.prog 48 #[.int .u64 a0,.slice A1 l1.length c1,.int .i64 a2] w fun e w' => e = .returned (.bool r) ∧ Below w.heap.size w w' := by
 have HR1 := Aside0.mk hr1
 have HC1 := Aside0.mk hc1
 clear hr1 hc1
 have HB := Aside0.mk (Below.refl w.heap.size w)
 have H : ((privityref01_Supported.f k a0).bind fun t359 => (if t359 = true then (privityref06_Fair.j0 k a0 l1 a2 (decide ((l1.length : Int) > a2))) else (privityref06_Fair.j0 k a0 l1 a2 true))) = some r := h
 clear h
 have HC4 := Aside0.mk H
 clear H
 go_enter Try.func48,Try.ntmps48
 go_upto_region 1 with (fail)
 go_cut [16] (fun v16 wc => ∃ (kq : Nat) (x16_3 : Bool),v16 = .bool x16_3 ∧ Aside0 (privityref06_Fair.j0 kq a0 l1 a2 x16_3 = some r) ∧ Aside0 (kq ≤ k) ∧ Aside0 (Below w.heap.size w wc))
 case first =>
  have H := HC4.out
  clear HC4
  replace H := Option.bind_eq_some_iff.mp H
  obtain ⟨t359,A50,H⟩ := H
  replace H : (if t359 = true then (privityref06_Fair.j0 k a0 l1 a2 (decide ((l1.length : Int) > a2))) else (privityref06_Fair.j0 k a0 l1 a2 true)) = some r := H
  have A5 := Aside0.mk A50
  clear A50
  by_cases c6 : t359 = true
  ·subst c6
   have H1 : (privityref06_Fair.j0 k a0 l1 a2 (decide ((l1.length : Int) > a2))) = some r := by rw [if_pos rfl] at H;exact H
   clear H
   have H := H1
   clear H1
   have H' := Aside0.mk H
   clear H
   go_wp2_with (first|((with_reducible refine gate_callee (f := 64) rfl ?_);refine goesL_ (some 9) rfl rfl Try.func64 (by kernel_rfl) rfl #[.int .u64 a0] rfl (by (try simp only [List.map_toArray,List.map_cons,List.map_nil]);first|done|rfl|(simp only [List.length_drop,List.length_take];rfl)) ?_;(with_reducible refine (privityref01_Supported.calls k a0 true _ A5.out).mono ?_);rintro e w7 ⟨rfl,hb⟩;refine ⟨_,rfl,?_⟩;have n0_ := Aside0.mk (below_step (by repeat (first|(with_reducible first|exact HB.out|apply below_alloc|apply pw_below_drewN|apply below_drew1)|exact HB.out)) hb);clear HB;have HB := n0_;clear n0_;(try clear hb);(try clear hb2);(try clear hk);(try clear hi)))
   go_meet
   case rel => exact ⟨_,(decide ((l1.length : Int) > a2)),(by first|rfl|(simp;done)|(simp [*];done)),H',⟨by first|omega|exact Nat.le_refl _⟩,⟨by repeat (first|(with_reducible first|exact HB.out|apply below_alloc|apply pw_below_drewN|apply below_drew1)|exact HB.out)⟩⟩
  ·replace c6 := Bool.eq_false_iff.mpr c6
   subst c6
   have H1 : (privityref06_Fair.j0 k a0 l1 a2 true) = some r := by rw [if_neg (show ¬ (false = true) by decide)] at H;exact H
   clear H
   have H := H1
   clear H1
   have H' := Aside0.mk H
   clear H
   go_wp2_with (first|((with_reducible refine gate_callee (f := 64) rfl ?_);refine goesL_ (some 9) rfl rfl Try.func64 (by kernel_rfl) rfl #[.int .u64 a0] rfl (by (try simp only [List.map_toArray,List.map_cons,List.map_nil]);first|done|rfl|(simp only [List.length_drop,List.length_take];rfl)) ?_;(with_reducible refine (privityref01_Supported.calls k a0 false _ A5.out).mono ?_);rintro e w8 ⟨rfl,hb⟩;refine ⟨_,rfl,?_⟩;have n0_ := Aside0.mk (below_step (by repeat (first|(with_reducible first|exact HB.out|apply below_alloc|apply pw_below_drewN|apply below_drew1)|exact HB.out)) hb);clear HB;have HB := n0_;clear n0_;(try clear hb);(try clear hb2);(try clear hk);(try clear hi)))
   go_meet
   case rel => exact ⟨_,(true),(by first|rfl|(simp;done)|(simp [*];done)),H',⟨by first|omega|exact Nat.le_refl _⟩,⟨by repeat (first|(with_reducible first|exact HB.out|apply below_alloc|apply pw_below_drewN|apply below_drew1)|exact HB.out)⟩⟩
 case rest =>
  clear HC4
  try clear c1
  try clear p2
  try clear c4
  try clear c6
  obtain ⟨kq,x16_3,rfl,HA,HJ3,HB⟩ := hcut
  cases kq with
  | zero => exact absurd HA.out (by simp [privityref06_Fair.j0])
  | succ kj3 =>
   have H := HA.out
   clear HA
   simp only [privityref06_Fair.j0] at H
   by_cases c9 : x16_3 = true
   ·subst c9
    have H1 : (some false) = some r := by rw [if_pos rfl] at H;exact H
    clear H
    have H := H1
    clear H1
    obtain rfl := Option.some.inj H
    go_wp2
    go_ret
    exact ⟨by first|rfl|(simp [errW_none,errW_some] <;> rfl)|(simp [*,errW_none,errW_some] <;> rfl),by repeat (first|(with_reducible first|exact HB.out|apply below_alloc|apply pw_below_drewN|apply below_drew1)|exact HB.out)⟩
   ·replace c9 := Bool.eq_false_iff.mpr c9
    subst c9
    have H1 : (privityref06_Fair.l0 kj3 a0 l1 a2 0) = some r := by rw [if_neg (show ¬ (false = true) by decide)] at H;exact H
    clear H
    have H := H1
    clear H1
    have H' := Aside0.mk H
    clear H
    go_wp2
    go_loopg [7] kj3 (fun kq v7 w' => ∃ (x7_2 : Int),v7 = .int .i64 x7_2 ∧ Aside0 (privityref06_Fair.l0 kq a0 l1 a2 x7_2 = some r) ∧ Aside0 (kq ≤ kj3) ∧ Aside0 (Below w.heap.size w w'))
    case atStart => exact ⟨(0),(by first|rfl|(simp;done)|(simp [*];done)),H',⟨Nat.le_refl _⟩,⟨by repeat (first|(with_reducible first|exact HB.out|apply below_alloc|apply pw_below_drewN|apply below_drew1)|exact HB.out)⟩⟩
    case round =>
     clear H'
     try clear c1
     try clear p2
     try clear c4
     try clear c6
     try clear c9
     try clear p2
     obtain ⟨x7_2,rfl,HA,HK2,HB⟩ := hrel
     cases gk with
     | zero => exact absurd HA.out (by simp [privityref06_Fair.l0])
     | succ k2 =>
      have H := HA.out
      clear HA
      simp only [privityref06_Fair.l0] at H
      by_cases c10 : x7_2 < (l1.length : Int)
      ·rw [if_pos c10] at H
       have c10b0 : decide (x7_2 < (l1.length : Int)) = true := decide_eq_true c10
       clear c10
       by_cases c11 : 0 ≤ x7_2
       ·rw [if_pos c11] at H
        have c11b0 : decide (0 ≤ x7_2) = true := decide_eq_true c11
        clear c11
        replace H := Option.bind_eq_some_iff.mp H
        obtain ⟨t361,A120,H⟩ := H
        replace H : (if t361 = true then (privityref06_Fair.l0 k2 a0 l1 a2 (wrap64 (x7_2 + 1))) else (some false)) = some r := H
        have A12 := Aside0.mk A120
        clear A120
        by_cases c13 : t361 = true
        ·subst c13
         have H1 : (privityref06_Fair.l0 k2 a0 l1 a2 (wrap64 (x7_2 + 1))) = some r := by rw [if_pos rfl] at H;exact H
         clear H
         have H := H1
         clear H1
         have H' := Aside0.mk H
         clear H
         have p360 : 0 ≤ (x7_2 : Int) := of_decide_eq_true (by first|(with_reducible assumption)|assumption)
         have q360 : x7_2 < (l1.length : Int) := of_decide_eq_true (by first|(with_reducible assumption)|assumption)
         obtain ⟨ad360,A360_0,c360_0,e360,hx360_0,hl360_0,hi360_0⟩ := at_L1 HR1.out x7_2 p360 q360
         cases e360
         replace hx360_0 := (HB.out.cell (World.block_lt_of_cell? w _ hx360_0)).trans hx360_0
         have HR360_0 := Aside0.mk hi360_0
         have HC360_0 := Aside0.mk hl360_0
         clear hi360_0 hl360_0
         replace p360 := eq_true p360
         replace q360 := eq_true q360
         go_wp2_with (first|((with_reducible refine gate_callee (f := 33) rfl ?_);refine goesL_ (some 29) rfl rfl Try.func33 (by kernel_rfl) rfl #[.int .u64 a0,.slice A360_0 (rd_L1 l1 x7_2).length c360_0,.int .i64 a2] rfl (by (try simp only [List.map_toArray,List.map_cons,List.map_nil]);first|done|rfl|(simp only [List.length_drop,List.length_take];rfl)) ?_;(with_reducible refine (privityref06_Below.calls k2 a0 _ _ (rd_L1 l1 x7_2) a2 true _ ?side1 ?side2 A12.out).mono ?_);(case side1 => repeat (first|exact (Kd.C_below HR360_0.out HB.out)|(with_reducible refine Kd.C_alloc ?_ _)|(with_reducible refine Kd.C_drewN ?_ _)|(with_reducible refine Kd.C_drew ?_)));(case side2 => exact HC360_0.out);rintro e w' ⟨rfl,⟨nd,rfl⟩⟩;refine ⟨_,rfl,?_⟩))
         go_roundg k2
         case measure => have := HJ3.out;have := HK2.out;omega
         case rel => exact ⟨(wrap64 (x7_2 + 1)),(by first|rfl|(simp;done)|(simp [*];done)),H',⟨by have := HJ3.out;have := HK2.out;omega⟩,⟨by repeat (first|(with_reducible first|exact HB.out|apply below_alloc|apply pw_below_drewN|apply below_drew1)|exact HB.out)⟩⟩
        ·replace c13 := Bool.eq_false_iff.mpr c13
         subst c13
         have H1 : (some false) = some r := by rw [if_neg (show ¬ (false = true) by decide)] at H;exact H
         clear H
         have H := H1
         clear H1
         obtain rfl := Option.some.inj H
         have p360 : 0 ≤ (x7_2 : Int) := of_decide_eq_true (by first|(with_reducible assumption)|assumption)
         have q360 : x7_2 < (l1.length : Int) := of_decide_eq_true (by first|(with_reducible assumption)|assumption)
         obtain ⟨ad360,A360_0,c360_0,e360,hx360_0,hl360_0,hi360_0⟩ := at_L1 HR1.out x7_2 p360 q360
         cases e360
         replace hx360_0 := (HB.out.cell (World.block_lt_of_cell? w _ hx360_0)).trans hx360_0
         have HR360_0 := Aside0.mk hi360_0
         have HC360_0 := Aside0.mk hl360_0
         clear hi360_0 hl360_0
         replace p360 := eq_true p360
         replace q360 := eq_true q360
         go_wp2_with (first|((with_reducible refine gate_callee (f := 33) rfl ?_);refine goesL_ (some 29) rfl rfl Try.func33 (by kernel_rfl) rfl #[.int .u64 a0,.slice A360_0 (rd_L1 l1 x7_2).length c360_0,.int .i64 a2] rfl (by (try simp only [List.map_toArray,List.map_cons,List.map_nil]);first|done|rfl|(simp only [List.length_drop,List.length_take];rfl)) ?_;(with_reducible refine (privityref06_Below.calls k2 a0 _ _ (rd_L1 l1 x7_2) a2 false _ ?side1 ?side2 A12.out).mono ?_);(case side1 => repeat (first|exact (Kd.C_below HR360_0.out HB.out)|(with_reducible refine Kd.C_alloc ?_ _)|(with_reducible refine Kd.C_drewN ?_ _)|(with_reducible refine Kd.C_drew ?_)));(case side2 => exact HC360_0.out);rintro e w' ⟨rfl,⟨nd,rfl⟩⟩;refine ⟨_,rfl,?_⟩))
         go_ret
         exact ⟨by first|rfl|(simp [errW_none,errW_some] <;> rfl)|(simp [*,errW_none,errW_some] <;> rfl),by repeat (first|(with_reducible first|exact HB.out|apply below_alloc|apply pw_below_drewN|apply below_drew1)|exact HB.out)⟩
       ·rw [if_neg c11] at H
        exact absurd H (by simp)
      ·rw [if_neg c10] at H
       have c10b0 : decide (x7_2 < (l1.length : Int)) = false := decide_eq_false c10
       clear c10
       obtain rfl := Option.some.inj H
       go_wp2
       go_ret
       exact ⟨by first|rfl|(simp [errW_none,errW_some] <;> rfl)|(simp [*,errW_none,errW_some] <;> rfl),by repeat (first|(with_reducible first|exact HB.out|apply below_alloc|apply pw_below_drewN|apply below_drew1)|exact HB.out)⟩
end Go.Proofs.Ytkhdocabgmemiaa.Pr
end
section
/- Printed by a program of this seat (the kit's printer, with the functions that were proved by hand given to it). What stands here: the functions that the statements reach, as plain functions, and that the Go code computes them. -/
namespace Go.Proofs.Ytkhdocabgmemiaa.Pr
open Go.RowKit Go.Proofs.YtkhdocabgmemiaaW.PrintWords Go.Proofs.YtkhdocabgmemiaaW.PrintLast Go.Proofs.YtkhdocabgmemiaaW.PrintMore
attribute [local go_sem] max2_int min2_int max_two min_two max_three min_three max_four min_four   -- for this text's walks alone
set_option linter.unusedVariables false
set_option linter.unusedSimpArgs false

open Go.Proofs.Ytkhdocabgmemiaa.Hw
/-! ### privityref10_Fair: function 31 -/
def privityref10_Fair.f (k : Nat) (a0 : Int) (l1 : List (List Int)) (a2 : Int) : Option (Bool) := (privityref06_Fair.f k a0 l1 a2).bind fun t391 => (if t391 = true then ((privityref10_Square.f k l1).bind fun t392 => (some t392)) else (some false))
set_option maxHeartbeats 8000000 in
set_option maxRecDepth 100000 in
theorem privityref10_Fair.calls (k : Nat) (a0 : Int) (A1 : Option Addr) (c1 : Nat) (l1 : List (List Int)) (a2 : Int) (r : Bool) (w : World) (hr1 : Kd.C (Kd.slice 31 (Kd.int .u64)) w A1 l1.length l1) (hc1 : l1.length ≤ c1) (h : privityref10_Fair.f k a0 l1 a2 = some r) :
  Calls Try.prog 31 #[.int .u64 a0,.slice A1 l1.length c1,.int .i64 a2] w fun e w' => e = .returned (.bool r) ∧ Below w.heap.size w w' := by
 have HR1 := Aside0.mk hr1
 have HC1 := Aside0.mk hc1
 clear hr1 hc1
 have HB := Aside0.mk (Below.refl w.heap.size w)
 have H : ((privityref06_Fair.f k a0 l1 a2).bind fun t391 => (if t391 = true then ((privityref10_Square.f k l1).bind fun t392 => (some t392)) else (some false))) = some r := h
 clear h
 replace H := Option.bind_eq_some_iff.mp H
 obtain ⟨t391,A40,H⟩ := H
 replace H : (if t391 = true then ((privityref10_Square.f k l1).bind fun t392 => (some t392)) else (some false)) = some r := H
 have A4 := Aside0.mk A40
 clear A40
 by_cases c5 : t391 = true
 ·subst c5
  have H1 : ((privityref10_Square.f k l1).bind fun t392 => (some t392)) = some r := by rw [if_pos rfl] at H;exact H
  clear H
  have H := H1
  clear H1
  replace H := Option.bind_eq_some_iff.mp H
  obtain ⟨t392,A60,H⟩ := H
  replace H : (some t392) = some r := H
  have A6 := Aside0.mk A60
  clear A60
  obtain rfl := Option.some.inj H
  go_enter Try.func31,Try.ntmps31
  go_wp2_with (first|((with_reducible refine gate_callee (f := 48) rfl ?_);refine goesL_ (some 10) rfl rfl Try.func48 (by kernel_rfl) rfl #[.int .u64 a0,.slice A1 l1.length c1,.int .i64 a2] rfl (by (try simp only [List.map_toArray,List.map_cons,List.map_nil]);first|done|rfl|(simp only [List.length_drop,List.length_take];rfl)) ?_;(with_reducible refine (privityref06_Fair.calls k a0 _ _ l1 a2 true _ ?side1 ?side2 A4.out).mono ?_);(case side1 => repeat (first|exact HR1.out|(with_reducible refine Kd.C_alloc ?_ _)|(with_reducible refine Kd.C_drewN ?_ _)|(with_reducible refine Kd.C_drew ?_)));(case side2 => exact HC1.out);rintro e w7 ⟨rfl,hb⟩;refine ⟨_,rfl,?_⟩;have n0_ := Aside0.mk (below_step (by repeat (first|(with_reducible first|exact HB.out|apply below_alloc|apply pw_below_drewN|apply below_drew1)|exact HB.out)) hb);clear HB;have HB := n0_;clear n0_;(try clear hb);(try clear hb2);(try clear hk);(try clear hi))|(go_at_call 47;(with_reducible refine (privityref10_Square.calls k _ _ l1 t392 _ ?side1 ?side2 A6.out).mono ?_);(case side1 => repeat (first|exact (Kd.C_below HR1.out HB.out)|(with_reducible refine Kd.C_alloc ?_ _)|(with_reducible refine Kd.C_drewN ?_ _)|(with_reducible refine Kd.C_drew ?_)));(case side2 => exact HC1.out);rintro e w' ⟨rfl,⟨nd,rfl⟩⟩))
  go_ret
  exact ⟨by first|rfl|(simp [errW_none,errW_some] <;> rfl)|(simp [*,errW_none,errW_some] <;> rfl),by repeat (first|(with_reducible first|exact HB.out|apply below_alloc|apply pw_below_drewN|apply below_drew1)|exact HB.out)⟩
 ·replace c5 := Bool.eq_false_iff.mpr c5
  subst c5
  have H1 : (some false) = some r := by rw [if_neg (show ¬ (false = true) by decide)] at H;exact H
  clear H
  have H := H1
  clear H1
  obtain rfl := Option.some.inj H
  go_enter Try.func31,Try.ntmps31
  go_wp2_with (first|((with_reducible refine gate_callee (f := 48) rfl ?_);refine goesL_ (some 10) rfl rfl Try.func48 (by kernel_rfl) rfl #[.int .u64 a0,.slice A1 l1.length c1,.int .i64 a2] rfl (by (try simp only [List.map_toArray,List.map_cons,List.map_nil]);first|done|rfl|(simp only [List.length_drop,List.length_take];rfl)) ?_;(with_reducible refine (privityref06_Fair.calls k a0 _ _ l1 a2 false _ ?side1 ?side2 A4.out).mono ?_);(case side1 => repeat (first|exact HR1.out|(with_reducible refine Kd.C_alloc ?_ _)|(with_reducible refine Kd.C_drewN ?_ _)|(with_reducible refine Kd.C_drew ?_)));(case side2 => exact HC1.out);rintro e w8 ⟨rfl,hb⟩;refine ⟨_,rfl,?_⟩;have n0_ := Aside0.mk (below_step (by repeat (first|(with_reducible first|exact HB.out|apply below_alloc|apply pw_below_drewN|apply below_drew1)|exact HB.out)) hb);clear HB;have HB := n0_;clear n0_;(try clear hb);(try clear hb2);(try clear hk);(try clear hi)))
  go_ret
  exact ⟨by first|rfl|(simp [errW_none,errW_some] <;> rfl)|(simp [*,errW_none,errW_some] <;> rfl),by repeat (first|(with_reducible first|exact HB.out|apply below_alloc|apply pw_below_drewN|apply below_drew1)|exact HB.out)⟩
/-! ### privityref10_Unlike: function 34 -/
mutual
def privityref10_Unlike.l0 : Nat → List Int → Int → Option (Bool)
 | 0,_,_ => none
 | k + 1,x0,x3 => if x3 < (x0.length : Int) then (privityref10_Unlike.l1 k x0 x3 0) else (some true)
def privityref10_Unlike.l1 : Nat → List Int → Int → Int → Option (Bool)
 | 0,_,_,_ => none
 | k + 1,x0,x3,x4 => if x4 < x3 then (if 0 ≤ x3 then (if x3 < (x0.length : Int) then (if 0 ≤ x4 then (if x4 < (x0.length : Int) then (if (rd x0 x3) = (rd x0 x4) then (some false) else (privityref10_Unlike.l1 k x0 x3 (wrap64 (x4 + 1)))) else (none)) else (none)) else (none)) else (none)) else (privityref10_Unlike.l0 k x0 (wrap64 (x3 + 1)))
end
def privityref10_Unlike.f (k : Nat) (l0 : List Int) : Option (Bool) := privityref10_Unlike.l0 k l0 0
set_option maxHeartbeats 8000000 in
set_option maxRecDepth 100000 in
theorem privityref10_Unlike.calls (k : Nat) (A0 : Option Addr) (c0 : Nat) (l0 : List Int) (r : Bool) (w : World) (hr0 : Kd.C (Kd.int .u64) w A0 l0.length l0) (hc0 : l0.length ≤ c0) (h : privityref10_Unlike.f k l0 = some r) :
  Calls Try.prog 34 #[.slice A0 l0.length c0] w fun e w' => e = .returned (.bool r) ∧ Drawn0 w w' := by
 have HR0 := Aside0.mk hr0
 have HC0 := Aside0.mk hc0
 clear hr0 hc0
 have H : (privityref10_Unlike.l0 k l0 0) = some r := h
 clear h
 have H' := Aside0.mk H
 clear H
 go_enter Try.func34,Try.ntmps34
 go_wp2
 repeat (go_quiet (fail);try go_wp2)
 go_loopg [3] k (fun kq v3 w' => ∃ (x3_1 : Int),v3 = .int .i64 x3_1 ∧ Aside0 (privityref10_Unlike.l0 kq l0 x3_1 = some r) ∧ Aside0 (kq ≤ k) ∧ Drawn0 w w')
 case atStart => exact ⟨(0),(by first|rfl|(simp;done)|(simp [*];done)),H',⟨Nat.le_refl _⟩,by repeat (first|exact Drawn0.refl _|apply Drawn0.step)⟩
 case round =>
  clear H'
  obtain ⟨x3_1,rfl,HA,HK1,⟨m1,rfl⟩⟩ := hrel
  cases gk with
  | zero => exact absurd HA.out (by simp [privityref10_Unlike.l0])
  | succ k1 =>
   have H := HA.out
   clear HA
   simp only [privityref10_Unlike.l0] at H
   by_cases c2 : x3_1 < (l0.length : Int)
   ·rw [if_pos c2] at H
    have c2b0 : decide (x3_1 < (l0.length : Int)) = true := decide_eq_true c2
    clear c2
    have H' := Aside0.mk H
    clear H
    go_wp2
    repeat (go_quiet (fail);try go_wp2)
    go_loopg [4] k1 (fun kq v4 w' => ∃ (x4_2 : Int),v4 = .int .i64 x4_2 ∧ Aside0 (privityref10_Unlike.l1 kq l0 x3_1 x4_2 = some r) ∧ Aside0 (kq ≤ k1) ∧ Drawn0 w w')
    case atStart => exact ⟨(0),(by first|rfl|(simp;done)|(simp [*];done)),H',⟨Nat.le_refl _⟩,by repeat (first|exact Drawn0.refl _|apply Drawn0.step)⟩
    case round =>
     clear H'
     try clear c2
     try clear c2b0
     try clear p2
     obtain ⟨x4_2,rfl,HA,HK2,⟨m2,rfl⟩⟩ := hrel
     cases gk with
     | zero => exact absurd HA.out (by simp [privityref10_Unlike.l1])
     | succ k2 =>
      have H := HA.out
      clear HA
      simp only [privityref10_Unlike.l1] at H
      by_cases c3 : x4_2 < x3_1
      ·rw [if_pos c3] at H
       have c3b0 : decide (x4_2 < x3_1) = true := decide_eq_true c3
       clear c3
       by_cases c4 : 0 ≤ x3_1
       ·rw [if_pos c4] at H
        have c4b0 : decide (0 ≤ x3_1) = true := decide_eq_true c4
        clear c4
        by_cases c5 : x3_1 < (l0.length : Int)
        ·rw [if_pos c5] at H
         have c5b0 : decide (x3_1 < (l0.length : Int)) = true := decide_eq_true c5
         clear c5
         by_cases c6 : 0 ≤ x4_2
         ·rw [if_pos c6] at H
          have c6b0 : decide (0 ≤ x4_2) = true := decide_eq_true c6
          clear c6
          by_cases c7 : x4_2 < (l0.length : Int)
          ·rw [if_pos c7] at H
           have c7b0 : decide (x4_2 < (l0.length : Int)) = true := decide_eq_true c7
           clear c7
           by_cases c8 : (rd l0 x3_1) = (rd l0 x4_2)
           ·rw [if_pos c8] at H
            have c8b0 : ((rd l0 x3_1) == (rd l0 x4_2)) = true := beq_iff_eq.mpr c8
            have c8b1 : ((rd l0 x3_1) != (rd l0 x4_2)) = false := bne_eq_false_iff_eq.mpr c8
            clear c8
            obtain rfl := Option.some.inj H
            have p393 : 0 ≤ (x3_1 : Int) := of_decide_eq_true (by first|(with_reducible assumption)|assumption)
            have q393 : x3_1 < (l0.length : Int) := of_decide_eq_true (by first|(with_reducible assumption)|assumption)
            obtain ⟨ad393,e393,hx393_0⟩ := Kd.at_int HR0.out x3_1 p393 q393
            cases e393
            replace p393 := eq_true p393
            replace q393 := eq_true q393
            have p394 : 0 ≤ (x4_2 : Int) := of_decide_eq_true (by first|(with_reducible assumption)|assumption)
            have q394 : x4_2 < (l0.length : Int) := of_decide_eq_true (by first|(with_reducible assumption)|assumption)
            obtain ⟨ad394,e394,hx394_0⟩ := Kd.at_int HR0.out x4_2 p394 q394
            obtain rfl : ad393 = ad394 := (by injection e394)
            replace p394 := eq_true p394
            replace q394 := eq_true q394
            go_wp2
            repeat (go_quiet (fail);try go_wp2)
            go_ret
            exact ⟨by first|rfl|(simp;done)|(simp [*];done),by repeat (first|exact Drawn0.refl _|apply Drawn0.step)⟩
           ·rw [if_neg c8] at H
            have c8b0 : ((rd l0 x3_1) == (rd l0 x4_2)) = false := beq_eq_false_iff_ne.mpr c8
            have c8b1 : ((rd l0 x3_1) != (rd l0 x4_2)) = true := bne_iff_ne.mpr c8
            have H' := Aside0.mk H
            clear H
            have p393 : 0 ≤ (x3_1 : Int) := of_decide_eq_true (by first|(with_reducible assumption)|assumption)
            have q393 : x3_1 < (l0.length : Int) := of_decide_eq_true (by first|(with_reducible assumption)|assumption)
            obtain ⟨ad393,e393,hx393_0⟩ := Kd.at_int HR0.out x3_1 p393 q393
            cases e393
            replace p393 := eq_true p393
            replace q393 := eq_true q393
            have p394 : 0 ≤ (x4_2 : Int) := of_decide_eq_true (by first|(with_reducible assumption)|assumption)
            have q394 : x4_2 < (l0.length : Int) := of_decide_eq_true (by first|(with_reducible assumption)|assumption)
            obtain ⟨ad394,e394,hx394_0⟩ := Kd.at_int HR0.out x4_2 p394 q394
            obtain rfl : ad393 = ad394 := (by injection e394)
            replace p394 := eq_true p394
            replace q394 := eq_true q394
            go_wp2
            repeat (go_quiet (fail);try go_wp2)
            go_roundg k2
            case measure => have := HK1.out;have := HK2.out;omega
            case rel => exact ⟨(wrap64 (x4_2 + 1)),(by first|rfl|(simp;done)|(simp [*];done)),H',⟨by have := HK1.out;have := HK2.out;omega⟩,by repeat (first|exact Drawn0.refl _|apply Drawn0.step)⟩
          ·rw [if_neg c7] at H
           exact absurd H (by simp)
         ·rw [if_neg c6] at H
          exact absurd H (by simp)
        ·rw [if_neg c5] at H
         exact absurd H (by simp)
       ·rw [if_neg c4] at H
        exact absurd H (by simp)
      ·rw [if_neg c3] at H
       have c3b0 : decide (x4_2 < x3_1) = false := decide_eq_false c3
       clear c3
       have H' := Aside0.mk H
       clear H
       go_wp2
       repeat (go_quiet (fail);try go_wp2)
       go_roundg k2
       case measure => have := HK1.out;have := HK2.out;omega
       case rel => exact ⟨(wrap64 (x3_1 + 1)),(by first|rfl|(simp;done)|(simp [*];done)),H',⟨by have := HK1.out;have := HK2.out;omega⟩,by repeat (first|exact Drawn0.refl _|apply Drawn0.step)⟩
   ·rw [if_neg c2] at H
    have c2b0 : decide (x3_1 < (l0.length : Int)) = false := decide_eq_false c2
    clear c2
    obtain rfl := Option.some.inj H
    go_wp2
    repeat (go_quiet (fail);try go_wp2)
    go_ret
    exact ⟨by first|rfl|(simp;done)|(simp [*];done),by repeat (first|exact Drawn0.refl _|apply Drawn0.step)⟩
end Go.Proofs.Ytkhdocabgmemiaa.Pr
end
section
/- Printed by a program of this seat (the kit's printer, with the functions that were proved by hand given to it). What stands here: the functions that the statements reach, as plain functions, and that the Go code computes them. -/
namespace Go.Proofs.Ytkhdocabgmemiaa.Pr
open Go.RowKit Go.Proofs.YtkhdocabgmemiaaW.PrintWords Go.Proofs.YtkhdocabgmemiaaW.PrintLast Go.Proofs.YtkhdocabgmemiaaW.PrintMore
attribute [local go_sem] max2_int min2_int max_two min_two max_three min_three max_four min_four   -- for this text's walks alone
set_option linter.unusedVariables false
set_option linter.unusedSimpArgs false

open Go.Proofs.Ytkhdocabgmemiaa.Hw
/-! ### privitylaw10_validTranslation: function 24 -/
mutual
def privitylaw10_validTranslation.j0 : Nat → Bool → Int → List (List Int) → List Int → Int → Int → Option (Bool)
 | 0,_,_,_,_,_,_ => none
 | k + 1,x53,x396000,x396001,x396002,x396003,x396004 => if x53 = true then (some false) else (privitylaw10_validTranslation.l0 k 0 x396000 x396001 x396002 x396003 x396004)
def privitylaw10_validTranslation.l0 : Nat → Int → Int → List (List Int) → List Int → Int → Int → Option (Bool)
 | 0,_,_,_,_,_,_ => none
 | k + 1,x3,x396000,x396001,x396002,x396003,x396004 => if x3 < (x396002.length : Int) then (if 0 ≤ x3 then (if (rd x396002 x3) = 0 then (some false) else (privitylaw10_validTranslation.l0 k (wrap64 (x3 + 1)) x396000 x396001 x396002 x396003 x396004)) else (none)) else (some true)
end
def privitylaw10_validTranslation.f (k : Nat) (a0_0 : Int) (l0_1 : List (List Int)) (l0_2 : List Int) (a0_3 : Int) (a0_4 : Int) : Option (Bool) := (privityref10_Fair.f k a0_0 l0_1 6).bind fun t396 => (if t396 = true then ((privityref10_IsSymmetric.f k l0_1).bind fun t397 => (if t397 = true then ((privityref06_Below.f k a0_0 l0_2 6).bind fun t398 => (if t398 = true then (if (l0_2.length : Int) = (wrap64 ((l0_1.length : Int) - 1)) then ((privityref10_Unlike.f k l0_2).bind fun t399 => (if t399 = true then (if a0_3 ≥ a0_0 then (privitylaw10_validTranslation.j0 k true a0_0 l0_1 l0_2 a0_3 a0_4) else (privitylaw10_validTranslation.j0 k (decide (a0_4 ≥ a0_0)) a0_0 l0_1 l0_2 a0_3 a0_4)) else (privitylaw10_validTranslation.j0 k true a0_0 l0_1 l0_2 a0_3 a0_4))) else (privitylaw10_validTranslation.j0 k true a0_0 l0_1 l0_2 a0_3 a0_4)) else (privitylaw10_validTranslation.j0 k true a0_0 l0_1 l0_2 a0_3 a0_4))) else (privitylaw10_validTranslation.j0 k true a0_0 l0_1 l0_2 a0_3 a0_4))) else (privitylaw10_validTranslation.j0 k true a0_0 l0_1 l0_2 a0_3 a0_4))
set_option maxHeartbeats 8000000 in
set_option maxRecDepth 100000 in
theorem privitylaw10_validTranslation.calls (k : Nat) (a0_0 : Int) (A0_1 : Option Addr) (c0_1 : Nat) (l0_1 : List (List Int)) (A0_2 : Option Addr) (c0_2 : Nat) (l0_2 : List Int) (a0_3 : Int) (a0_4 : Int) (r : Bool) (w : World) (hr0_1 : Kd.C (Kd.slice 31 (Kd.int .u64)) w A0_1 l0_1.length l0_1) (hc0_1 : l0_1.length ≤ c0_1) (hr0_2 : Kd.C (Kd.int .u64) w A0_2 l0_2.length l0_2) (hc0_2 : l0_2.length ≤ c0_2) (h : privitylaw10_validTranslation.f k a0_0 l0_1 l0_2 a0_3 a0_4 = some r) :
  Calls Try.prog 24 #[.agg #[.int .u64 a0_0,.slice A0_1 l0_1.length c0_1,.slice A0_2 l0_2.length c0_2,.int .u64 a0_3,.int .u64 a0_4]] w fun e w' => e = .returned (.bool r) ∧ Below w.heap.size w w' := by
 have hu39 := Try.underlying39
 have HR0_1 := Aside0.mk hr0_1
 have HC0_1 := Aside0.mk hc0_1
 clear hr0_1 hc0_1
 have HR0_2 := Aside0.mk hr0_2
 have HC0_2 := Aside0.mk hc0_2
 clear hr0_2 hc0_2
 have HB := Aside0.mk (Below.refl w.heap.size w)
 have H : ((privityref10_Fair.f k a0_0 l0_1 6).bind fun t396 => (if t396 = true then ((privityref10_IsSymmetric.f k l0_1).bind fun t397 => (if t397 = true then ((privityref06_Below.f k a0_0 l0_2 6).bind fun t398 => (if t398 = true then (if (l0_2.length : Int) = (wrap64 ((l0_1.length : Int) - 1)) then ((privityref10_Unlike.f k l0_2).bind fun t399 => (if t399 = true then (if a0_3 ≥ a0_0 then (privitylaw10_validTranslation.j0 k true a0_0 l0_1 l0_2 a0_3 a0_4) else (privitylaw10_validTranslation.j0 k (decide (a0_4 ≥ a0_0)) a0_0 l0_1 l0_2 a0_3 a0_4)) else (privitylaw10_validTranslation.j0 k true a0_0 l0_1 l0_2 a0_3 a0_4))) else (privitylaw10_validTranslation.j0 k true a0_0 l0_1 l0_2 a0_3 a0_4)) else (privitylaw10_validTranslation.j0 k true a0_0 l0_1 l0_2 a0_3 a0_4))) else (privitylaw10_validTranslation.j0 k true a0_0 l0_1 l0_2 a0_3 a0_4))) else (privitylaw10_validTranslation.j0 k true a0_0 l0_1 l0_2 a0_3 a0_4))) = some r := h
 clear h
 have HC2 := Aside0.mk H
 clear H
 go_enter Try.func24,Try.ntmps24
 go_upto_region 1 with (first|((with_reducible refine gate_dst (N := 1) rfl ?_);(try (refine gate_guard (by rfl) ?_;dsimp only));refine box_event ?hg (N := 1) ?hd (cs := #[.int .u64 a0_0,.slice A0_1 l0_1.length c0_1,.slice A0_2 l0_2.length c0_2,.int .u64 a0_3,.int .u64 a0_4]) (t := 39) ?hr ?_;(case hd => rfl);(case hg => rfl);(case hr => first|(go_simp;done)|(go_simp;rfl));intro gb395 hg w3 hbox hb;have n0_ := Aside0.mk (below_step (by repeat (first|(with_reducible first|exact HB.out|apply below_alloc|apply pw_below_drewN|apply below_drew1)|exact HB.out)) hb);have n1_ := Aside0.mk (hbox);have n2_ := Aside0.mk ((by rw [hg];exact (below_size (by repeat (first|(with_reducible first|exact HB.out|apply below_alloc|apply pw_below_drewN|apply below_drew1)|exact HB.out))) : w.heap.size ≤ gb395));have n3_ := Aside0.mk ((by rw [hg];exact (below_size (by repeat (first|(with_reducible first|exact HB.out|apply below_alloc|apply pw_below_drewN|apply below_drew1)|exact HB.out))) : w.heap.size ≤ gb395));clear HB;have HB := n0_;have BK395 := n1_;have GW395 := n2_;have GE395 := n3_;clear n0_ n1_ n2_ n3_;clear hb hbox hg))
 (try simp only [Act.put,List.setIfInBounds_toArray,List.set_cons_zero,List.set_cons_succ])
 go_cut [53] (fun v53 wc => ∃ (kq : Nat) (x53_1 : Bool),v53 = .bool x53_1 ∧ Aside0 (privitylaw10_validTranslation.j0 kq x53_1 a0_0 l0_1 l0_2 a0_3 a0_4 = some r) ∧ Aside0 (kq ≤ k) ∧ Aside0 (wc.heap[gb395]? = some (.cells #[.int .u64 a0_0,(.slice A0_1 l0_1.length c0_1),(.slice A0_2 l0_2.length c0_2),.int .u64 a0_3,.int .u64 a0_4] 39 (0,0))) ∧ Aside0 (Below w.heap.size w wc))
 case first =>
  have H := HC2.out
  clear HC2
  replace H := Option.bind_eq_some_iff.mp H
  obtain ⟨t396,A40,H⟩ := H
  replace H : (if t396 = true then ((privityref10_IsSymmetric.f k l0_1).bind fun t397 => (if t397 = true then ((privityref06_Below.f k a0_0 l0_2 6).bind fun t398 => (if t398 = true then (if (l0_2.length : Int) = (wrap64 ((l0_1.length : Int) - 1)) then ((privityref10_Unlike.f k l0_2).bind fun t399 => (if t399 = true then (if a0_3 ≥ a0_0 then (privitylaw10_validTranslation.j0 k true a0_0 l0_1 l0_2 a0_3 a0_4) else (privitylaw10_validTranslation.j0 k (decide (a0_4 ≥ a0_0)) a0_0 l0_1 l0_2 a0_3 a0_4)) else (privitylaw10_validTranslation.j0 k true a0_0 l0_1 l0_2 a0_3 a0_4))) else (privitylaw10_validTranslation.j0 k true a0_0 l0_1 l0_2 a0_3 a0_4)) else (privitylaw10_validTranslation.j0 k true a0_0 l0_1 l0_2 a0_3 a0_4))) else (privitylaw10_validTranslation.j0 k true a0_0 l0_1 l0_2 a0_3 a0_4))) else (privitylaw10_validTranslation.j0 k true a0_0 l0_1 l0_2 a0_3 a0_4)) = some r := H
  have A4 := Aside0.mk A40
  clear A40
  by_cases c5 : t396 = true
  ·subst c5
   have H1 : ((privityref10_IsSymmetric.f k l0_1).bind fun t397 => (if t397 = true then ((privityref06_Below.f k a0_0 l0_2 6).bind fun t398 => (if t398 = true then (if (l0_2.length : Int) = (wrap64 ((l0_1.length : Int) - 1)) then ((privityref10_Unlike.f k l0_2).bind fun t399 => (if t399 = true then (if a0_3 ≥ a0_0 then (privitylaw10_validTranslation.j0 k true a0_0 l0_1 l0_2 a0_3 a0_4) else (privitylaw10_validTranslation.j0 k (decide (a0_4 ≥ a0_0)) a0_0 l0_1 l0_2 a0_3 a0_4)) else (privitylaw10_validTranslation.j0 k true a0_0 l0_1 l0_2 a0_3 a0_4))) else (privitylaw10_validTranslation.j0 k true a0_0 l0_1 l0_2 a0_3 a0_4)) else (privitylaw10_validTranslation.j0 k true a0_0 l0_1 l0_2 a0_3 a0_4))) else (privitylaw10_validTranslation.j0 k true a0_0 l0_1 l0_2 a0_3 a0_4))) = some r := by rw [if_pos rfl] at H;exact H
   clear H
   have H := H1
   clear H1
   replace H := Option.bind_eq_some_iff.mp H
   obtain ⟨t397,A60,H⟩ := H
   replace H : (if t397 = true then ((privityref06_Below.f k a0_0 l0_2 6).bind fun t398 => (if t398 = true then (if (l0_2.length : Int) = (wrap64 ((l0_1.length : Int) - 1)) then ((privityref10_Unlike.f k l0_2).bind fun t399 => (if t399 = true then (if a0_3 ≥ a0_0 then (privitylaw10_validTranslation.j0 k true a0_0 l0_1 l0_2 a0_3 a0_4) else (privitylaw10_validTranslation.j0 k (decide (a0_4 ≥ a0_0)) a0_0 l0_1 l0_2 a0_3 a0_4)) else (privitylaw10_validTranslation.j0 k true a0_0 l0_1 l0_2 a0_3 a0_4))) else (privitylaw10_validTranslation.j0 k true a0_0 l0_1 l0_2 a0_3 a0_4)) else (privitylaw10_validTranslation.j0 k true a0_0 l0_1 l0_2 a0_3 a0_4))) else (privitylaw10_validTranslation.j0 k true a0_0 l0_1 l0_2 a0_3 a0_4)) = some r := H
   have A6 := Aside0.mk A60
   clear A60
   by_cases c7 : t397 = true
   ·subst c7
    have H1 : ((privityref06_Below.f k a0_0 l0_2 6).bind fun t398 => (if t398 = true then (if (l0_2.length : Int) = (wrap64 ((l0_1.length : Int) - 1)) then ((privityref10_Unlike.f k l0_2).bind fun t399 => (if t399 = true then (if a0_3 ≥ a0_0 then (privitylaw10_validTranslation.j0 k true a0_0 l0_1 l0_2 a0_3 a0_4) else (privitylaw10_validTranslation.j0 k (decide (a0_4 ≥ a0_0)) a0_0 l0_1 l0_2 a0_3 a0_4)) else (privitylaw10_validTranslation.j0 k true a0_0 l0_1 l0_2 a0_3 a0_4))) else (privitylaw10_validTranslation.j0 k true a0_0 l0_1 l0_2 a0_3 a0_4)) else (privitylaw10_validTranslation.j0 k true a0_0 l0_1 l0_2 a0_3 a0_4))) = some r := by rw [if_pos rfl] at H;exact H
    clear H
    have H := H1
    clear H1
    replace H := Option.bind_eq_some_iff.mp H
    obtain ⟨t398,A80,H⟩ := H
    replace H : (if t398 = true then (if (l0_2.length : Int) = (wrap64 ((l0_1.length : Int) - 1)) then ((privityref10_Unlike.f k l0_2).bind fun t399 => (if t399 = true then (if a0_3 ≥ a0_0 then (privitylaw10_validTranslation.j0 k true a0_0 l0_1 l0_2 a0_3 a0_4) else (privitylaw10_validTranslation.j0 k (decide (a0_4 ≥ a0_0)) a0_0 l0_1 l0_2 a0_3 a0_4)) else (privitylaw10_validTranslation.j0 k true a0_0 l0_1 l0_2 a0_3 a0_4))) else (privitylaw10_validTranslation.j0 k true a0_0 l0_1 l0_2 a0_3 a0_4)) else (privitylaw10_validTranslation.j0 k true a0_0 l0_1 l0_2 a0_3 a0_4)) = some r := H
    have A8 := Aside0.mk A80
    clear A80
    by_cases c9 : t398 = true
    ·subst c9
     have H1 : (if (l0_2.length : Int) = (wrap64 ((l0_1.length : Int) - 1)) then ((privityref10_Unlike.f k l0_2).bind fun t399 => (if t399 = true then (if a0_3 ≥ a0_0 then (privitylaw10_validTranslation.j0 k true a0_0 l0_1 l0_2 a0_3 a0_4) else (privitylaw10_validTranslation.j0 k (decide (a0_4 ≥ a0_0)) a0_0 l0_1 l0_2 a0_3 a0_4)) else (privitylaw10_validTranslation.j0 k true a0_0 l0_1 l0_2 a0_3 a0_4))) else (privitylaw10_validTranslation.j0 k true a0_0 l0_1 l0_2 a0_3 a0_4)) = some r := by rw [if_pos rfl] at H;exact H
     clear H
     have H := H1
     clear H1
     by_cases c10 : (l0_2.length : Int) = (wrap64 ((l0_1.length : Int) - 1))
     ·rw [if_pos c10] at H
      have c10b0 : ((l0_2.length : Int) == (wrap64 ((l0_1.length : Int) - 1))) = true := beq_iff_eq.mpr c10
      have c10b1 : ((l0_2.length : Int) != (wrap64 ((l0_1.length : Int) - 1))) = false := bne_eq_false_iff_eq.mpr c10
      clear c10
      (first|rw [c10b0]|(simp only [i64_w,i32_w];rw [c10b0])|skip)
      replace H := Option.bind_eq_some_iff.mp H
      obtain ⟨t399,A110,H⟩ := H
      replace H : (if t399 = true then (if a0_3 ≥ a0_0 then (privitylaw10_validTranslation.j0 k true a0_0 l0_1 l0_2 a0_3 a0_4) else (privitylaw10_validTranslation.j0 k (decide (a0_4 ≥ a0_0)) a0_0 l0_1 l0_2 a0_3 a0_4)) else (privitylaw10_validTranslation.j0 k true a0_0 l0_1 l0_2 a0_3 a0_4)) = some r := H
      have A11 := Aside0.mk A110
      clear A110
      by_cases c12 : t399 = true
      ·subst c12
       have H1 : (if a0_3 ≥ a0_0 then (privitylaw10_validTranslation.j0 k true a0_0 l0_1 l0_2 a0_3 a0_4) else (privitylaw10_validTranslation.j0 k (decide (a0_4 ≥ a0_0)) a0_0 l0_1 l0_2 a0_3 a0_4)) = some r := by rw [if_pos rfl] at H;exact H
       clear H
       have H := H1
       clear H1
       by_cases c13 : a0_3 ≥ a0_0
       ·rw [if_pos c13] at H
        have c13b0 : decide (a0_0 ≤ a0_3) = true := decide_eq_true c13
        clear c13
        have H' := Aside0.mk H
        clear H
        have hcz14_0 : w3.cell? ⟨gb395,0,none⟩ = some (.int .u64 a0_0) := (blk_cell BK395.out 0).trans rfl
        have hcz14_1 : w3.cell? ⟨gb395,1,none⟩ = some (.slice A0_1 l0_1.length c0_1) := (blk_cell BK395.out 1).trans rfl
        have hcz14_2 : w3.cell? ⟨gb395,2,none⟩ = some (.slice A0_2 l0_2.length c0_2) := (blk_cell BK395.out 2).trans rfl
        have hcz14_3 : w3.cell? ⟨gb395,3,none⟩ = some (.int .u64 a0_3) := (blk_cell BK395.out 3).trans rfl
        have hcz14_4 : w3.cell? ⟨gb395,4,none⟩ = some (.int .u64 a0_4) := (blk_cell BK395.out 4).trans rfl
        have hfz14_0 := blk_frozen BK395.out 0
        have hfz14_1 := blk_frozen BK395.out 1
        have hfz14_2 := blk_frozen BK395.out 2
        have hfz14_3 := blk_frozen BK395.out 3
        have hfz14_4 := blk_frozen BK395.out 4
        go_wp2_with (first|((with_reducible refine gate_callee (f := 31) rfl ?_);refine goesL_ (some 8) rfl rfl Try.func31 (by kernel_rfl) rfl #[.int .u64 a0_0,.slice A0_1 l0_1.length c0_1,.int .i64 6] rfl (by (try simp only [List.map_toArray,List.map_cons,List.map_nil]);first|done|rfl|(simp only [List.length_drop,List.length_take];rfl)) ?_;(with_reducible refine (privityref10_Fair.calls k a0_0 _ _ l0_1 6 true _ ?side1 ?side2 A4.out).mono ?_);(case side1 => repeat (first|exact (Kd.C_below HR0_1.out HB.out)|(with_reducible refine Kd.C_alloc ?_ _)|(with_reducible refine Kd.C_drewN ?_ _)|(with_reducible refine Kd.C_drew ?_)));(case side2 => exact HC0_1.out);rintro e w15 ⟨rfl,hb⟩;refine ⟨_,rfl,?_⟩;have n0_ := Aside0.mk (blk_below (g := gb395) (o := .cells #[.int .u64 a0_0,.slice A0_1 l0_1.length c0_1,.slice A0_2 l0_2.length c0_2,.int .u64 a0_3,.int .u64 a0_4] 39 (0,0)) (by (with_reducible repeat (first|refine blk_drewN ?_ _|refine blk_drew ?_|refine blk_alloc ?_ _));exact BK395.out) hb);have n1_ := Aside0.mk (below_step (by repeat (first|(with_reducible first|exact HB.out|apply below_alloc|apply pw_below_drewN|apply below_drew1|refine below_set ?_ GE395.out)|exact HB.out)) hb);clear BK395;clear HB;have BK395 := n0_;have HB := n1_;clear n0_ n1_;(try clear hb);(try clear hb2);(try clear hk);(try clear hi);have hcz16_0 : w15.cell? ⟨gb395,0,none⟩ = some (.int .u64 a0_0) := (blk_cell BK395.out 0).trans rfl;have hcz16_1 : w15.cell? ⟨gb395,1,none⟩ = some (.slice A0_1 l0_1.length c0_1) := (blk_cell BK395.out 1).trans rfl;have hcz16_2 : w15.cell? ⟨gb395,2,none⟩ = some (.slice A0_2 l0_2.length c0_2) := (blk_cell BK395.out 2).trans rfl;have hcz16_3 : w15.cell? ⟨gb395,3,none⟩ = some (.int .u64 a0_3) := (blk_cell BK395.out 3).trans rfl;have hcz16_4 : w15.cell? ⟨gb395,4,none⟩ = some (.int .u64 a0_4) := (blk_cell BK395.out 4).trans rfl;have hfz16_0 := blk_frozen BK395.out 0;have hfz16_1 := blk_frozen BK395.out 1;have hfz16_2 := blk_frozen BK395.out 2;have hfz16_3 := blk_frozen BK395.out 3;have hfz16_4 := blk_frozen BK395.out 4)|(go_at_call 18;(with_reducible refine (privityref10_IsSymmetric.calls k _ _ l0_1 true _ ?side1 ?side2 A6.out).mono ?_);(case side1 => repeat (first|exact (Kd.C_below HR0_1.out HB.out)|(with_reducible refine Kd.C_alloc ?_ _)|(with_reducible refine Kd.C_drewN ?_ _)|(with_reducible refine Kd.C_drew ?_)));(case side2 => exact HC0_1.out);rintro e w' ⟨rfl,⟨nd,rfl⟩⟩)|(go_at_call 33;(with_reducible refine (privityref06_Below.calls k a0_0 _ _ l0_2 6 true _ ?side1 ?side2 A8.out).mono ?_);(case side1 => repeat (first|exact (Kd.C_below HR0_2.out (by repeat (first|(with_reducible first|exact HB.out|apply below_alloc|apply pw_below_drewN|apply below_drew1|refine below_set ?_ GE395.out)|exact HB.out)))|(with_reducible refine Kd.C_alloc ?_ _)|(with_reducible refine Kd.C_drewN ?_ _)|(with_reducible refine Kd.C_drew ?_)));(case side2 => exact HC0_2.out);rintro e w' ⟨rfl,⟨nd,rfl⟩⟩)|(go_at_call 34;(with_reducible refine (privityref10_Unlike.calls k _ _ l0_2 true _ ?side1 ?side2 A11.out).mono ?_);(case side1 => repeat (first|exact (Kd.C_below HR0_2.out (by repeat (first|(with_reducible first|exact HB.out|apply below_alloc|apply pw_below_drewN|apply below_drew1|refine below_set ?_ GE395.out)|exact HB.out)))|(with_reducible refine Kd.C_alloc ?_ _)|(with_reducible refine Kd.C_drewN ?_ _)|(with_reducible refine Kd.C_drew ?_)));(case side2 => exact HC0_2.out);rintro e w' ⟨rfl,⟨nd,rfl⟩⟩))
        go_meet
        case rel => exact ⟨_,(true),(by first|rfl|(simp;done)|(simp [*];done)),H',⟨by first|omega|exact Nat.le_refl _⟩,⟨by (with_reducible repeat (first|refine blk_drewN ?_ _|refine blk_drew ?_|refine blk_alloc ?_ _));exact BK395.out⟩,⟨by repeat (first|(with_reducible first|exact HB.out|apply below_alloc|apply pw_below_drewN|apply below_drew1|refine below_set ?_ GE395.out)|exact HB.out)⟩⟩
       ·rw [if_neg c13] at H
        have c13b0 : decide (a0_0 ≤ a0_3) = false := decide_eq_false c13
        clear c13
        have H' := Aside0.mk H
        clear H
        have hcz17_0 : w3.cell? ⟨gb395,0,none⟩ = some (.int .u64 a0_0) := (blk_cell BK395.out 0).trans rfl
        have hcz17_1 : w3.cell? ⟨gb395,1,none⟩ = some (.slice A0_1 l0_1.length c0_1) := (blk_cell BK395.out 1).trans rfl
        have hcz17_2 : w3.cell? ⟨gb395,2,none⟩ = some (.slice A0_2 l0_2.length c0_2) := (blk_cell BK395.out 2).trans rfl
        have hcz17_3 : w3.cell? ⟨gb395,3,none⟩ = some (.int .u64 a0_3) := (blk_cell BK395.out 3).trans rfl
        have hcz17_4 : w3.cell? ⟨gb395,4,none⟩ = some (.int .u64 a0_4) := (blk_cell BK395.out 4).trans rfl
        have hfz17_0 := blk_frozen BK395.out 0
        have hfz17_1 := blk_frozen BK395.out 1
        have hfz17_2 := blk_frozen BK395.out 2
        have hfz17_3 := blk_frozen BK395.out 3
        have hfz17_4 := blk_frozen BK395.out 4
        go_wp2_with (first|((with_reducible refine gate_callee (f := 31) rfl ?_);refine goesL_ (some 8) rfl rfl Try.func31 (by kernel_rfl) rfl #[.int .u64 a0_0,.slice A0_1 l0_1.length c0_1,.int .i64 6] rfl (by (try simp only [List.map_toArray,List.map_cons,List.map_nil]);first|done|rfl|(simp only [List.length_drop,List.length_take];rfl)) ?_;(with_reducible refine (privityref10_Fair.calls k a0_0 _ _ l0_1 6 true _ ?side1 ?side2 A4.out).mono ?_);(case side1 => repeat (first|exact (Kd.C_below HR0_1.out HB.out)|(with_reducible refine Kd.C_alloc ?_ _)|(with_reducible refine Kd.C_drewN ?_ _)|(with_reducible refine Kd.C_drew ?_)));(case side2 => exact HC0_1.out);rintro e w18 ⟨rfl,hb⟩;refine ⟨_,rfl,?_⟩;have n0_ := Aside0.mk (blk_below (g := gb395) (o := .cells #[.int .u64 a0_0,.slice A0_1 l0_1.length c0_1,.slice A0_2 l0_2.length c0_2,.int .u64 a0_3,.int .u64 a0_4] 39 (0,0)) (by (with_reducible repeat (first|refine blk_drewN ?_ _|refine blk_drew ?_|refine blk_alloc ?_ _));exact BK395.out) hb);have n1_ := Aside0.mk (below_step (by repeat (first|(with_reducible first|exact HB.out|apply below_alloc|apply pw_below_drewN|apply below_drew1|refine below_set ?_ GE395.out)|exact HB.out)) hb);clear BK395;clear HB;have BK395 := n0_;have HB := n1_;clear n0_ n1_;(try clear hb);(try clear hb2);(try clear hk);(try clear hi);have hcz19_0 : w18.cell? ⟨gb395,0,none⟩ = some (.int .u64 a0_0) := (blk_cell BK395.out 0).trans rfl;have hcz19_1 : w18.cell? ⟨gb395,1,none⟩ = some (.slice A0_1 l0_1.length c0_1) := (blk_cell BK395.out 1).trans rfl;have hcz19_2 : w18.cell? ⟨gb395,2,none⟩ = some (.slice A0_2 l0_2.length c0_2) := (blk_cell BK395.out 2).trans rfl;have hcz19_3 : w18.cell? ⟨gb395,3,none⟩ = some (.int .u64 a0_3) := (blk_cell BK395.out 3).trans rfl;have hcz19_4 : w18.cell? ⟨gb395,4,none⟩ = some (.int .u64 a0_4) := (blk_cell BK395.out 4).trans rfl;have hfz19_0 := blk_frozen BK395.out 0;have hfz19_1 := blk_frozen BK395.out 1;have hfz19_2 := blk_frozen BK395.out 2;have hfz19_3 := blk_frozen BK395.out 3;have hfz19_4 := blk_frozen BK395.out 4)|(go_at_call 18;(with_reducible refine (privityref10_IsSymmetric.calls k _ _ l0_1 true _ ?side1 ?side2 A6.out).mono ?_);(case side1 => repeat (first|exact (Kd.C_below HR0_1.out HB.out)|(with_reducible refine Kd.C_alloc ?_ _)|(with_reducible refine Kd.C_drewN ?_ _)|(with_reducible refine Kd.C_drew ?_)));(case side2 => exact HC0_1.out);rintro e w' ⟨rfl,⟨nd,rfl⟩⟩)|(go_at_call 33;(with_reducible refine (privityref06_Below.calls k a0_0 _ _ l0_2 6 true _ ?side1 ?side2 A8.out).mono ?_);(case side1 => repeat (first|exact (Kd.C_below HR0_2.out (by repeat (first|(with_reducible first|exact HB.out|apply below_alloc|apply pw_below_drewN|apply below_drew1|refine below_set ?_ GE395.out)|exact HB.out)))|(with_reducible refine Kd.C_alloc ?_ _)|(with_reducible refine Kd.C_drewN ?_ _)|(with_reducible refine Kd.C_drew ?_)));(case side2 => exact HC0_2.out);rintro e w' ⟨rfl,⟨nd,rfl⟩⟩)|(go_at_call 34;(with_reducible refine (privityref10_Unlike.calls k _ _ l0_2 true _ ?side1 ?side2 A11.out).mono ?_);(case side1 => repeat (first|exact (Kd.C_below HR0_2.out (by repeat (first|(with_reducible first|exact HB.out|apply below_alloc|apply pw_below_drewN|apply below_drew1|refine below_set ?_ GE395.out)|exact HB.out)))|(with_reducible refine Kd.C_alloc ?_ _)|(with_reducible refine Kd.C_drewN ?_ _)|(with_reducible refine Kd.C_drew ?_)));(case side2 => exact HC0_2.out);rintro e w' ⟨rfl,⟨nd,rfl⟩⟩))
        go_meet
        case rel => exact ⟨_,(decide (a0_4 ≥ a0_0)),(by first|rfl|(simp;done)|(simp [*];done)),H',⟨by first|omega|exact Nat.le_refl _⟩,⟨by (with_reducible repeat (first|refine blk_drewN ?_ _|refine blk_drew ?_|refine blk_alloc ?_ _));exact BK395.out⟩,⟨by repeat (first|(with_reducible first|exact HB.out|apply below_alloc|apply pw_below_drewN|apply below_drew1|refine below_set ?_ GE395.out)|exact HB.out)⟩⟩
      ·replace c12 := Bool.eq_false_iff.mpr c12
       subst c12
       have H1 : (privitylaw10_validTranslation.j0 k true a0_0 l0_1 l0_2 a0_3 a0_4) = some r := by rw [if_neg (show ¬ (false = true) by decide)] at H;exact H
       clear H
       have H := H1
       clear H1
       have H' := Aside0.mk H
       clear H
       have hcz20_0 : w3.cell? ⟨gb395,0,none⟩ = some (.int .u64 a0_0) := (blk_cell BK395.out 0).trans rfl
       have hcz20_1 : w3.cell? ⟨gb395,1,none⟩ = some (.slice A0_1 l0_1.length c0_1) := (blk_cell BK395.out 1).trans rfl
       have hcz20_2 : w3.cell? ⟨gb395,2,none⟩ = some (.slice A0_2 l0_2.length c0_2) := (blk_cell BK395.out 2).trans rfl
       have hcz20_3 : w3.cell? ⟨gb395,3,none⟩ = some (.int .u64 a0_3) := (blk_cell BK395.out 3).trans rfl
       have hcz20_4 : w3.cell? ⟨gb395,4,none⟩ = some (.int .u64 a0_4) := (blk_cell BK395.out 4).trans rfl
       have hfz20_0 := blk_frozen BK395.out 0
       have hfz20_1 := blk_frozen BK395.out 1
       have hfz20_2 := blk_frozen BK395.out 2
       have hfz20_3 := blk_frozen BK395.out 3
       have hfz20_4 := blk_frozen BK395.out 4
       go_wp2_with (first|((with_reducible refine gate_callee (f := 31) rfl ?_);refine goesL_ (some 8) rfl rfl Try.func31 (by kernel_rfl) rfl #[.int .u64 a0_0,.slice A0_1 l0_1.length c0_1,.int .i64 6] rfl (by (try simp only [List.map_toArray,List.map_cons,List.map_nil]);first|done|rfl|(simp only [List.length_drop,List.length_take];rfl)) ?_;(with_reducible refine (privityref10_Fair.calls k a0_0 _ _ l0_1 6 true _ ?side1 ?side2 A4.out).mono ?_);(case side1 => repeat (first|exact (Kd.C_below HR0_1.out HB.out)|(with_reducible refine Kd.C_alloc ?_ _)|(with_reducible refine Kd.C_drewN ?_ _)|(with_reducible refine Kd.C_drew ?_)));(case side2 => exact HC0_1.out);rintro e w21 ⟨rfl,hb⟩;refine ⟨_,rfl,?_⟩;have n0_ := Aside0.mk (blk_below (g := gb395) (o := .cells #[.int .u64 a0_0,.slice A0_1 l0_1.length c0_1,.slice A0_2 l0_2.length c0_2,.int .u64 a0_3,.int .u64 a0_4] 39 (0,0)) (by (with_reducible repeat (first|refine blk_drewN ?_ _|refine blk_drew ?_|refine blk_alloc ?_ _));exact BK395.out) hb);have n1_ := Aside0.mk (below_step (by repeat (first|(with_reducible first|exact HB.out|apply below_alloc|apply pw_below_drewN|apply below_drew1|refine below_set ?_ GE395.out)|exact HB.out)) hb);clear BK395;clear HB;have BK395 := n0_;have HB := n1_;clear n0_ n1_;(try clear hb);(try clear hb2);(try clear hk);(try clear hi);have hcz22_0 : w21.cell? ⟨gb395,0,none⟩ = some (.int .u64 a0_0) := (blk_cell BK395.out 0).trans rfl;have hcz22_1 : w21.cell? ⟨gb395,1,none⟩ = some (.slice A0_1 l0_1.length c0_1) := (blk_cell BK395.out 1).trans rfl;have hcz22_2 : w21.cell? ⟨gb395,2,none⟩ = some (.slice A0_2 l0_2.length c0_2) := (blk_cell BK395.out 2).trans rfl;have hcz22_3 : w21.cell? ⟨gb395,3,none⟩ = some (.int .u64 a0_3) := (blk_cell BK395.out 3).trans rfl;have hcz22_4 : w21.cell? ⟨gb395,4,none⟩ = some (.int .u64 a0_4) := (blk_cell BK395.out 4).trans rfl;have hfz22_0 := blk_frozen BK395.out 0;have hfz22_1 := blk_frozen BK395.out 1;have hfz22_2 := blk_frozen BK395.out 2;have hfz22_3 := blk_frozen BK395.out 3;have hfz22_4 := blk_frozen BK395.out 4)|(go_at_call 18;(with_reducible refine (privityref10_IsSymmetric.calls k _ _ l0_1 true _ ?side1 ?side2 A6.out).mono ?_);(case side1 => repeat (first|exact (Kd.C_below HR0_1.out HB.out)|(with_reducible refine Kd.C_alloc ?_ _)|(with_reducible refine Kd.C_drewN ?_ _)|(with_reducible refine Kd.C_drew ?_)));(case side2 => exact HC0_1.out);rintro e w' ⟨rfl,⟨nd,rfl⟩⟩)|(go_at_call 33;(with_reducible refine (privityref06_Below.calls k a0_0 _ _ l0_2 6 true _ ?side1 ?side2 A8.out).mono ?_);(case side1 => repeat (first|exact (Kd.C_below HR0_2.out (by repeat (first|(with_reducible first|exact HB.out|apply below_alloc|apply pw_below_drewN|apply below_drew1|refine below_set ?_ GE395.out)|exact HB.out)))|(with_reducible refine Kd.C_alloc ?_ _)|(with_reducible refine Kd.C_drewN ?_ _)|(with_reducible refine Kd.C_drew ?_)));(case side2 => exact HC0_2.out);rintro e w' ⟨rfl,⟨nd,rfl⟩⟩)|(go_at_call 34;(with_reducible refine (privityref10_Unlike.calls k _ _ l0_2 false _ ?side1 ?side2 A11.out).mono ?_);(case side1 => repeat (first|exact (Kd.C_below HR0_2.out (by repeat (first|(with_reducible first|exact HB.out|apply below_alloc|apply pw_below_drewN|apply below_drew1|refine below_set ?_ GE395.out)|exact HB.out)))|(with_reducible refine Kd.C_alloc ?_ _)|(with_reducible refine Kd.C_drewN ?_ _)|(with_reducible refine Kd.C_drew ?_)));(case side2 => exact HC0_2.out);rintro e w' ⟨rfl,⟨nd,rfl⟩⟩))
       go_meet
       case rel => exact ⟨_,(true),(by first|rfl|(simp;done)|(simp [*];done)),H',⟨by first|omega|exact Nat.le_refl _⟩,⟨by (with_reducible repeat (first|refine blk_drewN ?_ _|refine blk_drew ?_|refine blk_alloc ?_ _));exact BK395.out⟩,⟨by repeat (first|(with_reducible first|exact HB.out|apply below_alloc|apply pw_below_drewN|apply below_drew1|refine below_set ?_ GE395.out)|exact HB.out)⟩⟩
     ·rw [if_neg c10] at H
      have c10b0 : ((l0_2.length : Int) == (wrap64 ((l0_1.length : Int) - 1))) = false := beq_eq_false_iff_ne.mpr c10
      have c10b1 : ((l0_2.length : Int) != (wrap64 ((l0_1.length : Int) - 1))) = true := bne_iff_ne.mpr c10
      (first|rw [c10b0]|(simp only [i64_w,i32_w];rw [c10b0])|skip)
      have H' := Aside0.mk H
      clear H
      have hcz23_0 : w3.cell? ⟨gb395,0,none⟩ = some (.int .u64 a0_0) := (blk_cell BK395.out 0).trans rfl
      have hcz23_1 : w3.cell? ⟨gb395,1,none⟩ = some (.slice A0_1 l0_1.length c0_1) := (blk_cell BK395.out 1).trans rfl
      have hcz23_2 : w3.cell? ⟨gb395,2,none⟩ = some (.slice A0_2 l0_2.length c0_2) := (blk_cell BK395.out 2).trans rfl
      have hcz23_3 : w3.cell? ⟨gb395,3,none⟩ = some (.int .u64 a0_3) := (blk_cell BK395.out 3).trans rfl
      have hcz23_4 : w3.cell? ⟨gb395,4,none⟩ = some (.int .u64 a0_4) := (blk_cell BK395.out 4).trans rfl
      have hfz23_0 := blk_frozen BK395.out 0
      have hfz23_1 := blk_frozen BK395.out 1
      have hfz23_2 := blk_frozen BK395.out 2
      have hfz23_3 := blk_frozen BK395.out 3
      have hfz23_4 := blk_frozen BK395.out 4
      go_wp2_with (first|((with_reducible refine gate_callee (f := 31) rfl ?_);refine goesL_ (some 8) rfl rfl Try.func31 (by kernel_rfl) rfl #[.int .u64 a0_0,.slice A0_1 l0_1.length c0_1,.int .i64 6] rfl (by (try simp only [List.map_toArray,List.map_cons,List.map_nil]);first|done|rfl|(simp only [List.length_drop,List.length_take];rfl)) ?_;(with_reducible refine (privityref10_Fair.calls k a0_0 _ _ l0_1 6 true _ ?side1 ?side2 A4.out).mono ?_);(case side1 => repeat (first|exact (Kd.C_below HR0_1.out HB.out)|(with_reducible refine Kd.C_alloc ?_ _)|(with_reducible refine Kd.C_drewN ?_ _)|(with_reducible refine Kd.C_drew ?_)));(case side2 => exact HC0_1.out);rintro e w24 ⟨rfl,hb⟩;refine ⟨_,rfl,?_⟩;have n0_ := Aside0.mk (blk_below (g := gb395) (o := .cells #[.int .u64 a0_0,.slice A0_1 l0_1.length c0_1,.slice A0_2 l0_2.length c0_2,.int .u64 a0_3,.int .u64 a0_4] 39 (0,0)) (by (with_reducible repeat (first|refine blk_drewN ?_ _|refine blk_drew ?_|refine blk_alloc ?_ _));exact BK395.out) hb);have n1_ := Aside0.mk (below_step (by repeat (first|(with_reducible first|exact HB.out|apply below_alloc|apply pw_below_drewN|apply below_drew1|refine below_set ?_ GE395.out)|exact HB.out)) hb);clear BK395;clear HB;have BK395 := n0_;have HB := n1_;clear n0_ n1_;(try clear hb);(try clear hb2);(try clear hk);(try clear hi);have hcz25_0 : w24.cell? ⟨gb395,0,none⟩ = some (.int .u64 a0_0) := (blk_cell BK395.out 0).trans rfl;have hcz25_1 : w24.cell? ⟨gb395,1,none⟩ = some (.slice A0_1 l0_1.length c0_1) := (blk_cell BK395.out 1).trans rfl;have hcz25_2 : w24.cell? ⟨gb395,2,none⟩ = some (.slice A0_2 l0_2.length c0_2) := (blk_cell BK395.out 2).trans rfl;have hcz25_3 : w24.cell? ⟨gb395,3,none⟩ = some (.int .u64 a0_3) := (blk_cell BK395.out 3).trans rfl;have hcz25_4 : w24.cell? ⟨gb395,4,none⟩ = some (.int .u64 a0_4) := (blk_cell BK395.out 4).trans rfl;have hfz25_0 := blk_frozen BK395.out 0;have hfz25_1 := blk_frozen BK395.out 1;have hfz25_2 := blk_frozen BK395.out 2;have hfz25_3 := blk_frozen BK395.out 3;have hfz25_4 := blk_frozen BK395.out 4)|(go_at_call 18;(with_reducible refine (privityref10_IsSymmetric.calls k _ _ l0_1 true _ ?side1 ?side2 A6.out).mono ?_);(case side1 => repeat (first|exact (Kd.C_below HR0_1.out HB.out)|(with_reducible refine Kd.C_alloc ?_ _)|(with_reducible refine Kd.C_drewN ?_ _)|(with_reducible refine Kd.C_drew ?_)));(case side2 => exact HC0_1.out);rintro e w' ⟨rfl,⟨nd,rfl⟩⟩)|(go_at_call 33;(with_reducible refine (privityref06_Below.calls k a0_0 _ _ l0_2 6 true _ ?side1 ?side2 A8.out).mono ?_);(case side1 => repeat (first|exact (Kd.C_below HR0_2.out (by repeat (first|(with_reducible first|exact HB.out|apply below_alloc|apply pw_below_drewN|apply below_drew1|refine below_set ?_ GE395.out)|exact HB.out)))|(with_reducible refine Kd.C_alloc ?_ _)|(with_reducible refine Kd.C_drewN ?_ _)|(with_reducible refine Kd.C_drew ?_)));(case side2 => exact HC0_2.out);rintro e w' ⟨rfl,⟨nd,rfl⟩⟩))
      go_meet
      case rel => exact ⟨_,(true),(by first|rfl|(simp;done)|(simp [*];done)),H',⟨by first|omega|exact Nat.le_refl _⟩,⟨by (with_reducible repeat (first|refine blk_drewN ?_ _|refine blk_drew ?_|refine blk_alloc ?_ _));exact BK395.out⟩,⟨by repeat (first|(with_reducible first|exact HB.out|apply below_alloc|apply pw_below_drewN|apply below_drew1|refine below_set ?_ GE395.out)|exact HB.out)⟩⟩
    ·replace c9 := Bool.eq_false_iff.mpr c9
     subst c9
     have H1 : (privitylaw10_validTranslation.j0 k true a0_0 l0_1 l0_2 a0_3 a0_4) = some r := by rw [if_neg (show ¬ (false = true) by decide)] at H;exact H
     clear H
     have H := H1
     clear H1
     have H' := Aside0.mk H
     clear H
     have hcz26_0 : w3.cell? ⟨gb395,0,none⟩ = some (.int .u64 a0_0) := (blk_cell BK395.out 0).trans rfl
     have hcz26_1 : w3.cell? ⟨gb395,1,none⟩ = some (.slice A0_1 l0_1.length c0_1) := (blk_cell BK395.out 1).trans rfl
     have hcz26_2 : w3.cell? ⟨gb395,2,none⟩ = some (.slice A0_2 l0_2.length c0_2) := (blk_cell BK395.out 2).trans rfl
     have hcz26_3 : w3.cell? ⟨gb395,3,none⟩ = some (.int .u64 a0_3) := (blk_cell BK395.out 3).trans rfl
     have hcz26_4 : w3.cell? ⟨gb395,4,none⟩ = some (.int .u64 a0_4) := (blk_cell BK395.out 4).trans rfl
     have hfz26_0 := blk_frozen BK395.out 0
     have hfz26_1 := blk_frozen BK395.out 1
     have hfz26_2 := blk_frozen BK395.out 2
     have hfz26_3 := blk_frozen BK395.out 3
     have hfz26_4 := blk_frozen BK395.out 4
     go_wp2_with (first|((with_reducible refine gate_callee (f := 31) rfl ?_);refine goesL_ (some 8) rfl rfl Try.func31 (by kernel_rfl) rfl #[.int .u64 a0_0,.slice A0_1 l0_1.length c0_1,.int .i64 6] rfl (by (try simp only [List.map_toArray,List.map_cons,List.map_nil]);first|done|rfl|(simp only [List.length_drop,List.length_take];rfl)) ?_;(with_reducible refine (privityref10_Fair.calls k a0_0 _ _ l0_1 6 true _ ?side1 ?side2 A4.out).mono ?_);(case side1 => repeat (first|exact (Kd.C_below HR0_1.out HB.out)|(with_reducible refine Kd.C_alloc ?_ _)|(with_reducible refine Kd.C_drewN ?_ _)|(with_reducible refine Kd.C_drew ?_)));(case side2 => exact HC0_1.out);rintro e w27 ⟨rfl,hb⟩;refine ⟨_,rfl,?_⟩;have n0_ := Aside0.mk (blk_below (g := gb395) (o := .cells #[.int .u64 a0_0,.slice A0_1 l0_1.length c0_1,.slice A0_2 l0_2.length c0_2,.int .u64 a0_3,.int .u64 a0_4] 39 (0,0)) (by (with_reducible repeat (first|refine blk_drewN ?_ _|refine blk_drew ?_|refine blk_alloc ?_ _));exact BK395.out) hb);have n1_ := Aside0.mk (below_step (by repeat (first|(with_reducible first|exact HB.out|apply below_alloc|apply pw_below_drewN|apply below_drew1|refine below_set ?_ GE395.out)|exact HB.out)) hb);clear BK395;clear HB;have BK395 := n0_;have HB := n1_;clear n0_ n1_;(try clear hb);(try clear hb2);(try clear hk);(try clear hi);have hcz28_0 : w27.cell? ⟨gb395,0,none⟩ = some (.int .u64 a0_0) := (blk_cell BK395.out 0).trans rfl;have hcz28_1 : w27.cell? ⟨gb395,1,none⟩ = some (.slice A0_1 l0_1.length c0_1) := (blk_cell BK395.out 1).trans rfl;have hcz28_2 : w27.cell? ⟨gb395,2,none⟩ = some (.slice A0_2 l0_2.length c0_2) := (blk_cell BK395.out 2).trans rfl;have hcz28_3 : w27.cell? ⟨gb395,3,none⟩ = some (.int .u64 a0_3) := (blk_cell BK395.out 3).trans rfl;have hcz28_4 : w27.cell? ⟨gb395,4,none⟩ = some (.int .u64 a0_4) := (blk_cell BK395.out 4).trans rfl;have hfz28_0 := blk_frozen BK395.out 0;have hfz28_1 := blk_frozen BK395.out 1;have hfz28_2 := blk_frozen BK395.out 2;have hfz28_3 := blk_frozen BK395.out 3;have hfz28_4 := blk_frozen BK395.out 4)|(go_at_call 18;(with_reducible refine (privityref10_IsSymmetric.calls k _ _ l0_1 true _ ?side1 ?side2 A6.out).mono ?_);(case side1 => repeat (first|exact (Kd.C_below HR0_1.out HB.out)|(with_reducible refine Kd.C_alloc ?_ _)|(with_reducible refine Kd.C_drewN ?_ _)|(with_reducible refine Kd.C_drew ?_)));(case side2 => exact HC0_1.out);rintro e w' ⟨rfl,⟨nd,rfl⟩⟩)|(go_at_call 33;(with_reducible refine (privityref06_Below.calls k a0_0 _ _ l0_2 6 false _ ?side1 ?side2 A8.out).mono ?_);(case side1 => repeat (first|exact (Kd.C_below HR0_2.out (by repeat (first|(with_reducible first|exact HB.out|apply below_alloc|apply pw_below_drewN|apply below_drew1|refine below_set ?_ GE395.out)|exact HB.out)))|(with_reducible refine Kd.C_alloc ?_ _)|(with_reducible refine Kd.C_drewN ?_ _)|(with_reducible refine Kd.C_drew ?_)));(case side2 => exact HC0_2.out);rintro e w' ⟨rfl,⟨nd,rfl⟩⟩))
     go_meet
     case rel => exact ⟨_,(true),(by first|rfl|(simp;done)|(simp [*];done)),H',⟨by first|omega|exact Nat.le_refl _⟩,⟨by (with_reducible repeat (first|refine blk_drewN ?_ _|refine blk_drew ?_|refine blk_alloc ?_ _));exact BK395.out⟩,⟨by repeat (first|(with_reducible first|exact HB.out|apply below_alloc|apply pw_below_drewN|apply below_drew1|refine below_set ?_ GE395.out)|exact HB.out)⟩⟩
   ·replace c7 := Bool.eq_false_iff.mpr c7
    subst c7
    have H1 : (privitylaw10_validTranslation.j0 k true a0_0 l0_1 l0_2 a0_3 a0_4) = some r := by rw [if_neg (show ¬ (false = true) by decide)] at H;exact H
    clear H
    have H := H1
    clear H1
    have H' := Aside0.mk H
    clear H
    have hcz29_0 : w3.cell? ⟨gb395,0,none⟩ = some (.int .u64 a0_0) := (blk_cell BK395.out 0).trans rfl
    have hcz29_1 : w3.cell? ⟨gb395,1,none⟩ = some (.slice A0_1 l0_1.length c0_1) := (blk_cell BK395.out 1).trans rfl
    have hcz29_2 : w3.cell? ⟨gb395,2,none⟩ = some (.slice A0_2 l0_2.length c0_2) := (blk_cell BK395.out 2).trans rfl
    have hcz29_3 : w3.cell? ⟨gb395,3,none⟩ = some (.int .u64 a0_3) := (blk_cell BK395.out 3).trans rfl
    have hcz29_4 : w3.cell? ⟨gb395,4,none⟩ = some (.int .u64 a0_4) := (blk_cell BK395.out 4).trans rfl
    have hfz29_0 := blk_frozen BK395.out 0
    have hfz29_1 := blk_frozen BK395.out 1
    have hfz29_2 := blk_frozen BK395.out 2
    have hfz29_3 := blk_frozen BK395.out 3
    have hfz29_4 := blk_frozen BK395.out 4
    go_wp2_with (first|((with_reducible refine gate_callee (f := 31) rfl ?_);refine goesL_ (some 8) rfl rfl Try.func31 (by kernel_rfl) rfl #[.int .u64 a0_0,.slice A0_1 l0_1.length c0_1,.int .i64 6] rfl (by (try simp only [List.map_toArray,List.map_cons,List.map_nil]);first|done|rfl|(simp only [List.length_drop,List.length_take];rfl)) ?_;(with_reducible refine (privityref10_Fair.calls k a0_0 _ _ l0_1 6 true _ ?side1 ?side2 A4.out).mono ?_);(case side1 => repeat (first|exact (Kd.C_below HR0_1.out HB.out)|(with_reducible refine Kd.C_alloc ?_ _)|(with_reducible refine Kd.C_drewN ?_ _)|(with_reducible refine Kd.C_drew ?_)));(case side2 => exact HC0_1.out);rintro e w30 ⟨rfl,hb⟩;refine ⟨_,rfl,?_⟩;have n0_ := Aside0.mk (blk_below (g := gb395) (o := .cells #[.int .u64 a0_0,.slice A0_1 l0_1.length c0_1,.slice A0_2 l0_2.length c0_2,.int .u64 a0_3,.int .u64 a0_4] 39 (0,0)) (by (with_reducible repeat (first|refine blk_drewN ?_ _|refine blk_drew ?_|refine blk_alloc ?_ _));exact BK395.out) hb);have n1_ := Aside0.mk (below_step (by repeat (first|(with_reducible first|exact HB.out|apply below_alloc|apply pw_below_drewN|apply below_drew1|refine below_set ?_ GE395.out)|exact HB.out)) hb);clear BK395;clear HB;have BK395 := n0_;have HB := n1_;clear n0_ n1_;(try clear hb);(try clear hb2);(try clear hk);(try clear hi);have hcz31_0 : w30.cell? ⟨gb395,0,none⟩ = some (.int .u64 a0_0) := (blk_cell BK395.out 0).trans rfl;have hcz31_1 : w30.cell? ⟨gb395,1,none⟩ = some (.slice A0_1 l0_1.length c0_1) := (blk_cell BK395.out 1).trans rfl;have hcz31_2 : w30.cell? ⟨gb395,2,none⟩ = some (.slice A0_2 l0_2.length c0_2) := (blk_cell BK395.out 2).trans rfl;have hcz31_3 : w30.cell? ⟨gb395,3,none⟩ = some (.int .u64 a0_3) := (blk_cell BK395.out 3).trans rfl;have hcz31_4 : w30.cell? ⟨gb395,4,none⟩ = some (.int .u64 a0_4) := (blk_cell BK395.out 4).trans rfl;have hfz31_0 := blk_frozen BK395.out 0;have hfz31_1 := blk_frozen BK395.out 1;have hfz31_2 := blk_frozen BK395.out 2;have hfz31_3 := blk_frozen BK395.out 3;have hfz31_4 := blk_frozen BK395.out 4)|(go_at_call 18;(with_reducible refine (privityref10_IsSymmetric.calls k _ _ l0_1 false _ ?side1 ?side2 A6.out).mono ?_);(case side1 => repeat (first|exact (Kd.C_below HR0_1.out HB.out)|(with_reducible refine Kd.C_alloc ?_ _)|(with_reducible refine Kd.C_drewN ?_ _)|(with_reducible refine Kd.C_drew ?_)));(case side2 => exact HC0_1.out);rintro e w' ⟨rfl,⟨nd,rfl⟩⟩))
    go_meet
    case rel => exact ⟨_,(true),(by first|rfl|(simp;done)|(simp [*];done)),H',⟨by first|omega|exact Nat.le_refl _⟩,⟨by (with_reducible repeat (first|refine blk_drewN ?_ _|refine blk_drew ?_|refine blk_alloc ?_ _));exact BK395.out⟩,⟨by repeat (first|(with_reducible first|exact HB.out|apply below_alloc|apply pw_below_drewN|apply below_drew1|refine below_set ?_ GE395.out)|exact HB.out)⟩⟩
  ·replace c5 := Bool.eq_false_iff.mpr c5
   subst c5
   have H1 : (privitylaw10_validTranslation.j0 k true a0_0 l0_1 l0_2 a0_3 a0_4) = some r := by rw [if_neg (show ¬ (false = true) by decide)] at H;exact H
   clear H
   have H := H1
   clear H1
   have H' := Aside0.mk H
   clear H
   have hcz32_0 : w3.cell? ⟨gb395,0,none⟩ = some (.int .u64 a0_0) := (blk_cell BK395.out 0).trans rfl
   have hcz32_1 : w3.cell? ⟨gb395,1,none⟩ = some (.slice A0_1 l0_1.length c0_1) := (blk_cell BK395.out 1).trans rfl
   have hcz32_2 : w3.cell? ⟨gb395,2,none⟩ = some (.slice A0_2 l0_2.length c0_2) := (blk_cell BK395.out 2).trans rfl
   have hcz32_3 : w3.cell? ⟨gb395,3,none⟩ = some (.int .u64 a0_3) := (blk_cell BK395.out 3).trans rfl
   have hcz32_4 : w3.cell? ⟨gb395,4,none⟩ = some (.int .u64 a0_4) := (blk_cell BK395.out 4).trans rfl
   have hfz32_0 := blk_frozen BK395.out 0
   have hfz32_1 := blk_frozen BK395.out 1
   have hfz32_2 := blk_frozen BK395.out 2
   have hfz32_3 := blk_frozen BK395.out 3
   have hfz32_4 := blk_frozen BK395.out 4
   go_wp2_with (first|((with_reducible refine gate_callee (f := 31) rfl ?_);refine goesL_ (some 8) rfl rfl Try.func31 (by kernel_rfl) rfl #[.int .u64 a0_0,.slice A0_1 l0_1.length c0_1,.int .i64 6] rfl (by (try simp only [List.map_toArray,List.map_cons,List.map_nil]);first|done|rfl|(simp only [List.length_drop,List.length_take];rfl)) ?_;(with_reducible refine (privityref10_Fair.calls k a0_0 _ _ l0_1 6 false _ ?side1 ?side2 A4.out).mono ?_);(case side1 => repeat (first|exact (Kd.C_below HR0_1.out HB.out)|(with_reducible refine Kd.C_alloc ?_ _)|(with_reducible refine Kd.C_drewN ?_ _)|(with_reducible refine Kd.C_drew ?_)));(case side2 => exact HC0_1.out);rintro e w33 ⟨rfl,hb⟩;refine ⟨_,rfl,?_⟩;have n0_ := Aside0.mk (blk_below (g := gb395) (o := .cells #[.int .u64 a0_0,.slice A0_1 l0_1.length c0_1,.slice A0_2 l0_2.length c0_2,.int .u64 a0_3,.int .u64 a0_4] 39 (0,0)) (by (with_reducible repeat (first|refine blk_drewN ?_ _|refine blk_drew ?_|refine blk_alloc ?_ _));exact BK395.out) hb);have n1_ := Aside0.mk (below_step (by repeat (first|(with_reducible first|exact HB.out|apply below_alloc|apply pw_below_drewN|apply below_drew1|refine below_set ?_ GE395.out)|exact HB.out)) hb);clear BK395;clear HB;have BK395 := n0_;have HB := n1_;clear n0_ n1_;(try clear hb);(try clear hb2);(try clear hk);(try clear hi)))
   go_meet
   case rel => exact ⟨_,(true),(by first|rfl|(simp;done)|(simp [*];done)),H',⟨by first|omega|exact Nat.le_refl _⟩,⟨by (with_reducible repeat (first|refine blk_drewN ?_ _|refine blk_drew ?_|refine blk_alloc ?_ _));exact BK395.out⟩,⟨by repeat (first|(with_reducible first|exact HB.out|apply below_alloc|apply pw_below_drewN|apply below_drew1|refine below_set ?_ GE395.out)|exact HB.out)⟩⟩
 case rest =>
  clear HC2
  try clear c1
  try clear c2
  try clear p2
  try clear c3
  try clear c5
  try clear p6
  try clear c7
  try clear c9
  try clear c10
  try clear c10b0
  try clear c10b1
  try clear c12
  try clear c13
  try clear c13b0
  try clear c24
  try clear c31
  try clear hcz14_0
  try clear hcz14_1
  try clear hcz14_2
  try clear hcz14_3
  try clear hcz14_4
  try clear hcz16_0
  try clear hcz16_1
  try clear hcz16_2
  try clear hcz16_3
  try clear hcz16_4
  try clear hcz17_0
  try clear hcz17_1
  try clear hcz17_2
  try clear hcz17_3
  try clear hcz17_4
  try clear hcz19_0
  try clear hcz19_1
  try clear hcz19_2
  try clear hcz19_3
  try clear hcz19_4
  try clear hcz20_0
  try clear hcz20_1
  try clear hcz20_2
  try clear hcz20_3
  try clear hcz20_4
  try clear hcz22_0
  try clear hcz22_1
  try clear hcz22_2
  try clear hcz22_3
  try clear hcz22_4
  try clear hcz23_0
  try clear hcz23_1
  try clear hcz23_2
  try clear hcz23_3
  try clear hcz23_4
  try clear hcz25_0
  try clear hcz25_1
  try clear hcz25_2
  try clear hcz25_3
  try clear hcz25_4
  try clear hcz26_0
  try clear hcz26_1
  try clear hcz26_2
  try clear hcz26_3
  try clear hcz26_4
  try clear hcz28_0
  try clear hcz28_1
  try clear hcz28_2
  try clear hcz28_3
  try clear hcz28_4
  try clear hcz29_0
  try clear hcz29_1
  try clear hcz29_2
  try clear hcz29_3
  try clear hcz29_4
  try clear hcz31_0
  try clear hcz31_1
  try clear hcz31_2
  try clear hcz31_3
  try clear hcz31_4
  try clear hcz32_0
  try clear hcz32_1
  try clear hcz32_2
  try clear hcz32_3
  try clear hcz32_4
  try clear hfz14_0
  try clear hfz14_1
  try clear hfz14_2
  try clear hfz14_3
  try clear hfz14_4
  try clear hfz16_0
  try clear hfz16_1
  try clear hfz16_2
  try clear hfz16_3
  try clear hfz16_4
  try clear hfz17_0
  try clear hfz17_1
  try clear hfz17_2
  try clear hfz17_3
  try clear hfz17_4
  try clear hfz19_0
  try clear hfz19_1
  try clear hfz19_2
  try clear hfz19_3
  try clear hfz19_4
  try clear hfz20_0
  try clear hfz20_1
  try clear hfz20_2
  try clear hfz20_3
  try clear hfz20_4
  try clear hfz22_0
  try clear hfz22_1
  try clear hfz22_2
  try clear hfz22_3
  try clear hfz22_4
  try clear hfz23_0
  try clear hfz23_1
  try clear hfz23_2
  try clear hfz23_3
  try clear hfz23_4
  try clear hfz25_0
  try clear hfz25_1
  try clear hfz25_2
  try clear hfz25_3
  try clear hfz25_4
  try clear hfz26_0
  try clear hfz26_1
  try clear hfz26_2
  try clear hfz26_3
  try clear hfz26_4
  try clear hfz28_0
  try clear hfz28_1
  try clear hfz28_2
  try clear hfz28_3
  try clear hfz28_4
  try clear hfz29_0
  try clear hfz29_1
  try clear hfz29_2
  try clear hfz29_3
  try clear hfz29_4
  try clear hfz31_0
  try clear hfz31_1
  try clear hfz31_2
  try clear hfz31_3
  try clear hfz31_4
  try clear hfz32_0
  try clear hfz32_1
  try clear hfz32_2
  try clear hfz32_3
  try clear hfz32_4
  obtain ⟨kq,x53_1,rfl,HA,HJ1,BK395,HB⟩ := hcut
  cases kq with
  | zero => exact absurd HA.out (by simp [privitylaw10_validTranslation.j0])
  | succ kj1 =>
   have H := HA.out
   clear HA
   simp only [privitylaw10_validTranslation.j0] at H
   by_cases c34 : x53_1 = true
   ·subst c34
    have H1 : (some false) = some r := by rw [if_pos rfl] at H;exact H
    clear H
    have H := H1
    clear H1
    obtain rfl := Option.some.inj H
    go_wp2
    go_ret
    exact ⟨by first|rfl|(simp [errW_none,errW_some] <;> rfl)|(simp [*,errW_none,errW_some] <;> rfl),by repeat (first|(with_reducible first|exact HB.out|apply below_alloc|apply pw_below_drewN|apply below_drew1|refine below_set ?_ GE395.out)|exact HB.out)⟩
   ·replace c34 := Bool.eq_false_iff.mpr c34
    subst c34
    have H1 : (privitylaw10_validTranslation.l0 kj1 0 a0_0 l0_1 l0_2 a0_3 a0_4) = some r := by rw [if_neg (show ¬ (false = true) by decide)] at H;exact H
    clear H
    have H := H1
    clear H1
    have H' := Aside0.mk H
    clear H
    go_wp2
    go_loopg [3] kj1 (fun kq v3 w' => ∃ (x3_2 : Int),v3 = .int .i64 x3_2 ∧ Aside0 (privitylaw10_validTranslation.l0 kq x3_2 a0_0 l0_1 l0_2 a0_3 a0_4 = some r) ∧ Aside0 (kq ≤ kj1) ∧ Aside0 (w'.heap[gb395]? = some (.cells #[.int .u64 a0_0,(.slice A0_1 l0_1.length c0_1),(.slice A0_2 l0_2.length c0_2),.int .u64 a0_3,.int .u64 a0_4] 39 (0,0))) ∧ Aside0 (Below w.heap.size w w'))
    case atStart => exact ⟨(0),(by first|rfl|(simp;done)|(simp [*];done)),H',⟨Nat.le_refl _⟩,⟨by (with_reducible repeat (first|refine blk_drewN ?_ _|refine blk_drew ?_|refine blk_alloc ?_ _));exact BK395.out⟩,⟨by repeat (first|(with_reducible first|exact HB.out|apply below_alloc|apply pw_below_drewN|apply below_drew1|refine below_set ?_ GE395.out)|exact HB.out)⟩⟩
    case round =>
     clear H'
     try clear c1
     try clear c2
     try clear p2
     try clear c3
     try clear c5
     try clear p6
     try clear c7
     try clear c9
     try clear c10
     try clear c10b0
     try clear c10b1
     try clear c12
     try clear c13
     try clear c13b0
     try clear c24
     try clear c31
     try clear c34
     try clear hcz14_0
     try clear hcz14_1
     try clear hcz14_2
     try clear hcz14_3
     try clear hcz14_4
     try clear hcz16_0
     try clear hcz16_1
     try clear hcz16_2
     try clear hcz16_3
     try clear hcz16_4
     try clear hcz17_0
     try clear hcz17_1
     try clear hcz17_2
     try clear hcz17_3
     try clear hcz17_4
     try clear hcz19_0
     try clear hcz19_1
     try clear hcz19_2
     try clear hcz19_3
     try clear hcz19_4
     try clear hcz20_0
     try clear hcz20_1
     try clear hcz20_2
     try clear hcz20_3
     try clear hcz20_4
     try clear hcz22_0
     try clear hcz22_1
     try clear hcz22_2
     try clear hcz22_3
     try clear hcz22_4
     try clear hcz23_0
     try clear hcz23_1
     try clear hcz23_2
     try clear hcz23_3
     try clear hcz23_4
     try clear hcz25_0
     try clear hcz25_1
     try clear hcz25_2
     try clear hcz25_3
     try clear hcz25_4
     try clear hcz26_0
     try clear hcz26_1
     try clear hcz26_2
     try clear hcz26_3
     try clear hcz26_4
     try clear hcz28_0
     try clear hcz28_1
     try clear hcz28_2
     try clear hcz28_3
     try clear hcz28_4
     try clear hcz29_0
     try clear hcz29_1
     try clear hcz29_2
     try clear hcz29_3
     try clear hcz29_4
     try clear hcz31_0
     try clear hcz31_1
     try clear hcz31_2
     try clear hcz31_3
     try clear hcz31_4
     try clear hcz32_0
     try clear hcz32_1
     try clear hcz32_2
     try clear hcz32_3
     try clear hcz32_4
     try clear hfz14_0
     try clear hfz14_1
     try clear hfz14_2
     try clear hfz14_3
     try clear hfz14_4
     try clear hfz16_0
     try clear hfz16_1
     try clear hfz16_2
     try clear hfz16_3
     try clear hfz16_4
     try clear hfz17_0
     try clear hfz17_1
     try clear hfz17_2
     try clear hfz17_3
     try clear hfz17_4
     try clear hfz19_0
     try clear hfz19_1
     try clear hfz19_2
     try clear hfz19_3
     try clear hfz19_4
     try clear hfz20_0
     try clear hfz20_1
     try clear hfz20_2
     try clear hfz20_3
     try clear hfz20_4
     try clear hfz22_0
     try clear hfz22_1
     try clear hfz22_2
     try clear hfz22_3
     try clear hfz22_4
     try clear hfz23_0
     try clear hfz23_1
     try clear hfz23_2
     try clear hfz23_3
     try clear hfz23_4
     try clear hfz25_0
     try clear hfz25_1
     try clear hfz25_2
     try clear hfz25_3
     try clear hfz25_4
     try clear hfz26_0
     try clear hfz26_1
     try clear hfz26_2
     try clear hfz26_3
     try clear hfz26_4
     try clear hfz28_0
     try clear hfz28_1
     try clear hfz28_2
     try clear hfz28_3
     try clear hfz28_4
     try clear hfz29_0
     try clear hfz29_1
     try clear hfz29_2
     try clear hfz29_3
     try clear hfz29_4
     try clear hfz31_0
     try clear hfz31_1
     try clear hfz31_2
     try clear hfz31_3
     try clear hfz31_4
     try clear hfz32_0
     try clear hfz32_1
     try clear hfz32_2
     try clear hfz32_3
     try clear hfz32_4
     try clear p2
     try clear p6
     obtain ⟨x3_2,rfl,HA,HK2,BK395,HB⟩ := hrel
     cases gk with
     | zero => exact absurd HA.out (by simp [privitylaw10_validTranslation.l0])
     | succ k2 =>
      have H := HA.out
      clear HA
      simp only [privitylaw10_validTranslation.l0] at H
      by_cases c35 : x3_2 < (l0_2.length : Int)
      ·rw [if_pos c35] at H
       have c35b0 : decide (x3_2 < (l0_2.length : Int)) = true := decide_eq_true c35
       clear c35
       by_cases c36 : 0 ≤ x3_2
       ·rw [if_pos c36] at H
        have c36b0 : decide (0 ≤ x3_2) = true := decide_eq_true c36
        clear c36
        by_cases c37 : (rd l0_2 x3_2) = 0
        ·rw [if_pos c37] at H
         have c37b0 : ((rd l0_2 x3_2) == 0) = true := beq_iff_eq.mpr c37
         have c37b1 : ((rd l0_2 x3_2) != 0) = false := bne_eq_false_iff_eq.mpr c37
         clear c37
         obtain rfl := Option.some.inj H
         have hcz38_0 : wr.cell? ⟨gb395,0,none⟩ = some (.int .u64 a0_0) := (blk_cell BK395.out 0).trans rfl
         have hcz38_1 : wr.cell? ⟨gb395,1,none⟩ = some (.slice A0_1 l0_1.length c0_1) := (blk_cell BK395.out 1).trans rfl
         have hcz38_2 : wr.cell? ⟨gb395,2,none⟩ = some (.slice A0_2 l0_2.length c0_2) := (blk_cell BK395.out 2).trans rfl
         have hcz38_3 : wr.cell? ⟨gb395,3,none⟩ = some (.int .u64 a0_3) := (blk_cell BK395.out 3).trans rfl
         have hcz38_4 : wr.cell? ⟨gb395,4,none⟩ = some (.int .u64 a0_4) := (blk_cell BK395.out 4).trans rfl
         have hfz38_0 := blk_frozen BK395.out 0
         have hfz38_1 := blk_frozen BK395.out 1
         have hfz38_2 := blk_frozen BK395.out 2
         have hfz38_3 := blk_frozen BK395.out 3
         have hfz38_4 := blk_frozen BK395.out 4
         have p400 : 0 ≤ (x3_2 : Int) := of_decide_eq_true (by first|(with_reducible assumption)|assumption)
         have q400 : x3_2 < (l0_2.length : Int) := of_decide_eq_true (by first|(with_reducible assumption)|assumption)
         obtain ⟨ad400,e400,hx400_0⟩ := Kd.at_int HR0_2.out x3_2 p400 q400
         cases e400
         replace hx400_0 := (HB.out.cell (World.block_lt_of_cell? w _ hx400_0)).trans hx400_0
         replace p400 := eq_true p400
         replace q400 := eq_true q400
         go_wp2
         go_ret
         exact ⟨by first|rfl|(simp [errW_none,errW_some] <;> rfl)|(simp [*,errW_none,errW_some] <;> rfl),by repeat (first|(with_reducible first|exact HB.out|apply below_alloc|apply pw_below_drewN|apply below_drew1|refine below_set ?_ GE395.out)|exact HB.out)⟩
        ·rw [if_neg c37] at H
         have c37b0 : ((rd l0_2 x3_2) == 0) = false := beq_eq_false_iff_ne.mpr c37
         have c37b1 : ((rd l0_2 x3_2) != 0) = true := bne_iff_ne.mpr c37
         have H' := Aside0.mk H
         clear H
         have hcz39_0 : wr.cell? ⟨gb395,0,none⟩ = some (.int .u64 a0_0) := (blk_cell BK395.out 0).trans rfl
         have hcz39_1 : wr.cell? ⟨gb395,1,none⟩ = some (.slice A0_1 l0_1.length c0_1) := (blk_cell BK395.out 1).trans rfl
         have hcz39_2 : wr.cell? ⟨gb395,2,none⟩ = some (.slice A0_2 l0_2.length c0_2) := (blk_cell BK395.out 2).trans rfl
         have hcz39_3 : wr.cell? ⟨gb395,3,none⟩ = some (.int .u64 a0_3) := (blk_cell BK395.out 3).trans rfl
         have hcz39_4 : wr.cell? ⟨gb395,4,none⟩ = some (.int .u64 a0_4) := (blk_cell BK395.out 4).trans rfl
         have hfz39_0 := blk_frozen BK395.out 0
         have hfz39_1 := blk_frozen BK395.out 1
         have hfz39_2 := blk_frozen BK395.out 2
         have hfz39_3 := blk_frozen BK395.out 3
         have hfz39_4 := blk_frozen BK395.out 4
         have p400 : 0 ≤ (x3_2 : Int) := of_decide_eq_true (by first|(with_reducible assumption)|assumption)
         have q400 : x3_2 < (l0_2.length : Int) := of_decide_eq_true (by first|(with_reducible assumption)|assumption)
         obtain ⟨ad400,e400,hx400_0⟩ := Kd.at_int HR0_2.out x3_2 p400 q400
         cases e400
         replace hx400_0 := (HB.out.cell (World.block_lt_of_cell? w _ hx400_0)).trans hx400_0
         replace p400 := eq_true p400
         replace q400 := eq_true q400
         go_wp2
         go_roundg k2
         case measure => have := HJ1.out;have := HK2.out;omega
         case rel => exact ⟨(wrap64 (x3_2 + 1)),(by first|rfl|(simp;done)|(simp [*];done)),H',⟨by have := HJ1.out;have := HK2.out;omega⟩,⟨by (with_reducible repeat (first|refine blk_drewN ?_ _|refine blk_drew ?_|refine blk_alloc ?_ _));exact BK395.out⟩,⟨by repeat (first|(with_reducible first|exact HB.out|apply below_alloc|apply pw_below_drewN|apply below_drew1|refine below_set ?_ GE395.out)|exact HB.out)⟩⟩
       ·rw [if_neg c36] at H
        exact absurd H (by simp)
      ·rw [if_neg c35] at H
       have c35b0 : decide (x3_2 < (l0_2.length : Int)) = false := decide_eq_false c35
       clear c35
       obtain rfl := Option.some.inj H
       have hcz40_0 : wr.cell? ⟨gb395,0,none⟩ = some (.int .u64 a0_0) := (blk_cell BK395.out 0).trans rfl
       have hcz40_1 : wr.cell? ⟨gb395,1,none⟩ = some (.slice A0_1 l0_1.length c0_1) := (blk_cell BK395.out 1).trans rfl
       have hcz40_2 : wr.cell? ⟨gb395,2,none⟩ = some (.slice A0_2 l0_2.length c0_2) := (blk_cell BK395.out 2).trans rfl
       have hcz40_3 : wr.cell? ⟨gb395,3,none⟩ = some (.int .u64 a0_3) := (blk_cell BK395.out 3).trans rfl
       have hcz40_4 : wr.cell? ⟨gb395,4,none⟩ = some (.int .u64 a0_4) := (blk_cell BK395.out 4).trans rfl
       have hfz40_0 := blk_frozen BK395.out 0
       have hfz40_1 := blk_frozen BK395.out 1
       have hfz40_2 := blk_frozen BK395.out 2
       have hfz40_3 := blk_frozen BK395.out 3
       have hfz40_4 := blk_frozen BK395.out 4
       go_wp2
       go_ret
       exact ⟨by first|rfl|(simp [errW_none,errW_some] <;> rfl)|(simp [*,errW_none,errW_some] <;> rfl),by repeat (first|(with_reducible first|exact HB.out|apply below_alloc|apply pw_below_drewN|apply below_drew1|refine below_set ?_ GE395.out)|exact HB.out)⟩
end Go.Proofs.Ytkhdocabgmemiaa.Pr
end
section
/- Printed by a program of this seat (the kit's printer, with the functions that were proved by hand given to it). What stands here: the functions that the statements reach, as plain functions, and that the Go code computes them. -/
namespace Go.Proofs.Ytkhdocabgmemiaa.Pr
open Go.RowKit Go.Proofs.YtkhdocabgmemiaaW.PrintWords Go.Proofs.YtkhdocabgmemiaaW.PrintLast Go.Proofs.YtkhdocabgmemiaaW.PrintMore
attribute [local go_sem] max2_int min2_int max_two min_two max_three min_three max_four min_four   -- for this text's walks alone
set_option linter.unusedVariables false
set_option linter.unusedSimpArgs false

open Go.Proofs.Ytkhdocabgmemiaa.Hw
/-! ### privitylaw10_validRows: function 19 -/
/-! ### privityref01_Add: function 41 -/
def privityref01_Add.f (a0 : Int) (a1 : Int) (a2 : Int) : Option (Int) := if a0 = 0 then (none) else (some (Int.tmod (IntKind.u64.wrap (a1 + a2)) a0))
set_option maxHeartbeats 8000000 in
set_option maxRecDepth 100000 in
theorem privityref01_Add.calls (a0 : Int) (a1 : Int) (a2 : Int) (r : Int) (w : World) (h : privityref01_Add.f a0 a1 a2 = some r) :
  Calls Try.prog 41 #[.int .u64 a0,.int .u64 a1,.int .u64 a2] w fun e w' => e = .returned (.int .u64 r) ∧ Drawn0 w w' := by
 have H : (if a0 = 0 then (none) else (some (Int.tmod (IntKind.u64.wrap (a1 + a2)) a0))) = some r := h
 clear h
 by_cases c4 : a0 = 0
 ·rw [if_pos c4] at H
  exact absurd H (by simp)
 ·rw [if_neg c4] at H
  have c4b0 : (a0 == 0) = false := beq_eq_false_iff_ne.mpr c4
  have c4b1 : (a0 != 0) = true := bne_iff_ne.mpr c4
  obtain rfl := Option.some.inj H
  go_enter Try.func41,Try.ntmps41
  go_wp2
  go_ret
  exact ⟨by first|rfl|(simp;done)|(simp [*];done),by repeat (first|exact Drawn0.refl _|apply Drawn0.step)⟩
/-! ### privityref01_Mul: function 52 -/
def privityref01_Mul.l0 : Nat → Int → Int → Int → Int → Option (Int)
 | 0,_,_,_,_ => none
 | k + 1,x0,x1,x2,x7 => if x2 > 0 then (if (Int.tmod x2 2) = 1 then (if x0 = 0 then (none) else (privityref01_Mul.l0 k x0 (Int.tmod (IntKind.u64.wrap (x1 + x1)) x0) (IntKind.u64.wrap (Int.tdiv x2 2)) (Int.tmod (IntKind.u64.wrap (x7 + x1)) x0))) else (if x0 = 0 then (none) else (privityref01_Mul.l0 k x0 (Int.tmod (IntKind.u64.wrap (x1 + x1)) x0) (IntKind.u64.wrap (Int.tdiv x2 2)) x7))) else (some x7)
def privityref01_Mul.f (k : Nat) (a0 : Int) (a1 : Int) (a2 : Int) : Option (Int) := privityref01_Mul.l0 k a0 a1 a2 0
theorem privityref01_Mul.mono_l : ∀ k, (∀ y0 y1 y2 y3, LeO (privityref01_Mul.l0 k y0 y1 y2 y3) (privityref01_Mul.l0 (k + 1) y0 y1 y2 y3))
 | 0 => fun _ _ _ _ r h => by simp [privityref01_Mul.l0] at h
 | k + 1 => by
  have ih0 := privityref01_Mul.mono_l k
  ·intro y0 y1 y2 y3
   unfold privityref01_Mul.l0
   repeat' first
   | (with_reducible exact ih0 _ _ _ _)
   | (with_reducible exact LeO.refl _)
   | (with_reducible exact LeO.none _)
   | (with_reducible refine LeO.ite ?_ ?_)
   | (with_reducible refine LeO.bind ?_ (fun _ => ?_))
   | exact ih0 _ _ _ _
   | exact LeO.none _
   | refine LeO.ite ?_ ?_
   | refine LeO.bind ?_ (fun _ => ?_)
theorem privityref01_Mul.mono : ∀ a0 a1 a2 k, LeO (privityref01_Mul.f k a0 a1 a2) (privityref01_Mul.f (k + 1) a0 a1 a2) := by
 intro a0 a1 a2 k
 have ih0 := privityref01_Mul.mono_l k
 unfold privityref01_Mul.f
 repeat' first
   | (with_reducible exact ih0 _ _ _ _)
   | (with_reducible exact LeO.refl _)
   | (with_reducible exact LeO.none _)
   | (with_reducible refine LeO.ite ?_ ?_)
   | (with_reducible refine LeO.bind ?_ (fun _ => ?_))
   | exact ih0 _ _ _ _
   | exact LeO.none _
   | refine LeO.ite ?_ ?_
   | refine LeO.bind ?_ (fun _ => ?_)
set_option maxHeartbeats 8000000 in
set_option maxRecDepth 100000 in
theorem privityref01_Mul.calls (k : Nat) (a0 : Int) (a1 : Int) (a2 : Int) (r : Int) (w : World) (h : privityref01_Mul.f k a0 a1 a2 = some r) :
  Calls Try.prog 52 #[.int .u64 a0,.int .u64 a1,.int .u64 a2] w fun e w' => e = .returned (.int .u64 r) ∧ Drawn0 w w' := by
 have H : (privityref01_Mul.l0 k a0 a1 a2 0) = some r := h
 clear h
 have H' := Aside0.mk H
 clear H
 go_enter Try.func52,Try.ntmps52
 go_wp2
 go_loopg [1,2,7] k (fun kq v1 v2 v7 w' => ∃ (x1_1 : Int) (x2_1 : Int) (x7_1 : Int),v1 = .int .u64 x1_1 ∧ v2 = .int .u64 x2_1 ∧ v7 = .int .u64 x7_1 ∧ Aside0 (privityref01_Mul.l0 kq a0 x1_1 x2_1 x7_1 = some r) ∧ Aside0 (kq ≤ k) ∧ Drawn0 w w')
 case atStart => exact ⟨(a1),(a2),(0),(by first|rfl|(simp;done)|(simp [*];done)),(by first|rfl|(simp;done)|(simp [*];done)),(by first|rfl|(simp;done)|(simp [*];done)),H',⟨Nat.le_refl _⟩,by repeat (first|exact Drawn0.refl _|apply Drawn0.step)⟩
 case round =>
  clear H'
  try clear p2
  obtain ⟨x1_1,x2_1,x7_1,rfl,rfl,rfl,HA,HK1,⟨m1,rfl⟩⟩ := hrel
  cases gk with
  | zero => exact absurd HA.out (by simp [privityref01_Mul.l0])
  | succ k1 =>
   have H := HA.out
   clear HA
   simp only [privityref01_Mul.l0] at H
   by_cases c4 : x2_1 > 0
   ·rw [if_pos c4] at H
    have c4b0 : decide (0 < x2_1) = true := decide_eq_true c4
    clear c4
    by_cases c5 : (Int.tmod x2_1 2) = 1
    ·rw [if_pos c5] at H
     have c5b0 : ((Int.tmod x2_1 2) == 1) = true := beq_iff_eq.mpr c5
     have c5b1 : ((Int.tmod x2_1 2) != 1) = false := bne_eq_false_iff_eq.mpr c5
     clear c5
     by_cases c6 : a0 = 0
     ·rw [if_pos c6] at H
      exact absurd H (by simp)
     ·rw [if_neg c6] at H
      have c6b0 : (a0 == 0) = false := beq_eq_false_iff_ne.mpr c6
      have c6b1 : (a0 != 0) = true := bne_iff_ne.mpr c6
      have H' := Aside0.mk H
      clear H
      go_wp2
      go_roundg k1
      case measure => have := HK1.out;omega
      case rel => exact ⟨(Int.tmod (IntKind.u64.wrap (x1_1 + x1_1)) a0),(IntKind.u64.wrap (Int.tdiv x2_1 2)),(Int.tmod (IntKind.u64.wrap (x7_1 + x1_1)) a0),(by first|rfl|(simp;done)|(simp [*];done)),(by first|rfl|(simp;done)|(simp [*];done)),(by first|rfl|(simp;done)|(simp [*];done)),H',⟨by have := HK1.out;omega⟩,by repeat (first|exact Drawn0.refl _|apply Drawn0.step)⟩
    ·rw [if_neg c5] at H
     have c5b0 : ((Int.tmod x2_1 2) == 1) = false := beq_eq_false_iff_ne.mpr c5
     have c5b1 : ((Int.tmod x2_1 2) != 1) = true := bne_iff_ne.mpr c5
     by_cases c7 : a0 = 0
     ·rw [if_pos c7] at H
      exact absurd H (by simp)
     ·rw [if_neg c7] at H
      have c7b0 : (a0 == 0) = false := beq_eq_false_iff_ne.mpr c7
      have c7b1 : (a0 != 0) = true := bne_iff_ne.mpr c7
      have H' := Aside0.mk H
      clear H
      go_wp2
      go_roundg k1
      case measure => have := HK1.out;omega
      case rel => exact ⟨(Int.tmod (IntKind.u64.wrap (x1_1 + x1_1)) a0),(IntKind.u64.wrap (Int.tdiv x2_1 2)),(x7_1),(by first|rfl|(simp;done)|(simp [*];done)),(by first|rfl|(simp;done)|(simp [*];done)),(by first|rfl|(simp;done)|(simp [*];done)),H',⟨by have := HK1.out;omega⟩,by repeat (first|exact Drawn0.refl _|apply Drawn0.step)⟩
   ·rw [if_neg c4] at H
    have c4b0 : decide (0 < x2_1) = false := decide_eq_false c4
    clear c4
    obtain rfl := Option.some.inj H
    go_wp2
    go_ret
    exact ⟨by first|rfl|(simp;done)|(simp [*];done),by repeat (first|exact Drawn0.refl _|apply Drawn0.step)⟩
/-! ### privityref10_Value: function 21 -/
end Go.Proofs.Ytkhdocabgmemiaa.Pr
end
section
/- Printed by a program of this seat (the kit's printer, with the functions that were proved by hand given to it). What stands here: the functions that the statements reach, as plain functions, and that the Go code computes them. -/
namespace Go.Proofs.Ytkhdocabgmemiaa.Pr
open Go.RowKit Go.Proofs.YtkhdocabgmemiaaW.PrintWords Go.Proofs.YtkhdocabgmemiaaW.PrintLast Go.Proofs.YtkhdocabgmemiaaW.PrintMore
attribute [local go_sem] max2_int min2_int max_two min_two max_three min_three max_four min_four   -- for this text's walks alone
set_option linter.unusedVariables false
set_option linter.unusedSimpArgs false

open Go.Proofs.Ytkhdocabgmemiaa.Hw
/-! ### privityref01_Sub: function 46 -/
def privityref01_Sub.f (a0 : Int) (a1 : Int) (a2 : Int) : Option (Int) := if a0 = 0 then (none) else (some (Int.tmod (IntKind.u64.wrap ((IntKind.u64.wrap (a1 + a0)) - a2)) a0))
set_option maxHeartbeats 8000000 in
set_option maxRecDepth 100000 in
theorem privityref01_Sub.calls (a0 : Int) (a1 : Int) (a2 : Int) (r : Int) (w : World) (h : privityref01_Sub.f a0 a1 a2 = some r) :
  Calls Try.prog 46 #[.int .u64 a0,.int .u64 a1,.int .u64 a2] w fun e w' => e = .returned (.int .u64 r) ∧ Drawn0 w w' := by
 have H : (if a0 = 0 then (none) else (some (Int.tmod (IntKind.u64.wrap ((IntKind.u64.wrap (a1 + a0)) - a2)) a0))) = some r := h
 clear h
 by_cases c4 : a0 = 0
 ·rw [if_pos c4] at H
  exact absurd H (by simp)
 ·rw [if_neg c4] at H
  have c4b0 : (a0 == 0) = false := beq_eq_false_iff_ne.mpr c4
  have c4b1 : (a0 != 0) = true := bne_iff_ne.mpr c4
  obtain rfl := Option.some.inj H
  go_enter Try.func46,Try.ntmps46
  go_wp2
  go_ret
  exact ⟨by first|rfl|(simp;done)|(simp [*];done),by repeat (first|exact Drawn0.refl _|apply Drawn0.step)⟩
/-! ### privityref01_Pow: function 68 -/
def privityref01_Pow.l0 : Nat → Int → Int → Int → Int → Option (Int)
 | 0,_,_,_,_ => none
 | k + 1,x0,x1,x2,x7 => if x2 > 0 then (if (Int.tmod x2 2) = 1 then ((privityref01_Mul.f k x0 x7 x1).bind fun t401 => ((privityref01_Mul.f k x0 x1 x1).bind fun t402 => (privityref01_Pow.l0 k x0 t402 (IntKind.u64.wrap (Int.tdiv x2 2)) t401))) else ((privityref01_Mul.f k x0 x1 x1).bind fun t403 => (privityref01_Pow.l0 k x0 t403 (IntKind.u64.wrap (Int.tdiv x2 2)) x7))) else (some x7)
def privityref01_Pow.f (k : Nat) (a0 : Int) (a1 : Int) (a2 : Int) : Option (Int) := privityref01_Pow.l0 k a0 a1 a2 1
theorem privityref01_Pow.mono_l : ∀ k, (∀ y0 y1 y2 y3, LeO (privityref01_Pow.l0 k y0 y1 y2 y3) (privityref01_Pow.l0 (k + 1) y0 y1 y2 y3))
 | 0 => fun _ _ _ _ r h => by simp [privityref01_Pow.l0] at h
 | k + 1 => by
  have ih0 := privityref01_Pow.mono_l k
  ·intro y0 y1 y2 y3
   unfold privityref01_Pow.l0
   repeat' first
   | (with_reducible exact ih0 _ _ _ _)
   | (with_reducible exact privityref01_Mul.mono _ _ _ _)
   | (with_reducible exact LeO.refl _)
   | (with_reducible exact LeO.none _)
   | (with_reducible refine LeO.ite ?_ ?_)
   | (with_reducible refine LeO.bind ?_ (fun _ => ?_))
   | exact ih0 _ _ _ _
   | exact privityref01_Mul.mono _ _ _ _
   | exact LeO.none _
   | refine LeO.ite ?_ ?_
   | refine LeO.bind ?_ (fun _ => ?_)
set_option maxHeartbeats 8000000 in
set_option maxRecDepth 100000 in
theorem privityref01_Pow.calls (k : Nat) (a0 : Int) (a1 : Int) (a2 : Int) (r : Int) (w : World) (h : privityref01_Pow.f k a0 a1 a2 = some r) :
  Calls Try.prog 68 #[.int .u64 a0,.int .u64 a1,.int .u64 a2] w fun e w' => e = .returned (.int .u64 r) ∧ Drawn0 w w' := by
 have H : (privityref01_Pow.l0 k a0 a1 a2 1) = some r := h
 clear h
 have H' := Aside0.mk H
 clear H
 go_enter Try.func68,Try.ntmps68
 go_wp2
 go_loopg [1,2,7] k (fun kq v1 v2 v7 w' => ∃ (x1_1 : Int) (x2_1 : Int) (x7_1 : Int),v1 = .int .u64 x1_1 ∧ v2 = .int .u64 x2_1 ∧ v7 = .int .u64 x7_1 ∧ Aside0 (privityref01_Pow.l0 kq a0 x1_1 x2_1 x7_1 = some r) ∧ Aside0 (kq ≤ k) ∧ Drawn0 w w')
 case atStart => exact ⟨(a1),(a2),(1),(by first|rfl|(simp;done)|(simp [*];done)),(by first|rfl|(simp;done)|(simp [*];done)),(by first|rfl|(simp;done)|(simp [*];done)),H',⟨Nat.le_refl _⟩,by repeat (first|exact Drawn0.refl _|apply Drawn0.step)⟩
 case round =>
  clear H'
  try clear p2
  obtain ⟨x1_1,x2_1,x7_1,rfl,rfl,rfl,HA,HK1,⟨m1,rfl⟩⟩ := hrel
  cases gk with
  | zero => exact absurd HA.out (by simp [privityref01_Pow.l0])
  | succ k1 =>
   have H := HA.out
   clear HA
   simp only [privityref01_Pow.l0] at H
   by_cases c4 : x2_1 > 0
   ·rw [if_pos c4] at H
    have c4b0 : decide (0 < x2_1) = true := decide_eq_true c4
    clear c4
    by_cases c5 : (Int.tmod x2_1 2) = 1
    ·rw [if_pos c5] at H
     have c5b0 : ((Int.tmod x2_1 2) == 1) = true := beq_iff_eq.mpr c5
     have c5b1 : ((Int.tmod x2_1 2) != 1) = false := bne_eq_false_iff_eq.mpr c5
     clear c5
     replace H := Option.bind_eq_some_iff.mp H
     obtain ⟨t401,A60,H⟩ := H
     replace H : ((privityref01_Mul.f k1 a0 x1_1 x1_1).bind fun t402 => (privityref01_Pow.l0 k1 a0 t402 (IntKind.u64.wrap (Int.tdiv x2_1 2)) t401)) = some r := H
     have A6 := Aside0.mk A60
     clear A60
     replace H := Option.bind_eq_some_iff.mp H
     obtain ⟨t402,A70,H⟩ := H
     replace H : (privityref01_Pow.l0 k1 a0 t402 (IntKind.u64.wrap (Int.tdiv x2_1 2)) t401) = some r := H
     have A7 := Aside0.mk A70
     clear A70
     have H' := Aside0.mk H
     clear H
     go_wp2_with (first|((with_reducible refine gate_callee (f := 52) rfl ?_);refine goesL_ (some 16) rfl rfl Try.func52 (by kernel_rfl) rfl #[.int .u64 a0,.int .u64 x7_1,.int .u64 x1_1] rfl (by (try simp only [List.map_toArray,List.map_cons,List.map_nil]);first|done|rfl|(simp only [List.length_drop,List.length_take];rfl)) ?_;(with_reducible refine (privityref01_Mul.calls k1 a0 x7_1 x1_1 t401 _ A6.out).mono ?_);rintro e w' ⟨rfl,⟨nd,rfl⟩⟩;refine ⟨_,rfl,?_⟩)|((with_reducible refine gate_callee (f := 52) rfl ?_);refine goesL_ (some 20) rfl rfl Try.func52 (by kernel_rfl) rfl #[.int .u64 a0,.int .u64 x1_1,.int .u64 x1_1] rfl (by (try simp only [List.map_toArray,List.map_cons,List.map_nil]);first|done|rfl|(simp only [List.length_drop,List.length_take];rfl)) ?_;(with_reducible refine (privityref01_Mul.calls k1 a0 x1_1 x1_1 t402 _ A7.out).mono ?_);rintro e w' ⟨rfl,⟨nd,rfl⟩⟩;refine ⟨_,rfl,?_⟩))
     go_roundg k1
     case measure => have := HK1.out;omega
     case rel => exact ⟨(t402),(IntKind.u64.wrap (Int.tdiv x2_1 2)),(t401),(by first|rfl|(simp;done)|(simp [*];done)),(by first|rfl|(simp;done)|(simp [*];done)),(by first|rfl|(simp;done)|(simp [*];done)),H',⟨by have := HK1.out;omega⟩,by repeat (first|exact Drawn0.refl _|apply Drawn0.step)⟩
    ·rw [if_neg c5] at H
     have c5b0 : ((Int.tmod x2_1 2) == 1) = false := beq_eq_false_iff_ne.mpr c5
     have c5b1 : ((Int.tmod x2_1 2) != 1) = true := bne_iff_ne.mpr c5
     replace H := Option.bind_eq_some_iff.mp H
     obtain ⟨t403,A80,H⟩ := H
     replace H : (privityref01_Pow.l0 k1 a0 t403 (IntKind.u64.wrap (Int.tdiv x2_1 2)) x7_1) = some r := H
     have A8 := Aside0.mk A80
     clear A80
     have H' := Aside0.mk H
     clear H
     go_wp2_with (first|((with_reducible refine gate_callee (f := 52) rfl ?_);refine goesL_ (some 20) rfl rfl Try.func52 (by kernel_rfl) rfl #[.int .u64 a0,.int .u64 x1_1,.int .u64 x1_1] rfl (by (try simp only [List.map_toArray,List.map_cons,List.map_nil]);first|done|rfl|(simp only [List.length_drop,List.length_take];rfl)) ?_;(with_reducible refine (privityref01_Mul.calls k1 a0 x1_1 x1_1 t403 _ A8.out).mono ?_);rintro e w' ⟨rfl,⟨nd,rfl⟩⟩;refine ⟨_,rfl,?_⟩))
     go_roundg k1
     case measure => have := HK1.out;omega
     case rel => exact ⟨(t403),(IntKind.u64.wrap (Int.tdiv x2_1 2)),(x7_1),(by first|rfl|(simp;done)|(simp [*];done)),(by first|rfl|(simp;done)|(simp [*];done)),(by first|rfl|(simp;done)|(simp [*];done)),H',⟨by have := HK1.out;omega⟩,by repeat (first|exact Drawn0.refl _|apply Drawn0.step)⟩
   ·rw [if_neg c4] at H
    have c4b0 : decide (0 < x2_1) = false := decide_eq_false c4
    clear c4
    obtain rfl := Option.some.inj H
    go_wp2
    go_ret
    exact ⟨by first|rfl|(simp;done)|(simp [*];done),by repeat (first|exact Drawn0.refl _|apply Drawn0.step)⟩
/-! ### privityref01_Inverse: function 54 -/
def privityref01_Inverse.f (k : Nat) (a0 : Int) (a1 : Int) : Option (Int × Int) := if a1 = 0 then (some (0, 8)) else ((privityref01_Pow.f k a0 a1 (IntKind.u64.wrap (a0 - 2))).bind fun t404 => (some (t404, 0)))
set_option maxHeartbeats 8000000 in
set_option maxRecDepth 100000 in
theorem privityref01_Inverse.calls (k : Nat) (a0 : Int) (a1 : Int) (r1 : Int) (r2 : Int) (w : World) (h : privityref01_Inverse.f k a0 a1 = some (r1, r2)) :
  Calls Try.prog 54 #[.int .u64 a0,.int .u64 a1] w fun e w' => e = .returned (.tuple #[.int .u64 r1,.int .i64 r2]) ∧ Drawn0 w w' := by
 have H : (if a1 = 0 then (some (0,8)) else ((privityref01_Pow.f k a0 a1 (IntKind.u64.wrap (a0 - 2))).bind fun t404 => (some (t404,0)))) = some (r1,r2) := h
 clear h
 by_cases c3 : a1 = 0
 ·rw [if_pos c3] at H
  have c3b0 : (a1 == 0) = true := beq_iff_eq.mpr c3
  have c3b1 : (a1 != 0) = false := bne_eq_false_iff_eq.mpr c3
  clear c3
  simp only [Option.some.injEq,Prod.mk.injEq] at H
  obtain ⟨rfl,rfl⟩ := H
  go_enter Try.func54,Try.ntmps54
  go_wp2
  go_ret2
  exact ⟨by first|rfl|(simp;done)|(simp [*];done),by repeat (first|exact Drawn0.refl _|apply Drawn0.step)⟩
 ·rw [if_neg c3] at H
  have c3b0 : (a1 == 0) = false := beq_eq_false_iff_ne.mpr c3
  have c3b1 : (a1 != 0) = true := bne_iff_ne.mpr c3
  replace H := Option.bind_eq_some_iff.mp H
  obtain ⟨t404,A40,H⟩ := H
  replace H : (some (t404,0)) = some (r1,r2) := H
  have A4 := Aside0.mk A40
  clear A40
  simp only [Option.some.injEq,Prod.mk.injEq] at H
  obtain ⟨rfl,rfl⟩ := H
  go_enter Try.func54,Try.ntmps54
  go_wp2_with (first|((with_reducible refine gate_callee (f := 68) rfl ?_);refine goesL_ (some 12) rfl rfl Try.func68 (by kernel_rfl) rfl #[.int .u64 a0,.int .u64 a1,.int .u64 (IntKind.u64.wrap (a0 - 2))] rfl (by (try simp only [List.map_toArray,List.map_cons,List.map_nil]);first|done|rfl|(simp only [List.length_drop,List.length_take];rfl)) ?_;(with_reducible refine (privityref01_Pow.calls k a0 a1 (IntKind.u64.wrap (a0 - 2)) t404 _ A4.out).mono ?_);rintro e w' ⟨rfl,⟨nd,rfl⟩⟩;refine ⟨_,rfl,?_⟩))
  go_ret2
  exact ⟨by first|rfl|(simp;done)|(simp [*];done),by repeat (first|exact Drawn0.refl _|apply Drawn0.step)⟩
end Go.Proofs.Ytkhdocabgmemiaa.Pr
end
section
/- Printed by a program of this seat (the kit's printer, with the functions that were proved by hand given to it). What stands here: the functions that the statements reach, as plain functions, and that the Go code computes them. -/
namespace Go.Proofs.Ytkhdocabgmemiaa.Pr
open Go.RowKit Go.Proofs.YtkhdocabgmemiaaW.PrintWords Go.Proofs.YtkhdocabgmemiaaW.PrintLast Go.Proofs.YtkhdocabgmemiaaW.PrintMore
attribute [local go_sem] max2_int min2_int max_two min_two max_three min_three max_four min_four   -- for this text's walks alone
set_option linter.unusedVariables false
set_option linter.unusedSimpArgs false

open Go.Proofs.Ytkhdocabgmemiaa.Hw
/-! ### privityref10_Vanish: function 25 -/
mutual
def privityref10_Vanish.l0 : Nat → Int → List Int → List Int → Int → Option (List Int)
 | 0,_,_,_,_ => none
 | k + 1,x0,x1,x5,x6 => if x6 < (x1.length : Int) then (if 0 ≤ x6 then ((privityref01_Inverse.f k x0 (rd x1 x6)).bind fun bt409 => ((privityref01_Sub.f x0 0 bt409.1).bind fun t411 => ((some (([] : List Int) : List Int)).bind fun y412 => (if y412.length + x5.length < 17592186044416 then ((some (y412 ++ x5 : List Int)).bind fun y415 => (if y415.length < 17592186044416 then (privityref10_Vanish.l1 k x0 x1 x5 x6 t411 (y415 ++ [0]) 0) else (none))) else (none))))) else (none)) else (some x5)
def privityref10_Vanish.l1 : Nat → Int → List Int → List Int → Int → Int → List Int → Int → Option (List Int)
 | 0,_,_,_,_,_,_,_ => none
 | k + 1,x0,x1,x5,x6,x9,x10,x11 => if x11 < (x5.length : Int) then (if 0 ≤ (wrap64 (x11 + 1)) then (if (wrap64 (x11 + 1)) < (x10.length : Int) then (if 0 ≤ x11 then ((privityref01_Mul.f k x0 x9 (rd x5 x11)).bind fun t423 => ((privityref01_Add.f x0 (rd x10 (wrap64 (x11 + 1))) t423).bind fun t424 => (privityref10_Vanish.l1 k x0 x1 x5 x6 x9 (x10.set ((wrap64 (x11 + 1)) : Int).toNat t424) (wrap64 (x11 + 1))))) else (none)) else (none)) else (none)) else (privityref10_Vanish.l0 k x0 x1 x10 (wrap64 (x6 + 1)))
end
def privityref10_Vanish.f (k : Nat) (a0 : Int) (l1 : List Int) : Option (List Int) := privityref10_Vanish.l0 k a0 l1 (([1] : List Int)) 0
def privityref10_Vanish.T12 : Bool × List (List Nat × List Nat) := (true, [([], []), ([], []), ([1], [1]), ([], []), ([], []), ([], []), ([5], [5]), ([4, 6], [4, 6]), ([7], [7]), ([], []), ([], []), ([], []), ([], []), ([11, 12], [11, 12]), ([13], [13]), ([9, 10, 14], [9, 10, 14]), ([3, 8, 15, 15], [3, 8, 15]), ([0, 2, 0, 1, 2, 3, 4, 5, 6, 7, 8, 9, 10, 11, 12, 13, 14, 15, 16], [0, 2]), ([17, 16, 16, 0, 1, 2, 3, 4, 5, 6, 7, 8, 9, 10, 11, 12, 13, 14, 15, 16], [16, 17])])
def privityref10_Vanish.B12 : List Nat := [0, 0, 2, 0, 0, 0, 32, 112, 240, 0, 0, 0, 0, 6144, 14336, 32256, 65528, 131071, 262143]
theorem privityref10_Vanish.tab12 : rtab .any (opsOf Try.f25 12) = privityref10_Vanish.T12 := by kernel_rfl
theorem privityref10_Vanish.bits12 : waitsOk privityref10_Vanish.T12.2 privityref10_Vanish.B12 = true := by kernel_rfl
set_option maxHeartbeats 8000000 in
set_option maxRecDepth 100000 in
theorem privityref10_Vanish.calls (k : Nat) (a0 : Int) (A1 : Option Addr) (c1 : Nat) (l1 : List Int) (r : List Int) (w : World) (hr1 : Kd.C (Kd.int .u64) w A1 l1.length l1) (hc1 : l1.length ≤ c1) (h : privityref10_Vanish.f k a0 l1 = some r) :
  Calls Try.prog 25 #[.int .u64 a0,.slice A1 l1.length c1] w fun e w' => ∃ v0_ : Value,e = .returned (v0_) ∧ Kd.R (Kd.int .u64) 31 w' w.heap.size (fun _ => True) v0_ r ∧ Below w.heap.size w w' := by
 have HR1 := Aside0.mk hr1
 have HC1 := Aside0.mk hc1
 clear hr1 hc1
 have HB := Aside0.mk (Below.refl w.heap.size w)
 have H : (privityref10_Vanish.l0 k a0 l1 (([1] : List Int)) 0) = some r := h
 clear h
 obtain ⟨y405,hy405⟩ : ∃ y_ : List Int,y_ = (([1] : List Int)) := ⟨_,rfl⟩
 replace H : (privityref10_Vanish.l0 k a0 l1 y405 0) = some r := by first|(rw [hy405];with_reducible exact H)|(have H2_ := (Option.bind_some _ _).symm.trans H;rw [hy405];with_reducible exact H2_)|(have H2_ := (Option.bind_some _ _).symm.trans H;with_reducible exact H2_)|with_reducible exact H|(rw [hy405];exact H)|exact H
 have Ny405 := Aside0.mk hy405
 clear hy405
 have H' := Aside0.mk H
 clear H
 go_enter Try.func25,Try.ntmps25
 go_wp2_with (first|((with_reducible refine gate_dst (N := 12) rfl ?_);refine Kd.R_lit (Kd.int .u64) _ 31 ?hg (N := 12) ?hd (xs := ([1] : List Int)) (inner := [.int .u64 1]) (ok := fun _ => True) (okp := fun _ => True) ?hr ?hp (fun _ hk => hk) trivial (Below.refl _ _) (Nat.le_refl _) (by simp) ?_;(case hd => rfl);(case hg => rfl);(case hr => first|(go_simp;done)|(go_simp;rfl));(case hp => exact (Reps.one (show Kd.M (Kd.int .u64) _ _ _ 1 [.int .u64 1] from rfl) (Reps.none _ _)));intro v406 w3 ho4 hb hg_ hnew_;clear hg_ hnew_;(first|rw [← Ny405.out] at ho4|(simp only [Int.reduceToNat] at ho4;rw [← Ny405.out] at ho4));have n0_ := Aside0.mk (Kd.R_lower ho4 (below_size (by repeat (first|(with_reducible first|exact HB.out|apply below_alloc|apply pw_below_drewN|apply below_drew1)|exact HB.out))));have n1_ := Aside0.mk (below_step (by repeat (first|(with_reducible first|exact HB.out|apply below_alloc|apply pw_below_drewN|apply below_drew1)|exact HB.out)) hb);clear HB;have HO407 := n0_;have HB := n1_;clear n0_ n1_;clear hb ho4))
 go_loopg [5,6] k (fun kq v5 v6 w' => ∃ (x5_1 : List Int) (x6_1 : Int),v6 = .int .i64 x6_1 ∧ Aside0 (privityref10_Vanish.l0 kq a0 l1 x5_1 x6_1 = some r) ∧ Aside0 (kq ≤ k) ∧ Aside0 (Kd.R (Kd.int .u64) 31 w' w.heap.size (fun _ => True) v5 x5_1) ∧ Aside0 (Below w.heap.size w w'))
 case atStart => exact ⟨(y405),(0),(by first|rfl|(simp;done)|(simp [*];done)),H',⟨Nat.le_refl _⟩,⟨by (with_reducible repeat (first|apply Kd.R_alloc|apply Kd.R_drewN|apply Kd.R_drew));exact HO407.out⟩,⟨by repeat (first|(with_reducible first|exact HB.out|apply below_alloc|apply pw_below_drewN|apply below_drew1)|exact HB.out)⟩⟩
 case round =>
  clear H'
  try clear c1
  try clear c2
  try clear p2
  obtain ⟨x5_1,x6_1,rfl,HA,HK1,HO_5,HB⟩ := hrel
  cases gk with
  | zero => exact absurd HA.out (by simp [privityref10_Vanish.l0])
  | succ k1 =>
   have H := HA.out
   clear HA
   simp only [privityref10_Vanish.l0] at H
   by_cases c5 : x6_1 < (l1.length : Int)
   ·rw [if_pos c5] at H
    have c5b0 : decide (x6_1 < (l1.length : Int)) = true := decide_eq_true c5
    clear c5
    by_cases c6 : 0 ≤ x6_1
    ·rw [if_pos c6] at H
     have c6b0 : decide (0 ≤ x6_1) = true := decide_eq_true c6
     clear c6
     replace H := Option.bind_eq_some_iff.mp H
     obtain ⟨⟨t409,t410⟩,A70,H⟩ := H
     replace H : ((privityref01_Sub.f a0 0 t409).bind fun t411 => ((some (([] : List Int) : List Int)).bind fun y412 => (if y412.length + x5_1.length < 17592186044416 then ((some (y412 ++ x5_1 : List Int)).bind fun y415 => (if y415.length < 17592186044416 then (privityref10_Vanish.l1 k1 a0 l1 x5_1 x6_1 t411 (y415 ++ [0]) 0) else (none))) else (none)))) = some r := H
     have A7 := Aside0.mk A70
     clear A70
     replace H := Option.bind_eq_some_iff.mp H
     obtain ⟨t411,A80,H⟩ := H
     replace H : ((some (([] : List Int) : List Int)).bind fun y412 => (if y412.length + x5_1.length < 17592186044416 then ((some (y412 ++ x5_1 : List Int)).bind fun y415 => (if y415.length < 17592186044416 then (privityref10_Vanish.l1 k1 a0 l1 x5_1 x6_1 t411 (y415 ++ [0]) 0) else (none))) else (none))) = some r := H
     have A8 := Aside0.mk A80
     clear A80
     obtain ⟨y412,hy412⟩ : ∃ y_ : List Int,y_ = (([] : List Int)) := ⟨_,rfl⟩
     replace H : (if y412.length + x5_1.length < 17592186044416 then ((some (y412 ++ x5_1 : List Int)).bind fun y415 => (if y415.length < 17592186044416 then (privityref10_Vanish.l1 k1 a0 l1 x5_1 x6_1 t411 (y415 ++ [0]) 0) else (none))) else (none)) = some r := by first|(rw [hy412];with_reducible exact H)|(have H2_ := (Option.bind_some _ _).symm.trans H;rw [hy412];with_reducible exact H2_)|(have H2_ := (Option.bind_some _ _).symm.trans H;with_reducible exact H2_)|with_reducible exact H|(rw [hy412];exact H)|exact H
     have Ny412 := Aside0.mk hy412
     clear hy412
     by_cases c9 : y412.length + x5_1.length < 17592186044416
     ·rw [if_pos c9] at H
      have LMc9 := Aside0.mk c9
      clear c9
      obtain ⟨y415,hy415⟩ : ∃ y_ : List Int,y_ = (y412 ++ x5_1) := ⟨_,rfl⟩
      replace H : (if y415.length < 17592186044416 then (privityref10_Vanish.l1 k1 a0 l1 x5_1 x6_1 t411 (y415 ++ [0]) 0) else (none)) = some r := by first|(rw [hy415];with_reducible exact H)|(have H2_ := (Option.bind_some _ _).symm.trans H;rw [hy415];with_reducible exact H2_)|(have H2_ := (Option.bind_some _ _).symm.trans H;with_reducible exact H2_)|with_reducible exact H|(rw [hy415];exact H)|exact H
      have Ny415 := Aside0.mk hy415
      clear hy415
      by_cases c10 : y415.length < 17592186044416
      ·rw [if_pos c10] at H
       have LMc10 := Aside0.mk c10
       clear c10
       obtain ⟨y418,hy418⟩ : ∃ y_ : List Int,y_ = (y415 ++ [0]) := ⟨_,rfl⟩
       replace H : (privityref10_Vanish.l1 k1 a0 l1 x5_1 x6_1 t411 y418 0) = some r := by first|(rw [hy418];with_reducible exact H)|(have H2_ := (Option.bind_some _ _).symm.trans H;rw [hy418];with_reducible exact H2_)|(have H2_ := (Option.bind_some _ _).symm.trans H;with_reducible exact H2_)|with_reducible exact H|(rw [hy418];exact H)|exact H
       have Ny418 := Aside0.mk hy418
       clear hy418
       have H' := Aside0.mk H
       clear H
       have p408 : 0 ≤ (x6_1 : Int) := of_decide_eq_true (by first|(with_reducible assumption)|assumption)
       have q408 : x6_1 < (l1.length : Int) := of_decide_eq_true (by first|(with_reducible assumption)|assumption)
       obtain ⟨ad408,e408,hx408_0⟩ := Kd.at_int HR1.out x6_1 p408 q408
       cases e408
       replace hx408_0 := (HB.out.cell (World.block_lt_of_cell? w _ hx408_0)).trans hx408_0
       replace p408 := eq_true p408
       replace q408 := eq_true q408
       go_wp2_with (first|((with_reducible refine gate_callee (f := 54) rfl ?_);refine goesL_ (some 25) rfl rfl Try.func54 (by kernel_rfl) rfl #[.int .u64 a0,.int .u64 (rd l1 x6_1)] rfl (by (try simp only [List.map_toArray,List.map_cons,List.map_nil]);first|done|rfl|(simp only [List.length_drop,List.length_take];rfl)) ?_;(with_reducible refine (privityref01_Inverse.calls k1 a0 (rd l1 x6_1) t409 t410 _ A7.out).mono ?_);rintro e w' ⟨rfl,⟨nd,rfl⟩⟩;refine ⟨_,rfl,?_⟩)|((with_reducible refine gate_callee (f := 46) rfl ?_);refine goesL_ (some 30) rfl rfl Try.func46 (by kernel_rfl) rfl #[.int .u64 a0,.int .u64 0,.int .u64 t409] rfl (by (try simp only [List.map_toArray,List.map_cons,List.map_nil]);first|done|rfl|(simp only [List.length_drop,List.length_take];rfl)) ?_;(with_reducible refine (privityref01_Sub.calls a0 0 t409 t411 _ A8.out).mono ?_);rintro e w' ⟨rfl,⟨nd,rfl⟩⟩;refine ⟨_,rfl,?_⟩)|((with_reducible refine gate_dst (N := 31) rfl ?_);refine Kd.R_lit (Kd.int .u64) _ 31 ?hg (N := 31) ?hd (xs := ([] : List Int)) (inner := []) (ok := fun _ => True) (okp := fun _ => True) ?hr ?hp (fun _ hk => hk) trivial (Below.refl _ _) (Nat.le_refl _) (by simp) ?_;(case hd => rfl);(case hg => rfl);(case hr => first|(go_simp;done)|(go_simp;rfl));(case hp => exact (Reps.none _ _));intro v413 w11 ho12 hb hg_ hnew_;clear hg_ hnew_;(first|rw [← Ny412.out] at ho12|(simp only [Int.reduceToNat] at ho12;rw [← Ny412.out] at ho12));have n0_ := Aside0.mk (Kd.R_elder' (by (with_reducible repeat (first|apply Kd.R_alloc|apply Kd.R_drewN|apply Kd.R_drew));exact HO_5.out) (Kd.R_base ho12) hb);have n1_ := Aside0.mk (Kd.R_lower (Kd.R_new' ho12 (Kd.R_lt (by (with_reducible repeat (first|apply Kd.R_alloc|apply Kd.R_drewN|apply Kd.R_drew));exact HO_5.out))) (below_size (by repeat (first|(with_reducible first|exact HB.out|apply below_alloc|apply pw_below_drewN|apply below_drew1)|exact HB.out))));have n2_ := Aside0.mk (below_step (by repeat (first|(with_reducible first|exact HB.out|apply below_alloc|apply pw_below_drewN|apply below_drew1)|exact HB.out)) hb);clear HO_5;clear HB;have HO_5 := n0_;have HO414 := n1_;have HB := n2_;clear n0_ n1_ n2_;clear hb ho12;obtain ⟨Ao14,co14,eo14⟩ := Kd.R_slice HO_5.out;subst eo14)|((with_reducible refine gate_builtin (b := .append) (xs := #[.tmp 31,.tmp 32]) rfl ?_);at_builtin;refine Kd.R_append_rows (Kd.int .u64) (w0 := w) w.heap.size rfl (.tmp 31) (.tmp 32) 22 31 (.int .u64 0) 8 rfl Try.underlying22 info31 rfl (by decide) (by omega) v413 y412 x5_1 _ _ _ (fun k_ => some k_ ≠ (.slice Ao14 x5_1.length co14 : Value).ownBlock) (fun _ => False) rfl rfl ?aO ?aR (fun _ _ h => h) (fun _ h => h.elim) ?aF ?aB ?aS ?aL ?_;(case aR => repeat (first|exact (Kd.R_reads' HO_5.out).2.2|(with_reducible refine Kd.C_alloc ?_ _)|(with_reducible refine Kd.C_drewN ?_ _)|(with_reducible refine Kd.C_drew ?_)));(case aB => exact (by repeat (first|(with_reducible first|exact HB.out|apply below_alloc|apply pw_below_drewN|apply below_drew1)|exact HB.out)));(case aF => exact (fun k_ hk => Kd.fresh' (Kd.R_lt (by (with_reducible repeat (first|apply Kd.R_alloc|apply Kd.R_drewN|apply Kd.R_drew));exact HO_5.out)) k_ hk));(case aO => exact (by (with_reducible repeat (first|apply Kd.R_alloc|apply Kd.R_drewN|apply Kd.R_drew));exact Kd.R_mono HO414.out (fun _ hk => hk.2)));(case aS => exact (below_size (by repeat (first|(with_reducible first|exact HB.out|apply below_alloc|apply pw_below_drewN|apply below_drew1)|exact HB.out))));(case aL => have := LMc9.out;omega);intro v416 w13 ho hb hg hat;rw [← Ny415.out] at ho;have n0_ := Aside0.mk (Kd.R_after (ok := (fun _ => True)) (by (with_reducible repeat (first|apply Kd.R_alloc|apply Kd.R_drewN|apply Kd.R_drew));exact HO_5.out) hg hat);have n1_ := Aside0.mk (hb);have n2_ := Aside0.mk (ho);clear HO_5;clear HB;clear HO414;have HO_5 := n0_;have HB := n1_;have HO417 := n2_;clear n0_ n1_ n2_;clear ho hb hg hat)|((with_reducible refine gate_builtin (b := .append) (xs := #[.tmp 34,.tmp 35]) rfl ?_);at_builtin;refine Kd.R_append (Kd.int .u64) (w0 := w) w.heap.size rfl (.tmp 34) (.tmp 35) 22 31 (.int .u64 0) 8 rfl Try.underlying22 info31 rfl (by decide) (by omega) v416 y415 0 [.int .u64 0] (fun k_ => some k_ ≠ (.slice Ao14 x5_1.length co14 : Value).ownBlock) (fun _ => False) rfl rfl ?aP (fun _ hk => hk.elim) ?aF ?aO ?aB ?aS ?aL ?_;(case aP => exact rfl);(case aB => exact (by repeat (first|(with_reducible first|exact HB.out|apply below_alloc|apply pw_below_drewN|apply below_drew1)|exact HB.out)));(case aF => exact (fun k_ hk => Kd.fresh' (Kd.R_lt (by (with_reducible repeat (first|apply Kd.R_alloc|apply Kd.R_drewN|apply Kd.R_drew));exact HO_5.out)) k_ hk));(case aO => exact (by (with_reducible repeat (first|apply Kd.R_alloc|apply Kd.R_drewN|apply Kd.R_drew));exact HO417.out));(case aS => exact (below_size (by repeat (first|(with_reducible first|exact HB.out|apply below_alloc|apply pw_below_drewN|apply below_drew1)|exact HB.out))));(case aL => have := LMc10.out;omega);intro v419 w15 ho hb hg hat;rw [← Ny418.out] at ho;have n0_ := Aside0.mk (Kd.R_after (ok := (fun _ => True)) (by (with_reducible repeat (first|apply Kd.R_alloc|apply Kd.R_drewN|apply Kd.R_drew));exact HO_5.out) hg hat);have n1_ := Aside0.mk (hb);have n2_ := Aside0.mk (ho);clear HO_5;clear HB;clear HO417;have HO_5 := n0_;have HB := n1_;have HO420 := n2_;clear n0_ n1_ n2_;clear ho hb hg hat))
       go_loopg [11] k1 (fun kq v11 w' => ∃ (x10_2 : List Int) (x11_2 : Int),v11 = .int .i64 x11_2 ∧ Aside0 (privityref10_Vanish.l1 kq a0 l1 x5_1 x6_1 t411 x10_2 x11_2 = some r) ∧ Aside0 (kq ≤ k1) ∧ Aside0 (Kd.R (Kd.int .u64) 31 w' w.heap.size (fun k_ => some k_ ≠ (v419 : Value).ownBlock) (.slice Ao14 x5_1.length co14) x5_1) ∧ Aside0 (Kd.R (Kd.int .u64) 31 w' w.heap.size (fun k_ => some k_ ≠ ((.slice Ao14 x5_1.length co14) : Value).ownBlock) v419 x10_2) ∧ Aside0 (Below w.heap.size w w'))
       case atStart => exact ⟨(y418),(0),(by first|rfl|(simp;done)|(simp [*];done)),H',⟨Nat.le_refl _⟩,⟨by (with_reducible repeat (first|apply Kd.R_alloc|apply Kd.R_drewN|apply Kd.R_drew));exact Kd.R_mono HO_5.out (fun _ hk => hk.2)⟩,⟨by (with_reducible repeat (first|apply Kd.R_alloc|apply Kd.R_drewN|apply Kd.R_drew));exact HO420.out⟩,⟨by repeat (first|(with_reducible first|exact HB.out|apply below_alloc|apply pw_below_drewN|apply below_drew1)|exact HB.out)⟩⟩
       case round =>
        clear H'
        try clear c1
        try clear c2
        try clear p2
        try clear c4
        try clear p4
        try clear q4
        try clear hx4
        try clear c5
        try clear c5b0
        try clear c6
        try clear c6b0
        try clear c9
        try clear c10
        try clear hx408_0
        try clear p2
        try clear p408
        try clear q408
        obtain ⟨x10_2,x11_2,rfl,HA,HK2,HO_5,HO_10,HB⟩ := hrel
        cases gk with
        | zero => exact absurd HA.out (by simp [privityref10_Vanish.l1])
        | succ k2 =>
         have H := HA.out
         clear HA
         simp only [privityref10_Vanish.l1] at H
         by_cases c16 : x11_2 < (x5_1.length : Int)
         ·rw [if_pos c16] at H
          have c16b0 : decide (x11_2 < (x5_1.length : Int)) = true := decide_eq_true c16
          clear c16
          obtain ⟨ji17,hji17⟩ : ∃ j_ : Int,(wrap64 (x11_2 + 1)) = j_ := ⟨_,rfl⟩
          replace H : (if 0 ≤ (ji17) then (if (ji17) < (x10_2.length : Int) then (if 0 ≤ x11_2 then ((privityref01_Mul.f k2 a0 t411 (rd x5_1 x11_2)).bind fun t423 => ((privityref01_Add.f a0 (rd x10_2 (ji17)) t423).bind fun t424 => (privityref10_Vanish.l1 k2 a0 l1 x5_1 x6_1 t411 (x10_2.set ((ji17) : Int).toNat t424) ji17))) else (none)) else (none)) else (none)) = some r := by first|(rw [hji17] at H;exact H)|(simp only [hji17] at H ⊢;exact H)
          have hji17w : (IntKind.i64.wrap (x11_2 + 1)) = ji17 := (i64_w _).trans hji17
          by_cases c18 : 0 ≤ (ji17)
          ·rw [if_pos c18] at H
           have c18b0 : decide (0 ≤ (ji17)) = true := decide_eq_true c18
           clear c18
           by_cases c19 : (ji17) < (x10_2.length : Int)
           ·rw [if_pos c19] at H
            have c19b0 : decide ((ji17) < (x10_2.length : Int)) = true := decide_eq_true c19
            clear c19
            by_cases c20 : 0 ≤ x11_2
            ·rw [if_pos c20] at H
             have c20b0 : decide (0 ≤ x11_2) = true := decide_eq_true c20
             clear c20
             replace H := Option.bind_eq_some_iff.mp H
             obtain ⟨t423,A210,H⟩ := H
             replace H : ((privityref01_Add.f a0 (rd x10_2 (ji17)) t423).bind fun t424 => (privityref10_Vanish.l1 k2 a0 l1 x5_1 x6_1 t411 (x10_2.set ((ji17) : Int).toNat t424) ji17)) = some r := H
             have A21 := Aside0.mk A210
             clear A210
             replace H := Option.bind_eq_some_iff.mp H
             obtain ⟨t424,A220,H⟩ := H
             replace H : (privityref10_Vanish.l1 k2 a0 l1 x5_1 x6_1 t411 (x10_2.set ((ji17) : Int).toNat t424) ji17) = some r := H
             have A22 := Aside0.mk A220
             clear A220
             obtain ⟨y425,hy425⟩ : ∃ y_ : List Int,y_ = (x10_2.set ((ji17) : Int).toNat t424) := ⟨_,rfl⟩
             replace H : (privityref10_Vanish.l1 k2 a0 l1 x5_1 x6_1 t411 y425 ji17) = some r := by first|(rw [hy425];with_reducible exact H)|(have H2_ := (Option.bind_some _ _).symm.trans H;rw [hy425];with_reducible exact H2_)|(have H2_ := (Option.bind_some _ _).symm.trans H;with_reducible exact H2_)|with_reducible exact H|(rw [hy425];exact H)|exact H
             have Ny425 := Aside0.mk hy425
             clear hy425
             have H' := Aside0.mk H
             clear H
             try go_wp2
             have n0_ := Aside0.mk (Kd.R_drew HO_5.out)
             have n1_ := Aside0.mk (Kd.R_drew HO_10.out)
             have n2_ := Aside0.mk (below_drew1 HB.out)
             clear HO_5
             clear HO_10
             clear HB
             have HO_5 := n0_
             have HO_10 := n1_
             have HB := n2_
             clear n0_ n1_ n2_
             obtain ⟨Ao25,co25,eo25⟩ := Kd.R_slice HO_10.out
             (first|subst eo25|(injection eo25 with f1_ f2_ f3_;have f4_ := f1_.symm;have f5_ := f3_.symm;clear f1_ f2_ f3_;subst f4_;subst f5_))
             have p421 : 0 ≤ ((ji17) : Int) := of_decide_eq_true (by first|(with_reducible assumption)|assumption)
             have q421 : (ji17) < (x10_2.length : Int) := of_decide_eq_true (by first|(with_reducible assumption)|assumption)
             obtain ⟨ad421,e421,hx421_0⟩ := Kd.at_int (Kd.R_reads' HO_10.out).2.2 (ji17) p421 q421
             cases e421
             replace p421 := eq_true p421
             replace q421 := eq_true q421
             have p422 : 0 ≤ (x11_2 : Int) := of_decide_eq_true (by first|(with_reducible assumption)|assumption)
             have q422 : x11_2 < (x5_1.length : Int) := of_decide_eq_true (by first|(with_reducible assumption)|assumption)
             obtain ⟨ad422,e422,hx422_0⟩ := Kd.at_int (Kd.R_reads' HO_5.out).2.2 x11_2 p422 q422
             cases e422
             replace p422 := eq_true p422
             replace q422 := eq_true q422
             refine start_ (n := 19) (S := fun w' => w'.cell? (ad421.add ((ji17)).toNat) = some (.int .u64 (rd x10_2 (ji17))) ∧ w'.cell? (ad422.add (x11_2).toNat) = some (.int .u64 (rd x5_1 x11_2))) (ds := [18]) #[false,false,false,false,false,false,false,false,false,false,false,false,false,false,false,false,false,false,false] (by kernel_rfl) rfl rfl ⟨hx421_0,hx422_0⟩ (fun hHeld => ?_);refine with_tabW privityref10_Vanish.tab12 privityref10_Vanish.bits12 (fun HT_ HW_ => ?_)
             generalize wr.drew = w24 at HO_5 HO_10 HB hx421_0 hx422_0 hHeld ⊢
             refine pure_ (i := 0) (N := some 43) (v := ?_) (a' := ?_) #[true,false,false,false,false,false,false,false,false,false,false,false,false,false,false,false,false,false,false] rfl rfl (any_of HT_.out (by kernel_rfl)) (fun _ _ _ h => h) (Or.inl ⟨by rfl,?_⟩) ?_ ?_
             rotate_left
             ·intro w'
              go_simp
              with_reducible rfl
             rotate_left
             ·simp only [Act.put,List.setIfInBounds_toArray,List.set_cons_zero,List.set_cons_succ,i64_w,i32_w]
              rfl
             refine pure_ (i := 1) (N := some 44) (v := ?_) (a' := ?_) #[true,true,false,false,false,false,false,false,false,false,false,false,false,false,false,false,false,false,false] rfl rfl (any_of HT_.out (by kernel_rfl)) (fun _ _ _ h => h) (Or.inl ⟨by rfl,?_⟩) ?_ ?_
             rotate_left
             ·intro w'
              go_simp
              with_reducible rfl
             rotate_left
             ·simp only [Act.put,List.setIfInBounds_toArray,List.set_cons_zero,List.set_cons_succ,i64_w,i32_w]
              rfl
             refine pure_ (i := 2) (N := some 45) (v := ?_) (a' := ?_) #[true,true,true,false,false,false,false,false,false,false,false,false,false,false,false,false,false,false,false] rfl rfl (any_of HT_.out (by kernel_rfl)) (fun _ _ _ h => h) (Or.inl ⟨by rfl,?_⟩) ?_ ?_
             rotate_left
             ·intro w'
              go_simp
              with_reducible rfl
             rotate_left
             ·simp only [Act.put,List.setIfInBounds_toArray,List.set_cons_zero,List.set_cons_succ,i64_w,i32_w]
              rfl
             refine pure_ (i := 3) (N := some 46) (v := ?_) (a' := ?_) #[true,true,true,true,false,false,false,false,false,false,false,false,false,false,false,false,false,false,false] rfl rfl (any_of HT_.out (by kernel_rfl)) (fun _ _ _ h => h) (Or.inl ⟨by rfl,?_⟩) ?_ ?_
             rotate_left
             ·intro w'
              go_simp
              with_reducible rfl
             rotate_left
             ·simp only [Act.put,List.setIfInBounds_toArray,List.set_cons_zero,List.set_cons_succ,i64_w,i32_w]
              rfl
             refine pure_ (i := 4) (N := some 47) (v := ?_) (a' := ?_) #[true,true,true,true,true,false,false,false,false,false,false,false,false,false,false,false,false,false,false] rfl rfl (any_of HT_.out (by kernel_rfl)) (fun _ _ _ h => h) (Or.inl ⟨by rfl,?_⟩) ?_ ?_
             rotate_left
             ·intro w'
              go_simp
              with_reducible rfl
             rotate_left
             ·simp only [Act.put,List.setIfInBounds_toArray,List.set_cons_zero,List.set_cons_succ,i64_w,i32_w]
              rfl
             refine pure_ (i := 5) (N := some 48) (v := ?_) (a' := ?_) #[true,true,true,true,true,true,false,false,false,false,false,false,false,false,false,false,false,false,false] rfl rfl (any_of HT_.out (by kernel_rfl)) (fun _ _ _ h => h) (Or.inl ⟨by rfl,?_⟩) ?_ ?_
             rotate_left
             ·intro w'
              go_simp
              with_reducible rfl
             rotate_left
             ·simp only [Act.put,List.setIfInBounds_toArray,List.set_cons_zero,List.set_cons_succ,i64_w,i32_w]
              rfl
             refine pure_ (i := 6) (N := some 49) (v := ?_) (a' := ?_) #[true,true,true,true,true,true,true,false,false,false,false,false,false,false,false,false,false,false,false] rfl rfl (any_of HT_.out (by kernel_rfl)) (fun _ _ _ h => h) (Or.inl ⟨by rfl,?_⟩) ?_ ?_
             rotate_left
             ·intro w'
              go_simp
              with_reducible rfl
             rotate_left
             ·simp only [Act.put,List.setIfInBounds_toArray,List.set_cons_zero,List.set_cons_succ,i64_w,i32_w]
              rfl
             refine pure_ (i := 7) (N := some 50) (v := ?_) (a' := ?_) #[true,true,true,true,true,true,true,true,false,false,false,false,false,false,false,false,false,false,false] rfl rfl (any_of HT_.out (by kernel_rfl)) (fun _ _ _ h => h) (Or.inl ⟨by rfl,?_⟩) ?_ ?_
             rotate_left
             ·intro w'
              go_simp
              with_reducible rfl
             rotate_left
             ·simp only [Act.put,List.setIfInBounds_toArray,List.set_cons_zero,List.set_cons_succ,i64_w,i32_w]
              rfl
             refine pure_ (i := 9) (N := some 52) (v := ?_) (a' := ?_) #[true,true,true,true,true,true,true,true,false,true,false,false,false,false,false,false,false,false,false] rfl rfl (any_of HT_.out (by kernel_rfl)) (fun _ _ _ h => h) (Or.inl ⟨by rfl,?_⟩) ?_ ?_
             rotate_left
             ·intro w'
              go_simp
              with_reducible rfl
             rotate_left
             ·simp only [Act.put,List.setIfInBounds_toArray,List.set_cons_zero,List.set_cons_succ,i64_w,i32_w]
              rfl
             refine pure_ (i := 10) (N := some 53) (v := ?_) (a' := ?_) #[true,true,true,true,true,true,true,true,false,true,true,false,false,false,false,false,false,false,false] rfl rfl (any_of HT_.out (by kernel_rfl)) (fun _ _ _ h => h) (Or.inl ⟨by rfl,?_⟩) ?_ ?_
             rotate_left
             ·intro w'
              go_simp
              with_reducible rfl
             rotate_left
             ·simp only [Act.put,List.setIfInBounds_toArray,List.set_cons_zero,List.set_cons_succ,i64_w,i32_w]
              rfl
             refine pure_ (i := 11) (N := some 54) (v := ?_) (a' := ?_) #[true,true,true,true,true,true,true,true,false,true,true,true,false,false,false,false,false,false,false] rfl rfl (any_of HT_.out (by kernel_rfl)) (fun _ _ _ h => h) (Or.inl ⟨by rfl,?_⟩) ?_ ?_
             rotate_left
             ·intro w'
              go_simp
              with_reducible rfl
             rotate_left
             ·simp only [Act.put,List.setIfInBounds_toArray,List.set_cons_zero,List.set_cons_succ,i64_w,i32_w]
              rfl
             refine pure_ (i := 12) (N := some 55) (v := ?_) (a' := ?_) #[true,true,true,true,true,true,true,true,false,true,true,true,true,false,false,false,false,false,false] rfl rfl (any_of HT_.out (by kernel_rfl)) (fun _ _ _ h => h) (Or.inl ⟨by rfl,?_⟩) ?_ ?_
             rotate_left
             ·intro w'
              go_simp
              with_reducible rfl
             rotate_left
             ·simp only [Act.put,List.setIfInBounds_toArray,List.set_cons_zero,List.set_cons_succ,i64_w,i32_w]
              rfl
             refine pure_ (i := 13) (N := some 56) (v := ?_) (a' := ?_) #[true,true,true,true,true,true,true,true,false,true,true,true,true,true,false,false,false,false,false] rfl rfl (any_of HT_.out (by kernel_rfl)) (fun _ _ _ h => h) (Or.inl ⟨by rfl,?_⟩) ?_ ?_
             rotate_left
             ·intro w'
              go_simp
              with_reducible rfl
             rotate_left
             ·simp only [Act.put,List.setIfInBounds_toArray,List.set_cons_zero,List.set_cons_succ,i64_w,i32_w]
              rfl
             refine take_ (i := 8) (N := some 51) (v := ?_) (a' := ?_) #[true,true,true,true,true,true,true,true,true,true,true,true,true,true,false,false,false,false,false] rfl rfl (take_ofW HT_.out HW_.out (by kernel_rfl)) (fun _ _ _ h => h) (Or.inl ⟨by rfl,?_⟩) hHeld ?_ ?_
             rotate_left
             ·rintro w' ⟨s0,s1⟩
              go_simp
              with_reducible rfl
             rotate_left
             ·simp only [Act.put,List.setIfInBounds_toArray,List.set_cons_zero,List.set_cons_succ,i64_w,i32_w]
              rfl
             refine take_ (i := 14) (N := some 57) (v := ?_) (a' := ?_) #[true,true,true,true,true,true,true,true,true,true,true,true,true,true,true,false,false,false,false] rfl rfl (take_ofW HT_.out HW_.out (by kernel_rfl)) (fun _ _ _ h => h) (Or.inl ⟨by rfl,?_⟩) hHeld ?_ ?_
             rotate_left
             ·rintro w' ⟨s0,s1⟩
              go_simp
              with_reducible rfl
             rotate_left
             ·simp only [Act.put,List.setIfInBounds_toArray,List.set_cons_zero,List.set_cons_succ,i64_w,i32_w]
              rfl
             refine one_ (i := 15) (N := some 58) #[true,true,true,true,true,true,true,true,true,true,true,true,true,true,true,true,false,false,false] rfl rfl (one_of HT_.out (by kernel_rfl)) (by decide) (fun K hK => ?_)
             refine goes_ Try.func52 (by kernel_rfl) rfl #[.int .u64 a0,.int .u64 t411,.int .u64 (rd x5_1 x11_2)] (by rfl) rfl rfl (by (try simp only [List.map_toArray,List.map_cons,List.map_nil]);first|done|rfl|(simp only [List.length_drop,List.length_take];rfl)) ?_
             with_reducible refine (privityref01_Mul.calls k2 a0 t411 (rd x5_1 x11_2) t423 _ A21.out).mono ?_
             rintro e w' ⟨rfl,⟨nd,rfl⟩⟩
             refine ⟨_,rfl,?_⟩
             refine hK.out _ _ ⟨hHeld.1,hHeld.2⟩ (fun hHeld => ?_)
             clear hK K
             refine norm_ (a' := ?_) ?_ ?_
             rotate_left
             ·show Act.put _ (some 58) _ = _
              simp only [Act.put,List.setIfInBounds_toArray,List.set_cons_zero,List.set_cons_succ,i64_w,i32_w]
              rfl
             refine one_ (i := 16) (N := some 59) #[true,true,true,true,true,true,true,true,true,true,true,true,true,true,true,true,true,false,false] rfl rfl (one_of HT_.out (by kernel_rfl)) (by decide) (fun K hK => ?_)
             refine goes_ Try.func41 (by kernel_rfl) rfl #[.int .u64 a0,.int .u64 (rd x10_2 (ji17)),.int .u64 t423] (by rfl) rfl rfl (by (try simp only [List.map_toArray,List.map_cons,List.map_nil]);first|done|(simp only [hji17];rfl)|rfl|(simp only [List.length_drop,List.length_take];rfl)) ?_
             with_reducible refine (privityref01_Add.calls a0 (rd x10_2 (ji17)) t423 t424 _ A22.out).mono ?_
             rintro e w' ⟨rfl,⟨nd,rfl⟩⟩
             refine ⟨_,rfl,?_⟩
             have p23 : 0 ≤ ((ji17) : Int) := of_decide_eq_true (by first|(with_reducible assumption)|assumption)
             have q23 : ((ji17) : Int) < ((x10_2.length : Int) : Int) := of_decide_eq_true (by first|(with_reducible assumption)|assumption)
             obtain ⟨go23,co23,eo23,gb23,gl23,cl23,HG23⟩ := Kd.R_form HO_10.out (by omega)
             (first|cases eo23|(injection eo23 with ea_ en_ ec_;(first|subst ea_|(injection ea_ with ea_;subst ea_));subst ec_;clear en_))
             have GB23 := Aside0.mk gb23
             have GG23 := Aside0.mk HG23
             clear gb23 gl23 HG23
             (first|simp only [add_plain] at hx421_0|skip)
             obtain ⟨hx23_0,hf23_0⟩ := Kd.R_celln 0 HO_10.out ((ji17) : Int) p23 q23
             replace p23 := eq_true p23
             replace q23 := eq_true q23
             have HP26 := Kd.R_putn HO_10.out ((ji17) : Int) t424
             rw [← Ny425.out] at HP26
             have HQ26 := Aside0.mk HP26
             clear HP26
             refine hK.out _ _ ⟨hHeld.1,hHeld.2⟩ (fun hHeld => ?_)
             clear hK K
             refine norm_ (a' := ?_) ?_ ?_
             rotate_left
             ·show Act.put _ (some 59) _ = _
              simp only [Act.put,List.setIfInBounds_toArray,List.set_cons_zero,List.set_cons_succ,i64_w,i32_w]
              rfl
             refine pure_ (i := 17) (N := some 60) (v := ?_) (a' := ?_) #[true,true,true,true,true,true,true,true,true,true,true,true,true,true,true,true,true,true,false] rfl rfl (any_of HT_.out (by kernel_rfl)) (fun _ _ _ h => h) (Or.inl ⟨by rfl,?_⟩) ?_ ?_
             rotate_left
             ·intro w'
              go_simp
              with_reducible rfl
             rotate_left
             ·simp only [Act.put,List.setIfInBounds_toArray,List.set_cons_zero,List.set_cons_succ,i64_w,i32_w]
              rfl
             refine last_ (i := 18) (N := none) #[true,true,true,true,true,true,true,true,true,true,true,true,true,true,true,true,true,true,true] rfl rfl (one_of HT_.out (by kernel_rfl)) (by decide) (fun K hK => ?_)
             refine skip_ (w1 := ?_) (by rfl) rfl ?_ ?_
             rotate_left
             ·go_simp
              rfl
             refine hK.out _ _ ?_
             clear hK K
             refine done_ (done_of HT_.out (by kernel_rfl)) ?_
             try go_wp2
             go_roundg k2
             case measure => have := HK1.out;have := HK2.out;omega
             case rel => exact ⟨(y425),(ji17),(by first|rfl|(simp;done)|(simp only [← hji17] <;> (first|rfl|simp))|(simp [*];done)),H',⟨by have := HK1.out;have := HK2.out;omega⟩,⟨by (with_reducible repeat (first|apply Kd.R_alloc|apply Kd.R_drewN|apply Kd.R_drew));exact Kd.R_mono (Kd.R_far (p := ⟨go23,((ji17) : Int).toNat,none⟩) (Kd.R_mono HO_5.out (fun k_ hk => (⟨hk,fun e_ => hk (by rw [e_];rfl)⟩ : _ ∧ k_ ≠ go23))) (fun _ hk => hk.2) (.int .u64 t424)) (fun _ hk => hk.1)⟩,⟨by (with_reducible repeat (first|apply Kd.R_alloc|apply Kd.R_drewN|apply Kd.R_drew));exact HQ26.out⟩,⟨by repeat (first|(with_reducible first|exact HB.out|apply below_alloc|apply pw_below_drewN|apply below_drew1|refine below_set ?_ GB23.out)|exact HB.out)⟩⟩
            ·rw [if_neg c20] at H
             exact absurd H (by simp)
           ·rw [if_neg c19] at H
            exact absurd H (by simp)
          ·rw [if_neg c18] at H
           exact absurd H (by simp)
         ·rw [if_neg c16] at H
          have c16b0 : decide (x11_2 < (x5_1.length : Int)) = false := decide_eq_false c16
          clear c16
          have H' := Aside0.mk H
          clear H
          go_wp2
          go_roundg k2
          case measure => have := HK1.out;have := HK2.out;omega
          case rel => exact ⟨(x10_2),(wrap64 (x6_1 + 1)),(by first|rfl|(simp;done)|(simp [*];done)),H',⟨by have := HK1.out;have := HK2.out;omega⟩,⟨by (with_reducible repeat (first|apply Kd.R_alloc|apply Kd.R_drewN|apply Kd.R_drew));exact Kd.R_mono HO_10.out (fun _ hk => trivial)⟩,⟨by repeat (first|(with_reducible first|exact HB.out|apply below_alloc|apply pw_below_drewN|apply below_drew1)|exact HB.out)⟩⟩
      ·rw [if_neg c10] at H
       exact absurd H (by simp)
     ·rw [if_neg c9] at H
      exact absurd H (by simp)
    ·rw [if_neg c6] at H
     exact absurd H (by simp)
   ·rw [if_neg c5] at H
    have c5b0 : decide (x6_1 < (l1.length : Int)) = false := decide_eq_false c5
    clear c5
    obtain rfl := Option.some.inj H
    go_wp2
    go_ret
    exact ⟨_,by first|rfl|(simp [errW_none,errW_some] <;> rfl)|(simp [*,errW_none,errW_some] <;> rfl),by (with_reducible repeat (first|apply Kd.R_alloc|apply Kd.R_drewN|apply Kd.R_drew));exact HO_5.out,by repeat (first|(with_reducible first|exact HB.out|apply below_alloc|apply pw_below_drewN|apply below_drew1)|exact HB.out)⟩
end Go.Proofs.Ytkhdocabgmemiaa.Pr
end
section
/- Printed by a program of this seat (the kit's printer, with the functions that were proved by hand given to it). What stands here: the functions that the statements reach, as plain functions, and that the Go code computes them. -/
namespace Go.Proofs.Ytkhdocabgmemiaa.Pr
open Go.RowKit Go.Proofs.YtkhdocabgmemiaaW.PrintWords Go.Proofs.YtkhdocabgmemiaaW.PrintLast Go.Proofs.YtkhdocabgmemiaaW.PrintMore
attribute [local go_sem] max2_int min2_int max_two min_two max_three min_three max_four min_four   -- for this text's walks alone
set_option linter.unusedVariables false
set_option linter.unusedSimpArgs false

open Go.Proofs.Ytkhdocabgmemiaa.Hw
/-! ### privityref10_Translate: function 27 -/
mutual
def privityref10_Translate.l0 : Nat → Int → List (List Int) → Int → List Int → List (List Int) → Int → Option ((List (List Int)))
 | 0,_,_,_,_,_,_ => none
 | k + 1,x0,x1,x2,x3,x9,x10 => if x10 < (x1.length : Int) then (privityref10_Translate.l1 k x0 x1 x2 x3 x9 x10 ([] : List Int) 0) else (some x9)
def privityref10_Translate.l1 : Nat → Int → List (List Int) → Int → List Int → List (List Int) → Int → List Int → Int → Option ((List (List Int)))
 | 0,_,_,_,_,_,_,_,_ => none
 | k + 1,x0,x1,x2,x3,x9,x10,x11,x12 => if x12 < (x1.length : Int) then (if 0 ≤ x10 then (if x10 < (x1.length : Int) then (if 0 ≤ x12 then (if x12 < ((rd_L1 x1 x10).length : Int) then (if x10 < (x3.length : Int) then (if x12 < (x3.length : Int) then ((privityref01_Mul.f k x0 (rd x3 x10) (rd x3 x12)).bind fun t430 => ((privityref01_Mul.f k x0 x2 t430).bind fun t431 => ((privityref01_Add.f x0 (rd (rd_L1 x1 x10) x12) t431).bind fun t432 => (if x11.length < 17592186044416 then (privityref10_Translate.l1 k x0 x1 x2 x3 x9 x10 (x11 ++ [t432]) (wrap64 (x12 + 1))) else (none))))) else (none)) else (none)) else (none)) else (none)) else (none)) else (none)) else (if x9.length < 5864062014805 then (privityref10_Translate.l0 k x0 x1 x2 x3 (x9 ++ [x11]) (wrap64 (x10 + 1))) else (none))
end
def privityref10_Translate.f (k : Nat) (a0 : Int) (l1 : List (List Int)) (a2 : Int) (l3 : List Int) : Option ((List (List Int))) := privityref10_Translate.l0 k a0 l1 a2 l3 ([] : List (List Int)) 0
def privityref10_Translate.T9 : Bool × List (List Nat × List Nat) := (true, [([], []), ([], []), ([], []), ([], []), ([2, 3], [2, 3]), ([4], [4]), ([], []), ([5, 6], [5, 6]), ([7], [7]), ([], []), ([], []), ([], []), ([], []), ([], []), ([12, 13], [12, 13]), ([14], [14]), ([], []), ([], []), ([16, 17], [16, 17]), ([18], [18]), ([11, 15, 19], [11, 15, 19]), ([9, 10, 20, 20], [9, 10, 20]), ([1, 8, 21, 21], [1, 8, 21]), ([22], [22]), ([0, 23, 22], [0, 23]), ([24, 24, 0, 1, 2, 3, 4, 5, 6, 7, 8, 9, 10, 11, 12, 13, 14, 15, 16, 17, 18, 19, 20, 21, 22, 23, 24], [0, 24])])
def privityref10_Translate.B9 : List Nat := [0, 0, 0, 0, 12, 28, 0, 124, 252, 0, 0, 0, 0, 0, 12288, 28672, 0, 0, 196608, 458752, 1046528, 2096640, 4194302, 8388606, 16777215, 33554431]
theorem privityref10_Translate.tab9 : rtab .any (opsOf Try.f27 9) = privityref10_Translate.T9 := by kernel_rfl
theorem privityref10_Translate.bits9 : waitsOk privityref10_Translate.T9.2 privityref10_Translate.B9 = true := by kernel_rfl
set_option maxHeartbeats 8000000 in
set_option maxRecDepth 100000 in
theorem privityref10_Translate.calls (k : Nat) (a0 : Int) (A1 : Option Addr) (c1 : Nat) (l1 : List (List Int)) (a2 : Int) (A3 : Option Addr) (c3 : Nat) (l3 : List Int) (r : List (List Int)) (w : World) (hr1 : Kd.C (Kd.slice 31 (Kd.int .u64)) w A1 l1.length l1) (hc1 : l1.length ≤ c1) (hr3 : Kd.C (Kd.int .u64) w A3 l3.length l3) (hc3 : l3.length ≤ c3) (h : privityref10_Translate.f k a0 l1 a2 l3 = some r) :
  Calls Try.prog 27 #[.int .u64 a0,.slice A1 l1.length c1,.int .u64 a2,.slice A3 l3.length c3] w fun e w' => ∃ v0_ : Value,e = .returned (v0_) ∧ Kd.S (Kd.slice 31 (Kd.int .u64)) 22 w' w.heap.size (fun _ => True) v0_ r ∧ Below w.heap.size w w' := by
 have HR1 := Aside0.mk hr1
 have HC1 := Aside0.mk hc1
 clear hr1 hc1
 have HR3 := Aside0.mk hr3
 have HC3 := Aside0.mk hc3
 clear hr3 hc3
 have HB := Aside0.mk (Below.refl w.heap.size w)
 have H : (privityref10_Translate.l0 k a0 l1 a2 l3 ([] : List (List Int)) 0) = some r := h
 clear h
 have H' := Aside0.mk H
 clear H
 go_enter Try.func27,Try.ntmps27
 go_wp2
 go_loopg [9,10] k (fun kq v9 v10 w' => ∃ (x9_1 : List (List Int)) (x10_1 : Int),v10 = .int .i64 x10_1 ∧ Aside0 (privityref10_Translate.l0 kq a0 l1 a2 l3 x9_1 x10_1 = some r) ∧ Aside0 (kq ≤ k) ∧ Aside0 (Kd.S (Kd.slice 31 (Kd.int .u64)) 22 w' w.heap.size (fun _ => True) v9 x9_1) ∧ Aside0 (Below w.heap.size w w'))
 case atStart => exact ⟨(([] : List (List Int))),(0),(by first|rfl|(simp;done)|(simp [*];done)),H',⟨Nat.le_refl _⟩,⟨by first|exact Kd.S_nil _ _ _ _ _|exact Kd.N_nil _ _ _ _ _|exact Kd.V_nil _ _ _ _ _|exact Kd.Q_nil _ _ _ _ _|exact Kd.R_nil _ _ _ _ _⟩,⟨by repeat (first|(with_reducible first|exact HB.out|apply below_alloc|apply pw_below_drewN|apply below_drew1)|exact HB.out)⟩⟩
 case round =>
  clear H'
  try clear c1
  try clear c2
  try clear p2
  try clear c3
  obtain ⟨x9_1,x10_1,rfl,HA,HK1,HO_9,HB⟩ := hrel
  cases gk with
  | zero => exact absurd HA.out (by simp [privityref10_Translate.l0])
  | succ k1 =>
   have H := HA.out
   clear HA
   simp only [privityref10_Translate.l0] at H
   by_cases c5 : x10_1 < (l1.length : Int)
   ·rw [if_pos c5] at H
    have c5b0 : decide (x10_1 < (l1.length : Int)) = true := decide_eq_true c5
    clear c5
    have H' := Aside0.mk H
    clear H
    go_wp2
    go_loopg [11,12] k1 (fun kq v11 v12 w' => ∃ (x11_2 : List Int) (x12_2 : Int),v12 = .int .i64 x12_2 ∧ Aside0 (privityref10_Translate.l1 kq a0 l1 a2 l3 x9_1 x10_1 x11_2 x12_2 = some r) ∧ Aside0 (kq ≤ k1) ∧ Aside0 (Kd.S (Kd.slice 31 (Kd.int .u64)) 22 w' w.heap.size (fun k_ => some k_ ≠ (v11 : Value).ownBlock) u9 x9_1) ∧ Aside0 (Kd.R (Kd.int .u64) 31 w' w.heap.size (fun _ => True) v11 x11_2) ∧ Aside0 (Below w.heap.size w w'))
    case atStart => exact ⟨(([] : List Int)),(0),(by first|rfl|(simp;done)|(simp [*];done)),H',⟨Nat.le_refl _⟩,⟨by (with_reducible repeat (first|apply Kd.S_alloc|apply Kd.S_drewN|apply Kd.S_drew));exact Kd.S_mono HO_9.out (fun _ hk => (by simp [Value.ownBlock]))⟩,⟨by first|exact Kd.R_nil _ _ _ _ _|exact Kd.N_nil _ _ _ _ _|exact Kd.V_nil _ _ _ _ _|exact Kd.Q_nil _ _ _ _ _|exact Kd.S_nil _ _ _ _ _⟩,⟨by repeat (first|(with_reducible first|exact HB.out|apply below_alloc|apply pw_below_drewN|apply below_drew1)|exact HB.out)⟩⟩
    case round =>
     clear H'
     try clear c1
     try clear c2
     try clear p2
     try clear c3
     try clear c5
     try clear c5b0
     try clear p2
     obtain ⟨x11_2,x12_2,rfl,HA,HK2,HO_9,HO_11,HB⟩ := hrel
     cases gk with
     | zero => exact absurd HA.out (by simp [privityref10_Translate.l1])
     | succ k2 =>
      have H := HA.out
      clear HA
      simp only [privityref10_Translate.l1] at H
      by_cases c6 : x12_2 < (l1.length : Int)
      ·rw [if_pos c6] at H
       have c6b0 : decide (x12_2 < (l1.length : Int)) = true := decide_eq_true c6
       clear c6
       by_cases c7 : 0 ≤ x10_1
       ·rw [if_pos c7] at H
        have c7b0 : decide (0 ≤ x10_1) = true := decide_eq_true c7
        clear c7
        by_cases c8 : x10_1 < (l1.length : Int)
        ·rw [if_pos c8] at H
         have c8b0 : decide (x10_1 < (l1.length : Int)) = true := decide_eq_true c8
         clear c8
         by_cases c9 : 0 ≤ x12_2
         ·rw [if_pos c9] at H
          have c9b0 : decide (0 ≤ x12_2) = true := decide_eq_true c9
          clear c9
          by_cases c10 : x12_2 < ((rd_L1 l1 x10_1).length : Int)
          ·rw [if_pos c10] at H
           have c10b0 : decide (x12_2 < ((rd_L1 l1 x10_1).length : Int)) = true := decide_eq_true c10
           clear c10
           by_cases c11 : x10_1 < (l3.length : Int)
           ·rw [if_pos c11] at H
            have c11b0 : decide (x10_1 < (l3.length : Int)) = true := decide_eq_true c11
            clear c11
            by_cases c12 : x12_2 < (l3.length : Int)
            ·rw [if_pos c12] at H
             have c12b0 : decide (x12_2 < (l3.length : Int)) = true := decide_eq_true c12
             clear c12
             replace H := Option.bind_eq_some_iff.mp H
             obtain ⟨t430,A130,H⟩ := H
             replace H : ((privityref01_Mul.f k2 a0 a2 t430).bind fun t431 => ((privityref01_Add.f a0 (rd (rd_L1 l1 x10_1) x12_2) t431).bind fun t432 => (if x11_2.length < 17592186044416 then (privityref10_Translate.l1 k2 a0 l1 a2 l3 x9_1 x10_1 (x11_2 ++ [t432]) (wrap64 (x12_2 + 1))) else (none)))) = some r := H
             have A13 := Aside0.mk A130
             clear A130
             replace H := Option.bind_eq_some_iff.mp H
             obtain ⟨t431,A140,H⟩ := H
             replace H : ((privityref01_Add.f a0 (rd (rd_L1 l1 x10_1) x12_2) t431).bind fun t432 => (if x11_2.length < 17592186044416 then (privityref10_Translate.l1 k2 a0 l1 a2 l3 x9_1 x10_1 (x11_2 ++ [t432]) (wrap64 (x12_2 + 1))) else (none))) = some r := H
             have A14 := Aside0.mk A140
             clear A140
             replace H := Option.bind_eq_some_iff.mp H
             obtain ⟨t432,A150,H⟩ := H
             replace H : (if x11_2.length < 17592186044416 then (privityref10_Translate.l1 k2 a0 l1 a2 l3 x9_1 x10_1 (x11_2 ++ [t432]) (wrap64 (x12_2 + 1))) else (none)) = some r := H
             have A15 := Aside0.mk A150
             clear A150
             by_cases c16 : x11_2.length < 17592186044416
             ·rw [if_pos c16] at H
              have LMc16 := Aside0.mk c16
              clear c16
              obtain ⟨y433,hy433⟩ : ∃ y_ : List Int,y_ = (x11_2 ++ [t432]) := ⟨_,rfl⟩
              replace H : (privityref10_Translate.l1 k2 a0 l1 a2 l3 x9_1 x10_1 y433 (wrap64 (x12_2 + 1))) = some r := by first|(rw [hy433];with_reducible exact H)|(have H2_ := (Option.bind_some _ _).symm.trans H;rw [hy433];with_reducible exact H2_)|(have H2_ := (Option.bind_some _ _).symm.trans H;with_reducible exact H2_)|with_reducible exact H|(rw [hy433];exact H)|exact H
              have Ny433 := Aside0.mk hy433
              clear hy433
              have H' := Aside0.mk H
              clear H
              try go_wp2
              have n0_ := Aside0.mk (Kd.S_drew HO_9.out)
              have n1_ := Aside0.mk (Kd.R_drew HO_11.out)
              have n2_ := Aside0.mk (below_drew1 HB.out)
              clear HO_9
              clear HO_11
              clear HB
              have HO_9 := n0_
              have HO_11 := n1_
              have HB := n2_
              clear n0_ n1_ n2_
              have p426 : 0 ≤ (x10_1 : Int) := of_decide_eq_true (by first|(with_reducible assumption)|assumption)
              have q426 : x10_1 < (l1.length : Int) := of_decide_eq_true (by first|(with_reducible assumption)|assumption)
              obtain ⟨ad426,A426_0,c426_0,e426,hx426_0,hl426_0,hi426_0⟩ := at_L1 HR1.out x10_1 p426 q426
              have hw426_0 := hx426_0
              cases e426
              replace hx426_0 := (HB.out.cell (World.block_lt_of_cell? w _ hx426_0)).trans hx426_0
              have HR426_0 := Aside0.mk hi426_0
              have HC426_0 := Aside0.mk hl426_0
              clear hi426_0 hl426_0
              replace p426 := eq_true p426
              replace q426 := eq_true q426
              have p427 : 0 ≤ (x12_2 : Int) := of_decide_eq_true (by first|(with_reducible assumption)|assumption)
              have q427 : x12_2 < ((rd_L1 l1 x10_1).length : Int) := of_decide_eq_true (by first|(with_reducible assumption)|assumption)
              obtain ⟨ad427,e427,hx427_0⟩ := Kd.at_int HR426_0.out x12_2 p427 q427
              have hw427_0 := hx427_0
              cases e427
              replace hx427_0 := (HB.out.cell (World.block_lt_of_cell? w _ hx427_0)).trans hx427_0
              replace p427 := eq_true p427
              replace q427 := eq_true q427
              have p428 : 0 ≤ (x10_1 : Int) := of_decide_eq_true (by first|(with_reducible assumption)|assumption)
              have q428 : x10_1 < (l3.length : Int) := of_decide_eq_true (by first|(with_reducible assumption)|assumption)
              obtain ⟨ad428,e428,hx428_0⟩ := Kd.at_int HR3.out x10_1 p428 q428
              have hw428_0 := hx428_0
              cases e428
              replace hx428_0 := (HB.out.cell (World.block_lt_of_cell? w _ hx428_0)).trans hx428_0
              replace p428 := eq_true p428
              replace q428 := eq_true q428
              have p429 : 0 ≤ (x12_2 : Int) := of_decide_eq_true (by first|(with_reducible assumption)|assumption)
              have q429 : x12_2 < (l3.length : Int) := of_decide_eq_true (by first|(with_reducible assumption)|assumption)
              obtain ⟨ad429,e429,hx429_0⟩ := Kd.at_int HR3.out x12_2 p429 q429
              have hw429_0 := hx429_0
              obtain rfl : ad428 = ad429 := (by injection e429)
              replace hx429_0 := (HB.out.cell (World.block_lt_of_cell? w _ hx429_0)).trans hx429_0
              replace p429 := eq_true p429
              replace q429 := eq_true q429
              refine start_ (n := 26) (S := fun w' => w'.cell? (ad426.add (x10_1).toNat) = some (.slice (some ad427) (rd_L1 l1 x10_1).length c426_0) ∧ w'.cell? (ad427.add (x12_2).toNat) = some (.int .u64 (rd (rd_L1 l1 x10_1) x12_2)) ∧ w'.cell? (ad428.add (x10_1).toNat) = some (.int .u64 (rd l3 x10_1)) ∧ w'.cell? (ad428.add (x12_2).toNat) = some (.int .u64 (rd l3 x12_2))) (ds := []) #[false,false,false,false,false,false,false,false,false,false,false,false,false,false,false,false,false,false,false,false,false,false,false,false,false,false] (by kernel_rfl) rfl rfl ⟨((HB.out.cell (World.block_lt_of_cell? w _ hw426_0)).trans hw426_0),((HB.out.cell (World.block_lt_of_cell? w _ hw427_0)).trans hw427_0),((HB.out.cell (World.block_lt_of_cell? w _ hw428_0)).trans hw428_0),((HB.out.cell (World.block_lt_of_cell? w _ hw429_0)).trans hw429_0)⟩ (fun hHeld => ?_);refine with_tabW privityref10_Translate.tab9 privityref10_Translate.bits9 (fun HT_ HW_ => ?_)
              generalize wr.drew = w17 at HO_9 HO_11 HB HR426_0 hx426_0 hx427_0 hx428_0 hx429_0 hHeld ⊢
              refine pure_ (i := 0) (N := some 25) (v := ?_) (a' := ?_) #[true,false,false,false,false,false,false,false,false,false,false,false,false,false,false,false,false,false,false,false,false,false,false,false,false,false] rfl rfl (any_of HT_.out (by kernel_rfl)) (fun _ _ _ h => h) (Or.inl ⟨by rfl,?_⟩) ?_ ?_
              rotate_left
              ·intro w'
               go_simp
               with_reducible rfl
              rotate_left
              ·simp only [Act.put,List.setIfInBounds_toArray,List.set_cons_zero,List.set_cons_succ,i64_w,i32_w]
               rfl
              refine pure_ (i := 1) (N := some 26) (v := ?_) (a' := ?_) #[true,true,false,false,false,false,false,false,false,false,false,false,false,false,false,false,false,false,false,false,false,false,false,false,false,false] rfl rfl (any_of HT_.out (by kernel_rfl)) (fun _ _ _ h => h) (Or.inl ⟨by rfl,?_⟩) ?_ ?_
              rotate_left
              ·intro w'
               go_simp
               with_reducible rfl
              rotate_left
              ·simp only [Act.put,List.setIfInBounds_toArray,List.set_cons_zero,List.set_cons_succ,i64_w,i32_w]
               rfl
              refine pure_ (i := 2) (N := some 27) (v := ?_) (a' := ?_) #[true,true,true,false,false,false,false,false,false,false,false,false,false,false,false,false,false,false,false,false,false,false,false,false,false,false] rfl rfl (any_of HT_.out (by kernel_rfl)) (fun _ _ _ h => h) (Or.inl ⟨by rfl,?_⟩) ?_ ?_
              rotate_left
              ·intro w'
               go_simp
               with_reducible rfl
              rotate_left
              ·simp only [Act.put,List.setIfInBounds_toArray,List.set_cons_zero,List.set_cons_succ,i64_w,i32_w]
               rfl
              refine pure_ (i := 3) (N := some 28) (v := ?_) (a' := ?_) #[true,true,true,true,false,false,false,false,false,false,false,false,false,false,false,false,false,false,false,false,false,false,false,false,false,false] rfl rfl (any_of HT_.out (by kernel_rfl)) (fun _ _ _ h => h) (Or.inl ⟨by rfl,?_⟩) ?_ ?_
              rotate_left
              ·intro w'
               go_simp
               with_reducible rfl
              rotate_left
              ·simp only [Act.put,List.setIfInBounds_toArray,List.set_cons_zero,List.set_cons_succ,i64_w,i32_w]
               rfl
              refine pure_ (i := 4) (N := some 29) (v := ?_) (a' := ?_) #[true,true,true,true,true,false,false,false,false,false,false,false,false,false,false,false,false,false,false,false,false,false,false,false,false,false] rfl rfl (any_of HT_.out (by kernel_rfl)) (fun _ _ _ h => h) (Or.inl ⟨by rfl,?_⟩) ?_ ?_
              rotate_left
              ·intro w'
               go_simp
               with_reducible rfl
              rotate_left
              ·simp only [Act.put,List.setIfInBounds_toArray,List.set_cons_zero,List.set_cons_succ,i64_w,i32_w]
               rfl
              refine pure_ (i := 6) (N := some 31) (v := ?_) (a' := ?_) #[true,true,true,true,true,false,true,false,false,false,false,false,false,false,false,false,false,false,false,false,false,false,false,false,false,false] rfl rfl (any_of HT_.out (by kernel_rfl)) (fun _ _ _ h => h) (Or.inl ⟨by rfl,?_⟩) ?_ ?_
              rotate_left
              ·intro w'
               go_simp
               with_reducible rfl
              rotate_left
              ·simp only [Act.put,List.setIfInBounds_toArray,List.set_cons_zero,List.set_cons_succ,i64_w,i32_w]
               rfl
              refine pure_ (i := 9) (N := some 34) (v := ?_) (a' := ?_) #[true,true,true,true,true,false,true,false,false,true,false,false,false,false,false,false,false,false,false,false,false,false,false,false,false,false] rfl rfl (any_of HT_.out (by kernel_rfl)) (fun _ _ _ h => h) (Or.inl ⟨by rfl,?_⟩) ?_ ?_
              rotate_left
              ·intro w'
               go_simp
               with_reducible rfl
              rotate_left
              ·simp only [Act.put,List.setIfInBounds_toArray,List.set_cons_zero,List.set_cons_succ,i64_w,i32_w]
               rfl
              refine pure_ (i := 10) (N := some 35) (v := ?_) (a' := ?_) #[true,true,true,true,true,false,true,false,false,true,true,false,false,false,false,false,false,false,false,false,false,false,false,false,false,false] rfl rfl (any_of HT_.out (by kernel_rfl)) (fun _ _ _ h => h) (Or.inl ⟨by rfl,?_⟩) ?_ ?_
              rotate_left
              ·intro w'
               go_simp
               with_reducible rfl
              rotate_left
              ·simp only [Act.put,List.setIfInBounds_toArray,List.set_cons_zero,List.set_cons_succ,i64_w,i32_w]
               rfl
              refine pure_ (i := 11) (N := some 36) (v := ?_) (a' := ?_) #[true,true,true,true,true,false,true,false,false,true,true,true,false,false,false,false,false,false,false,false,false,false,false,false,false,false] rfl rfl (any_of HT_.out (by kernel_rfl)) (fun _ _ _ h => h) (Or.inl ⟨by rfl,?_⟩) ?_ ?_
              rotate_left
              ·intro w'
               go_simp
               with_reducible rfl
              rotate_left
              ·simp only [Act.put,List.setIfInBounds_toArray,List.set_cons_zero,List.set_cons_succ,i64_w,i32_w]
               rfl
              refine pure_ (i := 12) (N := some 37) (v := ?_) (a' := ?_) #[true,true,true,true,true,false,true,false,false,true,true,true,true,false,false,false,false,false,false,false,false,false,false,false,false,false] rfl rfl (any_of HT_.out (by kernel_rfl)) (fun _ _ _ h => h) (Or.inl ⟨by rfl,?_⟩) ?_ ?_
              rotate_left
              ·intro w'
               go_simp
               with_reducible rfl
              rotate_left
              ·simp only [Act.put,List.setIfInBounds_toArray,List.set_cons_zero,List.set_cons_succ,i64_w,i32_w]
               rfl
              refine pure_ (i := 13) (N := some 38) (v := ?_) (a' := ?_) #[true,true,true,true,true,false,true,false,false,true,true,true,true,true,false,false,false,false,false,false,false,false,false,false,false,false] rfl rfl (any_of HT_.out (by kernel_rfl)) (fun _ _ _ h => h) (Or.inl ⟨by rfl,?_⟩) ?_ ?_
              rotate_left
              ·intro w'
               go_simp
               with_reducible rfl
              rotate_left
              ·simp only [Act.put,List.setIfInBounds_toArray,List.set_cons_zero,List.set_cons_succ,i64_w,i32_w]
               rfl
              refine pure_ (i := 14) (N := some 39) (v := ?_) (a' := ?_) #[true,true,true,true,true,false,true,false,false,true,true,true,true,true,true,false,false,false,false,false,false,false,false,false,false,false] rfl rfl (any_of HT_.out (by kernel_rfl)) (fun _ _ _ h => h) (Or.inl ⟨by rfl,?_⟩) ?_ ?_
              rotate_left
              ·intro w'
               go_simp
               with_reducible rfl
              rotate_left
              ·simp only [Act.put,List.setIfInBounds_toArray,List.set_cons_zero,List.set_cons_succ,i64_w,i32_w]
               rfl
              refine pure_ (i := 16) (N := some 41) (v := ?_) (a' := ?_) #[true,true,true,true,true,false,true,false,false,true,true,true,true,true,true,false,true,false,false,false,false,false,false,false,false,false] rfl rfl (any_of HT_.out (by kernel_rfl)) (fun _ _ _ h => h) (Or.inl ⟨by rfl,?_⟩) ?_ ?_
              rotate_left
              ·intro w'
               go_simp
               with_reducible rfl
              rotate_left
              ·simp only [Act.put,List.setIfInBounds_toArray,List.set_cons_zero,List.set_cons_succ,i64_w,i32_w]
               rfl
              refine pure_ (i := 17) (N := some 42) (v := ?_) (a' := ?_) #[true,true,true,true,true,false,true,false,false,true,true,true,true,true,true,false,true,true,false,false,false,false,false,false,false,false] rfl rfl (any_of HT_.out (by kernel_rfl)) (fun _ _ _ h => h) (Or.inl ⟨by rfl,?_⟩) ?_ ?_
              rotate_left
              ·intro w'
               go_simp
               with_reducible rfl
              rotate_left
              ·simp only [Act.put,List.setIfInBounds_toArray,List.set_cons_zero,List.set_cons_succ,i64_w,i32_w]
               rfl
              refine pure_ (i := 18) (N := some 43) (v := ?_) (a' := ?_) #[true,true,true,true,true,false,true,false,false,true,true,true,true,true,true,false,true,true,true,false,false,false,false,false,false,false] rfl rfl (any_of HT_.out (by kernel_rfl)) (fun _ _ _ h => h) (Or.inl ⟨by rfl,?_⟩) ?_ ?_
              rotate_left
              ·intro w'
               go_simp
               with_reducible rfl
              rotate_left
              ·simp only [Act.put,List.setIfInBounds_toArray,List.set_cons_zero,List.set_cons_succ,i64_w,i32_w]
               rfl
              refine take_ (i := 5) (N := some 30) (v := ?_) (a' := ?_) #[true,true,true,true,true,true,true,false,false,true,true,true,true,true,true,false,true,true,true,false,false,false,false,false,false,false] rfl rfl (take_ofW HT_.out HW_.out (by kernel_rfl)) (fun _ _ _ h => h) (Or.inl ⟨by rfl,?_⟩) hHeld ?_ ?_
              rotate_left
              ·rintro w' ⟨s0,s1,s2,s3⟩
               go_simp
               with_reducible rfl
              rotate_left
              ·simp only [Act.put,List.setIfInBounds_toArray,List.set_cons_zero,List.set_cons_succ,i64_w,i32_w]
               rfl
              refine pure_ (i := 7) (N := some 32) (v := ?_) (a' := ?_) #[true,true,true,true,true,true,true,true,false,true,true,true,true,true,true,false,true,true,true,false,false,false,false,false,false,false] rfl rfl (any_of HT_.out (by kernel_rfl)) (fun _ _ _ h => h) (Or.inl ⟨by rfl,?_⟩) ?_ ?_
              rotate_left
              ·intro w'
               go_simp
               with_reducible rfl
              rotate_left
              ·simp only [Act.put,List.setIfInBounds_toArray,List.set_cons_zero,List.set_cons_succ,i64_w,i32_w]
               rfl
              refine take_ (i := 8) (N := some 33) (v := ?_) (a' := ?_) #[true,true,true,true,true,true,true,true,true,true,true,true,true,true,true,false,true,true,true,false,false,false,false,false,false,false] rfl rfl (take_ofW HT_.out HW_.out (by kernel_rfl)) (fun _ _ _ h => h) (Or.inl ⟨by rfl,?_⟩) hHeld ?_ ?_
              rotate_left
              ·rintro w' ⟨s0,s1,s2,s3⟩
               go_simp
               with_reducible rfl
              rotate_left
              ·simp only [Act.put,List.setIfInBounds_toArray,List.set_cons_zero,List.set_cons_succ,i64_w,i32_w]
               rfl
              refine take_ (i := 15) (N := some 40) (v := ?_) (a' := ?_) #[true,true,true,true,true,true,true,true,true,true,true,true,true,true,true,true,true,true,true,false,false,false,false,false,false,false] rfl rfl (take_ofW HT_.out HW_.out (by kernel_rfl)) (fun _ _ _ h => h) (Or.inl ⟨by rfl,?_⟩) hHeld ?_ ?_
              rotate_left
              ·rintro w' ⟨s0,s1,s2,s3⟩
               go_simp
               with_reducible rfl
              rotate_left
              ·simp only [Act.put,List.setIfInBounds_toArray,List.set_cons_zero,List.set_cons_succ,i64_w,i32_w]
               rfl
              refine take_ (i := 19) (N := some 44) (v := ?_) (a' := ?_) #[true,true,true,true,true,true,true,true,true,true,true,true,true,true,true,true,true,true,true,true,false,false,false,false,false,false] rfl rfl (take_ofW HT_.out HW_.out (by kernel_rfl)) (fun _ _ _ h => h) (Or.inl ⟨by rfl,?_⟩) hHeld ?_ ?_
              rotate_left
              ·rintro w' ⟨s0,s1,s2,s3⟩
               go_simp
               with_reducible rfl
              rotate_left
              ·simp only [Act.put,List.setIfInBounds_toArray,List.set_cons_zero,List.set_cons_succ,i64_w,i32_w]
               rfl
              refine one_ (i := 20) (N := some 45) #[true,true,true,true,true,true,true,true,true,true,true,true,true,true,true,true,true,true,true,true,true,false,false,false,false,false] rfl rfl (one_of HT_.out (by kernel_rfl)) (by decide) (fun K hK => ?_)
              refine goes_ Try.func52 (by kernel_rfl) rfl #[.int .u64 a0,.int .u64 (rd l3 x10_1),.int .u64 (rd l3 x12_2)] (by rfl) rfl rfl (by (try simp only [List.map_toArray,List.map_cons,List.map_nil]);first|done|rfl|(simp only [List.length_drop,List.length_take];rfl)) ?_
              with_reducible refine (privityref01_Mul.calls k2 a0 (rd l3 x10_1) (rd l3 x12_2) t430 _ A13.out).mono ?_
              rintro e w' ⟨rfl,⟨nd,rfl⟩⟩
              refine ⟨_,rfl,?_⟩
              refine hK.out _ _ ⟨((HB.out.cell (World.block_lt_of_cell? w _ hw426_0)).trans hw426_0),((HB.out.cell (World.block_lt_of_cell? w _ hw427_0)).trans hw427_0),((HB.out.cell (World.block_lt_of_cell? w _ hw428_0)).trans hw428_0),((HB.out.cell (World.block_lt_of_cell? w _ hw429_0)).trans hw429_0)⟩ (fun hHeld => ?_)
              clear hK K
              refine norm_ (a' := ?_) ?_ ?_
              rotate_left
              ·show Act.put _ (some 45) _ = _
               simp only [Act.put,List.setIfInBounds_toArray,List.set_cons_zero,List.set_cons_succ,i64_w,i32_w]
               rfl
              refine one_ (i := 21) (N := some 46) #[true,true,true,true,true,true,true,true,true,true,true,true,true,true,true,true,true,true,true,true,true,true,false,false,false,false] rfl rfl (one_of HT_.out (by kernel_rfl)) (by decide) (fun K hK => ?_)
              refine goes_ Try.func52 (by kernel_rfl) rfl #[.int .u64 a0,.int .u64 a2,.int .u64 t430] (by rfl) rfl rfl (by (try simp only [List.map_toArray,List.map_cons,List.map_nil]);first|done|rfl|(simp only [List.length_drop,List.length_take];rfl)) ?_
              with_reducible refine (privityref01_Mul.calls k2 a0 a2 t430 t431 _ A14.out).mono ?_
              rintro e w' ⟨rfl,⟨nd,rfl⟩⟩
              refine ⟨_,rfl,?_⟩
              refine hK.out _ _ ⟨((HB.out.cell (World.block_lt_of_cell? w _ hw426_0)).trans hw426_0),((HB.out.cell (World.block_lt_of_cell? w _ hw427_0)).trans hw427_0),((HB.out.cell (World.block_lt_of_cell? w _ hw428_0)).trans hw428_0),((HB.out.cell (World.block_lt_of_cell? w _ hw429_0)).trans hw429_0)⟩ (fun hHeld => ?_)
              clear hK K
              refine norm_ (a' := ?_) ?_ ?_
              rotate_left
              ·show Act.put _ (some 46) _ = _
               simp only [Act.put,List.setIfInBounds_toArray,List.set_cons_zero,List.set_cons_succ,i64_w,i32_w]
               rfl
              refine one_ (i := 22) (N := some 47) #[true,true,true,true,true,true,true,true,true,true,true,true,true,true,true,true,true,true,true,true,true,true,true,false,false,false] rfl rfl (one_of HT_.out (by kernel_rfl)) (by decide) (fun K hK => ?_)
              refine goes_ Try.func41 (by kernel_rfl) rfl #[.int .u64 a0,.int .u64 (rd (rd_L1 l1 x10_1) x12_2),.int .u64 t431] (by rfl) rfl rfl (by (try simp only [List.map_toArray,List.map_cons,List.map_nil]);first|done|rfl|(simp only [List.length_drop,List.length_take];rfl)) ?_
              with_reducible refine (privityref01_Add.calls a0 (rd (rd_L1 l1 x10_1) x12_2) t431 t432 _ A15.out).mono ?_
              rintro e w' ⟨rfl,⟨nd,rfl⟩⟩
              refine ⟨_,rfl,?_⟩
              refine hK.out _ _ ⟨((HB.out.cell (World.block_lt_of_cell? w _ hw426_0)).trans hw426_0),((HB.out.cell (World.block_lt_of_cell? w _ hw427_0)).trans hw427_0),((HB.out.cell (World.block_lt_of_cell? w _ hw428_0)).trans hw428_0),((HB.out.cell (World.block_lt_of_cell? w _ hw429_0)).trans hw429_0)⟩ (fun hHeld => ?_)
              clear hK K
              refine norm_ (a' := ?_) ?_ ?_
              rotate_left
              ·show Act.put _ (some 47) _ = _
               simp only [Act.put,List.setIfInBounds_toArray,List.set_cons_zero,List.set_cons_succ,i64_w,i32_w]
               rfl
              refine one_ (i := 23) (N := some 48) #[true,true,true,true,true,true,true,true,true,true,true,true,true,true,true,true,true,true,true,true,true,true,true,true,false,false] rfl rfl (one_of HT_.out (by kernel_rfl)) (by decide) (fun K hK => ?_)
              refine value_ (w1 := ?_) (v := ?_) (by rfl) rfl ?_ ?_
              rotate_left 2
              ·go_simp
               constructor
               ·rfl
               ·rfl
              refine hK.out _ _ ⟨(World.cell?_alloc_lt _ _ _ (World.block_lt_of_cell? _ _ (((HB.out.cell (World.block_lt_of_cell? w _ hw426_0)).trans hw426_0)))).trans (((HB.out.cell (World.block_lt_of_cell? w _ hw426_0)).trans hw426_0)),(World.cell?_alloc_lt _ _ _ (World.block_lt_of_cell? _ _ (((HB.out.cell (World.block_lt_of_cell? w _ hw427_0)).trans hw427_0)))).trans (((HB.out.cell (World.block_lt_of_cell? w _ hw427_0)).trans hw427_0)),(World.cell?_alloc_lt _ _ _ (World.block_lt_of_cell? _ _ (((HB.out.cell (World.block_lt_of_cell? w _ hw428_0)).trans hw428_0)))).trans (((HB.out.cell (World.block_lt_of_cell? w _ hw428_0)).trans hw428_0)),(World.cell?_alloc_lt _ _ _ (World.block_lt_of_cell? _ _ (((HB.out.cell (World.block_lt_of_cell? w _ hw429_0)).trans hw429_0)))).trans (((HB.out.cell (World.block_lt_of_cell? w _ hw429_0)).trans hw429_0))⟩ (fun hHeld => ?_)
              clear hK K
              refine norm_ (a' := ?_) ?_ ?_
              rotate_left
              ·show Act.put _ (some 48) _ = _
               simp only [Act.put,List.setIfInBounds_toArray,List.set_cons_zero,List.set_cons_succ,i64_w,i32_w]
               rfl
              refine one_ (i := 24) (N := some 49) #[true,true,true,true,true,true,true,true,true,true,true,true,true,true,true,true,true,true,true,true,true,true,true,true,true,false] rfl rfl (one_of HT_.out (by kernel_rfl)) (by decide) (fun K hK => ?_)
              refine Kd.R_append_step (Kd.int .u64) (w0 := w) w.heap.size (by rfl) (.tmp 25) (.tmp 48) 22 31 (.int .u64 0) 8 rfl Try.underlying22 info31 rfl (by decide) (by omega) u11 x11_2 t432 [.int .u64 t432] (fun _ => True) (fun _ => False) rfl rfl ?aP (fun _ hk => hk.elim) ?aF ?aO ?aB ?aS ?aL ?_
              (case aP => exact rfl)
              (case aB => exact (by repeat (first|(with_reducible first|exact HB.out|apply below_alloc|apply pw_below_drewN|apply below_drew1)|exact HB.out)))
              (case aF => exact (fun _ _ => trivial))
              (case aO => exact (by (with_reducible repeat (first|apply Kd.R_alloc|apply Kd.R_drewN|apply Kd.R_drew));exact HO_11.out))
              (case aS => exact (below_size (by repeat (first|(with_reducible first|exact HB.out|apply below_alloc|apply pw_below_drewN|apply below_drew1)|exact HB.out))))
              (case aL => have := LMc16.out;omega)
              intro v434 w18 ho hb hg hat
              rw [← Ny433.out] at ho
              have n0_ := Aside0.mk (Kd.S_after (ok := (fun _ => True)) (by (with_reducible repeat (first|apply Kd.S_alloc|apply Kd.S_drewN|apply Kd.S_drew));exact Kd.S_mono HO_9.out (fun _ hk => ⟨trivial,hk⟩)) hg hat)
              have n1_ := Aside0.mk (hb)
              have n2_ := Aside0.mk (ho)
              clear HO_9
              clear HB
              clear HO_11
              have HO_9 := n0_
              have HB := n1_
              have HO435 := n2_
              clear n0_ n1_ n2_
              clear ho hb hg hat
              refine hK.out _ _ ⟨((HB.out.cell (World.block_lt_of_cell? w _ hw426_0)).trans hw426_0),((HB.out.cell (World.block_lt_of_cell? w _ hw427_0)).trans hw427_0),((HB.out.cell (World.block_lt_of_cell? w _ hw428_0)).trans hw428_0),((HB.out.cell (World.block_lt_of_cell? w _ hw429_0)).trans hw429_0)⟩ (fun hHeld => ?_)
              clear hK K
              refine norm_ (a' := ?_) ?_ ?_
              rotate_left
              ·show Act.put _ (some 49) _ = _
               simp only [Act.put,List.setIfInBounds_toArray,List.set_cons_zero,List.set_cons_succ,i64_w,i32_w]
               rfl
              refine pure_ (i := 25) (N := some 11) (v := ?_) (a' := ?_) #[true,true,true,true,true,true,true,true,true,true,true,true,true,true,true,true,true,true,true,true,true,true,true,true,true,true] rfl rfl (any_of HT_.out (by kernel_rfl)) (fun _ _ _ h => h) (Or.inl ⟨by rfl,?_⟩) ?_ ?_
              rotate_left
              ·intro w'
               go_simp
               with_reducible rfl
              rotate_left
              ·simp only [Act.put,List.setIfInBounds_toArray,List.set_cons_zero,List.set_cons_succ,i64_w,i32_w]
               rfl
              refine done_ (done_of HT_.out (by kernel_rfl)) ?_
              try go_wp2
              go_roundg k2
              case measure => have := HK1.out;have := HK2.out;omega
              case rel => exact ⟨(y433),(wrap64 (x12_2 + 1)),(by first|rfl|(simp;done)|(simp [*];done)),H',⟨by have := HK1.out;have := HK2.out;omega⟩,⟨by (with_reducible repeat (first|apply Kd.S_alloc|apply Kd.S_drewN|apply Kd.S_drew));exact Kd.S_mono HO_9.out (fun _ hk => hk.2)⟩,⟨by (with_reducible repeat (first|apply Kd.R_alloc|apply Kd.R_drewN|apply Kd.R_drew));exact HO435.out⟩,⟨by repeat (first|(with_reducible first|exact HB.out|apply below_alloc|apply pw_below_drewN|apply below_drew1)|exact HB.out)⟩⟩
             ·rw [if_neg c16] at H
              exact absurd H (by simp)
            ·rw [if_neg c12] at H
             exact absurd H (by simp)
           ·rw [if_neg c11] at H
            exact absurd H (by simp)
          ·rw [if_neg c10] at H
           exact absurd H (by simp)
         ·rw [if_neg c9] at H
          exact absurd H (by simp)
        ·rw [if_neg c8] at H
         exact absurd H (by simp)
       ·rw [if_neg c7] at H
        exact absurd H (by simp)
      ·rw [if_neg c6] at H
       have c6b0 : decide (x12_2 < (l1.length : Int)) = false := decide_eq_false c6
       clear c6
       by_cases c19 : x9_1.length < 5864062014805
       ·rw [if_pos c19] at H
        have LMc19 := Aside0.mk c19
        clear c19
        obtain ⟨y436,hy436⟩ : ∃ y_ : List (List Int),y_ = (x9_1 ++ [x11_2]) := ⟨_,rfl⟩
        replace H : (privityref10_Translate.l0 k2 a0 l1 a2 l3 y436 (wrap64 (x10_1 + 1))) = some r := by first|(rw [hy436];with_reducible exact H)|(have H2_ := (Option.bind_some _ _).symm.trans H;rw [hy436];with_reducible exact H2_)|(have H2_ := (Option.bind_some _ _).symm.trans H;with_reducible exact H2_)|with_reducible exact H|(rw [hy436];exact H)|exact H
        have Ny436 := Aside0.mk hy436
        clear hy436
        have H' := Aside0.mk H
        clear H
        obtain ⟨Ao21,co21,eo21⟩ := Kd.R_slice HO_11.out
        subst eo21
        go_wp2_with (first|((with_reducible refine gate_builtin (b := .append) (xs := #[.tmp 50,.tmp 52]) rfl ?_);at_builtin;refine Kd.S_append (Kd.slice 31 (Kd.int .u64)) (w0 := w) w.heap.size rfl (.tmp 50) (.tmp 52) 24 22 (.slice none 0 0) 24 rfl Try.underlying24 info22 rfl (by decide) (by omega) u9 x9_1 x11_2 [.slice Ao21 x11_2.length co21] (fun _ => True) (fun k_ => some k_ = (.slice Ao21 x11_2.length co21 : Value).ownBlock) rfl rfl ?aP (fun k_ hk_ => ((Kd.R_mono (ok' := fun k_ => ((fun _ => True)) k_ ∧ some k_ ≠ (u9 : Value).ownBlock) (Kd.R_apart' (HO_11.out) (Kd.S_typed HO_9.out) (by decide)) (fun k_ hk => ⟨trivial,hk.2⟩))).1 k_ hk_.symm) ?aF ?aO ?aB ?aS ?aL ?_;(case aP => exact Kd.M_row (Kd.R_mono (Kd.R_tight rfl (Kd.R_mono (ok' := fun k_ => ((fun _ => True)) k_ ∧ some k_ ≠ (u9 : Value).ownBlock) (Kd.R_apart' (HO_11.out) (Kd.S_typed HO_9.out) (by decide)) (fun k_ hk => ⟨trivial,hk.2⟩))) (fun _ h_ => h_)));(case aB => exact (by repeat (first|(with_reducible first|exact HB.out|apply below_alloc|apply pw_below_drewN|apply below_drew1)|exact HB.out)));(case aF => exact (fun _ _ => trivial));(case aO => exact (by (with_reducible repeat (first|apply Kd.S_alloc|apply Kd.S_drewN|apply Kd.S_drew));exact Kd.S_mono HO_9.out (fun k_ hk => ⟨trivial,fun e_ => hk e_⟩)));(case aS => exact (below_size (by repeat (first|(with_reducible first|exact HB.out|apply below_alloc|apply pw_below_drewN|apply below_drew1)|exact HB.out))));(case aL => have := LMc19.out;omega);intro v437 w20 ho hb hg hat;rw [← Ny436.out] at ho;have n0_ := Aside0.mk (hb);have n1_ := Aside0.mk (ho);clear HB;clear HO_9;clear HO_11;have HB := n0_;have HO438 := n1_;clear n0_ n1_;clear ho hb hg hat))
        go_roundg k2
        case measure => have := HK1.out;have := HK2.out;omega
        case rel => exact ⟨(y436),(wrap64 (x10_1 + 1)),(by first|rfl|(simp;done)|(simp [*];done)),H',⟨by have := HK1.out;have := HK2.out;omega⟩,⟨by (with_reducible repeat (first|apply Kd.S_alloc|apply Kd.S_drewN|apply Kd.S_drew));exact HO438.out⟩,⟨by repeat (first|(with_reducible first|exact HB.out|apply below_alloc|apply pw_below_drewN|apply below_drew1)|exact HB.out)⟩⟩
       ·rw [if_neg c19] at H
        exact absurd H (by simp)
   ·rw [if_neg c5] at H
    have c5b0 : decide (x10_1 < (l1.length : Int)) = false := decide_eq_false c5
    clear c5
    obtain rfl := Option.some.inj H
    go_wp2
    go_ret
    exact ⟨_,by first|rfl|(simp [errW_none,errW_some] <;> rfl)|(simp [*,errW_none,errW_some] <;> rfl),by (with_reducible repeat (first|apply Kd.S_alloc|apply Kd.S_drewN|apply Kd.S_drew));exact HO_9.out,by repeat (first|(with_reducible first|exact HB.out|apply below_alloc|apply pw_below_drewN|apply below_drew1)|exact HB.out)⟩
end Go.Proofs.Ytkhdocabgmemiaa.Pr
end
