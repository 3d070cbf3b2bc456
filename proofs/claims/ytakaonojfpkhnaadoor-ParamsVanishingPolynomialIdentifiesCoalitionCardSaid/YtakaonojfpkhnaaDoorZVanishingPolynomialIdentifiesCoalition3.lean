/- Part 3 of the proof's texts, joined in build order. -/
import Derived.Test.YtakaonojfpkhnaaDoorZVanishingPolynomialIdentifiesCoalition1
import Derived.Test.YtakaonojfpkhnaaDoorZVanishingPolynomialIdentifiesCoalition2
import Derived.Test.YtakaonojfpkhnaaDoorZVanishingPolynomialIdentifiesCoalition0
import Derived.Laws.CopyOwn
import Derived.Deep.WholeRow
section
/- Printed by a program of this seat (the kit's printer, with the functions that were proved by hand given to it). What stands here: the functions that the statements reach, as plain functions, and that the Go code computes them. -/
namespace Go.Proofs.YtakaonojfpkhnaaDoor.Pr
open Go.RowKit Go.Proofs.YtakaonojfpkhnaaDoorW.PrintWords Go.Proofs.YtakaonojfpkhnaaDoorW.PrintLast Go.Proofs.YtakaonojfpkhnaaDoorW.PrintMore
attribute [local go_sem] max2_int min2_int max_two min_two max_three min_three max_four min_four   -- for this text's walks alone
set_option linter.unusedVariables false
set_option linter.unusedSimpArgs false

open Go.Proofs.YtakaonojfpkhnaaDoor.Hw
/-! ### privityref01_exps: function 66 -/
def privityref01_exps.f  : Option (List Int) := some (([5, 7, 13, 17, 19, 31, 61] : List Int))
set_option maxHeartbeats 8000000 in
set_option maxRecDepth 100000 in
theorem privityref01_exps.calls  (r : List Int) (w : World) (h : privityref01_exps.f  = some r) :
  Calls Tryd.prog 66 #[] w fun e w' => ∃ v0_ : Value,e = .returned (v0_) ∧ Kd.R (Kd.int .i64) 3 w' w.heap.size (fun _ => True) v0_ r ∧ Below w.heap.size w w' := by
 have HB := Aside0.mk (Below.refl w.heap.size w)
 have H : (some (([5,7,13,17,19,31,61] : List Int))) = some r := h
 clear h
 obtain ⟨y192,hy192⟩ : ∃ y_ : List Int,y_ = (([5,7,13,17,19,31,61] : List Int)) := ⟨_,rfl⟩
 replace H : (some y192) = some r := by first|(rw [hy192];with_reducible exact H)|(have H2_ := (Option.bind_some _ _).symm.trans H;rw [hy192];with_reducible exact H2_)|(have H2_ := (Option.bind_some _ _).symm.trans H;with_reducible exact H2_)|with_reducible exact H|(rw [hy192];exact H)|exact H
 have Ny192 := Aside0.mk hy192
 clear hy192
 obtain rfl := Option.some.inj H
 go_enter Tryd.func66,Tryd.ntmps66
 go_wp2_with (first|((with_reducible refine gate_dst (N := 1) rfl ?_);refine Kd.R_lit (Kd.int .i64) _ 3 ?hg (N := 1) ?hd (xs := ([5,7,13,17,19,31,61] : List Int)) (inner := [.int .i64 5,.int .i64 7,.int .i64 13,.int .i64 17,.int .i64 19,.int .i64 31,.int .i64 61]) (ok := fun _ => True) (okp := fun _ => True) ?hr ?hp (fun _ hk => hk) trivial (Below.refl _ _) (Nat.le_refl _) (by simp) ?_;(case hd => rfl);(case hg => rfl);(case hr => first|(go_simp;done)|(go_simp;rfl));(case hp => exact (Reps.one (show Kd.M (Kd.int .i64) _ _ _ 5 [.int .i64 5] from rfl) (Reps.one (show Kd.M (Kd.int .i64) _ _ _ 7 [.int .i64 7] from rfl) (Reps.one (show Kd.M (Kd.int .i64) _ _ _ 13 [.int .i64 13] from rfl) (Reps.one (show Kd.M (Kd.int .i64) _ _ _ 17 [.int .i64 17] from rfl) (Reps.one (show Kd.M (Kd.int .i64) _ _ _ 19 [.int .i64 19] from rfl) (Reps.one (show Kd.M (Kd.int .i64) _ _ _ 31 [.int .i64 31] from rfl) (Reps.one (show Kd.M (Kd.int .i64) _ _ _ 61 [.int .i64 61] from rfl) (Reps.none _ _)))))))));intro v193 w1 ho2 hb hg_ hnew_;clear hg_ hnew_;(first|rw [← Ny192.out] at ho2|(simp only [Int.reduceToNat] at ho2;rw [← Ny192.out] at ho2));have n0_ := Aside0.mk (Kd.R_lower ho2 (below_size (by repeat (first|(with_reducible first|exact HB.out|apply below_alloc|apply pw_below_drewN|apply below_drew1)|exact HB.out))));have n1_ := Aside0.mk (below_step (by repeat (first|(with_reducible first|exact HB.out|apply below_alloc|apply pw_below_drewN|apply below_drew1)|exact HB.out)) hb);clear HB;have HO194 := n0_;have HB := n1_;clear n0_ n1_;clear hb ho2))
 go_ret
 exact ⟨_,by first|rfl|(simp [errW_none,errW_some] <;> rfl)|(simp [*,errW_none,errW_some] <;> rfl),by (with_reducible repeat (first|apply Kd.R_alloc|apply Kd.R_drewN|apply Kd.R_drew));exact HO194.out,by repeat (first|(with_reducible first|exact HB.out|apply below_alloc|apply pw_below_drewN|apply below_drew1)|exact HB.out)⟩
/-! ### privityref01_Exponent: function 46 -/
def privityref01_Exponent.l0 : Nat → Int → List Int → Int → Option (Int)
 | 0,_,_,_ => none
 | k + 1,x0,x3,x4 => if x4 < (x3.length : Int) then (if 0 ≤ x4 then (if 0 ≤ (IntKind.u64.wrap (rd x3 x4)) then (if x0 = (IntKind.u64.wrap ((shl .u64 1 (IntKind.u64.wrap (rd x3 x4))) - 1)) then (some (rd x3 x4)) else (privityref01_Exponent.l0 k x0 x3 (wrap64 (x4 + 1)))) else (none)) else (none)) else (some 0)
def privityref01_Exponent.f (k : Nat) (a0 : Int) : Option (Int) := (privityref01_exps.f).bind fun t195 => (privityref01_Exponent.l0 k a0 t195 0)
theorem privityref01_Exponent.mono_l : ∀ k, (∀ y0 y1 y2, LeO (privityref01_Exponent.l0 k y0 y1 y2) (privityref01_Exponent.l0 (k + 1) y0 y1 y2))
 | 0 => fun _ _ _ r h => by simp [privityref01_Exponent.l0] at h
 | k + 1 => by
  have ih0 := privityref01_Exponent.mono_l k
  ·intro y0 y1 y2
   unfold privityref01_Exponent.l0
   repeat' first
   | (with_reducible exact ih0 _ _ _)
   | (with_reducible exact LeO.refl _)
   | (with_reducible exact LeO.none _)
   | (with_reducible refine LeO.ite ?_ ?_)
   | (with_reducible refine LeO.bind ?_ (fun _ => ?_))
   | exact ih0 _ _ _
   | exact LeO.none _
   | refine LeO.ite ?_ ?_
   | refine LeO.bind ?_ (fun _ => ?_)
theorem privityref01_Exponent.mono : ∀ a0 k, LeO (privityref01_Exponent.f k a0) (privityref01_Exponent.f (k + 1) a0) := by
 intro a0 k
 have ih0 := privityref01_Exponent.mono_l k
 unfold privityref01_Exponent.f
 repeat' first
   | (with_reducible exact ih0 _ _ _)
   | (with_reducible exact LeO.refl _)
   | (with_reducible exact LeO.none _)
   | (with_reducible refine LeO.ite ?_ ?_)
   | (with_reducible refine LeO.bind ?_ (fun _ => ?_))
   | exact ih0 _ _ _
   | exact LeO.none _
   | refine LeO.ite ?_ ?_
   | refine LeO.bind ?_ (fun _ => ?_)
set_option maxHeartbeats 8000000 in
set_option maxRecDepth 100000 in
theorem privityref01_Exponent.calls (k : Nat) (a0 : Int) (r : Int) (w : World) (h : privityref01_Exponent.f k a0 = some r) :
  Calls Tryd.prog 46 #[.int .u64 a0] w fun e w' => e = .returned (.int .i64 r) ∧ Below w.heap.size w w' := by
 have HB := Aside0.mk (Below.refl w.heap.size w)
 have H : ((privityref01_exps.f).bind fun t195 => (privityref01_Exponent.l0 k a0 t195 0)) = some r := h
 clear h
 replace H := Option.bind_eq_some_iff.mp H
 obtain ⟨t195,A20,H⟩ := H
 replace H : (privityref01_Exponent.l0 k a0 t195 0) = some r := H
 have A2 := Aside0.mk A20
 clear A20
 have H' := Aside0.mk H
 clear H
 go_enter Tryd.func46,Tryd.ntmps46
 go_wp2_with (first|((with_reducible refine gate_callee (f := 66) rfl ?_);refine goesL_ (some 5) rfl rfl Tryd.func66 (by kernel_rfl) rfl #[] rfl (by (try simp only [List.map_toArray,List.map_cons,List.map_nil]);first|done|rfl|(simp only [List.length_drop,List.length_take];rfl)) ?_;(with_reducible refine (privityref01_exps.calls  t195 _ A2.out).mono ?_);rintro e w3 ⟨v196,rfl,ho0,hb⟩;refine ⟨_,rfl,?_⟩;have n0_ := Aside0.mk (Kd.R_lower ho0 (below_size (by repeat (first|(with_reducible first|exact HB.out|apply below_alloc|apply pw_below_drewN|apply below_drew1)|exact HB.out))));have n1_ := Aside0.mk (below_step (by repeat (first|(with_reducible first|exact HB.out|apply below_alloc|apply pw_below_drewN|apply below_drew1)|exact HB.out)) hb);clear HB;have HO197 := n0_;have HB := n1_;clear n0_ n1_;(try clear hb);(try clear hb2);(try clear hk);(try clear hi);(try clear ho0)))
 go_loopg [4] k (fun kq v4 w' => ∃ (x4_1 : Int),v4 = .int .i64 x4_1 ∧ Aside0 (privityref01_Exponent.l0 kq a0 t195 x4_1 = some r) ∧ Aside0 (kq ≤ k) ∧ Aside0 (Kd.R (Kd.int .i64) 3 w' w.heap.size (fun _ => True) v196 t195) ∧ Aside0 (Below w.heap.size w w'))
 case atStart => exact ⟨(0),(by first|rfl|(simp;done)|(simp [*];done)),H',⟨Nat.le_refl _⟩,⟨by (with_reducible repeat (first|apply Kd.R_alloc|apply Kd.R_drewN|apply Kd.R_drew));exact HO197.out⟩,⟨by repeat (first|(with_reducible first|exact HB.out|apply below_alloc|apply pw_below_drewN|apply below_drew1)|exact HB.out)⟩⟩
 case round =>
  clear H'
  try clear p2
  obtain ⟨x4_1,rfl,HA,HK1,HO_3,HB⟩ := hrel
  cases gk with
  | zero => exact absurd HA.out (by simp [privityref01_Exponent.l0])
  | succ k1 =>
   have H := HA.out
   clear HA
   simp only [privityref01_Exponent.l0] at H
   by_cases c4 : x4_1 < (t195.length : Int)
   ·rw [if_pos c4] at H
    have c4b0 : decide (x4_1 < (t195.length : Int)) = true := decide_eq_true c4
    clear c4
    by_cases c5 : 0 ≤ x4_1
    ·rw [if_pos c5] at H
     have c5b0 : decide (0 ≤ x4_1) = true := decide_eq_true c5
     clear c5
     obtain ⟨ji6,hji6⟩ : ∃ j_ : Int,(IntKind.u64.wrap (rd t195 x4_1)) = j_ := ⟨_,rfl⟩
     replace H : (if 0 ≤ (ji6) then (if a0 = (IntKind.u64.wrap ((shl .u64 1 (ji6)) - 1)) then (some (rd t195 x4_1)) else (privityref01_Exponent.l0 k1 a0 t195 (wrap64 (x4_1 + 1)))) else (none)) = some r := by first|(rw [hji6] at H;exact H)|(simp only [hji6] at H ⊢;exact H)
     by_cases c7 : 0 ≤ (ji6)
     ·rw [if_pos c7] at H
      have c7b0 := eq_true c7
      have c7b1 : decide (0 ≤ (ji6)) = true := decide_eq_true c7
      clear c7
      obtain ⟨ji8,hji8⟩ : ∃ j_ : Int,(shl .u64 1 (ji6)) = j_ := ⟨_,rfl⟩
      replace H : (if a0 = (IntKind.u64.wrap ((ji8) - 1)) then (some (rd t195 x4_1)) else (privityref01_Exponent.l0 k1 a0 t195 (wrap64 (x4_1 + 1)))) = some r := by first|(rw [hji8] at H;exact H)|(simp only [hji8] at H ⊢;exact H)
      have hji8_ : (IntKind.u64.wrap (1 * 2 ^ min (ji6).toNat 64)) = ji8 := hji8
      have hji8z : (ji6) ≤ 64 → (IntKind.u64.wrap (1 * 2 ^ (ji6).toNat)) = ji8 := shl_small hji8
      have hji8u : (IntKind.u64.wrap (2 ^ min (ji6).toNat 64)) = ji8 := by have h_ := hji8_;rw [Int.one_mul] at h_;exact h_
      have hji8v : (ji6) ≤ 64 → (IntKind.u64.wrap (2 ^ (ji6).toNat)) = ji8 := fun hle_ => by have h_ := hji8z hle_;rw [Int.one_mul] at h_;exact h_
      by_cases c9 : a0 = (IntKind.u64.wrap ((ji8) - 1))
      ·rw [if_pos c9] at H
       have c9b0 : (a0 == (IntKind.u64.wrap ((ji8) - 1))) = true := beq_iff_eq.mpr c9
       have c9b1 : (a0 != (IntKind.u64.wrap ((ji8) - 1))) = false := bne_eq_false_iff_eq.mpr c9
       clear c9
       obtain rfl := Option.some.inj H
       obtain ⟨Ao10,co10,eo10⟩ := Kd.R_slice HO_3.out
       subst eo10
       have p198 : 0 ≤ (x4_1 : Int) := of_decide_eq_true (by first|(with_reducible assumption)|assumption)
       have q198 : x4_1 < (t195.length : Int) := of_decide_eq_true (by first|(with_reducible assumption)|assumption)
       obtain ⟨ad198,e198,hx198_0⟩ := Kd.at_int (Kd.R_reads' HO_3.out).2.2 x4_1 p198 q198
       cases e198
       replace p198 := eq_true p198
       replace q198 := eq_true q198
       have p199 : 0 ≤ (x4_1 : Int) := of_decide_eq_true (by first|(with_reducible assumption)|assumption)
       have q199 : x4_1 < (t195.length : Int) := of_decide_eq_true (by first|(with_reducible assumption)|assumption)
       obtain ⟨ad199,e199,hx199_0⟩ := Kd.at_int (Kd.R_reads' HO_3.out).2.2 x4_1 p199 q199
       obtain rfl : ad198 = ad199 := (by injection e199)
       replace p199 := eq_true p199
       replace q199 := eq_true q199
       go_wp2
       go_ret
       exact ⟨by first|rfl|(simp [errW_none,errW_some] <;> rfl)|(simp only [← hji6,← hji8];first|rfl|(simp [errW_none,errW_some] <;> rfl))|(simp [*,errW_none,errW_some] <;> rfl),by repeat (first|(with_reducible first|exact HB.out|apply below_alloc|apply pw_below_drewN|apply below_drew1)|exact HB.out)⟩
      ·rw [if_neg c9] at H
       have c9b0 : (a0 == (IntKind.u64.wrap ((ji8) - 1))) = false := beq_eq_false_iff_ne.mpr c9
       have c9b1 : (a0 != (IntKind.u64.wrap ((ji8) - 1))) = true := bne_iff_ne.mpr c9
       have H' := Aside0.mk H
       clear H
       obtain ⟨Ao11,co11,eo11⟩ := Kd.R_slice HO_3.out
       subst eo11
       have p198 : 0 ≤ (x4_1 : Int) := of_decide_eq_true (by first|(with_reducible assumption)|assumption)
       have q198 : x4_1 < (t195.length : Int) := of_decide_eq_true (by first|(with_reducible assumption)|assumption)
       obtain ⟨ad198,e198,hx198_0⟩ := Kd.at_int (Kd.R_reads' HO_3.out).2.2 x4_1 p198 q198
       cases e198
       replace p198 := eq_true p198
       replace q198 := eq_true q198
       go_wp2
       go_roundg k1
       case measure => have := HK1.out;omega
       case rel => exact ⟨(wrap64 (x4_1 + 1)),(by first|rfl|(simp;done)|(simp [*];done)),H',⟨by have := HK1.out;omega⟩,⟨by (with_reducible repeat (first|apply Kd.R_alloc|apply Kd.R_drewN|apply Kd.R_drew));exact HO_3.out⟩,⟨by repeat (first|(with_reducible first|exact HB.out|apply below_alloc|apply pw_below_drewN|apply below_drew1)|exact HB.out)⟩⟩
     ·rw [if_neg c7] at H
      exact absurd H (by simp)
    ·rw [if_neg c5] at H
     exact absurd H (by simp)
   ·rw [if_neg c4] at H
    have c4b0 : decide (x4_1 < (t195.length : Int)) = false := decide_eq_false c4
    clear c4
    obtain rfl := Option.some.inj H
    obtain ⟨Ao12,co12,eo12⟩ := Kd.R_slice HO_3.out
    subst eo12
    go_wp2
    go_ret
    exact ⟨by first|rfl|(simp [errW_none,errW_some] <;> rfl)|(simp [*,errW_none,errW_some] <;> rfl),by repeat (first|(with_reducible first|exact HB.out|apply below_alloc|apply pw_below_drewN|apply below_drew1)|exact HB.out)⟩
/-! ### privityref01_Supported: function 29 -/
def privityref01_Supported.f (k : Nat) (a0 : Int) : Option (Bool) := (privityref01_Exponent.f k a0).bind fun t200 => (some (decide (t200 > 0)))
theorem privityref01_Supported.mono : ∀ a0 k, LeO (privityref01_Supported.f k a0) (privityref01_Supported.f (k + 1) a0) := by
 intro a0 k
 unfold privityref01_Supported.f
 repeat' first
   | (with_reducible exact privityref01_Exponent.mono _ _)
   | (with_reducible exact LeO.refl _)
   | (with_reducible exact LeO.none _)
   | (with_reducible refine LeO.ite ?_ ?_)
   | (with_reducible refine LeO.bind ?_ (fun _ => ?_))
   | exact privityref01_Exponent.mono _ _
   | exact LeO.none _
   | refine LeO.ite ?_ ?_
   | refine LeO.bind ?_ (fun _ => ?_)
set_option maxHeartbeats 8000000 in
set_option maxRecDepth 100000 in
theorem privityref01_Supported.calls (k : Nat) (a0 : Int) (r : Bool) (w : World) (h : privityref01_Supported.f k a0 = some r) :
  Calls Tryd.prog 29 #[.int .u64 a0] w fun e w' => e = .returned (.bool r) ∧ Below w.heap.size w w' := by
 have HB := Aside0.mk (Below.refl w.heap.size w)
 have H : ((privityref01_Exponent.f k a0).bind fun t200 => (some (decide (t200 > 0)))) = some r := h
 clear h
 replace H := Option.bind_eq_some_iff.mp H
 obtain ⟨t200,A20,H⟩ := H
 replace H : (some (decide (t200 > 0))) = some r := H
 have A2 := Aside0.mk A20
 clear A20
 obtain rfl := Option.some.inj H
 go_enter Tryd.func29,Tryd.ntmps29
 go_wp2_with (first|((with_reducible refine gate_callee (f := 46) rfl ?_);refine goesL_ (some 4) rfl rfl Tryd.func46 (by kernel_rfl) rfl #[.int .u64 a0] rfl (by (try simp only [List.map_toArray,List.map_cons,List.map_nil]);first|done|rfl|(simp only [List.length_drop,List.length_take];rfl)) ?_;(with_reducible refine (privityref01_Exponent.calls k a0 t200 _ A2.out).mono ?_);rintro e w3 ⟨rfl,hb⟩;refine ⟨_,rfl,?_⟩;have n0_ := Aside0.mk (below_step (by repeat (first|(with_reducible first|exact HB.out|apply below_alloc|apply pw_below_drewN|apply below_drew1)|exact HB.out)) hb);clear HB;have HB := n0_;clear n0_;(try clear hb);(try clear hb2);(try clear hk);(try clear hi)))
 go_ret
 exact ⟨by first|rfl|(simp [errW_none,errW_some] <;> rfl)|(simp [*,errW_none,errW_some] <;> rfl),by repeat (first|(with_reducible first|exact HB.out|apply below_alloc|apply pw_below_drewN|apply below_drew1)|exact HB.out)⟩
/-! ### privityref12_Valid: function 11 -/
def privityref12_Valid.f (k : Nat) (a0_0 : Int) (a0_1 : Int) (a0_2 : Int) : Option (Bool) := (privityref01_Supported.f k a0_0).bind fun t202 => (if t202 = true then (if a0_1 ≥ 4 then (if a0_1 ≤ 13 then (if (IntKind.u64.wrap (a0_1)) < a0_0 then (if a0_2 ≥ 1 then (if a0_2 < a0_1 then (some (decide ((wrap64 (3 * a0_2)) < a0_1))) else (some false)) else (some false)) else (some false)) else (some false)) else (some false)) else (some false))
set_option maxHeartbeats 8000000 in
set_option maxRecDepth 100000 in
theorem privityref12_Valid.calls (k : Nat) (a0_0 : Int) (a0_1 : Int) (a0_2 : Int) (r : Bool) (w : World) (h : privityref12_Valid.f k a0_0 a0_1 a0_2 = some r) :
  Calls Tryd.prog 11 #[.agg #[.int .u64 a0_0,.int .i64 a0_1,.int .i64 a0_2]] w fun e w' => e = .returned (.bool r) ∧ Below w.heap.size w w' := by
 have hu24 := Tryd.underlying24
 have HB := Aside0.mk (Below.refl w.heap.size w)
 have H : ((privityref01_Supported.f k a0_0).bind fun t202 => (if t202 = true then (if a0_1 ≥ 4 then (if a0_1 ≤ 13 then (if (IntKind.u64.wrap (a0_1)) < a0_0 then (if a0_2 ≥ 1 then (if a0_2 < a0_1 then (some (decide ((wrap64 (3 * a0_2)) < a0_1))) else (some false)) else (some false)) else (some false)) else (some false)) else (some false)) else (some false))) = some r := h
 clear h
 replace H := Option.bind_eq_some_iff.mp H
 obtain ⟨t202,A20,H⟩ := H
 replace H : (if t202 = true then (if a0_1 ≥ 4 then (if a0_1 ≤ 13 then (if (IntKind.u64.wrap (a0_1)) < a0_0 then (if a0_2 ≥ 1 then (if a0_2 < a0_1 then (some (decide ((wrap64 (3 * a0_2)) < a0_1))) else (some false)) else (some false)) else (some false)) else (some false)) else (some false)) else (some false)) = some r := H
 have A2 := Aside0.mk A20
 clear A20
 by_cases c3 : t202 = true
 ·subst c3
  have H1 : (if a0_1 ≥ 4 then (if a0_1 ≤ 13 then (if (IntKind.u64.wrap (a0_1)) < a0_0 then (if a0_2 ≥ 1 then (if a0_2 < a0_1 then (some (decide ((wrap64 (3 * a0_2)) < a0_1))) else (some false)) else (some false)) else (some false)) else (some false)) else (some false)) = some r := by rw [if_pos rfl] at H;exact H
  clear H
  have H := H1
  clear H1
  by_cases c4 : a0_1 ≥ 4
  ·rw [if_pos c4] at H
   have c4b0 : decide (4 ≤ a0_1) = true := decide_eq_true c4
   clear c4
   by_cases c5 : a0_1 ≤ 13
   ·rw [if_pos c5] at H
    have c5b0 : decide (a0_1 ≤ 13) = true := decide_eq_true c5
    clear c5
    by_cases c6 : (IntKind.u64.wrap (a0_1)) < a0_0
    ·rw [if_pos c6] at H
     have c6b0 : decide ((IntKind.u64.wrap (a0_1)) < a0_0) = true := decide_eq_true c6
     clear c6
     by_cases c7 : a0_2 ≥ 1
     ·rw [if_pos c7] at H
      have c7b0 : decide (1 ≤ a0_2) = true := decide_eq_true c7
      clear c7
      by_cases c8 : a0_2 < a0_1
      ·rw [if_pos c8] at H
       have c8b0 : decide (a0_2 < a0_1) = true := decide_eq_true c8
       clear c8
       obtain rfl := Option.some.inj H
       go_enter Tryd.func11,Tryd.ntmps11
       go_wp2_with (first|((with_reducible refine gate_dst (N := 1) rfl ?_);refine box_event ?hg (N := 1) ?hd (cs := #[.int .u64 a0_0,.int .i64 a0_1,.int .i64 a0_2]) (t := 24) ?hr ?_;(case hd => rfl);(case hg => rfl);(case hr => first|(go_simp;done)|(go_simp;rfl));intro gb201 hg w9 hbox hb;have n0_ := Aside0.mk (below_step (by repeat (first|(with_reducible first|exact HB.out|apply below_alloc|apply pw_below_drewN|apply below_drew1)|exact HB.out)) hb);have n1_ := Aside0.mk (hbox);have n2_ := Aside0.mk ((by rw [hg];exact (below_size (by repeat (first|(with_reducible first|exact HB.out|apply below_alloc|apply pw_below_drewN|apply below_drew1)|exact HB.out))) : w.heap.size ≤ gb201));have n3_ := Aside0.mk ((by rw [hg];exact (below_size (by repeat (first|(with_reducible first|exact HB.out|apply below_alloc|apply pw_below_drewN|apply below_drew1)|exact HB.out))) : w.heap.size ≤ gb201));clear HB;have HB := n0_;have BK201 := n1_;have GW201 := n2_;have GE201 := n3_;clear n0_ n1_ n2_ n3_;clear hb hbox hg;have hcz10_0 : w9.cell? ⟨gb201,0,none⟩ = some (.int .u64 a0_0) := (blk_cell BK201.out 0).trans rfl;have hcz10_1 : w9.cell? ⟨gb201,1,none⟩ = some (.int .i64 a0_1) := (blk_cell BK201.out 1).trans rfl;have hcz10_2 : w9.cell? ⟨gb201,2,none⟩ = some (.int .i64 a0_2) := (blk_cell BK201.out 2).trans rfl;have hfz10_0 := blk_frozen BK201.out 0;have hfz10_1 := blk_frozen BK201.out 1;have hfz10_2 := blk_frozen BK201.out 2)|((with_reducible refine gate_callee (f := 29) rfl ?_);refine goesL_ (some 5) rfl rfl Tryd.func29 (by kernel_rfl) rfl #[.int .u64 a0_0] rfl (by (try simp only [List.map_toArray,List.map_cons,List.map_nil]);first|done|rfl|(simp only [List.length_drop,List.length_take];rfl)) ?_;(with_reducible refine (privityref01_Supported.calls k a0_0 true _ A2.out).mono ?_);rintro e w11 ⟨rfl,hb⟩;refine ⟨_,rfl,?_⟩;have n0_ := Aside0.mk (blk_below (g := gb201) (o := .cells #[.int .u64 a0_0,.int .i64 a0_1,.int .i64 a0_2] 24 (0,0)) (by (with_reducible repeat (first|refine blk_drewN ?_ _|refine blk_drew ?_|refine blk_alloc ?_ _));exact BK201.out) hb);have n1_ := Aside0.mk (below_step (by repeat (first|(with_reducible first|exact HB.out|apply below_alloc|apply pw_below_drewN|apply below_drew1|refine below_set ?_ GE201.out)|exact HB.out)) hb);clear BK201;clear HB;have BK201 := n0_;have HB := n1_;clear n0_ n1_;(try clear hb);(try clear hb2);(try clear hk);(try clear hi);have hcz12_0 : w11.cell? ⟨gb201,0,none⟩ = some (.int .u64 a0_0) := (blk_cell BK201.out 0).trans rfl;have hcz12_1 : w11.cell? ⟨gb201,1,none⟩ = some (.int .i64 a0_1) := (blk_cell BK201.out 1).trans rfl;have hcz12_2 : w11.cell? ⟨gb201,2,none⟩ = some (.int .i64 a0_2) := (blk_cell BK201.out 2).trans rfl;have hfz12_0 := blk_frozen BK201.out 0;have hfz12_1 := blk_frozen BK201.out 1;have hfz12_2 := blk_frozen BK201.out 2))
       go_ret
       exact ⟨by first|rfl|(simp [errW_none,errW_some] <;> rfl)|(simp [*,errW_none,errW_some] <;> rfl),by repeat (first|(with_reducible first|exact HB.out|apply below_alloc|apply pw_below_drewN|apply below_drew1|refine below_set ?_ GE201.out)|exact HB.out)⟩
      ·rw [if_neg c8] at H
       have c8b0 : decide (a0_2 < a0_1) = false := decide_eq_false c8
       clear c8
       obtain rfl := Option.some.inj H
       go_enter Tryd.func11,Tryd.ntmps11
       go_wp2_with (first|((with_reducible refine gate_dst (N := 1) rfl ?_);refine box_event ?hg (N := 1) ?hd (cs := #[.int .u64 a0_0,.int .i64 a0_1,.int .i64 a0_2]) (t := 24) ?hr ?_;(case hd => rfl);(case hg => rfl);(case hr => first|(go_simp;done)|(go_simp;rfl));intro gb201 hg w13 hbox hb;have n0_ := Aside0.mk (below_step (by repeat (first|(with_reducible first|exact HB.out|apply below_alloc|apply pw_below_drewN|apply below_drew1)|exact HB.out)) hb);have n1_ := Aside0.mk (hbox);have n2_ := Aside0.mk ((by rw [hg];exact (below_size (by repeat (first|(with_reducible first|exact HB.out|apply below_alloc|apply pw_below_drewN|apply below_drew1)|exact HB.out))) : w.heap.size ≤ gb201));have n3_ := Aside0.mk ((by rw [hg];exact (below_size (by repeat (first|(with_reducible first|exact HB.out|apply below_alloc|apply pw_below_drewN|apply below_drew1)|exact HB.out))) : w.heap.size ≤ gb201));clear HB;have HB := n0_;have BK201 := n1_;have GW201 := n2_;have GE201 := n3_;clear n0_ n1_ n2_ n3_;clear hb hbox hg;have hcz14_0 : w13.cell? ⟨gb201,0,none⟩ = some (.int .u64 a0_0) := (blk_cell BK201.out 0).trans rfl;have hcz14_1 : w13.cell? ⟨gb201,1,none⟩ = some (.int .i64 a0_1) := (blk_cell BK201.out 1).trans rfl;have hcz14_2 : w13.cell? ⟨gb201,2,none⟩ = some (.int .i64 a0_2) := (blk_cell BK201.out 2).trans rfl;have hfz14_0 := blk_frozen BK201.out 0;have hfz14_1 := blk_frozen BK201.out 1;have hfz14_2 := blk_frozen BK201.out 2)|((with_reducible refine gate_callee (f := 29) rfl ?_);refine goesL_ (some 5) rfl rfl Tryd.func29 (by kernel_rfl) rfl #[.int .u64 a0_0] rfl (by (try simp only [List.map_toArray,List.map_cons,List.map_nil]);first|done|rfl|(simp only [List.length_drop,List.length_take];rfl)) ?_;(with_reducible refine (privityref01_Supported.calls k a0_0 true _ A2.out).mono ?_);rintro e w15 ⟨rfl,hb⟩;refine ⟨_,rfl,?_⟩;have n0_ := Aside0.mk (blk_below (g := gb201) (o := .cells #[.int .u64 a0_0,.int .i64 a0_1,.int .i64 a0_2] 24 (0,0)) (by (with_reducible repeat (first|refine blk_drewN ?_ _|refine blk_drew ?_|refine blk_alloc ?_ _));exact BK201.out) hb);have n1_ := Aside0.mk (below_step (by repeat (first|(with_reducible first|exact HB.out|apply below_alloc|apply pw_below_drewN|apply below_drew1|refine below_set ?_ GE201.out)|exact HB.out)) hb);clear BK201;clear HB;have BK201 := n0_;have HB := n1_;clear n0_ n1_;(try clear hb);(try clear hb2);(try clear hk);(try clear hi);have hcz16_0 : w15.cell? ⟨gb201,0,none⟩ = some (.int .u64 a0_0) := (blk_cell BK201.out 0).trans rfl;have hcz16_1 : w15.cell? ⟨gb201,1,none⟩ = some (.int .i64 a0_1) := (blk_cell BK201.out 1).trans rfl;have hcz16_2 : w15.cell? ⟨gb201,2,none⟩ = some (.int .i64 a0_2) := (blk_cell BK201.out 2).trans rfl;have hfz16_0 := blk_frozen BK201.out 0;have hfz16_1 := blk_frozen BK201.out 1;have hfz16_2 := blk_frozen BK201.out 2))
       go_ret
       exact ⟨by first|rfl|(simp [errW_none,errW_some] <;> rfl)|(simp [*,errW_none,errW_some] <;> rfl),by repeat (first|(with_reducible first|exact HB.out|apply below_alloc|apply pw_below_drewN|apply below_drew1|refine below_set ?_ GE201.out)|exact HB.out)⟩
     ·rw [if_neg c7] at H
      have c7b0 : decide (1 ≤ a0_2) = false := decide_eq_false c7
      clear c7
      obtain rfl := Option.some.inj H
      go_enter Tryd.func11,Tryd.ntmps11
      go_wp2_with (first|((with_reducible refine gate_dst (N := 1) rfl ?_);refine box_event ?hg (N := 1) ?hd (cs := #[.int .u64 a0_0,.int .i64 a0_1,.int .i64 a0_2]) (t := 24) ?hr ?_;(case hd => rfl);(case hg => rfl);(case hr => first|(go_simp;done)|(go_simp;rfl));intro gb201 hg w17 hbox hb;have n0_ := Aside0.mk (below_step (by repeat (first|(with_reducible first|exact HB.out|apply below_alloc|apply pw_below_drewN|apply below_drew1)|exact HB.out)) hb);have n1_ := Aside0.mk (hbox);have n2_ := Aside0.mk ((by rw [hg];exact (below_size (by repeat (first|(with_reducible first|exact HB.out|apply below_alloc|apply pw_below_drewN|apply below_drew1)|exact HB.out))) : w.heap.size ≤ gb201));have n3_ := Aside0.mk ((by rw [hg];exact (below_size (by repeat (first|(with_reducible first|exact HB.out|apply below_alloc|apply pw_below_drewN|apply below_drew1)|exact HB.out))) : w.heap.size ≤ gb201));clear HB;have HB := n0_;have BK201 := n1_;have GW201 := n2_;have GE201 := n3_;clear n0_ n1_ n2_ n3_;clear hb hbox hg;have hcz18_0 : w17.cell? ⟨gb201,0,none⟩ = some (.int .u64 a0_0) := (blk_cell BK201.out 0).trans rfl;have hcz18_1 : w17.cell? ⟨gb201,1,none⟩ = some (.int .i64 a0_1) := (blk_cell BK201.out 1).trans rfl;have hcz18_2 : w17.cell? ⟨gb201,2,none⟩ = some (.int .i64 a0_2) := (blk_cell BK201.out 2).trans rfl;have hfz18_0 := blk_frozen BK201.out 0;have hfz18_1 := blk_frozen BK201.out 1;have hfz18_2 := blk_frozen BK201.out 2)|((with_reducible refine gate_callee (f := 29) rfl ?_);refine goesL_ (some 5) rfl rfl Tryd.func29 (by kernel_rfl) rfl #[.int .u64 a0_0] rfl (by (try simp only [List.map_toArray,List.map_cons,List.map_nil]);first|done|rfl|(simp only [List.length_drop,List.length_take];rfl)) ?_;(with_reducible refine (privityref01_Supported.calls k a0_0 true _ A2.out).mono ?_);rintro e w19 ⟨rfl,hb⟩;refine ⟨_,rfl,?_⟩;have n0_ := Aside0.mk (blk_below (g := gb201) (o := .cells #[.int .u64 a0_0,.int .i64 a0_1,.int .i64 a0_2] 24 (0,0)) (by (with_reducible repeat (first|refine blk_drewN ?_ _|refine blk_drew ?_|refine blk_alloc ?_ _));exact BK201.out) hb);have n1_ := Aside0.mk (below_step (by repeat (first|(with_reducible first|exact HB.out|apply below_alloc|apply pw_below_drewN|apply below_drew1|refine below_set ?_ GE201.out)|exact HB.out)) hb);clear BK201;clear HB;have BK201 := n0_;have HB := n1_;clear n0_ n1_;(try clear hb);(try clear hb2);(try clear hk);(try clear hi);have hcz20_0 : w19.cell? ⟨gb201,0,none⟩ = some (.int .u64 a0_0) := (blk_cell BK201.out 0).trans rfl;have hcz20_1 : w19.cell? ⟨gb201,1,none⟩ = some (.int .i64 a0_1) := (blk_cell BK201.out 1).trans rfl;have hcz20_2 : w19.cell? ⟨gb201,2,none⟩ = some (.int .i64 a0_2) := (blk_cell BK201.out 2).trans rfl;have hfz20_0 := blk_frozen BK201.out 0;have hfz20_1 := blk_frozen BK201.out 1;have hfz20_2 := blk_frozen BK201.out 2))
      go_ret
      exact ⟨by first|rfl|(simp [errW_none,errW_some] <;> rfl)|(simp [*,errW_none,errW_some] <;> rfl),by repeat (first|(with_reducible first|exact HB.out|apply below_alloc|apply pw_below_drewN|apply below_drew1|refine below_set ?_ GE201.out)|exact HB.out)⟩
    ·rw [if_neg c6] at H
     have c6b0 : decide ((IntKind.u64.wrap (a0_1)) < a0_0) = false := decide_eq_false c6
     clear c6
     obtain rfl := Option.some.inj H
     go_enter Tryd.func11,Tryd.ntmps11
     go_wp2_with (first|((with_reducible refine gate_dst (N := 1) rfl ?_);refine box_event ?hg (N := 1) ?hd (cs := #[.int .u64 a0_0,.int .i64 a0_1,.int .i64 a0_2]) (t := 24) ?hr ?_;(case hd => rfl);(case hg => rfl);(case hr => first|(go_simp;done)|(go_simp;rfl));intro gb201 hg w21 hbox hb;have n0_ := Aside0.mk (below_step (by repeat (first|(with_reducible first|exact HB.out|apply below_alloc|apply pw_below_drewN|apply below_drew1)|exact HB.out)) hb);have n1_ := Aside0.mk (hbox);have n2_ := Aside0.mk ((by rw [hg];exact (below_size (by repeat (first|(with_reducible first|exact HB.out|apply below_alloc|apply pw_below_drewN|apply below_drew1)|exact HB.out))) : w.heap.size ≤ gb201));have n3_ := Aside0.mk ((by rw [hg];exact (below_size (by repeat (first|(with_reducible first|exact HB.out|apply below_alloc|apply pw_below_drewN|apply below_drew1)|exact HB.out))) : w.heap.size ≤ gb201));clear HB;have HB := n0_;have BK201 := n1_;have GW201 := n2_;have GE201 := n3_;clear n0_ n1_ n2_ n3_;clear hb hbox hg;have hcz22_0 : w21.cell? ⟨gb201,0,none⟩ = some (.int .u64 a0_0) := (blk_cell BK201.out 0).trans rfl;have hcz22_1 : w21.cell? ⟨gb201,1,none⟩ = some (.int .i64 a0_1) := (blk_cell BK201.out 1).trans rfl;have hcz22_2 : w21.cell? ⟨gb201,2,none⟩ = some (.int .i64 a0_2) := (blk_cell BK201.out 2).trans rfl;have hfz22_0 := blk_frozen BK201.out 0;have hfz22_1 := blk_frozen BK201.out 1;have hfz22_2 := blk_frozen BK201.out 2)|((with_reducible refine gate_callee (f := 29) rfl ?_);refine goesL_ (some 5) rfl rfl Tryd.func29 (by kernel_rfl) rfl #[.int .u64 a0_0] rfl (by (try simp only [List.map_toArray,List.map_cons,List.map_nil]);first|done|rfl|(simp only [List.length_drop,List.length_take];rfl)) ?_;(with_reducible refine (privityref01_Supported.calls k a0_0 true _ A2.out).mono ?_);rintro e w23 ⟨rfl,hb⟩;refine ⟨_,rfl,?_⟩;have n0_ := Aside0.mk (blk_below (g := gb201) (o := .cells #[.int .u64 a0_0,.int .i64 a0_1,.int .i64 a0_2] 24 (0,0)) (by (with_reducible repeat (first|refine blk_drewN ?_ _|refine blk_drew ?_|refine blk_alloc ?_ _));exact BK201.out) hb);have n1_ := Aside0.mk (below_step (by repeat (first|(with_reducible first|exact HB.out|apply below_alloc|apply pw_below_drewN|apply below_drew1|refine below_set ?_ GE201.out)|exact HB.out)) hb);clear BK201;clear HB;have BK201 := n0_;have HB := n1_;clear n0_ n1_;(try clear hb);(try clear hb2);(try clear hk);(try clear hi);have hcz24_0 : w23.cell? ⟨gb201,0,none⟩ = some (.int .u64 a0_0) := (blk_cell BK201.out 0).trans rfl;have hcz24_1 : w23.cell? ⟨gb201,1,none⟩ = some (.int .i64 a0_1) := (blk_cell BK201.out 1).trans rfl;have hcz24_2 : w23.cell? ⟨gb201,2,none⟩ = some (.int .i64 a0_2) := (blk_cell BK201.out 2).trans rfl;have hfz24_0 := blk_frozen BK201.out 0;have hfz24_1 := blk_frozen BK201.out 1;have hfz24_2 := blk_frozen BK201.out 2))
     go_ret
     exact ⟨by first|rfl|(simp [errW_none,errW_some] <;> rfl)|(simp [*,errW_none,errW_some] <;> rfl),by repeat (first|(with_reducible first|exact HB.out|apply below_alloc|apply pw_below_drewN|apply below_drew1|refine below_set ?_ GE201.out)|exact HB.out)⟩
   ·rw [if_neg c5] at H
    have c5b0 : decide (a0_1 ≤ 13) = false := decide_eq_false c5
    clear c5
    obtain rfl := Option.some.inj H
    go_enter Tryd.func11,Tryd.ntmps11
    go_wp2_with (first|((with_reducible refine gate_dst (N := 1) rfl ?_);refine box_event ?hg (N := 1) ?hd (cs := #[.int .u64 a0_0,.int .i64 a0_1,.int .i64 a0_2]) (t := 24) ?hr ?_;(case hd => rfl);(case hg => rfl);(case hr => first|(go_simp;done)|(go_simp;rfl));intro gb201 hg w25 hbox hb;have n0_ := Aside0.mk (below_step (by repeat (first|(with_reducible first|exact HB.out|apply below_alloc|apply pw_below_drewN|apply below_drew1)|exact HB.out)) hb);have n1_ := Aside0.mk (hbox);have n2_ := Aside0.mk ((by rw [hg];exact (below_size (by repeat (first|(with_reducible first|exact HB.out|apply below_alloc|apply pw_below_drewN|apply below_drew1)|exact HB.out))) : w.heap.size ≤ gb201));have n3_ := Aside0.mk ((by rw [hg];exact (below_size (by repeat (first|(with_reducible first|exact HB.out|apply below_alloc|apply pw_below_drewN|apply below_drew1)|exact HB.out))) : w.heap.size ≤ gb201));clear HB;have HB := n0_;have BK201 := n1_;have GW201 := n2_;have GE201 := n3_;clear n0_ n1_ n2_ n3_;clear hb hbox hg;have hcz26_0 : w25.cell? ⟨gb201,0,none⟩ = some (.int .u64 a0_0) := (blk_cell BK201.out 0).trans rfl;have hcz26_1 : w25.cell? ⟨gb201,1,none⟩ = some (.int .i64 a0_1) := (blk_cell BK201.out 1).trans rfl;have hcz26_2 : w25.cell? ⟨gb201,2,none⟩ = some (.int .i64 a0_2) := (blk_cell BK201.out 2).trans rfl;have hfz26_0 := blk_frozen BK201.out 0;have hfz26_1 := blk_frozen BK201.out 1;have hfz26_2 := blk_frozen BK201.out 2)|((with_reducible refine gate_callee (f := 29) rfl ?_);refine goesL_ (some 5) rfl rfl Tryd.func29 (by kernel_rfl) rfl #[.int .u64 a0_0] rfl (by (try simp only [List.map_toArray,List.map_cons,List.map_nil]);first|done|rfl|(simp only [List.length_drop,List.length_take];rfl)) ?_;(with_reducible refine (privityref01_Supported.calls k a0_0 true _ A2.out).mono ?_);rintro e w27 ⟨rfl,hb⟩;refine ⟨_,rfl,?_⟩;have n0_ := Aside0.mk (blk_below (g := gb201) (o := .cells #[.int .u64 a0_0,.int .i64 a0_1,.int .i64 a0_2] 24 (0,0)) (by (with_reducible repeat (first|refine blk_drewN ?_ _|refine blk_drew ?_|refine blk_alloc ?_ _));exact BK201.out) hb);have n1_ := Aside0.mk (below_step (by repeat (first|(with_reducible first|exact HB.out|apply below_alloc|apply pw_below_drewN|apply below_drew1|refine below_set ?_ GE201.out)|exact HB.out)) hb);clear BK201;clear HB;have BK201 := n0_;have HB := n1_;clear n0_ n1_;(try clear hb);(try clear hb2);(try clear hk);(try clear hi);have hcz28_0 : w27.cell? ⟨gb201,0,none⟩ = some (.int .u64 a0_0) := (blk_cell BK201.out 0).trans rfl;have hcz28_1 : w27.cell? ⟨gb201,1,none⟩ = some (.int .i64 a0_1) := (blk_cell BK201.out 1).trans rfl;have hcz28_2 : w27.cell? ⟨gb201,2,none⟩ = some (.int .i64 a0_2) := (blk_cell BK201.out 2).trans rfl;have hfz28_0 := blk_frozen BK201.out 0;have hfz28_1 := blk_frozen BK201.out 1;have hfz28_2 := blk_frozen BK201.out 2))
    go_ret
    exact ⟨by first|rfl|(simp [errW_none,errW_some] <;> rfl)|(simp [*,errW_none,errW_some] <;> rfl),by repeat (first|(with_reducible first|exact HB.out|apply below_alloc|apply pw_below_drewN|apply below_drew1|refine below_set ?_ GE201.out)|exact HB.out)⟩
  ·rw [if_neg c4] at H
   have c4b0 : decide (4 ≤ a0_1) = false := decide_eq_false c4
   clear c4
   obtain rfl := Option.some.inj H
   go_enter Tryd.func11,Tryd.ntmps11
   go_wp2_with (first|((with_reducible refine gate_dst (N := 1) rfl ?_);refine box_event ?hg (N := 1) ?hd (cs := #[.int .u64 a0_0,.int .i64 a0_1,.int .i64 a0_2]) (t := 24) ?hr ?_;(case hd => rfl);(case hg => rfl);(case hr => first|(go_simp;done)|(go_simp;rfl));intro gb201 hg w29 hbox hb;have n0_ := Aside0.mk (below_step (by repeat (first|(with_reducible first|exact HB.out|apply below_alloc|apply pw_below_drewN|apply below_drew1)|exact HB.out)) hb);have n1_ := Aside0.mk (hbox);have n2_ := Aside0.mk ((by rw [hg];exact (below_size (by repeat (first|(with_reducible first|exact HB.out|apply below_alloc|apply pw_below_drewN|apply below_drew1)|exact HB.out))) : w.heap.size ≤ gb201));have n3_ := Aside0.mk ((by rw [hg];exact (below_size (by repeat (first|(with_reducible first|exact HB.out|apply below_alloc|apply pw_below_drewN|apply below_drew1)|exact HB.out))) : w.heap.size ≤ gb201));clear HB;have HB := n0_;have BK201 := n1_;have GW201 := n2_;have GE201 := n3_;clear n0_ n1_ n2_ n3_;clear hb hbox hg;have hcz30_0 : w29.cell? ⟨gb201,0,none⟩ = some (.int .u64 a0_0) := (blk_cell BK201.out 0).trans rfl;have hcz30_1 : w29.cell? ⟨gb201,1,none⟩ = some (.int .i64 a0_1) := (blk_cell BK201.out 1).trans rfl;have hcz30_2 : w29.cell? ⟨gb201,2,none⟩ = some (.int .i64 a0_2) := (blk_cell BK201.out 2).trans rfl;have hfz30_0 := blk_frozen BK201.out 0;have hfz30_1 := blk_frozen BK201.out 1;have hfz30_2 := blk_frozen BK201.out 2)|((with_reducible refine gate_callee (f := 29) rfl ?_);refine goesL_ (some 5) rfl rfl Tryd.func29 (by kernel_rfl) rfl #[.int .u64 a0_0] rfl (by (try simp only [List.map_toArray,List.map_cons,List.map_nil]);first|done|rfl|(simp only [List.length_drop,List.length_take];rfl)) ?_;(with_reducible refine (privityref01_Supported.calls k a0_0 true _ A2.out).mono ?_);rintro e w31 ⟨rfl,hb⟩;refine ⟨_,rfl,?_⟩;have n0_ := Aside0.mk (blk_below (g := gb201) (o := .cells #[.int .u64 a0_0,.int .i64 a0_1,.int .i64 a0_2] 24 (0,0)) (by (with_reducible repeat (first|refine blk_drewN ?_ _|refine blk_drew ?_|refine blk_alloc ?_ _));exact BK201.out) hb);have n1_ := Aside0.mk (below_step (by repeat (first|(with_reducible first|exact HB.out|apply below_alloc|apply pw_below_drewN|apply below_drew1|refine below_set ?_ GE201.out)|exact HB.out)) hb);clear BK201;clear HB;have BK201 := n0_;have HB := n1_;clear n0_ n1_;(try clear hb);(try clear hb2);(try clear hk);(try clear hi);have hcz32_0 : w31.cell? ⟨gb201,0,none⟩ = some (.int .u64 a0_0) := (blk_cell BK201.out 0).trans rfl;have hcz32_1 : w31.cell? ⟨gb201,1,none⟩ = some (.int .i64 a0_1) := (blk_cell BK201.out 1).trans rfl;have hcz32_2 : w31.cell? ⟨gb201,2,none⟩ = some (.int .i64 a0_2) := (blk_cell BK201.out 2).trans rfl;have hfz32_0 := blk_frozen BK201.out 0;have hfz32_1 := blk_frozen BK201.out 1;have hfz32_2 := blk_frozen BK201.out 2))
   go_ret
   exact ⟨by first|rfl|(simp [errW_none,errW_some] <;> rfl)|(simp [*,errW_none,errW_some] <;> rfl),by repeat (first|(with_reducible first|exact HB.out|apply below_alloc|apply pw_below_drewN|apply below_drew1|refine below_set ?_ GE201.out)|exact HB.out)⟩
 ·replace c3 := Bool.eq_false_iff.mpr c3
  subst c3
  have H1 : (some false) = some r := by rw [if_neg (show ¬ (false = true) by decide)] at H;exact H
  clear H
  have H := H1
  clear H1
  obtain rfl := Option.some.inj H
  go_enter Tryd.func11,Tryd.ntmps11
  go_wp2_with (first|((with_reducible refine gate_dst (N := 1) rfl ?_);refine box_event ?hg (N := 1) ?hd (cs := #[.int .u64 a0_0,.int .i64 a0_1,.int .i64 a0_2]) (t := 24) ?hr ?_;(case hd => rfl);(case hg => rfl);(case hr => first|(go_simp;done)|(go_simp;rfl));intro gb201 hg w33 hbox hb;have n0_ := Aside0.mk (below_step (by repeat (first|(with_reducible first|exact HB.out|apply below_alloc|apply pw_below_drewN|apply below_drew1)|exact HB.out)) hb);have n1_ := Aside0.mk (hbox);have n2_ := Aside0.mk ((by rw [hg];exact (below_size (by repeat (first|(with_reducible first|exact HB.out|apply below_alloc|apply pw_below_drewN|apply below_drew1)|exact HB.out))) : w.heap.size ≤ gb201));have n3_ := Aside0.mk ((by rw [hg];exact (below_size (by repeat (first|(with_reducible first|exact HB.out|apply below_alloc|apply pw_below_drewN|apply below_drew1)|exact HB.out))) : w.heap.size ≤ gb201));clear HB;have HB := n0_;have BK201 := n1_;have GW201 := n2_;have GE201 := n3_;clear n0_ n1_ n2_ n3_;clear hb hbox hg;have hcz34_0 : w33.cell? ⟨gb201,0,none⟩ = some (.int .u64 a0_0) := (blk_cell BK201.out 0).trans rfl;have hcz34_1 : w33.cell? ⟨gb201,1,none⟩ = some (.int .i64 a0_1) := (blk_cell BK201.out 1).trans rfl;have hcz34_2 : w33.cell? ⟨gb201,2,none⟩ = some (.int .i64 a0_2) := (blk_cell BK201.out 2).trans rfl;have hfz34_0 := blk_frozen BK201.out 0;have hfz34_1 := blk_frozen BK201.out 1;have hfz34_2 := blk_frozen BK201.out 2)|((with_reducible refine gate_callee (f := 29) rfl ?_);refine goesL_ (some 5) rfl rfl Tryd.func29 (by kernel_rfl) rfl #[.int .u64 a0_0] rfl (by (try simp only [List.map_toArray,List.map_cons,List.map_nil]);first|done|rfl|(simp only [List.length_drop,List.length_take];rfl)) ?_;(with_reducible refine (privityref01_Supported.calls k a0_0 false _ A2.out).mono ?_);rintro e w35 ⟨rfl,hb⟩;refine ⟨_,rfl,?_⟩;have n0_ := Aside0.mk (blk_below (g := gb201) (o := .cells #[.int .u64 a0_0,.int .i64 a0_1,.int .i64 a0_2] 24 (0,0)) (by (with_reducible repeat (first|refine blk_drewN ?_ _|refine blk_drew ?_|refine blk_alloc ?_ _));exact BK201.out) hb);have n1_ := Aside0.mk (below_step (by repeat (first|(with_reducible first|exact HB.out|apply below_alloc|apply pw_below_drewN|apply below_drew1|refine below_set ?_ GE201.out)|exact HB.out)) hb);clear BK201;clear HB;have BK201 := n0_;have HB := n1_;clear n0_ n1_;(try clear hb);(try clear hb2);(try clear hk);(try clear hi)))
  go_ret
  exact ⟨by first|rfl|(simp [errW_none,errW_some] <;> rfl)|(simp [*,errW_none,errW_some] <;> rfl),by repeat (first|(with_reducible first|exact HB.out|apply below_alloc|apply pw_below_drewN|apply below_drew1|refine below_set ?_ GE201.out)|exact HB.out)⟩
end Go.Proofs.YtakaonojfpkhnaaDoor.Pr
end
section
/- Printed by a program of this seat (the kit's printer, with the functions that were proved by hand given to it). What stands here: the functions that the statements reach, as plain functions, and that the Go code computes them. -/
namespace Go.Proofs.YtakaonojfpkhnaaDoor.Pr
open Go.RowKit Go.Proofs.YtakaonojfpkhnaaDoorW.PrintWords Go.Proofs.YtakaonojfpkhnaaDoorW.PrintLast Go.Proofs.YtakaonojfpkhnaaDoorW.PrintMore
attribute [local go_sem] max2_int min2_int max_two min_two max_three min_three max_four min_four   -- for this text's walks alone
set_option linter.unusedVariables false
set_option linter.unusedSimpArgs false

open Go.Proofs.YtakaonojfpkhnaaDoor.Hw
/-! ### privityref01_Mul: function 62 -/
/-! ### privityref01_Pow: function 60 -/
/-! ### privityref01_Inverse: function 40 -/
/-! ### privityref01_Add: function 61 -/
/-! ### privityref04_Trim: function 63 -/
end Go.Proofs.YtakaonojfpkhnaaDoor.Pr
end
section
/- Printed by a program of this seat (the kit's printer, with the functions that were proved by hand given to it). What stands here: the functions that the statements reach, as plain functions, and that the Go code computes them. -/
namespace Go.Proofs.YtakaonojfpkhnaaDoor.Pr
open Go.RowKit Go.Proofs.YtakaonojfpkhnaaDoorW.PrintWords Go.Proofs.YtakaonojfpkhnaaDoorW.PrintLast Go.Proofs.YtakaonojfpkhnaaDoorW.PrintMore
attribute [local go_sem] max2_int min2_int max_two min_two max_three min_three max_four min_four   -- for this text's walks alone
set_option linter.unusedVariables false
set_option linter.unusedSimpArgs false

open Go.Proofs.YtakaonojfpkhnaaDoor.Hw
/-! ### privityref01_Neg: function 42 -/
end Go.Proofs.YtakaonojfpkhnaaDoor.Pr
end
section
/-
  The reference of layer 1: what its printed functions answer.
-/
namespace Go.Proofs.YtakaonojfpkhnaaDoor.E
open Go.RowKit Go.Proofs.YtakaonojfpkhnaaDoor.Pr Go.Proofs.YtakaonojfpkhnaaDoor.Hw Go.Proofs.YtakaonojfpkhnaaDoorW.PrintWords Go.Proofs.YtakaonojfpkhnaaDoorW.PrintLast Go.Proofs.YtakaonojfpkhnaaDoorW.PrintMore
set_option linter.unusedVariables false
set_option linter.unusedSimpArgs false

theorem wcap {n : Int} (h : 0 ≤ n) (h2 : n < 9223372036854775808) : wrap64 n = n := by unfold wrap64; omega
theorem wnat {n : Nat} (h : n < 1099511627776) : wrap64 ((n : Int) + 1) = ((n + 1 : Nat) : Int) := by rw [wcap (by omega) (by omega)]; omega
/-- From the end back to the start. -/
theorem up {Q : Nat → Prop} {n : Nat} (hn : Q n) (hs : ∀ i, i < n → Q (i + 1) → Q i) : Q 0 := by
  have : ∀ d, d ≤ n → Q (n - d) := by
    intro d
    induction d with
    | zero => intro _; exact hn
    | succ d ih =>
      intro h
      have h1 := ih (by omega)
      refine hs (n - (d + 1)) (by omega) ?_
      rwa [show n - (d + 1) + 1 = n - d from by omega]
  have := this n (Nat.le_refl _)
  rwa [Nat.sub_self] at this
theorem exponent_eq (p : Int) : privityref01_Exponent.f 10 p = if p = 31 then some 5 else if p = 127 then some 7 else if p = 8191 then some 13 else if p = 131071 then some 17 else if p = 524287 then some 19 else if p = 2147483647 then some 31 else if p = 2305843009213693951 then some 61 else some 0 := by kernel_rfl
theorem supported_ev (p : Int) : Ev (fun k => privityref01_Supported.f k p) (supB p) := by
  refine Ev.of (fun k => privityref01_Supported.mono _ _) (k := 10) ?_
  show (privityref01_Exponent.f 10 p).bind _ = _
  rw [exponent_eq]
  unfold supB
  by_cases h1 : p = 31
  · subst h1; rfl
  by_cases h2 : p = 127
  · subst h2; rfl
  by_cases h3 : p = 8191
  · subst h3; rfl
  by_cases h4 : p = 131071
  · subst h4; rfl
  by_cases h5 : p = 524287
  · subst h5; rfl
  by_cases h6 : p = 2147483647
  · subst h6; rfl
  by_cases h7 : p = 2305843009213693951
  · subst h7; rfl
  rw [if_neg h1, if_neg h2, if_neg h3, if_neg h4, if_neg h5, if_neg h6, if_neg h7]
  simp [h1, h2, h3, h4, h5, h6, h7]
end Go.Proofs.YtakaonojfpkhnaaDoor.E
end
section
/-
  Guards, sums, and the hand-proved functions' answers, for the statements.
-/
namespace Go.Proofs.YtakaonojfpkhnaaDoor.E
open Go.RowKit Go.Proofs.YtakaonojfpkhnaaDoor.Pr Go.Proofs.YtakaonojfpkhnaaDoor.Hw Go.Proofs.YtakaonojfpkhnaaDoor.Pl Go.Proofs.YtakaonojfpkhnaaDoorW.PrintWords Go.Proofs.YtakaonojfpkhnaaDoorW.PrintLast Go.Proofs.YtakaonojfpkhnaaDoorW.PrintMore
set_option linter.unusedVariables false
set_option linter.unusedSimpArgs false

/-- A check, and both ways on. -/
theorem ev_if {α : Type} {A : Nat → Option Bool} {b : Bool} (hA : Ev A b) {X Y : Nat → Option α} {r : α} (hx : b = true → Ev X r) (hy : b = false → Ev Y r) : Ev (fun k => (A k).bind fun t => if t = true then X k else Y k) r := by
  refine Ev.bind (f := fun k t => if t = true then X k else Y k) hA ?_
  cases b with
  | true => exact (hx rfl).congr fun k => if_pos rfl
  | false => exact (hy rfl).congr fun k => if_neg (by simp)
/-- A check whose negation is handed on. -/
theorem ev_now_bind {α β : Type} {x : Option α} {a : α} (hx : x = some a) {f : Nat → α → Option β} {r : β} (h : Ev (fun k => f k a) r) : Ev (fun k => x.bind (f k)) r := by subst hx; exact h
theorem ipol_eq {p : Int} (hp : Supp p) {pts : List S57} (hx : PtsOk p pts) (hl : pts.length ≤ 12) : interpolate_Polynomial.f p pts = some (if (xsOf pts).Nodup then polL p pts else [], if (xsOf pts).Nodup then 0 else 1) := by
  unfold interpolate_Polynomial.f
  rw [if_pos (supB_iff.2 hp), if_pos (ptsB_iff.2 hx), if_pos hl]
end Go.Proofs.YtakaonojfpkhnaaDoor.E
end
section
/-
  Coalitions: their extension, the honest parties, the vanishing polynomial; plainly.
-/
namespace Go.Proofs.YtakaonojfpkhnaaDoor.E
open Go.RowKit Go.Proofs.YtakaonojfpkhnaaDoor.Pr Go.Proofs.YtakaonojfpkhnaaDoor.Hw Go.Proofs.YtakaonojfpkhnaaDoor.Pl Go.Proofs.YtakaonojfpkhnaaDoorW.PrintWords Go.Proofs.YtakaonojfpkhnaaDoorW.PrintLast Go.Proofs.YtakaonojfpkhnaaDoorW.PrintMore
set_option linter.unusedVariables false
set_option linter.unusedSimpArgs false

theorem vsub_len : ∀ (l m : List Int), l.Nodup → (∀ x ∈ l, x ∈ m) → l.length ≤ m.length
  | [], m, _, _ => Nat.zero_le _
  | a :: l, m, hn, h => by
    have hn' := List.nodup_cons.1 hn
    have ha := h a (by simp)
    have h1 := vsub_len l (m.erase a) hn'.2 (fun x hx => (List.mem_erase_of_ne (fun e => hn'.1 (by rw [← e]; exact hx))).2 (h x (List.mem_cons_of_mem _ hx)))
    rw [List.length_erase_of_mem ha] at h1
    have := List.length_pos_of_mem ha
    simp only [List.length_cons]; omega
/-- The numbers k, k + 1, .., n of them. -/
def runL : Nat → Int → List Int
  | 0, _ => []
  | n + 1, k => k :: runL n (k + 1)
theorem runL_mem : ∀ (n : Nat) (k x : Int), x ∈ runL n k ↔ k ≤ x ∧ x < k + n
  | 0, k, x => by simp [runL]
  | n + 1, k, x => by rw [runL, List.mem_cons, runL_mem n (k + 1) x]; omega
theorem runL_nodup : ∀ (n : Nat) (k : Int), (runL n k).Nodup
  | 0, k => List.nodup_nil
  | n + 1, k => List.nodup_cons.2 ⟨fun h => by rw [runL_mem] at h; omega, runL_nodup n (k + 1)⟩
theorem runL_length : ∀ (n : Nat) (k : Int), (runL n k).length = n
  | 0, k => rfl
  | n + 1, k => by rw [runL, List.length_cons, runL_length n]
/-- The coalition, extended by the least other numbers. -/
def extL (bad : List Int) : Nat → Int → Int → List Int
  | 0, _, _ => []
  | n + 1, k, lack => if k ∈ bad then k :: extL bad n (k + 1) lack else if lack > 0 then k :: extL bad n (k + 1) (lack - 1) else extL bad n (k + 1) lack
def honL (bad : List Int) (n : Nat) (k : Int) : List Int := (runL n k).filter fun x => decide (x ∉ bad)
theorem extL_range {bad : List Int} : ∀ (n : Nat) (k lack x : Int), x ∈ extL bad n k lack → k ≤ x ∧ x < k + n
  | 0, k, lack, x, h => by cases h
  | n + 1, k, lack, x, h => by
    rw [extL] at h
    split at h
    · rcases List.mem_cons.1 h with h | h
      · omega
      · have := extL_range n _ _ _ h; omega
    · split at h
      · rcases List.mem_cons.1 h with h | h
        · omega
        · have := extL_range n _ _ _ h; omega
      · have := extL_range n _ _ _ h; omega
/-- The list is the part of the run that it holds. -/
theorem extL_filter {bad : List Int} : ∀ (n : Nat) (k lack : Int) (P : Int → Bool), (∀ x, k ≤ x → x < k + n → (P x = true ↔ x ∈ extL bad n k lack)) → extL bad n k lack = (runL n k).filter P
  | 0, k, lack, P, h => rfl
  | n + 1, k, lack, P, h => by
    have hk := h k (by omega) (by omega)
    have hno : ∀ lack, k ∉ extL bad n (k + 1) lack := fun lack hx => by have := extL_range n _ _ _ hx; omega
    rw [extL] at h hk ⊢
    rw [runL]
    split
    · rename_i hb
      rw [if_pos hb] at hk
      rw [List.filter_cons_of_pos (hk.2 (by simp))]
      refine congrArg _ (extL_filter n (k + 1) lack P fun x h1 h2 => ?_)
      have := h x (by omega) (by omega)
      rw [if_pos hb, List.mem_cons] at this
      rw [this]
      exact ⟨fun h => h.resolve_left (by omega), Or.inr⟩
    · rename_i hb
      split
      · rename_i hl
        rw [if_neg hb, if_pos hl] at hk
        rw [List.filter_cons_of_pos (hk.2 (by simp))]
        refine congrArg _ (extL_filter n (k + 1) (lack - 1) P fun x h1 h2 => ?_)
        have := h x (by omega) (by omega)
        rw [if_neg hb, if_pos hl, List.mem_cons] at this
        rw [this]
        exact ⟨fun h => h.resolve_left (by omega), Or.inr⟩
      · rename_i hl
        rw [if_neg hb, if_neg hl] at hk
        rw [List.filter_cons_of_neg (fun h => hno _ (hk.1 h))]
        refine extL_filter n (k + 1) lack P fun x h1 h2 => ?_
        have := h x (by omega) (by omega)
        rw [if_neg hb, if_neg hl] at this
        exact this
theorem extL_nodup (bad : List Int) (n : Nat) (k lack : Int) : (extL bad n k lack).Nodup := by
  rw [extL_filter n k lack (fun x => decide (x ∈ extL bad n k lack)) (fun x _ _ => by simp)]
  exact (runL_nodup n k).filter _
theorem extL_same {a b : List Int} {n : Nat} {k la lb : Int} (h : ∀ x, k ≤ x → x < k + n → (x ∈ extL a n k la ↔ x ∈ extL b n k lb)) : extL a n k la = extL b n k lb := by
  rw [extL_filter n k la (fun x => decide (x ∈ extL b n k lb)) (fun x h1 h2 => by rw [h x h1 h2]; simp)]
  exact (extL_filter n k lb _ (fun x _ _ => by simp)).symm
theorem extL_length {bad : List Int} : ∀ (n : Nat) (k lack : Int), 0 ≤ lack → lack ≤ (honL bad n k).length → ((extL bad n k lack).length : Int) = (((runL n k).filter fun x => decide (x ∈ bad)).length : Int) + lack
  | 0, k, lack, h0, h1 => by simp [extL, runL, honL] at *; omega
  | n + 1, k, lack, h0, h1 => by
    rw [extL]
    unfold honL at h1
    rw [runL] at h1 ⊢
    by_cases hb : k ∈ bad
    · rw [if_pos hb, List.filter_cons_of_pos (by simpa using hb), List.length_cons, List.length_cons]
      rw [List.filter_cons_of_neg (by simpa using hb)] at h1
      have := extL_length n (k + 1) lack h0 h1
      omega
    · rw [if_neg hb, List.filter_cons_of_neg (by simpa using hb)]
      rw [List.filter_cons_of_pos (by simpa using hb), List.length_cons] at h1
      by_cases hl : lack > 0
      · rw [if_pos hl, List.length_cons]
        have := extL_length (bad := bad) n (k + 1) (lack - 1) (by omega) (by unfold honL; omega)
        omega
      · rw [if_neg hl]
        exact extL_length n (k + 1) lack h0 (by omega)
theorem filter_split (bad : List Int) : ∀ (l : List Int), (l.filter fun x => decide (x ∈ bad)).length + (l.filter fun x => decide (x ∉ bad)).length = l.length
  | [] => rfl
  | a :: l => by
    have ih := filter_split bad l
    by_cases h : a ∈ bad
    · rw [List.filter_cons_of_pos (by simpa using h), List.filter_cons_of_neg (by simpa using h)]; simp only [List.length_cons]; omega
    · rw [List.filter_cons_of_neg (by simpa using h), List.filter_cons_of_pos (by simpa using h)]; simp only [List.length_cons]; omega
theorem runL_count {bad : List Int} (hn : bad.Nodup) {n : Nat} {k : Int} (hr : ∀ x ∈ bad, k ≤ x ∧ x < k + n) : ((runL n k).filter fun x => decide (x ∈ bad)).length = bad.length := by
  refine Nat.le_antisymm (vsub_len _ _ ((runL_nodup n k).filter _) fun x hx => ?_) (vsub_len _ _ hn fun x hx => ?_)
  · exact of_decide_eq_true (List.mem_filter.1 hx).2
  · exact List.mem_filter.2 ⟨(runL_mem n k x).2 (hr x hx), decide_eq_true hx⟩
/-- A valid coalition. -/
structure CoaB (N T : Int) (bad : List Int) : Prop where
  n0 : 4 ≤ N
  n1 : N ≤ 13
  t0 : 1 ≤ T
  t1 : 3 * T < N
  len : (bad.length : Int) ≤ T
  nd : bad.Nodup
  rng : ∀ x ∈ bad, 1 ≤ x ∧ x ≤ N
def extB (N T : Int) (bad : List Int) : List Int := extL bad N.toNat 1 (T - bad.length)
section
variable {N T : Int} {bad : List Int} (h : CoaB N T bad)
include h
theorem CoaB.rng' : ∀ x ∈ bad, (1 : Int) ≤ x ∧ x < 1 + (N.toNat : Nat) := fun x hx => by have := h.rng x hx; omega
theorem CoaB.hon_len : ((honL bad N.toNat 1).length : Int) = N - bad.length := by
  have h1 := filter_split bad (runL N.toNat 1)
  rw [runL_count h.nd h.rng', runL_length] at h1
  have := h.n0
  unfold honL; omega
theorem extB_length : ((extB N T bad).length : Int) = T := by
  have h1 := h.hon_len
  have h2 := h.len
  have h3 := h.t1
  have h4 := h.t0
  unfold extB
  rw [extL_length N.toNat 1 (T - bad.length) (by omega) (by omega), runL_count h.nd h.rng']; omega
theorem extB_range : ∀ x ∈ extB N T bad, 1 ≤ x ∧ x ≤ N := fun x hx => by
  have := extL_range _ _ _ _ hx
  have := h.n0
  omega
theorem extB_nodup : (extB N T bad).Nodup := by
  have _h := h.n0
  exact extL_nodup _ _ _ _
end

/-- The points of the vanishing polynomial. -/
def vanP (l : List Int) : List S57 := ⟨0, 1⟩ :: l.map fun k => ⟨k, 0⟩
theorem vanP_xs (l : List Int) : xsOf (vanP l) = 0 :: l := by
  unfold xsOf vanP
  rw [List.map_cons, List.map_map]
  exact congrArg _ (List.map_id _)
theorem vanP_length (l : List Int) : (vanP l).length = l.length + 1 := by simp [vanP]
/-- Points that are distinct, nonzero residues. -/
structure VanOk (p : Int) (l : List Int) : Prop where
  res : ∀ x ∈ l, Res p x
  nz : ∀ x ∈ l, x ≠ 0
  nd : l.Nodup
section
variable {p : Int} (hp : Supp p) {l : List Int} (h : VanOk p l)
include hp h
theorem vanP_ok : PtsOk p (vanP l) := by
  have hb := hp.bd
  intro y hy
  rcases List.mem_cons.1 hy with rfl | hy
  · exact ⟨⟨Int.le_refl 0, by show (0 : Int) < p; omega⟩, ⟨by show (0 : Int) ≤ 1; omega, by show (1 : Int) < p; omega⟩⟩
  · obtain ⟨x, hx, rfl⟩ := List.mem_map.1 hy
    exact ⟨h.res x hx, ⟨Int.le_refl 0, by show (0 : Int) < p; omega⟩⟩
theorem vanP_nd : (xsOf (vanP l)).Nodup := by
  have _h := hp.bd
  rw [vanP_xs]
  exact List.nodup_cons.2 ⟨fun hx => h.nz 0 hx rfl, h.nd⟩
theorem van_at (y : S57) (hy : y ∈ vanP l) : evI p y.f0 (polL p (vanP l)) = y.f1 := by
  obtain ⟨j, hj, rfl⟩ := List.getElem_of_mem hy
  have h1 := polL_at hp (vanP_ok hp h) (vanP_nd hp h) j hj
  rw [rdT_nat _ _ hj] at h1
  exact h1
theorem van_zero : evI p 0 (polL p (vanP l)) = 1 := van_at hp h ⟨0, 1⟩ (by simp [vanP])
theorem van_root (x : Int) (hx : x ∈ l) : evI p x (polL p (vanP l)) = 0 := van_at hp h ⟨x, 0⟩ (List.mem_cons_of_mem _ (List.mem_map.2 ⟨x, hx, rfl⟩))
theorem van_res : ∀ x ∈ polL p (vanP l), Res p x := polL_res hp (vanP_ok hp h)
theorem van_uniq {g : List Int} (hg : ∀ x ∈ g, Res p x) (lg : g.length ≤ l.length + 1) (h0 : evI p 0 g = 1) (h1 : ∀ x ∈ l, evI p x g = 0) : polL p (vanP l) = trimL g := by
  refine polL_char hp (vanP_ok hp h) (vanP_nd hp h) hg (by rw [vanP_length]; exact lg) (fun j hj => ?_)
  rw [rdT_nat _ _ hj]
  have hm : (vanP l)[j] ∈ vanP l := List.getElem_mem _
  generalize (vanP l)[j] = y at hm
  rcases List.mem_cons.1 hm with rfl | hm
  · exact h0
  · obtain ⟨x, hx, rfl⟩ := List.mem_map.1 hm
    exact h1 x hx
/-- A polynomial of at most as many coefficients as roots is zero. -/
theorem van_len : (polL p (vanP l)).length = l.length + 1 := by
  have h1 := polL_len hp (pts := vanP l)
  rw [vanP_length] at h1
  refine Nat.le_antisymm h1 (Nat.lt_of_not_le fun h2 => ?_)
  have h3 := uniq hp h.res h.nd (van_res hp h) (g := []) (fun x hx => by cases hx) h2 (Nat.zero_le _) (fun x hx => by rw [van_root hp h x hx]; rfl)
  rw [polL_trim] at h3
  have h4 := van_zero hp h
  rw [h3] at h4
  have : trimL ([] : List Int) = [] := rfl
  rw [this] at h4
  simp [evI] at h4
theorem van_only {x : Int} (hx : Res p x) (h0 : x ≠ 0) (hz : evI p x (polL p (vanP l)) = 0) : x ∈ l := by
  refine Classical.byContradiction fun hn => ?_
  have hv : VanOk p (x :: l) := ⟨fun y hy => by
    rcases List.mem_cons.1 hy with rfl | hy
    · exact hx
    · exact h.res y hy, fun y hy => by
    rcases List.mem_cons.1 hy with rfl | hy
    · exact h0
    · exact h.nz y hy, List.nodup_cons.2 ⟨hn, h.nd⟩⟩
  have h1 := van_len hp hv
  have h2 := van_uniq hp hv (van_res hp h) (by rw [van_len hp h, List.length_cons]; omega) (van_zero hp h) (fun y hy => by
    rcases List.mem_cons.1 hy with rfl | hy
    · exact hz
    · exact van_root hp h y hy)
  rw [polL_trim] at h2
  rw [h2, van_len hp h, List.length_cons] at h1
  omega
end
end Go.Proofs.YtakaonojfpkhnaaDoor.E
end
section
/-
  members and ExtendCoalition of package params, proved by hand.
-/
namespace Go.Proofs.YtakaonojfpkhnaaDoor.Hw
open Go.RowKit Go.Proofs.YtakaonojfpkhnaaDoor.Pr Go.Proofs.YtakaonojfpkhnaaDoorW.PrintWords Go.Proofs.YtakaonojfpkhnaaDoorW.PrintLast Go.Proofs.YtakaonojfpkhnaaDoorW.PrintMore Go.Proofs.YtakaonojfpkhnaaDoor.E
set_option linter.unusedVariables false
set_option linter.unusedSimpArgs false

section
variable {P : Program} {ops : Array Oper} {Q : Exit → Act → World → Prop}
/-- A whole array into its block. -/
theorem st_row {rest : List Oper} {op : Oper} {a : Act} {w : World} (hgd : op.guard = none) (ty : TypeId) (x y : Operand) (ho : op.op = .store ty x y) (g : Nat) (cells : Array Value) (hx : a.eval x = .pointer (some ⟨g, 0, none⟩)) (hy : a.eval y = .agg cells)
    (t : TypeId) (old : Array Value) (hg : w.heap[g]? = some (.cells old t (0, 0))) (hi : (P.info? ty).map (·.size) = some cells.size) (hold : old.size = cells.size) (h1 : cells.all (·.oneCell') = true)
    (h : ∀ w', w'.heap[g]? = some (.cells cells t (0, 0)) → (∀ B w0, B ≤ g → Below B w0 w → Below B w0 w') → (∀ b o, b ≠ g → w.heap[b]? = some o → w'.heap[b]? = some o) → wpList P ops Q rest (a.put op.dst undef) w') : wpList P ops Q (op :: rest) a w :=
  wpList_plain hgd fun _ hK => wp_store_row ty x y ho g cells hx hy t old hg hi hold h1 (hK _ _ (h _ (setRow_heap _ g _ _ t _ hg) (fun B w0 hB hb => Go.below_setRow hb hB _) (fun b o hb h => (setRow_other w g b cells (by omega)).trans h)))
/-- A whole array out of its block. -/
theorem ld_row {rest : List Oper} {op : Oper} {a : Act} {w : World} (hgd : op.guard = none) (ty : TypeId) (x : Operand) (ho : op.op = .load ty x) (g : Nat) (hx : a.eval x = .pointer (some ⟨g, 0, none⟩)) (t : TypeId) (cs : Array Value) (fr : Nat × Nat) (d : TypeDesc)
    (hg : w.heap[g]? = some (.cells cs t fr)) (hu : P.underlying ty = some d) (hd : (match d with | .struct _ | .array _ _ => true | _ => false) = true) (hi : (P.info? ty).map (·.size) = some cs.size)
    (h : wpList P ops Q rest (a.put op.dst (.agg cs)) w) : wpList P ops Q (op :: rest) a w :=
  wpList_plain hgd fun _ hK => wp_load_row ty x ho g hx t cs fr d hg hu hd hi (hK _ _ h)
theorem results_c {fn : Func} {p : Tmp} {ty : TypeId} (h : fn.results = #[.cell p ty]) (tmps : Array Value) (w : World) (g : Nat) (t : TypeId) (cs : Array Value) (fr : Nat × Nat) (d : TypeDesc)
    (hp : tmps.getD p undef = .pointer (some ⟨g, 0, none⟩)) (hg : w.heap[g]? = some (.cells cs t fr))
    (hu : P.underlying ty = some d) (hd : (match d with | .struct _ | .array _ _ => true | _ => false) = true) (hi : (P.info? ty).map (·.size) = some cs.size) :
    (results fn tmps).run P w = .ok (.agg cs) w := by
  have hp' : tmps[p]?.getD undef = .pointer (some ⟨g, 0, none⟩) := by simpa using hp
  simp [results, h, hp', asAddr, run_loadVar_row w g t ty cs fr d hg hu hd hi]
end

/-- Which of the numbers 0 to 13 are in the list. -/
def markL (l : List Int) : List Bool := (List.range 14).map fun (i : Nat) => decide ((i : Int) ∈ l)
def boolC (m : List Bool) : List Value := m.map Value.bool
theorem markL_length (l : List Int) : (markL l).length = 14 := by simp [markL]
theorem boolC_length (m : List Bool) : (boolC m).length = m.length := by simp [boolC]
theorem boolC_one (m : List Bool) : (boolC m).toArray.all (·.oneCell') = true := by
  simp only [boolC, List.all_toArray, List.all_map, List.all_eq_true]
  intro x _; rfl
theorem markL_get {l : List Int} {i : Nat} (h : i < 14) : (markL l)[i]? = some (decide ((i : Int) ∈ l)) := by unfold markL; rw [List.getElem?_map, List.getElem?_range h]; rfl
theorem boolC_get {m : List Bool} {i : Nat} {b : Bool} (h : m[i]? = some b) : (boolC m)[i]? = some (.bool b) := by unfold boolC; rw [List.getElem?_map, h]; rfl
theorem boolC_set (m : List Bool) (i : Nat) (b : Bool) : (boolC m).set i (.bool b) = boolC (m.set i b) := by unfold boolC; rw [List.map_set]
theorem markL_more (l : List Int) {x : Int} (h0 : 0 ≤ x) (h1 : x < 14) : (markL l).set x.toNat true = markL (l ++ [x]) := by
  refine List.ext_getElem? fun i => ?_
  by_cases hi : i < 14
  · rw [markL_get hi]
    by_cases e : i = x.toNat
    · subst e
      rw [List.getElem?_set_self (by rw [markL_length]; exact hi), show ((x.toNat : Nat) : Int) = x from by omega]
      simp
    · rw [List.getElem?_set_ne (Ne.symm e), markL_get hi]
      have : (i : Int) ≠ x := by omega
      simp [this]
  · rw [List.getElem?_eq_none (by rw [List.length_set, markL_length]; omega), List.getElem?_eq_none (by rw [markL_length]; omega)]
theorem infoA : (Tryd.prog.info? 54).map (·.size) = some 14 := by kernel_rfl
set_option maxHeartbeats 2000000 in
set_option maxRecDepth 100000 in
theorem members_walk (A : Option Addr) (c : Nat) (l : List Int) (w : World) (hr : Kd.C (Kd.int .i64) w A l.length l) (hc : l.length ≤ c) (hl : l.length ≤ 1000) (hx : ∀ i : Nat, i < l.length → 0 ≤ rd l (i : Int) ∧ rd l (i : Int) < 14) :
    Calls Tryd.prog 38 #[.slice A l.length c] w fun e w' => e = .returned (.agg (boolC (markL l)).toArray) ∧ Below w.heap.size w w' := by
  have HR := Aside0.mk hr
  have HX := Aside0.mk hx
  have hz := (zero_of_info (P := Tryd.prog) (t := 54) (v := .agg (boolC (markL [])).toArray) (n := 14) (by kernel_rfl)).1
  have hu := Tryd.underlying54
  clear hr hx
  go_enter Tryd.func38, Tryd.ntmps38
  go_wp2
  obtain ⟨g, hg⟩ : ∃ y, y = w.heap.size := ⟨_, rfl⟩
  rw [← hg]
  have HG := Aside0.mk hg
  clear hg hz
  go_loopg [7] l.length (fun kq v7 w' => ∃ i : Nat, v7 = .int .i64 (i : Int) ∧ Aside0 (kq + i = l.length) ∧ Aside0 (w'.heap[g]? = some (.cells (boolC (markL (l.take i))).toArray 54 (0, 0))) ∧ Aside0 (Below w.heap.size w w'))
  case atStart => exact ⟨0, rfl, ⟨rfl⟩, ⟨by rw [HG.out, List.take_zero]; exact blk_new w _⟩, ⟨below_alloc (Below.refl _ _) _⟩⟩
  case round =>
    obtain ⟨i, rfl, HK, HM, HB⟩ := hrel
    by_cases hlt : i < l.length
    · have q1 : decide ((i : Int) < (l.length : Int)) = true := decide_eq_true (by omega)
      have q2 : decide (i < l.length) = true := decide_eq_true hlt
      obtain ⟨ad, e, hy⟩ := Kd.at_int (Kd.C_below HR.out HB.out) (i : Int) (by omega) (by omega)
      cases e
      rw [Int.toNat_natCast] at hy
      obtain ⟨x0, x1⟩ := HX.out i hlt
      have hsn : l.take (i + 1) = l.take i ++ [rd l (i : Int)] := by
        rw [List.take_add_one, List.getElem?_eq_getElem hlt]
        have : rd l (i : Int) = l[i] := by unfold rd; rw [Int.toNat_natCast, List.getD_eq_getElem?_getD, List.getElem?_eq_getElem hlt]; rfl
        rw [this]; rfl
      obtain ⟨x, hxe⟩ : ∃ y, y = rd l (i : Int) := ⟨_, rfl⟩
      rw [← hxe] at hy x0 x1 hsn
      have p1 : ((0 : Int) ≤ (i : Int)) = True := eq_true (by omega)
      have p2 : ((i : Int) < (l.length : Int)) = True := eq_true (by omega)
      have p3 : ((0 : Int) ≤ x) = True := eq_true x0
      have p4 : (x < 14) = True := eq_true x1
      have c1 := blk_cell HM.out x.toNat
      rw [List.getElem?_toArray, boolC_get (markL_get (by omega))] at c1
      have f1 := blk_frozen HM.out x.toNat
      have HSN := Aside0.mk hsn
      have HX0 := Aside0.mk (And.intro x0 x1)
      clear hsn hxe x0 x1
      go_wp2
      go_roundg (l.length - (i + 1))
      case measure => have := HK.out; omega
      case rel =>
        refine ⟨i + 1, by go_num, ⟨by omega⟩, ⟨blk_put HM.out x.toNat _ ?_⟩, ⟨Below.setCell HB.out (p := ⟨g, x.toNat, none⟩) (by rw [HG.out]; exact Nat.le_refl _) _⟩⟩
        rw [List.setIfInBounds_toArray, boolC_set, markL_more _ HX0.out.1 HX0.out.2, ← HSN.out]
    · have q1 : decide ((i : Int) < (l.length : Int)) = false := decide_eq_false (by omega)
      have q2 : decide (i < l.length) = false := decide_eq_false hlt
      have hil : l.take i = l := List.take_of_length_le (by omega)
      have hm := HM.out
      rw [hil] at hm
      have hsz : (Tryd.prog.info? 54).map (·.size) = some (boolC (markL l)).toArray.size := by rw [infoA, List.size_toArray, boolC_length, markL_length]
      have HM2 := Aside0.mk hm
      have HSZ := Aside0.mk hsz
      clear hm hil hsz
      go_wp2_with (first
        | ((with_reducible refine gate_dst (N := 14) rfl ?_); refine ld_row rfl 54 (.tmp 2) rfl g (by rfl) 54 (boolC (markL l)).toArray (0, 0) _ HM2.out Tryd.underlying54 rfl HSZ.out ?_)
        | ((with_reducible refine gate_store (p := 2) rfl ?_); refine st_row rfl 54 (.tmp 2) (.tmp 14) rfl g (boolC (markL l)).toArray (by rfl) (by rfl) 54 (boolC (markL l)).toArray HM2.out HSZ.out rfl (boolC_one _) ?_; intro w6 hb6 hbw hbo; have HB6 := Aside0.mk (hbw _ _ (by rw [HG.out]; exact Nat.le_refl _) HB.out); have HM6 := Aside0.mk hb6; clear hb6 hbw hbo))
      (try simp only [Exit.inBlock, Exit.then])
      refine bodyPost_ret (results_c rfl _ _ g 54 (boolC (markL l)).toArray (0, 0) _ (by rfl) HM6.out Tryd.underlying54 rfl HSZ.out) rfl ?_
      exact ⟨rfl, HB6.out⟩
theorem ext_yes {bad : List Int} {n : Nat} {k lack : Int} (h : k ∈ bad) : extL bad (n + 1) k lack = k :: extL bad n (k + 1) lack := by rw [extL, if_pos h]
theorem ext_more {bad : List Int} {n : Nat} {k lack : Int} (h : k ∉ bad) (hl : lack > 0) : extL bad (n + 1) k lack = k :: extL bad n (k + 1) (lack - 1) := by rw [extL, if_neg h, if_pos hl]
theorem ext_skip {bad : List Int} {n : Nat} {k lack : Int} (h : k ∉ bad) (hl : ¬ lack > 0) : extL bad (n + 1) k lack = extL bad n (k + 1) lack := by rw [extL, if_neg h, if_neg hl]
set_option maxHeartbeats 4000000 in
set_option maxRecDepth 100000 in
theorem ext_walk (p : Int) (N : Nat) (T : Int) (A : Option Addr) (c : Nat) (l : List Int) (w : World) (hr : Kd.C (Kd.int .i64) w A l.length l) (hc : l.length ≤ c) (hl : l.length ≤ 1000) (hx : ∀ i : Nat, i < l.length → 0 ≤ rd l (i : Int) ∧ rd l (i : Int) < 14) (hN : N ≤ 13) :
    Calls Tryd.prog 16 #[.agg #[.int .u64 p, .int .i64 (N : Int), .int .i64 T], .slice A l.length c] w fun e w' => ∃ v0_ : Value, e = .returned (v0_) ∧ Kd.R (Kd.int .i64) 3 w' w.heap.size (fun _ => True) v0_ (extL l N 1 (T - l.length)) ∧ Below w.heap.size w w' := by
  have HR := Aside0.mk hr
  have HX := Aside0.mk hx
  have HC := Aside0.mk hc
  have HL := Aside0.mk hl
  have hz := (zero_of_info (P := Tryd.prog) (t := 54) (v := .agg (boolC (markL [])).toArray) (n := 14) (by kernel_rfl)).1
  have hu := Tryd.underlying54
  have hu2 := Tryd.underlying24
  have hsz : (Tryd.prog.info? 54).map (·.size) = some (boolC (markL l)).toArray.size := by rw [infoA, List.size_toArray, boolC_length, markL_length]
  have HSZ := Aside0.mk hsz
  clear hr hx hc hl hsz
  go_enter Tryd.func16, Tryd.ntmps16
  go_wp2_with (first
    | ((with_reducible refine gate_dst (N := 2) rfl ?_); refine box_event ?hg (N := 2) ?hd (cs := #[.int .u64 p, .int .i64 (N : Int), .int .i64 T]) (t := 24) ?hr ?_; (case hd => rfl); (case hg => rfl); (case hr => first | (go_simp; done) | (go_simp; rfl)); intro gb hgb w4 hbox hb4; have GB := Aside0.mk hgb; have BK4 := Aside0.mk hbox; have HB4 := Aside0.mk hb4; clear hbox hb4 hgb)
    | (go_at_call 38; (refine (members_walk A c l _ (Kd.C_below HR.out HB4.out) HC.out HL.out HX.out).mono ?_); rintro e w5 ⟨rfl, hb5⟩; have BK5 := Aside0.mk (blk_below BK4.out hb5); have HB5 := Aside0.mk (below_step HB4.out hb5); clear hb5)
    | ((with_reducible refine gate_store (p := 5) rfl ?_); refine st_row rfl 54 (.tmp 5) (.tmp 10) rfl w5.heap.size (boolC (markL l)).toArray (by rfl) (by rfl) 54 (boolC (markL [])).toArray (blk_new w5 _) HSZ.out (by rw [List.size_toArray, List.size_toArray, boolC_length, boolC_length, markL_length, markL_length]) (boolC_one _) ?_; intro w6 hb6 hbw hbo; have BK6 := Aside0.mk (hbo gb _ (by have := blk_lt BK5.out; omega) (blk_alloc BK5.out _)); have HB6 := Aside0.mk (hbw _ _ (below_size HB5.out) (below_alloc HB5.out _)); have HM6 := Aside0.mk hb6; clear hb6 hbw hbo))
  obtain ⟨g, hg⟩ : ∃ y, y = w5.heap.size := ⟨_, rfl⟩
  rw [← hg] at HM6 ⊢
  have HG := Aside0.mk (show w.heap.size ≤ g by rw [hg]; exact below_size HB5.out)
  have HGB := Aside0.mk (show w.heap.size ≤ gb by rw [GB.out]; exact Nat.le_refl _)
  clear hg hz BK4 BK5 HB4 HB5 GB
  go_loopg [6, 7, 8] N (fun kq v6 v7 v8 w' => ∃ (k : Nat) (n : Int) (m : List Bool) (dn : List Int), v6 = .int .i64 n ∧ v8 = .int .i64 (k : Int) ∧ Aside0 (kq + k = N + 1 ∧ 1 ≤ k) ∧ Aside0 (0 ≤ n ∧ n + 1 ≤ l.length + k) ∧ Aside0 (m.length = 14 ∧ ∀ i : Nat, k ≤ i → i < 14 → m[i]? = some (decide ((i : Int) ∈ l))) ∧ Aside0 (dn ++ extL l (N + 1 - k) (k : Int) (T - n) = extL l N 1 (T - l.length)) ∧ Aside0 (dn.length + 1 ≤ k) ∧ Aside0 (Kd.R (Kd.int .i64) 3 w' w.heap.size (fun _ => True) v7 dn) ∧ Aside0 (w'.heap[g]? = some (.cells (boolC m).toArray 54 (0, 0))) ∧ Aside0 (w'.heap[gb]? = some (.cells #[.int .u64 p, .int .i64 (N : Int), .int .i64 T] 24 (0, 0))) ∧ Aside0 (Below w.heap.size w w'))
  case atStart => exact ⟨1, (l.length : Int), markL l, [], rfl, rfl, ⟨rfl, Nat.le_refl _⟩, ⟨by omega, by omega⟩, ⟨markL_length l, fun i _ hi => markL_get hi⟩, ⟨rfl⟩, ⟨Nat.le_refl _⟩, ⟨Kd.R_nil _ _ _ _ _⟩, HM6, BK6, HB6⟩
  case round =>
    clear HM6 BK6 HB6
    obtain ⟨k, n, m, dn, rfl, rfl, HK, HN, HM, HD, HDL, HO, HMB, BK, HB⟩ := hrel
    have cN := blk_cell BK.out 1
    have cT := blk_cell BK.out 2
    simp only [List.getElem?_toArray, List.getElem?_cons_zero, List.getElem?_cons_succ] at cN cT
    obtain ⟨hk0, hk1⟩ := HK.out
    obtain ⟨hn0, hn1⟩ := HN.out
    have hl := HL.out
    by_cases hlt : k ≤ N
    · have q1 : decide ((k : Int) ≤ (N : Int)) = true := decide_eq_true (by omega)
      have q2 : decide (k ≤ N) = true := decide_eq_true hlt
      have p1 : ((0 : Int) ≤ (k : Int)) = True := eq_true (by omega)
      have p2 : ((k : Int) < 14) = True := eq_true (by omega)
      have p3 : (k < 14) = True := eq_true (by omega)
      have c1 := blk_cell HMB.out k
      rw [List.getElem?_toArray, boolC_get (HM.out.2 k (Nat.le_refl _) (by omega))] at c1
      have f1 := blk_frozen HMB.out k
      have hrun : N + 1 - k = (N + 1 - (k + 1)) + 1 := by omega
      by_cases hb : (k : Int) ∈ l
      · have hd : decide ((k : Int) ∈ l) = true := decide_eq_true hb
        rw [hd] at c1
        have HE := Aside0.mk (show dn ++ [(k : Int)] ++ extL l (N + 1 - (k + 1)) ((k : Int) + 1) (T - n) = extL l N 1 (T - l.length) by rw [← HD.out, hrun, ext_yes hb, List.append_assoc]; rfl)
        obtain ⟨m1, hm1⟩ : ∃ y : List Int, y = dn ++ [(k : Int)] := ⟨_, rfl⟩
        have NM := Aside0.mk hm1
        obtain ⟨A7, c7, rfl⟩ := Kd.R_slice HO.out
        clear hm1 hd hb hrun hk0 hn1
        go_wp2_with (first
          | ((with_reducible refine gate_builtin (b := .append) (xs := #[.tmp 36, .tmp 38]) rfl ?_); at_builtin; refine Kd.R_append (Kd.int .i64) (w0 := w) w.heap.size rfl (.tmp 36) (.tmp 38) 25 3 (.int .i64 0) 8 rfl Tryd.underlying25 info3 rfl (by decide) (by omega) (.slice A7 dn.length c7) dn (k : Int) [.int .i64 (k : Int)] (fun _ => True) (fun _ => False) rfl rfl rfl (fun _ hk => hk.elim) (fun _ _ => trivial) HO.out HB.out (below_size HB.out) (by have := HDL.out; omega) ?_; intro v1 w1 ho hb hg hat; rw [← NM.out] at ho; have HMB1 := Aside0.mk (blk_grown HMB.out hg (Kd.R_ne HO.out HMB.out (by decide))); have BK1 := Aside0.mk (blk_grown BK.out hg (Kd.R_ne HO.out BK.out (by decide))); have HO1 := Aside0.mk ho; have HB1 := Aside0.mk hb; clear ho hb hg hat))
        go_roundg (N - k)
        case measure => have := HK.out; omega
        case rel => exact ⟨k + 1, n, m, m1, rfl, by go_num, ⟨by omega⟩, ⟨by have := HN.out; omega⟩, ⟨HM.out.1, fun i h1 h2 => HM.out.2 i (by omega) h2⟩, ⟨by rw [NM.out]; exact HE.out⟩, ⟨by rw [NM.out, List.length_append]; have := HDL.out; simp only [List.length_cons, List.length_nil]; omega⟩, HO1, HMB1, BK1, HB1⟩
      · have hd : decide ((k : Int) ∈ l) = false := decide_eq_false hb
        rw [hd] at c1
        by_cases hln : n < T
        · have q3 : decide (n < T) = true := decide_eq_true hln
          have HE := Aside0.mk (show dn ++ [(k : Int)] ++ extL l (N + 1 - (k + 1)) ((k : Int) + 1) (T - (n + 1)) = extL l N 1 (T - l.length) by rw [← HD.out, hrun, ext_more hb (by omega), List.append_assoc, show T - (n + 1) = T - n - 1 from by omega]; rfl)
          obtain ⟨m1, hm1⟩ : ∃ y : List Int, y = dn ++ [(k : Int)] := ⟨_, rfl⟩
          have NM := Aside0.mk hm1
          obtain ⟨A7, c7, rfl⟩ := Kd.R_slice HO.out
          have hb2 : (wr.setCell ⟨g, k, none⟩ (.bool true)).heap[g]? = some (.cells (boolC (m.set k true)).toArray 54 (0, 0)) := blk_put HMB.out k _ (by rw [List.setIfInBounds_toArray, boolC_set])
          have hgg : gb ≠ g := blk_ne BK.out HMB.out (by decide)
          have hb3 : (wr.setCell ⟨g, k, none⟩ (.bool true)).heap[gb]? = some (.cells #[.int .u64 p, .int .i64 (N : Int), .int .i64 T] 24 (0, 0)) := blk_far (p := ⟨g, k, none⟩) BK.out hgg _
          have hb4 := Kd.R_set HO.out HMB.out (by decide) k (.bool true)
          have hb5 := Below.setCell HB.out (p := ⟨g, k, none⟩) HG.out (.bool true)
          have c2 := blk_cell hb2 k
          rw [List.getElem?_toArray, boolC_get (b := true) (by rw [List.getElem?_set_self (by rw [HM.out.1]; omega)])] at c2
          have HB2 := Aside0.mk hb2
          have HB3 := Aside0.mk hb3
          have HB4 := Aside0.mk hb4
          have HB5 := Aside0.mk hb5
          clear hm1 hd hb hrun hk0 hn1 hb2 hb3 hb4 hb5 hgg
          go_wp2_with (first
            | ((with_reducible refine gate_builtin (b := .append) (xs := #[.tmp 36, .tmp 38]) rfl ?_); at_builtin; refine Kd.R_append (Kd.int .i64) (w0 := w) w.heap.size rfl (.tmp 36) (.tmp 38) 25 3 (.int .i64 0) 8 rfl Tryd.underlying25 info3 rfl (by decide) (by omega) (.slice A7 dn.length c7) dn (k : Int) [.int .i64 (k : Int)] (fun _ => True) (fun _ => False) rfl (by rw [show (wr.setCell ⟨g, k, none⟩ (.bool true)).heap.size = wr.heap.size from by simp [World.setCell]]; rfl) rfl (fun _ hk => hk.elim) (fun _ _ => trivial) HB4.out HB5.out (below_size HB5.out) (by have := HDL.out; omega) ?_; intro v1 w1 ho hb hg hat; rw [← NM.out] at ho; have HMB1 := Aside0.mk (blk_grown HB2.out hg (Kd.R_ne HB4.out HB2.out (by decide))); have BK1 := Aside0.mk (blk_grown HB3.out hg (Kd.R_ne HB4.out HB3.out (by decide))); have HO1 := Aside0.mk ho; have HB1 := Aside0.mk hb; clear ho hb hg hat))
          go_roundg (N - k)
          case measure => have := HK.out; omega
          case rel => exact ⟨k + 1, n + 1, m.set k true, m1, by rw [show wrap64 (n + 1) = n + 1 from w64' (by have := HN.out; have := HL.out; omega) (by have := HN.out; have := HL.out; omega)], by go_num, ⟨by omega⟩, ⟨by have := HN.out; omega⟩, ⟨by rw [List.length_set]; exact HM.out.1, fun i h1 h2 => by rw [List.getElem?_set_ne (by omega)]; exact HM.out.2 i (by omega) h2⟩, ⟨by rw [NM.out]; exact HE.out⟩, ⟨by rw [NM.out, List.length_append]; have := HDL.out; simp only [List.length_cons, List.length_nil]; omega⟩, HO1, HMB1, BK1, HB1⟩
        · have q3 : decide (n < T) = false := decide_eq_false hln
          have HE := Aside0.mk (show dn ++ extL l (N + 1 - (k + 1)) ((k : Int) + 1) (T - n) = extL l N 1 (T - l.length) by rw [← HD.out, hrun, ext_skip hb (by omega)])
          clear hd hb hrun hk0 hn1
          go_wp2
          go_roundg (N - k)
          case measure => have := HK.out; omega
          case rel => exact ⟨k + 1, n, m, dn, rfl, by go_num, ⟨by omega⟩, ⟨by have := HN.out; omega⟩, ⟨HM.out.1, fun i h1 h2 => HM.out.2 i (by omega) h2⟩, HE, ⟨by have := HDL.out; omega⟩, HO, HMB, BK, HB⟩
    · have q1 : decide ((k : Int) ≤ (N : Int)) = false := decide_eq_false (by omega)
      have q2 : decide (k ≤ N) = false := decide_eq_false hlt
      have hz : N + 1 - k = 0 := by omega
      have HE := Aside0.mk (show dn = extL l N 1 (T - l.length) by rw [← HD.out, hz]; simp [extL])
      clear hz
      go_wp2
      first | go_ret | ((try simp only [Exit.inBlock, Exit.then]); refine bodyPost_ret (results_tmp rfl _ _ rfl) rfl ?_)
      exact ⟨_, rfl, by rw [← HE.out]; exact HO.out, HB.out⟩
def params_ExtendCoalition.f (a0 a1 a2 : Int) (l : List Int) : Option (List Int) :=
  if 0 ≤ a1 then (if a1 ≤ 13 then (if l.length ≤ 1000 then (if (l.all fun x => decide (0 ≤ x) && decide (x < 14)) = true then some (extL l a1.toNat 1 (a2 - l.length)) else none) else none) else none) else none
theorem params_ExtendCoalition.calls (a0 a1 a2 : Int) (A1 : Option Addr) (c1 : Nat) (l1 : List Int) (r : List Int) (w : World) (hr1 : Kd.C (Kd.int .i64) w A1 l1.length l1) (hc1 : l1.length ≤ c1) (h : params_ExtendCoalition.f a0 a1 a2 l1 = some r) :
    Calls Tryd.prog 16 #[.agg #[.int .u64 a0, .int .i64 a1, .int .i64 a2], .slice A1 l1.length c1] w fun e w' => ∃ v0_ : Value, e = .returned (v0_) ∧ Kd.R (Kd.int .i64) 3 w' w.heap.size (fun _ => True) v0_ r ∧ Below w.heap.size w w' := by
  unfold params_ExtendCoalition.f at h
  obtain ⟨h1, h⟩ := ifs h
  obtain ⟨h2, h⟩ := ifs h
  obtain ⟨h3, h⟩ := ifs h
  obtain ⟨h4, h⟩ := ifs h
  rw [← Option.some.inj h]
  have e : ((a1.toNat : Nat) : Int) = a1 := Int.toNat_of_nonneg h1
  have hg := ext_walk a0 a1.toNat a2 A1 c1 l1 w hr1 hc1 h3 (fun i hi => by
    have hm := List.all_eq_true.1 h4 (l1[i]) (List.getElem_mem _)
    rw [Bool.and_eq_true, decide_eq_true_eq, decide_eq_true_eq] at hm
    have : rd l1 (i : Int) = l1[i] := by unfold rd; rw [Int.toNat_natCast, List.getD_eq_getElem?_getD, List.getElem?_eq_getElem hi]; rfl
    rw [this]; exact hm) (by omega)
  rw [e] at hg
  exact hg
end Go.Proofs.YtakaonojfpkhnaaDoor.Hw
end
section
/- Printed by a program of this seat (the kit's printer, with the functions that were proved by hand given to it). What stands here: the functions that the statements reach, as plain functions, and that the Go code computes them. -/
namespace Go.Proofs.YtakaonojfpkhnaaDoor.Pr
open Go.RowKit Go.Proofs.YtakaonojfpkhnaaDoorW.PrintWords Go.Proofs.YtakaonojfpkhnaaDoorW.PrintLast Go.Proofs.YtakaonojfpkhnaaDoorW.PrintMore
attribute [local go_sem] max2_int min2_int max_two min_two max_three min_three max_four min_four   -- for this text's walks alone
set_option linter.unusedVariables false
set_option linter.unusedSimpArgs false

open Go.Proofs.YtakaonojfpkhnaaDoor.Hw
/-! ### params_VanishingPolynomial: function 23 -/
def params_VanishingPolynomial.l0 : Nat → List (S57) → List Int → Int → Int → Int → Int → Int → Option (List Int)
 | 0,_,_,_,_,_,_,_ => none
 | k + 1,x5,x14,x15,x16,x178000,x178001,x178002 => if x16 < x15 then (if 0 ≤ x16 then (if x16 < (x14.length : Int) then (if x5.length < 8796093022208 then (params_VanishingPolynomial.l0 k (x5 ++ [(⟨IntKind.u64.wrap (rd x14 x16),0⟩ : S57)]) x14 x15 (wrap64 (x16 + 1)) x178000 x178001 x178002) else (none)) else (none)) else (none)) else ((interpolate_Polynomial.f x178000 x5).bind fun bt188 => (some bt188.1))
def params_VanishingPolynomial.f (k : Nat) (a0_0 : Int) (a0_1 : Int) (a0_2 : Int) (l1 : List Int) : Option (List Int) := (params_ExtendCoalition.f a0_0 a0_1 a0_2 l1).bind fun t181 => (params_VanishingPolynomial.l0 k (([(⟨0, 1⟩ : S57)] : List (S57))) t181 (t181.length : Int) 0 a0_0 a0_1 a0_2)
set_option maxHeartbeats 8000000 in
set_option maxRecDepth 100000 in
theorem params_VanishingPolynomial.calls (k : Nat) (a0_0 : Int) (a0_1 : Int) (a0_2 : Int) (A1 : Option Addr) (c1 : Nat) (l1 : List Int) (r : List Int) (w : World) (hr1 : Kd.C (Kd.int .i64) w A1 l1.length l1) (hc1 : l1.length ≤ c1) (h : params_VanishingPolynomial.f k a0_0 a0_1 a0_2 l1 = some r) :
  Calls Tryd.prog 23 #[.agg #[.int .u64 a0_0,.int .i64 a0_1,.int .i64 a0_2],.slice A1 l1.length c1] w fun e w' => ∃ v0_ : Value,e = .returned (v0_) ∧ Kd.R (Kd.int .u64) 22 w' w.heap.size (fun _ => True) v0_ r ∧ Below w.heap.size w w' := by
 have hu24 := Tryd.underlying24
 have hu57 := Tryd.underlying57
 have HR1 := Aside0.mk hr1
 have HC1 := Aside0.mk hc1
 clear hr1 hc1
 have HB := Aside0.mk (Below.refl w.heap.size w)
 have H : ((params_ExtendCoalition.f a0_0 a0_1 a0_2 l1).bind fun t181 => (params_VanishingPolynomial.l0 k (([(⟨0,1⟩ : S57)] : List (S57))) t181 (t181.length : Int) 0 a0_0 a0_1 a0_2)) = some r := h
 clear h
 obtain ⟨y178,hy178⟩ : ∃ y_ : List (S57),y_ = (([(⟨0,1⟩ : S57)] : List (S57))) := ⟨_,rfl⟩
 replace H : ((params_ExtendCoalition.f a0_0 a0_1 a0_2 l1).bind fun t181 => (params_VanishingPolynomial.l0 k y178 t181 (t181.length : Int) 0 a0_0 a0_1 a0_2)) = some r := by first|(rw [hy178];with_reducible exact H)|(have H2_ := (Option.bind_some _ _).symm.trans H;rw [hy178];with_reducible exact H2_)|(have H2_ := (Option.bind_some _ _).symm.trans H;with_reducible exact H2_)|with_reducible exact H|(rw [hy178];exact H)|exact H
 have Ny178 := Aside0.mk hy178
 clear hy178
 replace H := Option.bind_eq_some_iff.mp H
 obtain ⟨t181,A30,H⟩ := H
 replace H : (params_VanishingPolynomial.l0 k y178 t181 (t181.length : Int) 0 a0_0 a0_1 a0_2) = some r := H
 have A3 := Aside0.mk A30
 clear A30
 have H' := Aside0.mk H
 clear H
 go_enter Tryd.func23,Tryd.ntmps23
 go_wp2_with (first|((with_reducible refine gate_dst (N := 2) rfl ?_);refine box_event ?hg (N := 2) ?hd (cs := #[.int .u64 a0_0,.int .i64 a0_1,.int .i64 a0_2]) (t := 24) ?hr ?_;(case hd => rfl);(case hg => rfl);(case hr => first|(go_simp;done)|(go_simp;rfl));intro gb177 hg w4 hbox hb;have n0_ := Aside0.mk (below_step (by repeat (first|(with_reducible first|exact HB.out|apply below_alloc|apply pw_below_drewN|apply below_drew1)|exact HB.out)) hb);have n1_ := Aside0.mk (hbox);have n2_ := Aside0.mk ((by rw [hg];exact (below_size (by repeat (first|(with_reducible first|exact HB.out|apply below_alloc|apply pw_below_drewN|apply below_drew1)|exact HB.out))) : w.heap.size ≤ gb177));have n3_ := Aside0.mk ((by rw [hg];exact (below_size (by repeat (first|(with_reducible first|exact HB.out|apply below_alloc|apply pw_below_drewN|apply below_drew1)|exact HB.out))) : w.heap.size ≤ gb177));clear HB;have HB := n0_;have BK177 := n1_;have GW177 := n2_;have GE177 := n3_;clear n0_ n1_ n2_ n3_;clear hb hbox hg)|((with_reducible refine gate_dst (N := 11) rfl ?_);refine Kd.R_lit k57 _ 57 ?hg (N := 11) ?hd (xs := ([(⟨0,1⟩ : S57)] : List (S57))) (inner := [.int .u64 0,.int .u64 1]) (ok := fun _ => True) (okp := fun _ => True) ?hr ?hp (fun _ hk => hk) trivial (Below.refl _ _) (Nat.le_refl _) (by simp) ?_;(case hd => rfl);(case hg => rfl);(case hr => first|(go_simp;done)|(go_simp;rfl));(case hp => exact (Reps.c2 (show Kd.M k57 _ _ _ (⟨0,1⟩ : S57) [.int .u64 0,.int .u64 1] from (k57_mkM _ _ _ (⟨0,1⟩ : S57) )) (Reps.none _ _)));intro v179 w5 ho6 hb hg_ hnew_;clear hg_ hnew_;(first|rw [← Ny178.out] at ho6|(simp only [Int.reduceToNat] at ho6;rw [← Ny178.out] at ho6));have n0_ := Aside0.mk (Kd.R_lower ho6 (below_size (by repeat (first|(with_reducible first|exact HB.out|apply below_alloc|apply pw_below_drewN|apply below_drew1|refine below_set ?_ GE177.out)|exact HB.out))));have n1_ := Aside0.mk (blk_below (g := gb177) (o := .cells #[.int .u64 a0_0,.int .i64 a0_1,.int .i64 a0_2] 24 (0,0)) (by (with_reducible repeat (first|refine blk_drewN ?_ _|refine blk_drew ?_|refine blk_alloc ?_ _));exact BK177.out) hb);have n2_ := Aside0.mk (below_step (by repeat (first|(with_reducible first|exact HB.out|apply below_alloc|apply pw_below_drewN|apply below_drew1|refine below_set ?_ GE177.out)|exact HB.out)) hb);clear BK177;clear HB;have HO180 := n0_;have BK177 := n1_;have HB := n2_;clear n0_ n1_ n2_;clear hb ho6;have hcz7_0 : w5.cell? ⟨gb177,0,none⟩ = some (.int .u64 a0_0) := (blk_cell BK177.out 0).trans rfl;have hcz7_1 : w5.cell? ⟨gb177,1,none⟩ = some (.int .i64 a0_1) := (blk_cell BK177.out 1).trans rfl;have hcz7_2 : w5.cell? ⟨gb177,2,none⟩ = some (.int .i64 a0_2) := (blk_cell BK177.out 2).trans rfl;have hfz7_0 := blk_frozen BK177.out 0;have hfz7_1 := blk_frozen BK177.out 1;have hfz7_2 := blk_frozen BK177.out 2)|((with_reducible refine gate_callee (f := 16) rfl ?_);refine goesL_ (some 14) rfl rfl Tryd.func16 (by kernel_rfl) rfl #[.agg #[.int .u64 a0_0,.int .i64 a0_1,.int .i64 a0_2],.slice A1 l1.length c1] rfl (by (try simp only [List.map_toArray,List.map_cons,List.map_nil]);first|done|rfl|(simp only [List.length_drop,List.length_take];rfl)) ?_;(with_reducible refine (params_ExtendCoalition.calls a0_0 a0_1 a0_2 _ _ l1 t181 _ ?side1 ?side2 A3.out).mono ?_);(case side1 => repeat (first|exact (Kd.C_below HR1.out HB.out)|(with_reducible refine Kd.C_alloc ?_ _)|(with_reducible refine Kd.C_drewN ?_ _)|(with_reducible refine Kd.C_drew ?_)));(case side2 => exact HC1.out);rintro e w8 ⟨v182,rfl,ho0,hb⟩;refine ⟨_,rfl,?_⟩;have n0_ := Aside0.mk (Kd.R_below (by (with_reducible repeat (first|apply Kd.R_alloc|apply Kd.R_drewN|apply Kd.R_drew));exact HO180.out) hb);have n1_ := Aside0.mk (Kd.R_lower ho0 (below_size (by repeat (first|(with_reducible first|exact HB.out|apply below_alloc|apply pw_below_drewN|apply below_drew1|refine below_set ?_ GE177.out)|exact HB.out))));have n2_ := Aside0.mk (blk_below (g := gb177) (o := .cells #[.int .u64 a0_0,.int .i64 a0_1,.int .i64 a0_2] 24 (0,0)) (by (with_reducible repeat (first|refine blk_drewN ?_ _|refine blk_drew ?_|refine blk_alloc ?_ _));exact BK177.out) hb);have n3_ := Aside0.mk (below_step (by repeat (first|(with_reducible first|exact HB.out|apply below_alloc|apply pw_below_drewN|apply below_drew1|refine below_set ?_ GE177.out)|exact HB.out)) hb);clear HO180;clear BK177;clear HB;have HO180 := n0_;have HO183 := n1_;have BK177 := n2_;have HB := n3_;clear n0_ n1_ n2_ n3_;(try clear hb);(try clear hb2);(try clear hk);(try clear hi);(try clear ho0);obtain ⟨Ao9,co9,eo9⟩ := Kd.R_slice HO183.out;subst eo9))
 go_loopg [5,16] k (fun kq v5 v16 w' => ∃ (x5_1 : List (S57)) (x16_1 : Int),v16 = .int .i64 x16_1 ∧ Aside0 (params_VanishingPolynomial.l0 kq x5_1 t181 (t181.length : Int) x16_1 a0_0 a0_1 a0_2 = some r) ∧ Aside0 (kq ≤ k) ∧ Aside0 (Kd.R k57 57 w' w.heap.size (fun _ => True) v5 x5_1) ∧ Aside0 (Kd.R (Kd.int .i64) 3 w' w.heap.size (fun _ => True) (.slice Ao9 t181.length co9) t181) ∧ Aside0 (w'.heap[gb177]? = some (.cells #[.int .u64 a0_0,.int .i64 a0_1,.int .i64 a0_2] 24 (0,0))) ∧ Aside0 (Below w.heap.size w w'))
 case atStart => exact ⟨(y178),(0),(by first|rfl|(simp;done)|(simp [*];done)),H',⟨Nat.le_refl _⟩,⟨by (with_reducible repeat (first|apply Kd.R_alloc|apply Kd.R_drewN|apply Kd.R_drew));exact HO180.out⟩,⟨by (with_reducible repeat (first|apply Kd.R_alloc|apply Kd.R_drewN|apply Kd.R_drew));exact HO183.out⟩,⟨by (with_reducible repeat (first|refine blk_drewN ?_ _|refine blk_drew ?_|refine blk_alloc ?_ _));exact BK177.out⟩,⟨by repeat (first|(with_reducible first|exact HB.out|apply below_alloc|apply pw_below_drewN|apply below_drew1|refine below_set ?_ GE177.out)|exact HB.out)⟩⟩
 case round =>
  clear H'
  try clear c1
  try clear c2
  try clear p2
  try clear hcz7_0
  try clear hcz7_1
  try clear hcz7_2
  try clear hfz7_0
  try clear hfz7_1
  try clear hfz7_2
  obtain ⟨x5_1,x16_1,rfl,HA,HK1,HO_5,HO_14,BK177,HB⟩ := hrel
  cases gk with
  | zero => exact absurd HA.out (by simp [params_VanishingPolynomial.l0])
  | succ k1 =>
   have H := HA.out
   clear HA
   simp only [params_VanishingPolynomial.l0] at H
   by_cases c10 : x16_1 < (t181.length : Int)
   ·rw [if_pos c10] at H
    have c10b0 : decide (x16_1 < (t181.length : Int)) = true := decide_eq_true c10
    clear c10
    by_cases c11 : 0 ≤ x16_1
    ·rw [if_pos c11] at H
     have c11b0 : decide (0 ≤ x16_1) = true := decide_eq_true c11
     clear c11
     by_cases c12 : x16_1 < (t181.length : Int)
     ·rw [if_pos c12] at H
      have c12b0 : decide (x16_1 < (t181.length : Int)) = true := decide_eq_true c12
      clear c12
      by_cases c13 : x5_1.length < 8796093022208
      ·rw [if_pos c13] at H
       have LMc13 := Aside0.mk c13
       clear c13
       obtain ⟨y185,hy185⟩ : ∃ y_ : List (S57),y_ = (x5_1 ++ [(⟨IntKind.u64.wrap (rd t181 x16_1),0⟩ : S57)]) := ⟨_,rfl⟩
       replace H : (params_VanishingPolynomial.l0 k1 y185 t181 (t181.length : Int) (wrap64 (x16_1 + 1)) a0_0 a0_1 a0_2) = some r := by first|(rw [hy185];with_reducible exact H)|(have H2_ := (Option.bind_some _ _).symm.trans H;rw [hy185];with_reducible exact H2_)|(have H2_ := (Option.bind_some _ _).symm.trans H;with_reducible exact H2_)|with_reducible exact H|(rw [hy185];exact H)|exact H
       have Ny185 := Aside0.mk hy185
       clear hy185
       have H' := Aside0.mk H
       clear H
       have p184 : 0 ≤ (x16_1 : Int) := of_decide_eq_true (by first|(with_reducible assumption)|assumption)
       have q184 : x16_1 < (t181.length : Int) := of_decide_eq_true (by first|(with_reducible assumption)|assumption)
       obtain ⟨ad184,e184,hx184_0⟩ := Kd.at_int (Kd.R_reads' HO_14.out).2.2 x16_1 p184 q184
       cases e184
       replace p184 := eq_true p184
       replace q184 := eq_true q184
       go_wp2_with (first|((with_reducible refine gate_builtin (b := .append) (xs := #[.tmp 20,.tmp 24]) rfl ?_);at_builtin;refine Kd.R_append k57 (w0 := w) w.heap.size rfl (.tmp 20) (.tmp 24) 58 57 (.agg #[(.int .u64 0),(.int .u64 0)]) 16 rfl Tryd.underlying58 info57 rfl (by decide) (by omega) u5 x5_1 (⟨IntKind.u64.wrap (rd t181 x16_1),0⟩ : S57) [.int .u64 (IntKind.u64.wrap (rd t181 x16_1)),.int .u64 0] (fun _ => True) (fun _ => False) rfl rfl ?aP (fun _ hk => hk.elim) ?aF ?aO ?aB ?aS ?aL ?_;(case aP => exact k57_mkM _ _ _ (⟨IntKind.u64.wrap (rd t181 x16_1),0⟩ : S57));(case aB => exact (by repeat (first|(with_reducible first|exact HB.out|apply below_alloc|apply pw_below_drewN|apply below_drew1|refine below_set ?_ GE177.out)|exact HB.out)));(case aF => exact (fun _ _ => trivial));(case aO => exact (by (with_reducible repeat (first|apply Kd.R_alloc|apply Kd.R_drewN|apply Kd.R_drew));exact HO_5.out));(case aS => exact (below_size (by repeat (first|(with_reducible first|exact HB.out|apply below_alloc|apply pw_below_drewN|apply below_drew1|refine below_set ?_ GE177.out)|exact HB.out))));(case aL => have := LMc13.out;omega);intro v186 w14 ho hb hg hat;rw [← Ny185.out] at ho;have n0_ := Aside0.mk (Kd.R_over' (by (with_reducible repeat (first|apply Kd.R_alloc|apply Kd.R_drewN|apply Kd.R_drew));exact HO_14.out) (Kd.R_typed (by (with_reducible repeat (first|apply Kd.R_alloc|apply Kd.R_drewN|apply Kd.R_drew));exact HO_5.out)) (by decide) hg);have n1_ := Aside0.mk (blk_grown (g := gb177) (o := .cells #[.int .u64 a0_0,.int .i64 a0_1,.int .i64 a0_2] 24 (0,0)) (by (with_reducible repeat (first|refine blk_drewN ?_ _|refine blk_drew ?_|refine blk_alloc ?_ _));exact BK177.out) hg (Kd.R_ne HO_5.out BK177.out (by decide)));have n2_ := Aside0.mk (hb);have n3_ := Aside0.mk (ho);clear HO_14;clear BK177;clear HB;clear HO_5;have HO_14 := n0_;have BK177 := n1_;have HB := n2_;have HO187 := n3_;clear n0_ n1_ n2_ n3_;clear ho hb hg hat))
       go_roundg k1
       case measure => have := HK1.out;omega
       case rel => exact ⟨(y185),(wrap64 (x16_1 + 1)),(by first|rfl|(simp;done)|(simp [*];done)),H',⟨by have := HK1.out;omega⟩,⟨by (with_reducible repeat (first|apply Kd.R_alloc|apply Kd.R_drewN|apply Kd.R_drew));exact HO187.out⟩,⟨by (with_reducible repeat (first|apply Kd.R_alloc|apply Kd.R_drewN|apply Kd.R_drew));exact HO_14.out⟩,⟨by (with_reducible repeat (first|refine blk_drewN ?_ _|refine blk_drew ?_|refine blk_alloc ?_ _));exact BK177.out⟩,⟨by repeat (first|(with_reducible first|exact HB.out|apply below_alloc|apply pw_below_drewN|apply below_drew1|refine below_set ?_ GE177.out)|exact HB.out)⟩⟩
      ·rw [if_neg c13] at H
       exact absurd H (by simp)
     ·rw [if_neg c12] at H
      exact absurd H (by simp)
    ·rw [if_neg c11] at H
     exact absurd H (by simp)
   ·rw [if_neg c10] at H
    have c10b0 : decide (x16_1 < (t181.length : Int)) = false := decide_eq_false c10
    clear c10
    replace H := Option.bind_eq_some_iff.mp H
    obtain ⟨⟨t188,t189⟩,A150,H⟩ := H
    replace H : (some t188) = some r := H
    have A15 := Aside0.mk A150
    clear A150
    obtain rfl := Option.some.inj H
    have hcz16_0 : wr.cell? ⟨gb177,0,none⟩ = some (.int .u64 a0_0) := (blk_cell BK177.out 0).trans rfl
    have hcz16_1 : wr.cell? ⟨gb177,1,none⟩ = some (.int .i64 a0_1) := (blk_cell BK177.out 1).trans rfl
    have hcz16_2 : wr.cell? ⟨gb177,2,none⟩ = some (.int .i64 a0_2) := (blk_cell BK177.out 2).trans rfl
    have hfz16_0 := blk_frozen BK177.out 0
    have hfz16_1 := blk_frozen BK177.out 1
    have hfz16_2 := blk_frozen BK177.out 2
    obtain ⟨Ao17,co17,eo17⟩ := Kd.R_slice HO_5.out
    subst eo17
    go_wp2_with (first|((with_reducible refine gate_callee (f := 39) rfl ?_);refine goesL_ (some 31) rfl rfl Tryd.func39 (by kernel_rfl) rfl #[.int .u64 a0_0,.slice Ao17 x5_1.length co17] rfl (by (try simp only [List.map_toArray,List.map_cons,List.map_nil]);first|done|rfl|(simp only [List.length_drop,List.length_take];rfl)) ?_;(with_reducible refine (interpolate_Polynomial.calls a0_0 _ _ x5_1 t188 t189 _ ?side1 ?side2 A15.out).mono ?_);(case side1 => repeat (first|exact (Kd.R_reads' HO_5.out).2.2|(with_reducible refine Kd.C_alloc ?_ _)|(with_reducible refine Kd.C_drewN ?_ _)|(with_reducible refine Kd.C_drew ?_)));(case side2 => exact (Kd.R_reads' HO_5.out).2.1);rintro e w18 ⟨v190,rfl,ho0,hb⟩;refine ⟨_,rfl,?_⟩;have n0_ := Aside0.mk (Kd.R_below (by (with_reducible repeat (first|apply Kd.R_alloc|apply Kd.R_drewN|apply Kd.R_drew));exact HO_5.out) hb);have n1_ := Aside0.mk (Kd.R_below (by (with_reducible repeat (first|apply Kd.R_alloc|apply Kd.R_drewN|apply Kd.R_drew));exact HO_14.out) hb);have n2_ := Aside0.mk (Kd.R_lower ho0 (below_size (by repeat (first|(with_reducible first|exact HB.out|apply below_alloc|apply pw_below_drewN|apply below_drew1|refine below_set ?_ GE177.out)|exact HB.out))));have n3_ := Aside0.mk (blk_below (g := gb177) (o := .cells #[.int .u64 a0_0,.int .i64 a0_1,.int .i64 a0_2] 24 (0,0)) (by (with_reducible repeat (first|refine blk_drewN ?_ _|refine blk_drew ?_|refine blk_alloc ?_ _));exact BK177.out) hb);have n4_ := Aside0.mk (below_step (by repeat (first|(with_reducible first|exact HB.out|apply below_alloc|apply pw_below_drewN|apply below_drew1|refine below_set ?_ GE177.out)|exact HB.out)) hb);clear HO_5;clear HO_14;clear BK177;clear HB;have HO_5 := n0_;have HO_14 := n1_;have HO191 := n2_;have BK177 := n3_;have HB := n4_;clear n0_ n1_ n2_ n3_ n4_;(try clear hb);(try clear hb2);(try clear hk);(try clear hi);(try clear ho0)))
    go_ret
    exact ⟨_,by first|rfl|(simp [errW_none,errW_some] <;> rfl)|(simp [*,errW_none,errW_some] <;> rfl),by (with_reducible repeat (first|apply Kd.R_alloc|apply Kd.R_drewN|apply Kd.R_drew));exact HO191.out,by repeat (first|(with_reducible first|exact HB.out|apply below_alloc|apply pw_below_drewN|apply below_drew1|refine below_set ?_ GE177.out)|exact HB.out)⟩
end Go.Proofs.YtakaonojfpkhnaaDoor.Pr
end
section
/- Printed by a program of this seat (the kit's printer, with the functions that were proved by hand given to it). What stands here: the functions that the statements reach, as plain functions, and that the Go code computes them. -/
namespace Go.Proofs.YtakaonojfpkhnaaDoor.Pr
open Go.RowKit Go.Proofs.YtakaonojfpkhnaaDoorW.PrintWords Go.Proofs.YtakaonojfpkhnaaDoorW.PrintLast Go.Proofs.YtakaonojfpkhnaaDoorW.PrintMore
attribute [local go_sem] max2_int min2_int max_two min_two max_three min_three max_four min_four   -- for this text's walks alone
set_option linter.unusedVariables false
set_option linter.unusedSimpArgs false

open Go.Proofs.YtakaonojfpkhnaaDoor.Hw
/-! ### privityref12_ValidCoalition: function 13 -/
mutual
def privityref12_ValidCoalition.j0 : Nat → List Int → Bool → Int → Int → Int → Option (Bool)
 | 0,_,_,_,_,_ => none
 | k + 1,x1,x15,x204000,x204001,x204002 => if x15 = true then (some false) else (privityref12_ValidCoalition.l0 k x1 0 x204000 x204001 x204002)
def privityref12_ValidCoalition.l0 : Nat → List Int → Int → Int → Int → Int → Option (Bool)
 | 0,_,_,_,_,_ => none
 | k + 1,x1,x5,x204000,x204001,x204002 => if x5 < (x1.length : Int) then (if 0 ≤ x5 then (if (rd x1 x5) < 1 then (some false) else (if (rd x1 x5) > x204001 then (some false) else (if x5 > 0 then (if 0 ≤ (wrap64 (x5 - 1)) then (if (wrap64 (x5 - 1)) < (x1.length : Int) then (if (rd x1 x5) ≤ (rd x1 (wrap64 (x5 - 1))) then (some false) else (privityref12_ValidCoalition.l0 k x1 (wrap64 (x5 + 1)) x204000 x204001 x204002)) else (none)) else (none)) else (privityref12_ValidCoalition.l0 k x1 (wrap64 (x5 + 1)) x204000 x204001 x204002)))) else (none)) else (some true)
end
def privityref12_ValidCoalition.f (k : Nat) (a0_0 : Int) (a0_1 : Int) (a0_2 : Int) (l1 : List Int) : Option (Bool) := (privityref12_Valid.f k a0_0 a0_1 a0_2).bind fun t204 => (if t204 = true then (privityref12_ValidCoalition.j0 k l1 (decide ((l1.length : Int) > a0_2)) a0_0 a0_1 a0_2) else (privityref12_ValidCoalition.j0 k l1 true a0_0 a0_1 a0_2))
set_option maxHeartbeats 8000000 in
set_option maxRecDepth 100000 in
theorem privityref12_ValidCoalition.calls (k : Nat) (a0_0 : Int) (a0_1 : Int) (a0_2 : Int) (A1 : Option Addr) (c1 : Nat) (l1 : List Int) (r : Bool) (w : World) (hr1 : Kd.C (Kd.int .i64) w A1 l1.length l1) (hc1 : l1.length ≤ c1) (h : privityref12_ValidCoalition.f k a0_0 a0_1 a0_2 l1 = some r) :
  Calls Tryd.prog 13 #[.agg #[.int .u64 a0_0,.int .i64 a0_1,.int .i64 a0_2],.slice A1 l1.length c1] w fun e w' => e = .returned (.bool r) ∧ Below w.heap.size w w' := by
 have hu24 := Tryd.underlying24
 have HR1 := Aside0.mk hr1
 have HC1 := Aside0.mk hc1
 clear hr1 hc1
 have HB := Aside0.mk (Below.refl w.heap.size w)
 have H : ((privityref12_Valid.f k a0_0 a0_1 a0_2).bind fun t204 => (if t204 = true then (privityref12_ValidCoalition.j0 k l1 (decide ((l1.length : Int) > a0_2)) a0_0 a0_1 a0_2) else (privityref12_ValidCoalition.j0 k l1 true a0_0 a0_1 a0_2))) = some r := h
 clear h
 have HC3 := Aside0.mk H
 clear H
 go_enter Tryd.func13,Tryd.ntmps13
 go_upto_region 1 with (first|((with_reducible refine gate_dst (N := 2) rfl ?_);(try (refine gate_guard (by rfl) ?_;dsimp only));refine box_event ?hg (N := 2) ?hd (cs := #[.int .u64 a0_0,.int .i64 a0_1,.int .i64 a0_2]) (t := 24) ?hr ?_;(case hd => rfl);(case hg => rfl);(case hr => first|(go_simp;done)|(go_simp;rfl));intro gb203 hg w4 hbox hb;have n0_ := Aside0.mk (below_step (by repeat (first|(with_reducible first|exact HB.out|apply below_alloc|apply pw_below_drewN|apply below_drew1)|exact HB.out)) hb);have n1_ := Aside0.mk (hbox);have n2_ := Aside0.mk ((by rw [hg];exact (below_size (by repeat (first|(with_reducible first|exact HB.out|apply below_alloc|apply pw_below_drewN|apply below_drew1)|exact HB.out))) : w.heap.size ≤ gb203));have n3_ := Aside0.mk ((by rw [hg];exact (below_size (by repeat (first|(with_reducible first|exact HB.out|apply below_alloc|apply pw_below_drewN|apply below_drew1)|exact HB.out))) : w.heap.size ≤ gb203));clear HB;have HB := n0_;have BK203 := n1_;have GW203 := n2_;have GE203 := n3_;clear n0_ n1_ n2_ n3_;clear hb hbox hg))
 repeat (go_quiet (first|((with_reducible refine gate_dst (N := 2) rfl ?_);(try (refine gate_guard (by rfl) ?_;dsimp only));refine box_event ?hg (N := 2) ?hd (cs := #[.int .u64 a0_0,.int .i64 a0_1,.int .i64 a0_2]) (t := 24) ?hr ?_;(case hd => rfl);(case hg => rfl);(case hr => first|(go_simp;done)|(go_simp;rfl));intro gb203 hg w4 hbox hb;have n0_ := Aside0.mk (below_step (by repeat (first|(with_reducible first|exact HB.out|apply below_alloc|apply pw_below_drewN|apply below_drew1)|exact HB.out)) hb);have n1_ := Aside0.mk (hbox);have n2_ := Aside0.mk ((by rw [hg];exact (below_size (by repeat (first|(with_reducible first|exact HB.out|apply below_alloc|apply pw_below_drewN|apply below_drew1)|exact HB.out))) : w.heap.size ≤ gb203));have n3_ := Aside0.mk ((by rw [hg];exact (below_size (by repeat (first|(with_reducible first|exact HB.out|apply below_alloc|apply pw_below_drewN|apply below_drew1)|exact HB.out))) : w.heap.size ≤ gb203));clear HB;have HB := n0_;have BK203 := n1_;have GW203 := n2_;have GE203 := n3_;clear n0_ n1_ n2_ n3_;clear hb hbox hg));go_upto_region 1 with (first|((with_reducible refine gate_dst (N := 2) rfl ?_);(try (refine gate_guard (by rfl) ?_;dsimp only));refine box_event ?hg (N := 2) ?hd (cs := #[.int .u64 a0_0,.int .i64 a0_1,.int .i64 a0_2]) (t := 24) ?hr ?_;(case hd => rfl);(case hg => rfl);(case hr => first|(go_simp;done)|(go_simp;rfl));intro gb203 hg w4 hbox hb;have n0_ := Aside0.mk (below_step (by repeat (first|(with_reducible first|exact HB.out|apply below_alloc|apply pw_below_drewN|apply below_drew1)|exact HB.out)) hb);have n1_ := Aside0.mk (hbox);have n2_ := Aside0.mk ((by rw [hg];exact (below_size (by repeat (first|(with_reducible first|exact HB.out|apply below_alloc|apply pw_below_drewN|apply below_drew1)|exact HB.out))) : w.heap.size ≤ gb203));have n3_ := Aside0.mk ((by rw [hg];exact (below_size (by repeat (first|(with_reducible first|exact HB.out|apply below_alloc|apply pw_below_drewN|apply below_drew1)|exact HB.out))) : w.heap.size ≤ gb203));clear HB;have HB := n0_;have BK203 := n1_;have GW203 := n2_;have GE203 := n3_;clear n0_ n1_ n2_ n3_;clear hb hbox hg)))
 (try simp only [Act.put,List.setIfInBounds_toArray,List.set_cons_zero,List.set_cons_succ])
 go_cut [15] (fun v15 wc => ∃ (kq : Nat) (x15_2 : Bool),v15 = .bool x15_2 ∧ Aside0 (privityref12_ValidCoalition.j0 kq l1 x15_2 a0_0 a0_1 a0_2 = some r) ∧ Aside0 (kq ≤ k) ∧ Aside0 (wc.heap[gb203]? = some (.cells #[.int .u64 a0_0,.int .i64 a0_1,.int .i64 a0_2] 24 (0,0))) ∧ Aside0 (Below w.heap.size w wc))
 case first =>
  have H := HC3.out
  clear HC3
  replace H := Option.bind_eq_some_iff.mp H
  obtain ⟨t204,A50,H⟩ := H
  replace H : (if t204 = true then (privityref12_ValidCoalition.j0 k l1 (decide ((l1.length : Int) > a0_2)) a0_0 a0_1 a0_2) else (privityref12_ValidCoalition.j0 k l1 true a0_0 a0_1 a0_2)) = some r := H
  have A5 := Aside0.mk A50
  clear A50
  by_cases c6 : t204 = true
  ·subst c6
   have H1 : (privityref12_ValidCoalition.j0 k l1 (decide ((l1.length : Int) > a0_2)) a0_0 a0_1 a0_2) = some r := by rw [if_pos rfl] at H;exact H
   clear H
   have H := H1
   clear H1
   have H' := Aside0.mk H
   clear H
   have hcz7_0 : w4.cell? ⟨gb203,0,none⟩ = some (.int .u64 a0_0) := (blk_cell BK203.out 0).trans rfl
   have hcz7_1 : w4.cell? ⟨gb203,1,none⟩ = some (.int .i64 a0_1) := (blk_cell BK203.out 1).trans rfl
   have hcz7_2 : w4.cell? ⟨gb203,2,none⟩ = some (.int .i64 a0_2) := (blk_cell BK203.out 2).trans rfl
   have hfz7_0 := blk_frozen BK203.out 0
   have hfz7_1 := blk_frozen BK203.out 1
   have hfz7_2 := blk_frozen BK203.out 2
   go_wp2_with (first|(go_at_call 11;(with_reducible refine (privityref12_Valid.calls k a0_0 a0_1 a0_2 true _ A5.out).mono ?_);rintro e w8 ⟨rfl,hb⟩;have n0_ := Aside0.mk (blk_below (g := gb203) (o := .cells #[.int .u64 a0_0,.int .i64 a0_1,.int .i64 a0_2] 24 (0,0)) (by (with_reducible repeat (first|refine blk_drewN ?_ _|refine blk_drew ?_|refine blk_alloc ?_ _));exact BK203.out) hb);have n1_ := Aside0.mk (below_step (by repeat (first|(with_reducible first|exact HB.out|apply below_alloc|apply pw_below_drewN|apply below_drew1|refine below_set ?_ GE203.out)|exact HB.out)) hb);clear BK203;clear HB;have BK203 := n0_;have HB := n1_;clear n0_ n1_;(try clear hb);(try clear hb2);(try clear hk);(try clear hi);have hcz9_0 : w8.cell? ⟨gb203,0,none⟩ = some (.int .u64 a0_0) := (blk_cell BK203.out 0).trans rfl;have hcz9_1 : w8.cell? ⟨gb203,1,none⟩ = some (.int .i64 a0_1) := (blk_cell BK203.out 1).trans rfl;have hcz9_2 : w8.cell? ⟨gb203,2,none⟩ = some (.int .i64 a0_2) := (blk_cell BK203.out 2).trans rfl;have hfz9_0 := blk_frozen BK203.out 0;have hfz9_1 := blk_frozen BK203.out 1;have hfz9_2 := blk_frozen BK203.out 2))
   repeat (go_quiet (first|(go_at_call 11;(with_reducible refine (privityref12_Valid.calls k a0_0 a0_1 a0_2 true _ A5.out).mono ?_);rintro e w8 ⟨rfl,hb⟩;have n0_ := Aside0.mk (blk_below (g := gb203) (o := .cells #[.int .u64 a0_0,.int .i64 a0_1,.int .i64 a0_2] 24 (0,0)) (by (with_reducible repeat (first|refine blk_drewN ?_ _|refine blk_drew ?_|refine blk_alloc ?_ _));exact BK203.out) hb);have n1_ := Aside0.mk (below_step (by repeat (first|(with_reducible first|exact HB.out|apply below_alloc|apply pw_below_drewN|apply below_drew1|refine below_set ?_ GE203.out)|exact HB.out)) hb);clear BK203;clear HB;have BK203 := n0_;have HB := n1_;clear n0_ n1_;(try clear hb);(try clear hb2);(try clear hk);(try clear hi);have hcz9_0 : w8.cell? ⟨gb203,0,none⟩ = some (.int .u64 a0_0) := (blk_cell BK203.out 0).trans rfl;have hcz9_1 : w8.cell? ⟨gb203,1,none⟩ = some (.int .i64 a0_1) := (blk_cell BK203.out 1).trans rfl;have hcz9_2 : w8.cell? ⟨gb203,2,none⟩ = some (.int .i64 a0_2) := (blk_cell BK203.out 2).trans rfl;have hfz9_0 := blk_frozen BK203.out 0;have hfz9_1 := blk_frozen BK203.out 1;have hfz9_2 := blk_frozen BK203.out 2));try go_wp2_with (first|(go_at_call 11;(with_reducible refine (privityref12_Valid.calls k a0_0 a0_1 a0_2 true _ A5.out).mono ?_);rintro e w8 ⟨rfl,hb⟩;have n0_ := Aside0.mk (blk_below (g := gb203) (o := .cells #[.int .u64 a0_0,.int .i64 a0_1,.int .i64 a0_2] 24 (0,0)) (by (with_reducible repeat (first|refine blk_drewN ?_ _|refine blk_drew ?_|refine blk_alloc ?_ _));exact BK203.out) hb);have n1_ := Aside0.mk (below_step (by repeat (first|(with_reducible first|exact HB.out|apply below_alloc|apply pw_below_drewN|apply below_drew1|refine below_set ?_ GE203.out)|exact HB.out)) hb);clear BK203;clear HB;have BK203 := n0_;have HB := n1_;clear n0_ n1_;(try clear hb);(try clear hb2);(try clear hk);(try clear hi);have hcz9_0 : w8.cell? ⟨gb203,0,none⟩ = some (.int .u64 a0_0) := (blk_cell BK203.out 0).trans rfl;have hcz9_1 : w8.cell? ⟨gb203,1,none⟩ = some (.int .i64 a0_1) := (blk_cell BK203.out 1).trans rfl;have hcz9_2 : w8.cell? ⟨gb203,2,none⟩ = some (.int .i64 a0_2) := (blk_cell BK203.out 2).trans rfl;have hfz9_0 := blk_frozen BK203.out 0;have hfz9_1 := blk_frozen BK203.out 1;have hfz9_2 := blk_frozen BK203.out 2)))
   go_meet
   case rel => exact ⟨_,(decide ((l1.length : Int) > a0_2)),(by first|rfl|(simp;done)|(simp [*];done)),H',⟨by first|omega|exact Nat.le_refl _⟩,⟨by (with_reducible repeat (first|refine blk_drewN ?_ _|refine blk_drew ?_|refine blk_alloc ?_ _));exact BK203.out⟩,⟨by repeat (first|(with_reducible first|exact HB.out|apply below_alloc|apply pw_below_drewN|apply below_drew1|refine below_set ?_ GE203.out)|exact HB.out)⟩⟩
  ·replace c6 := Bool.eq_false_iff.mpr c6
   subst c6
   have H1 : (privityref12_ValidCoalition.j0 k l1 true a0_0 a0_1 a0_2) = some r := by rw [if_neg (show ¬ (false = true) by decide)] at H;exact H
   clear H
   have H := H1
   clear H1
   have H' := Aside0.mk H
   clear H
   have hcz10_0 : w4.cell? ⟨gb203,0,none⟩ = some (.int .u64 a0_0) := (blk_cell BK203.out 0).trans rfl
   have hcz10_1 : w4.cell? ⟨gb203,1,none⟩ = some (.int .i64 a0_1) := (blk_cell BK203.out 1).trans rfl
   have hcz10_2 : w4.cell? ⟨gb203,2,none⟩ = some (.int .i64 a0_2) := (blk_cell BK203.out 2).trans rfl
   have hfz10_0 := blk_frozen BK203.out 0
   have hfz10_1 := blk_frozen BK203.out 1
   have hfz10_2 := blk_frozen BK203.out 2
   go_wp2_with (first|(go_at_call 11;(with_reducible refine (privityref12_Valid.calls k a0_0 a0_1 a0_2 false _ A5.out).mono ?_);rintro e w11 ⟨rfl,hb⟩;have n0_ := Aside0.mk (blk_below (g := gb203) (o := .cells #[.int .u64 a0_0,.int .i64 a0_1,.int .i64 a0_2] 24 (0,0)) (by (with_reducible repeat (first|refine blk_drewN ?_ _|refine blk_drew ?_|refine blk_alloc ?_ _));exact BK203.out) hb);have n1_ := Aside0.mk (below_step (by repeat (first|(with_reducible first|exact HB.out|apply below_alloc|apply pw_below_drewN|apply below_drew1|refine below_set ?_ GE203.out)|exact HB.out)) hb);clear BK203;clear HB;have BK203 := n0_;have HB := n1_;clear n0_ n1_;(try clear hb);(try clear hb2);(try clear hk);(try clear hi)))
   repeat (go_quiet (first|(go_at_call 11;(with_reducible refine (privityref12_Valid.calls k a0_0 a0_1 a0_2 false _ A5.out).mono ?_);rintro e w11 ⟨rfl,hb⟩;have n0_ := Aside0.mk (blk_below (g := gb203) (o := .cells #[.int .u64 a0_0,.int .i64 a0_1,.int .i64 a0_2] 24 (0,0)) (by (with_reducible repeat (first|refine blk_drewN ?_ _|refine blk_drew ?_|refine blk_alloc ?_ _));exact BK203.out) hb);have n1_ := Aside0.mk (below_step (by repeat (first|(with_reducible first|exact HB.out|apply below_alloc|apply pw_below_drewN|apply below_drew1|refine below_set ?_ GE203.out)|exact HB.out)) hb);clear BK203;clear HB;have BK203 := n0_;have HB := n1_;clear n0_ n1_;(try clear hb);(try clear hb2);(try clear hk);(try clear hi)));try go_wp2_with (first|(go_at_call 11;(with_reducible refine (privityref12_Valid.calls k a0_0 a0_1 a0_2 false _ A5.out).mono ?_);rintro e w11 ⟨rfl,hb⟩;have n0_ := Aside0.mk (blk_below (g := gb203) (o := .cells #[.int .u64 a0_0,.int .i64 a0_1,.int .i64 a0_2] 24 (0,0)) (by (with_reducible repeat (first|refine blk_drewN ?_ _|refine blk_drew ?_|refine blk_alloc ?_ _));exact BK203.out) hb);have n1_ := Aside0.mk (below_step (by repeat (first|(with_reducible first|exact HB.out|apply below_alloc|apply pw_below_drewN|apply below_drew1|refine below_set ?_ GE203.out)|exact HB.out)) hb);clear BK203;clear HB;have BK203 := n0_;have HB := n1_;clear n0_ n1_;(try clear hb);(try clear hb2);(try clear hk);(try clear hi))))
   go_meet
   case rel => exact ⟨_,(true),(by first|rfl|(simp;done)|(simp [*];done)),H',⟨by first|omega|exact Nat.le_refl _⟩,⟨by (with_reducible repeat (first|refine blk_drewN ?_ _|refine blk_drew ?_|refine blk_alloc ?_ _));exact BK203.out⟩,⟨by repeat (first|(with_reducible first|exact HB.out|apply below_alloc|apply pw_below_drewN|apply below_drew1|refine below_set ?_ GE203.out)|exact HB.out)⟩⟩
 case rest =>
  clear HC3
  try clear c1
  try clear p2
  try clear c6
  try clear hcz10_0
  try clear hcz10_1
  try clear hcz10_2
  try clear hcz7_0
  try clear hcz7_1
  try clear hcz7_2
  try clear hcz9_0
  try clear hcz9_1
  try clear hcz9_2
  try clear hfz10_0
  try clear hfz10_1
  try clear hfz10_2
  try clear hfz7_0
  try clear hfz7_1
  try clear hfz7_2
  try clear hfz9_0
  try clear hfz9_1
  try clear hfz9_2
  obtain ⟨kq,x15_2,rfl,HA,HJ2,BK203,HB⟩ := hcut
  cases kq with
  | zero => exact absurd HA.out (by simp [privityref12_ValidCoalition.j0])
  | succ kj2 =>
   have H := HA.out
   clear HA
   simp only [privityref12_ValidCoalition.j0] at H
   by_cases c12 : x15_2 = true
   ·subst c12
    have H1 : (some false) = some r := by rw [if_pos rfl] at H;exact H
    clear H
    have H := H1
    clear H1
    obtain rfl := Option.some.inj H
    go_wp2
    repeat (go_quiet (fail);try go_wp2)
    go_ret
    exact ⟨by first|rfl|(simp [errW_none,errW_some] <;> rfl)|(simp [*,errW_none,errW_some] <;> rfl),by repeat (first|(with_reducible first|exact HB.out|apply below_alloc|apply pw_below_drewN|apply below_drew1|refine below_set ?_ GE203.out)|exact HB.out)⟩
   ·replace c12 := Bool.eq_false_iff.mpr c12
    subst c12
    have H1 : (privityref12_ValidCoalition.l0 kj2 l1 0 a0_0 a0_1 a0_2) = some r := by rw [if_neg (show ¬ (false = true) by decide)] at H;exact H
    clear H
    have H := H1
    clear H1
    have H' := Aside0.mk H
    clear H
    go_wp2
    repeat (go_quiet (fail);try go_wp2)
    go_loopg [5] kj2 (fun kq v5 w' => ∃ (x5_2 : Int),v5 = .int .i64 x5_2 ∧ Aside0 (privityref12_ValidCoalition.l0 kq l1 x5_2 a0_0 a0_1 a0_2 = some r) ∧ Aside0 (kq ≤ kj2) ∧ Aside0 (w'.heap[gb203]? = some (.cells #[.int .u64 a0_0,.int .i64 a0_1,.int .i64 a0_2] 24 (0,0))) ∧ Aside0 (Below w.heap.size w w'))
    case atStart => exact ⟨(0),(by first|rfl|(simp;done)|(simp [*];done)),H',⟨Nat.le_refl _⟩,⟨by (with_reducible repeat (first|refine blk_drewN ?_ _|refine blk_drew ?_|refine blk_alloc ?_ _));exact BK203.out⟩,⟨by repeat (first|(with_reducible first|exact HB.out|apply below_alloc|apply pw_below_drewN|apply below_drew1|refine below_set ?_ GE203.out)|exact HB.out)⟩⟩
    case round =>
     clear H'
     try clear c1
     try clear p2
     try clear c6
     try clear c12
     try clear hcz10_0
     try clear hcz10_1
     try clear hcz10_2
     try clear hcz7_0
     try clear hcz7_1
     try clear hcz7_2
     try clear hcz9_0
     try clear hcz9_1
     try clear hcz9_2
     try clear hfz10_0
     try clear hfz10_1
     try clear hfz10_2
     try clear hfz7_0
     try clear hfz7_1
     try clear hfz7_2
     try clear hfz9_0
     try clear hfz9_1
     try clear hfz9_2
     try clear p2
     obtain ⟨x5_2,rfl,HA,HK2,BK203,HB⟩ := hrel
     cases gk with
     | zero => exact absurd HA.out (by simp [privityref12_ValidCoalition.l0])
     | succ k2 =>
      have H := HA.out
      clear HA
      simp only [privityref12_ValidCoalition.l0] at H
      by_cases c13 : x5_2 < (l1.length : Int)
      ·rw [if_pos c13] at H
       have c13b0 : decide (x5_2 < (l1.length : Int)) = true := decide_eq_true c13
       clear c13
       by_cases c14 : 0 ≤ x5_2
       ·rw [if_pos c14] at H
        have c14b0 : decide (0 ≤ x5_2) = true := decide_eq_true c14
        clear c14
        by_cases c15 : (rd l1 x5_2) < 1
        ·rw [if_pos c15] at H
         have c15b0 : decide ((rd l1 x5_2) < 1) = true := decide_eq_true c15
         clear c15
         obtain rfl := Option.some.inj H
         have p205 : 0 ≤ (x5_2 : Int) := of_decide_eq_true (by first|(with_reducible assumption)|assumption)
         have q205 : x5_2 < (l1.length : Int) := of_decide_eq_true (by first|(with_reducible assumption)|assumption)
         obtain ⟨ad205,e205,hx205_0⟩ := Kd.at_int HR1.out x5_2 p205 q205
         cases e205
         replace hx205_0 := (HB.out.cell (World.block_lt_of_cell? w _ hx205_0)).trans hx205_0
         replace p205 := eq_true p205
         replace q205 := eq_true q205
         go_wp2
         repeat (go_quiet (fail);try go_wp2)
         go_ret
         exact ⟨by first|rfl|(simp [errW_none,errW_some] <;> rfl)|(simp [*,errW_none,errW_some] <;> rfl),by repeat (first|(with_reducible first|exact HB.out|apply below_alloc|apply pw_below_drewN|apply below_drew1|refine below_set ?_ GE203.out)|exact HB.out)⟩
        ·rw [if_neg c15] at H
         have c15b0 : decide ((rd l1 x5_2) < 1) = false := decide_eq_false c15
         clear c15
         by_cases c16 : (rd l1 x5_2) > a0_1
         ·rw [if_pos c16] at H
          have c16b0 : decide (a0_1 < (rd l1 x5_2)) = true := decide_eq_true c16
          clear c16
          obtain rfl := Option.some.inj H
          have p205 : 0 ≤ (x5_2 : Int) := of_decide_eq_true (by first|(with_reducible assumption)|assumption)
          have q205 : x5_2 < (l1.length : Int) := of_decide_eq_true (by first|(with_reducible assumption)|assumption)
          obtain ⟨ad205,e205,hx205_0⟩ := Kd.at_int HR1.out x5_2 p205 q205
          cases e205
          replace hx205_0 := (HB.out.cell (World.block_lt_of_cell? w _ hx205_0)).trans hx205_0
          replace p205 := eq_true p205
          replace q205 := eq_true q205
          have p206 : 0 ≤ (x5_2 : Int) := of_decide_eq_true (by first|(with_reducible assumption)|assumption)
          have q206 : x5_2 < (l1.length : Int) := of_decide_eq_true (by first|(with_reducible assumption)|assumption)
          obtain ⟨ad206,e206,hx206_0⟩ := Kd.at_int HR1.out x5_2 p206 q206
          obtain rfl : ad205 = ad206 := (by injection e206)
          replace hx206_0 := (HB.out.cell (World.block_lt_of_cell? w _ hx206_0)).trans hx206_0
          replace p206 := eq_true p206
          replace q206 := eq_true q206
          have hcz17_0 : wr.cell? ⟨gb203,0,none⟩ = some (.int .u64 a0_0) := (blk_cell BK203.out 0).trans rfl
          have hcz17_1 : wr.cell? ⟨gb203,1,none⟩ = some (.int .i64 a0_1) := (blk_cell BK203.out 1).trans rfl
          have hcz17_2 : wr.cell? ⟨gb203,2,none⟩ = some (.int .i64 a0_2) := (blk_cell BK203.out 2).trans rfl
          have hfz17_0 := blk_frozen BK203.out 0
          have hfz17_1 := blk_frozen BK203.out 1
          have hfz17_2 := blk_frozen BK203.out 2
          go_wp2
          repeat (go_quiet (fail);try go_wp2)
          go_ret
          exact ⟨by first|rfl|(simp [errW_none,errW_some] <;> rfl)|(simp [*,errW_none,errW_some] <;> rfl),by repeat (first|(with_reducible first|exact HB.out|apply below_alloc|apply pw_below_drewN|apply below_drew1|refine below_set ?_ GE203.out)|exact HB.out)⟩
         ·rw [if_neg c16] at H
          have c16b0 : decide (a0_1 < (rd l1 x5_2)) = false := decide_eq_false c16
          clear c16
          by_cases c18 : x5_2 > 0
          ·rw [if_pos c18] at H
           have c18b0 : decide (0 < x5_2) = true := decide_eq_true c18
           clear c18
           obtain ⟨ji19,hji19⟩ : ∃ j_ : Int,(wrap64 (x5_2 - 1)) = j_ := ⟨_,rfl⟩
           replace H : (if 0 ≤ (ji19) then (if (ji19) < (l1.length : Int) then (if (rd l1 x5_2) ≤ (rd l1 (ji19)) then (some false) else (privityref12_ValidCoalition.l0 k2 l1 (wrap64 (x5_2 + 1)) a0_0 a0_1 a0_2)) else (none)) else (none)) = some r := by first|(rw [hji19] at H;exact H)|(simp only [hji19] at H ⊢;exact H)
           have hji19w : (IntKind.i64.wrap (x5_2 - 1)) = ji19 := (i64_w _).trans hji19
           by_cases c20 : 0 ≤ (ji19)
           ·rw [if_pos c20] at H
            have c20b0 : decide (0 ≤ (ji19)) = true := decide_eq_true c20
            clear c20
            by_cases c21 : (ji19) < (l1.length : Int)
            ·rw [if_pos c21] at H
             have c21b0 : decide ((ji19) < (l1.length : Int)) = true := decide_eq_true c21
             clear c21
             by_cases c22 : (rd l1 x5_2) ≤ (rd l1 (ji19))
             ·rw [if_pos c22] at H
              have c22b0 : decide ((rd l1 x5_2) ≤ (rd l1 (ji19))) = true := decide_eq_true c22
              clear c22
              obtain rfl := Option.some.inj H
              have p205 : 0 ≤ (x5_2 : Int) := of_decide_eq_true (by first|(with_reducible assumption)|assumption)
              have q205 : x5_2 < (l1.length : Int) := of_decide_eq_true (by first|(with_reducible assumption)|assumption)
              obtain ⟨ad205,e205,hx205_0⟩ := Kd.at_int HR1.out x5_2 p205 q205
              cases e205
              replace hx205_0 := (HB.out.cell (World.block_lt_of_cell? w _ hx205_0)).trans hx205_0
              replace p205 := eq_true p205
              replace q205 := eq_true q205
              have p206 : 0 ≤ (x5_2 : Int) := of_decide_eq_true (by first|(with_reducible assumption)|assumption)
              have q206 : x5_2 < (l1.length : Int) := of_decide_eq_true (by first|(with_reducible assumption)|assumption)
              obtain ⟨ad206,e206,hx206_0⟩ := Kd.at_int HR1.out x5_2 p206 q206
              obtain rfl : ad205 = ad206 := (by injection e206)
              replace hx206_0 := (HB.out.cell (World.block_lt_of_cell? w _ hx206_0)).trans hx206_0
              replace p206 := eq_true p206
              replace q206 := eq_true q206
              have hcz23_0 : wr.cell? ⟨gb203,0,none⟩ = some (.int .u64 a0_0) := (blk_cell BK203.out 0).trans rfl
              have hcz23_1 : wr.cell? ⟨gb203,1,none⟩ = some (.int .i64 a0_1) := (blk_cell BK203.out 1).trans rfl
              have hcz23_2 : wr.cell? ⟨gb203,2,none⟩ = some (.int .i64 a0_2) := (blk_cell BK203.out 2).trans rfl
              have hfz23_0 := blk_frozen BK203.out 0
              have hfz23_1 := blk_frozen BK203.out 1
              have hfz23_2 := blk_frozen BK203.out 2
              have p207 : 0 ≤ (x5_2 : Int) := of_decide_eq_true (by first|(with_reducible assumption)|assumption)
              have q207 : x5_2 < (l1.length : Int) := of_decide_eq_true (by first|(with_reducible assumption)|assumption)
              obtain ⟨ad207,e207,hx207_0⟩ := Kd.at_int HR1.out x5_2 p207 q207
              obtain rfl : ad205 = ad207 := (by injection e207)
              replace hx207_0 := (HB.out.cell (World.block_lt_of_cell? w _ hx207_0)).trans hx207_0
              replace p207 := eq_true p207
              replace q207 := eq_true q207
              have p208 : 0 ≤ ((ji19) : Int) := of_decide_eq_true (by first|(with_reducible assumption)|assumption)
              have q208 : (ji19) < (l1.length : Int) := of_decide_eq_true (by first|(with_reducible assumption)|assumption)
              obtain ⟨ad208,e208,hx208_0⟩ := Kd.at_int HR1.out (ji19) p208 q208
              obtain rfl : ad205 = ad208 := (by injection e208)
              replace hx208_0 := (HB.out.cell (World.block_lt_of_cell? w _ hx208_0)).trans hx208_0
              replace p208 := eq_true p208
              replace q208 := eq_true q208
              go_wp2
              repeat (go_quiet (fail);try go_wp2)
              go_ret
              exact ⟨by first|rfl|(simp [errW_none,errW_some] <;> rfl)|(simp only [← hji19];first|rfl|(simp [errW_none,errW_some] <;> rfl))|(simp [*,errW_none,errW_some] <;> rfl),by repeat (first|(with_reducible first|exact HB.out|apply below_alloc|apply pw_below_drewN|apply below_drew1|refine below_set ?_ GE203.out)|exact HB.out)⟩
             ·rw [if_neg c22] at H
              have c22b0 : decide ((rd l1 x5_2) ≤ (rd l1 (ji19))) = false := decide_eq_false c22
              clear c22
              have H' := Aside0.mk H
              clear H
              have p205 : 0 ≤ (x5_2 : Int) := of_decide_eq_true (by first|(with_reducible assumption)|assumption)
              have q205 : x5_2 < (l1.length : Int) := of_decide_eq_true (by first|(with_reducible assumption)|assumption)
              obtain ⟨ad205,e205,hx205_0⟩ := Kd.at_int HR1.out x5_2 p205 q205
              cases e205
              replace hx205_0 := (HB.out.cell (World.block_lt_of_cell? w _ hx205_0)).trans hx205_0
              replace p205 := eq_true p205
              replace q205 := eq_true q205
              have p206 : 0 ≤ (x5_2 : Int) := of_decide_eq_true (by first|(with_reducible assumption)|assumption)
              have q206 : x5_2 < (l1.length : Int) := of_decide_eq_true (by first|(with_reducible assumption)|assumption)
              obtain ⟨ad206,e206,hx206_0⟩ := Kd.at_int HR1.out x5_2 p206 q206
              obtain rfl : ad205 = ad206 := (by injection e206)
              replace hx206_0 := (HB.out.cell (World.block_lt_of_cell? w _ hx206_0)).trans hx206_0
              replace p206 := eq_true p206
              replace q206 := eq_true q206
              have hcz24_0 : wr.cell? ⟨gb203,0,none⟩ = some (.int .u64 a0_0) := (blk_cell BK203.out 0).trans rfl
              have hcz24_1 : wr.cell? ⟨gb203,1,none⟩ = some (.int .i64 a0_1) := (blk_cell BK203.out 1).trans rfl
              have hcz24_2 : wr.cell? ⟨gb203,2,none⟩ = some (.int .i64 a0_2) := (blk_cell BK203.out 2).trans rfl
              have hfz24_0 := blk_frozen BK203.out 0
              have hfz24_1 := blk_frozen BK203.out 1
              have hfz24_2 := blk_frozen BK203.out 2
              have p207 : 0 ≤ (x5_2 : Int) := of_decide_eq_true (by first|(with_reducible assumption)|assumption)
              have q207 : x5_2 < (l1.length : Int) := of_decide_eq_true (by first|(with_reducible assumption)|assumption)
              obtain ⟨ad207,e207,hx207_0⟩ := Kd.at_int HR1.out x5_2 p207 q207
              obtain rfl : ad205 = ad207 := (by injection e207)
              replace hx207_0 := (HB.out.cell (World.block_lt_of_cell? w _ hx207_0)).trans hx207_0
              replace p207 := eq_true p207
              replace q207 := eq_true q207
              have p208 : 0 ≤ ((ji19) : Int) := of_decide_eq_true (by first|(with_reducible assumption)|assumption)
              have q208 : (ji19) < (l1.length : Int) := of_decide_eq_true (by first|(with_reducible assumption)|assumption)
              obtain ⟨ad208,e208,hx208_0⟩ := Kd.at_int HR1.out (ji19) p208 q208
              obtain rfl : ad205 = ad208 := (by injection e208)
              replace hx208_0 := (HB.out.cell (World.block_lt_of_cell? w _ hx208_0)).trans hx208_0
              replace p208 := eq_true p208
              replace q208 := eq_true q208
              go_wp2
              repeat (go_quiet (fail);try go_wp2)
              go_roundg k2
              case measure => have := HJ2.out;have := HK2.out;omega
              case rel => exact ⟨(wrap64 (x5_2 + 1)),(by first|rfl|(simp;done)|(simp [*];done)),H',⟨by have := HJ2.out;have := HK2.out;omega⟩,⟨by (with_reducible repeat (first|refine blk_drewN ?_ _|refine blk_drew ?_|refine blk_alloc ?_ _));exact BK203.out⟩,⟨by repeat (first|(with_reducible first|exact HB.out|apply below_alloc|apply pw_below_drewN|apply below_drew1|refine below_set ?_ GE203.out)|exact HB.out)⟩⟩
            ·rw [if_neg c21] at H
             exact absurd H (by simp)
           ·rw [if_neg c20] at H
            exact absurd H (by simp)
          ·rw [if_neg c18] at H
           have c18b0 : decide (0 < x5_2) = false := decide_eq_false c18
           clear c18
           have H' := Aside0.mk H
           clear H
           have p205 : 0 ≤ (x5_2 : Int) := of_decide_eq_true (by first|(with_reducible assumption)|assumption)
           have q205 : x5_2 < (l1.length : Int) := of_decide_eq_true (by first|(with_reducible assumption)|assumption)
           obtain ⟨ad205,e205,hx205_0⟩ := Kd.at_int HR1.out x5_2 p205 q205
           cases e205
           replace hx205_0 := (HB.out.cell (World.block_lt_of_cell? w _ hx205_0)).trans hx205_0
           replace p205 := eq_true p205
           replace q205 := eq_true q205
           have p206 : 0 ≤ (x5_2 : Int) := of_decide_eq_true (by first|(with_reducible assumption)|assumption)
           have q206 : x5_2 < (l1.length : Int) := of_decide_eq_true (by first|(with_reducible assumption)|assumption)
           obtain ⟨ad206,e206,hx206_0⟩ := Kd.at_int HR1.out x5_2 p206 q206
           obtain rfl : ad205 = ad206 := (by injection e206)
           replace hx206_0 := (HB.out.cell (World.block_lt_of_cell? w _ hx206_0)).trans hx206_0
           replace p206 := eq_true p206
           replace q206 := eq_true q206
           have hcz25_0 : wr.cell? ⟨gb203,0,none⟩ = some (.int .u64 a0_0) := (blk_cell BK203.out 0).trans rfl
           have hcz25_1 : wr.cell? ⟨gb203,1,none⟩ = some (.int .i64 a0_1) := (blk_cell BK203.out 1).trans rfl
           have hcz25_2 : wr.cell? ⟨gb203,2,none⟩ = some (.int .i64 a0_2) := (blk_cell BK203.out 2).trans rfl
           have hfz25_0 := blk_frozen BK203.out 0
           have hfz25_1 := blk_frozen BK203.out 1
           have hfz25_2 := blk_frozen BK203.out 2
           go_wp2
           repeat (go_quiet (fail);try go_wp2)
           go_roundg k2
           case measure => have := HJ2.out;have := HK2.out;omega
           case rel => exact ⟨(wrap64 (x5_2 + 1)),(by first|rfl|(simp;done)|(simp [*];done)),H',⟨by have := HJ2.out;have := HK2.out;omega⟩,⟨by (with_reducible repeat (first|refine blk_drewN ?_ _|refine blk_drew ?_|refine blk_alloc ?_ _));exact BK203.out⟩,⟨by repeat (first|(with_reducible first|exact HB.out|apply below_alloc|apply pw_below_drewN|apply below_drew1|refine below_set ?_ GE203.out)|exact HB.out)⟩⟩
       ·rw [if_neg c14] at H
        exact absurd H (by simp)
      ·rw [if_neg c13] at H
       have c13b0 : decide (x5_2 < (l1.length : Int)) = false := decide_eq_false c13
       clear c13
       obtain rfl := Option.some.inj H
       go_wp2
       repeat (go_quiet (fail);try go_wp2)
       go_ret
       exact ⟨by first|rfl|(simp [errW_none,errW_some] <;> rfl)|(simp [*,errW_none,errW_some] <;> rfl),by repeat (first|(with_reducible first|exact HB.out|apply below_alloc|apply pw_below_drewN|apply below_drew1|refine below_set ?_ GE203.out)|exact HB.out)⟩
end Go.Proofs.YtakaonojfpkhnaaDoor.Pr
end
section
/- Printed by a program of this seat (the kit's printer, with the functions that were proved by hand given to it). What stands here: the functions that the statements reach, as plain functions, and that the Go code computes them. -/
namespace Go.Proofs.YtakaonojfpkhnaaDoor.Pr
open Go.RowKit Go.Proofs.YtakaonojfpkhnaaDoorW.PrintWords Go.Proofs.YtakaonojfpkhnaaDoorW.PrintLast Go.Proofs.YtakaonojfpkhnaaDoorW.PrintMore
attribute [local go_sem] max2_int min2_int max_two min_two max_three min_three max_four min_four   -- for this text's walks alone
set_option linter.unusedVariables false
set_option linter.unusedSimpArgs false

open Go.Proofs.YtakaonojfpkhnaaDoor.Hw
/-! ### field_Supported: function 28 -/
def field_Supported.f (a0 : Int) : Option (Bool) := (field_Exponent.f a0).bind fun t140 => (some (t140 != 0))
set_option maxHeartbeats 8000000 in
set_option maxRecDepth 100000 in
theorem field_Supported.calls (a0 : Int) (r : Bool) (w : World) (hx_ : Hx w) (h : field_Supported.f a0 = some r) :
  Calls Tryd.prog 28 #[.int .u64 a0] w fun e w' => e = .returned (.bool r) ∧ Drawn0 w w' := by
 have HX_ := Aside0.mk hx_
 clear hx_
 have H : ((field_Exponent.f a0).bind fun t140 => (some (t140 != 0))) = some r := h
 clear h
 replace H := Option.bind_eq_some_iff.mp H
 obtain ⟨t140,A20,H⟩ := H
 replace H : (some (t140 != 0)) = some r := H
 have A2 := Aside0.mk A20
 clear A20
 obtain rfl := Option.some.inj H
 go_enter Tryd.func28,Tryd.ntmps28
 go_wp2_with (first|((with_reducible refine gate_callee (f := 45) rfl ?_);refine goesL_ (some 4) rfl rfl Tryd.func45 (by kernel_rfl) rfl #[.int .u64 a0] rfl (by (try simp only [List.map_toArray,List.map_cons,List.map_nil]);first|done|rfl|(simp only [List.length_drop,List.length_take];rfl)) ?_;(with_reducible refine (field_Exponent.calls a0 t140 _ ?sidehx A2.out).mono ?_);(case sidehx => repeat (first|exact HX_.out|exact (Hx_below HX_.out HB.out)|(with_reducible refine Hx_alloc ?_ _)|(with_reducible refine Hx_drewN ?_ _)|(with_reducible refine Hx_drew ?_)));rintro e w' ⟨rfl,⟨nd,rfl⟩⟩;refine ⟨_,rfl,?_⟩))
 go_ret
 exact ⟨by first|rfl|(simp;done)|(simp [*];done),by repeat (first|exact Drawn0.refl _|apply Drawn0.step)⟩
/-! ### params_Valid: function 10 -/
def params_Valid.f (a0_0 : Int) (a0_1 : Int) (a0_2 : Int) : Option (Bool) := (field_Supported.f a0_0).bind fun t142 => (if t142 = true then (if a0_1 ≥ 4 then (if a0_1 ≤ 13 then (if (IntKind.u64.wrap (a0_1)) < a0_0 then (if a0_2 ≥ 1 then (if a0_2 < a0_1 then (some (decide ((wrap64 (3 * a0_2)) < a0_1))) else (some false)) else (some false)) else (some false)) else (some false)) else (some false)) else (some false))
set_option maxHeartbeats 8000000 in
set_option maxRecDepth 100000 in
theorem params_Valid.calls (a0_0 : Int) (a0_1 : Int) (a0_2 : Int) (r : Bool) (w : World) (hx_ : Hx w) (h : params_Valid.f a0_0 a0_1 a0_2 = some r) :
  Calls Tryd.prog 10 #[.agg #[.int .u64 a0_0,.int .i64 a0_1,.int .i64 a0_2]] w fun e w' => e = .returned (.bool r) ∧ Below w.heap.size w w' := by
 have HX_ := Aside0.mk hx_
 clear hx_
 have hu24 := Tryd.underlying24
 have HB := Aside0.mk (Below.refl w.heap.size w)
 have H : ((field_Supported.f a0_0).bind fun t142 => (if t142 = true then (if a0_1 ≥ 4 then (if a0_1 ≤ 13 then (if (IntKind.u64.wrap (a0_1)) < a0_0 then (if a0_2 ≥ 1 then (if a0_2 < a0_1 then (some (decide ((wrap64 (3 * a0_2)) < a0_1))) else (some false)) else (some false)) else (some false)) else (some false)) else (some false)) else (some false))) = some r := h
 clear h
 replace H := Option.bind_eq_some_iff.mp H
 obtain ⟨t142,A20,H⟩ := H
 replace H : (if t142 = true then (if a0_1 ≥ 4 then (if a0_1 ≤ 13 then (if (IntKind.u64.wrap (a0_1)) < a0_0 then (if a0_2 ≥ 1 then (if a0_2 < a0_1 then (some (decide ((wrap64 (3 * a0_2)) < a0_1))) else (some false)) else (some false)) else (some false)) else (some false)) else (some false)) else (some false)) = some r := H
 have A2 := Aside0.mk A20
 clear A20
 by_cases c3 : t142 = true
 ·subst c3
  have H1 : (if a0_1 ≥ 4 then (if a0_1 ≤ 13 then (if (IntKind.u64.wrap (a0_1)) < a0_0 then (if a0_2 ≥ 1 then (if a0_2 < a0_1 then (some (decide ((wrap64 (3 * a0_2)) < a0_1))) else (some false)) else (some false)) else (some false)) else (some false)) else (some false)) = some r := by rw [if_pos rfl] at H;exact H
  clear H
  have H := H1
  clear H1
  by_cases c4 : a0_1 ≥ 4
  ·rw [if_pos c4] at H
   have c4b0 : decide (4 ≤ a0_1) = true := decide_eq_true c4
   clear c4
   by_cases c5 : a0_1 ≤ 13
   ·rw [if_pos c5] at H
    have c5b0 : decide (a0_1 ≤ 13) = true := decide_eq_true c5
    clear c5
    by_cases c6 : (IntKind.u64.wrap (a0_1)) < a0_0
    ·rw [if_pos c6] at H
     have c6b0 : decide ((IntKind.u64.wrap (a0_1)) < a0_0) = true := decide_eq_true c6
     clear c6
     by_cases c7 : a0_2 ≥ 1
     ·rw [if_pos c7] at H
      have c7b0 : decide (1 ≤ a0_2) = true := decide_eq_true c7
      clear c7
      by_cases c8 : a0_2 < a0_1
      ·rw [if_pos c8] at H
       have c8b0 : decide (a0_2 < a0_1) = true := decide_eq_true c8
       clear c8
       obtain rfl := Option.some.inj H
       go_enter Tryd.func10,Tryd.ntmps10
       go_wp2_with (first|((with_reducible refine gate_dst (N := 1) rfl ?_);refine box_event ?hg (N := 1) ?hd (cs := #[.int .u64 a0_0,.int .i64 a0_1,.int .i64 a0_2]) (t := 24) ?hr ?_;(case hd => rfl);(case hg => rfl);(case hr => first|(go_simp;done)|(go_simp;rfl));intro gb141 hg w9 hbox hb;have n0_ := Aside0.mk (below_step (by repeat (first|(with_reducible first|exact HB.out|apply below_alloc|apply pw_below_drewN|apply below_drew1)|exact HB.out)) hb);have n1_ := Aside0.mk (hbox);have n2_ := Aside0.mk ((by rw [hg];exact (below_size (by repeat (first|(with_reducible first|exact HB.out|apply below_alloc|apply pw_below_drewN|apply below_drew1)|exact HB.out))) : w.heap.size ≤ gb141));have n3_ := Aside0.mk ((by rw [hg];exact (below_size (by repeat (first|(with_reducible first|exact HB.out|apply below_alloc|apply pw_below_drewN|apply below_drew1)|exact HB.out))) : w.heap.size ≤ gb141));clear HB;have HB := n0_;have BK141 := n1_;have GW141 := n2_;have GE141 := n3_;clear n0_ n1_ n2_ n3_;clear hb hbox hg;have hcz10_0 : w9.cell? ⟨gb141,0,none⟩ = some (.int .u64 a0_0) := (blk_cell BK141.out 0).trans rfl;have hcz10_1 : w9.cell? ⟨gb141,1,none⟩ = some (.int .i64 a0_1) := (blk_cell BK141.out 1).trans rfl;have hcz10_2 : w9.cell? ⟨gb141,2,none⟩ = some (.int .i64 a0_2) := (blk_cell BK141.out 2).trans rfl;have hfz10_0 := blk_frozen BK141.out 0;have hfz10_1 := blk_frozen BK141.out 1;have hfz10_2 := blk_frozen BK141.out 2)|((with_reducible refine gate_callee (f := 28) rfl ?_);refine goesL_ (some 5) rfl rfl Tryd.func28 (by kernel_rfl) rfl #[.int .u64 a0_0] rfl (by (try simp only [List.map_toArray,List.map_cons,List.map_nil]);first|done|rfl|(simp only [List.length_drop,List.length_take];rfl)) ?_;(with_reducible refine (field_Supported.calls a0_0 true _ ?sidehx A2.out).mono ?_);(case sidehx => repeat (first|exact HX_.out|exact (Hx_below HX_.out HB.out)|(with_reducible refine Hx_alloc ?_ _)|(with_reducible refine Hx_drewN ?_ _)|(with_reducible refine Hx_drew ?_)));rintro e w' ⟨rfl,⟨nd,rfl⟩⟩;refine ⟨_,rfl,?_⟩))
       go_ret
       exact ⟨by first|rfl|(simp [errW_none,errW_some] <;> rfl)|(simp [*,errW_none,errW_some] <;> rfl),by repeat (first|(with_reducible first|exact HB.out|apply below_alloc|apply pw_below_drewN|apply below_drew1|refine below_set ?_ GE141.out)|exact HB.out)⟩
      ·rw [if_neg c8] at H
       have c8b0 : decide (a0_2 < a0_1) = false := decide_eq_false c8
       clear c8
       obtain rfl := Option.some.inj H
       go_enter Tryd.func10,Tryd.ntmps10
       go_wp2_with (first|((with_reducible refine gate_dst (N := 1) rfl ?_);refine box_event ?hg (N := 1) ?hd (cs := #[.int .u64 a0_0,.int .i64 a0_1,.int .i64 a0_2]) (t := 24) ?hr ?_;(case hd => rfl);(case hg => rfl);(case hr => first|(go_simp;done)|(go_simp;rfl));intro gb141 hg w11 hbox hb;have n0_ := Aside0.mk (below_step (by repeat (first|(with_reducible first|exact HB.out|apply below_alloc|apply pw_below_drewN|apply below_drew1)|exact HB.out)) hb);have n1_ := Aside0.mk (hbox);have n2_ := Aside0.mk ((by rw [hg];exact (below_size (by repeat (first|(with_reducible first|exact HB.out|apply below_alloc|apply pw_below_drewN|apply below_drew1)|exact HB.out))) : w.heap.size ≤ gb141));have n3_ := Aside0.mk ((by rw [hg];exact (below_size (by repeat (first|(with_reducible first|exact HB.out|apply below_alloc|apply pw_below_drewN|apply below_drew1)|exact HB.out))) : w.heap.size ≤ gb141));clear HB;have HB := n0_;have BK141 := n1_;have GW141 := n2_;have GE141 := n3_;clear n0_ n1_ n2_ n3_;clear hb hbox hg;have hcz12_0 : w11.cell? ⟨gb141,0,none⟩ = some (.int .u64 a0_0) := (blk_cell BK141.out 0).trans rfl;have hcz12_1 : w11.cell? ⟨gb141,1,none⟩ = some (.int .i64 a0_1) := (blk_cell BK141.out 1).trans rfl;have hcz12_2 : w11.cell? ⟨gb141,2,none⟩ = some (.int .i64 a0_2) := (blk_cell BK141.out 2).trans rfl;have hfz12_0 := blk_frozen BK141.out 0;have hfz12_1 := blk_frozen BK141.out 1;have hfz12_2 := blk_frozen BK141.out 2)|((with_reducible refine gate_callee (f := 28) rfl ?_);refine goesL_ (some 5) rfl rfl Tryd.func28 (by kernel_rfl) rfl #[.int .u64 a0_0] rfl (by (try simp only [List.map_toArray,List.map_cons,List.map_nil]);first|done|rfl|(simp only [List.length_drop,List.length_take];rfl)) ?_;(with_reducible refine (field_Supported.calls a0_0 true _ ?sidehx A2.out).mono ?_);(case sidehx => repeat (first|exact HX_.out|exact (Hx_below HX_.out HB.out)|(with_reducible refine Hx_alloc ?_ _)|(with_reducible refine Hx_drewN ?_ _)|(with_reducible refine Hx_drew ?_)));rintro e w' ⟨rfl,⟨nd,rfl⟩⟩;refine ⟨_,rfl,?_⟩))
       go_ret
       exact ⟨by first|rfl|(simp [errW_none,errW_some] <;> rfl)|(simp [*,errW_none,errW_some] <;> rfl),by repeat (first|(with_reducible first|exact HB.out|apply below_alloc|apply pw_below_drewN|apply below_drew1|refine below_set ?_ GE141.out)|exact HB.out)⟩
     ·rw [if_neg c7] at H
      have c7b0 : decide (1 ≤ a0_2) = false := decide_eq_false c7
      clear c7
      obtain rfl := Option.some.inj H
      go_enter Tryd.func10,Tryd.ntmps10
      go_wp2_with (first|((with_reducible refine gate_dst (N := 1) rfl ?_);refine box_event ?hg (N := 1) ?hd (cs := #[.int .u64 a0_0,.int .i64 a0_1,.int .i64 a0_2]) (t := 24) ?hr ?_;(case hd => rfl);(case hg => rfl);(case hr => first|(go_simp;done)|(go_simp;rfl));intro gb141 hg w13 hbox hb;have n0_ := Aside0.mk (below_step (by repeat (first|(with_reducible first|exact HB.out|apply below_alloc|apply pw_below_drewN|apply below_drew1)|exact HB.out)) hb);have n1_ := Aside0.mk (hbox);have n2_ := Aside0.mk ((by rw [hg];exact (below_size (by repeat (first|(with_reducible first|exact HB.out|apply below_alloc|apply pw_below_drewN|apply below_drew1)|exact HB.out))) : w.heap.size ≤ gb141));have n3_ := Aside0.mk ((by rw [hg];exact (below_size (by repeat (first|(with_reducible first|exact HB.out|apply below_alloc|apply pw_below_drewN|apply below_drew1)|exact HB.out))) : w.heap.size ≤ gb141));clear HB;have HB := n0_;have BK141 := n1_;have GW141 := n2_;have GE141 := n3_;clear n0_ n1_ n2_ n3_;clear hb hbox hg;have hcz14_0 : w13.cell? ⟨gb141,0,none⟩ = some (.int .u64 a0_0) := (blk_cell BK141.out 0).trans rfl;have hcz14_1 : w13.cell? ⟨gb141,1,none⟩ = some (.int .i64 a0_1) := (blk_cell BK141.out 1).trans rfl;have hcz14_2 : w13.cell? ⟨gb141,2,none⟩ = some (.int .i64 a0_2) := (blk_cell BK141.out 2).trans rfl;have hfz14_0 := blk_frozen BK141.out 0;have hfz14_1 := blk_frozen BK141.out 1;have hfz14_2 := blk_frozen BK141.out 2)|((with_reducible refine gate_callee (f := 28) rfl ?_);refine goesL_ (some 5) rfl rfl Tryd.func28 (by kernel_rfl) rfl #[.int .u64 a0_0] rfl (by (try simp only [List.map_toArray,List.map_cons,List.map_nil]);first|done|rfl|(simp only [List.length_drop,List.length_take];rfl)) ?_;(with_reducible refine (field_Supported.calls a0_0 true _ ?sidehx A2.out).mono ?_);(case sidehx => repeat (first|exact HX_.out|exact (Hx_below HX_.out HB.out)|(with_reducible refine Hx_alloc ?_ _)|(with_reducible refine Hx_drewN ?_ _)|(with_reducible refine Hx_drew ?_)));rintro e w' ⟨rfl,⟨nd,rfl⟩⟩;refine ⟨_,rfl,?_⟩))
      go_ret
      exact ⟨by first|rfl|(simp [errW_none,errW_some] <;> rfl)|(simp [*,errW_none,errW_some] <;> rfl),by repeat (first|(with_reducible first|exact HB.out|apply below_alloc|apply pw_below_drewN|apply below_drew1|refine below_set ?_ GE141.out)|exact HB.out)⟩
    ·rw [if_neg c6] at H
     have c6b0 : decide ((IntKind.u64.wrap (a0_1)) < a0_0) = false := decide_eq_false c6
     clear c6
     obtain rfl := Option.some.inj H
     go_enter Tryd.func10,Tryd.ntmps10
     go_wp2_with (first|((with_reducible refine gate_dst (N := 1) rfl ?_);refine box_event ?hg (N := 1) ?hd (cs := #[.int .u64 a0_0,.int .i64 a0_1,.int .i64 a0_2]) (t := 24) ?hr ?_;(case hd => rfl);(case hg => rfl);(case hr => first|(go_simp;done)|(go_simp;rfl));intro gb141 hg w15 hbox hb;have n0_ := Aside0.mk (below_step (by repeat (first|(with_reducible first|exact HB.out|apply below_alloc|apply pw_below_drewN|apply below_drew1)|exact HB.out)) hb);have n1_ := Aside0.mk (hbox);have n2_ := Aside0.mk ((by rw [hg];exact (below_size (by repeat (first|(with_reducible first|exact HB.out|apply below_alloc|apply pw_below_drewN|apply below_drew1)|exact HB.out))) : w.heap.size ≤ gb141));have n3_ := Aside0.mk ((by rw [hg];exact (below_size (by repeat (first|(with_reducible first|exact HB.out|apply below_alloc|apply pw_below_drewN|apply below_drew1)|exact HB.out))) : w.heap.size ≤ gb141));clear HB;have HB := n0_;have BK141 := n1_;have GW141 := n2_;have GE141 := n3_;clear n0_ n1_ n2_ n3_;clear hb hbox hg;have hcz16_0 : w15.cell? ⟨gb141,0,none⟩ = some (.int .u64 a0_0) := (blk_cell BK141.out 0).trans rfl;have hcz16_1 : w15.cell? ⟨gb141,1,none⟩ = some (.int .i64 a0_1) := (blk_cell BK141.out 1).trans rfl;have hcz16_2 : w15.cell? ⟨gb141,2,none⟩ = some (.int .i64 a0_2) := (blk_cell BK141.out 2).trans rfl;have hfz16_0 := blk_frozen BK141.out 0;have hfz16_1 := blk_frozen BK141.out 1;have hfz16_2 := blk_frozen BK141.out 2)|((with_reducible refine gate_callee (f := 28) rfl ?_);refine goesL_ (some 5) rfl rfl Tryd.func28 (by kernel_rfl) rfl #[.int .u64 a0_0] rfl (by (try simp only [List.map_toArray,List.map_cons,List.map_nil]);first|done|rfl|(simp only [List.length_drop,List.length_take];rfl)) ?_;(with_reducible refine (field_Supported.calls a0_0 true _ ?sidehx A2.out).mono ?_);(case sidehx => repeat (first|exact HX_.out|exact (Hx_below HX_.out HB.out)|(with_reducible refine Hx_alloc ?_ _)|(with_reducible refine Hx_drewN ?_ _)|(with_reducible refine Hx_drew ?_)));rintro e w' ⟨rfl,⟨nd,rfl⟩⟩;refine ⟨_,rfl,?_⟩))
     go_ret
     exact ⟨by first|rfl|(simp [errW_none,errW_some] <;> rfl)|(simp [*,errW_none,errW_some] <;> rfl),by repeat (first|(with_reducible first|exact HB.out|apply below_alloc|apply pw_below_drewN|apply below_drew1|refine below_set ?_ GE141.out)|exact HB.out)⟩
   ·rw [if_neg c5] at H
    have c5b0 : decide (a0_1 ≤ 13) = false := decide_eq_false c5
    clear c5
    obtain rfl := Option.some.inj H
    go_enter Tryd.func10,Tryd.ntmps10
    go_wp2_with (first|((with_reducible refine gate_dst (N := 1) rfl ?_);refine box_event ?hg (N := 1) ?hd (cs := #[.int .u64 a0_0,.int .i64 a0_1,.int .i64 a0_2]) (t := 24) ?hr ?_;(case hd => rfl);(case hg => rfl);(case hr => first|(go_simp;done)|(go_simp;rfl));intro gb141 hg w17 hbox hb;have n0_ := Aside0.mk (below_step (by repeat (first|(with_reducible first|exact HB.out|apply below_alloc|apply pw_below_drewN|apply below_drew1)|exact HB.out)) hb);have n1_ := Aside0.mk (hbox);have n2_ := Aside0.mk ((by rw [hg];exact (below_size (by repeat (first|(with_reducible first|exact HB.out|apply below_alloc|apply pw_below_drewN|apply below_drew1)|exact HB.out))) : w.heap.size ≤ gb141));have n3_ := Aside0.mk ((by rw [hg];exact (below_size (by repeat (first|(with_reducible first|exact HB.out|apply below_alloc|apply pw_below_drewN|apply below_drew1)|exact HB.out))) : w.heap.size ≤ gb141));clear HB;have HB := n0_;have BK141 := n1_;have GW141 := n2_;have GE141 := n3_;clear n0_ n1_ n2_ n3_;clear hb hbox hg;have hcz18_0 : w17.cell? ⟨gb141,0,none⟩ = some (.int .u64 a0_0) := (blk_cell BK141.out 0).trans rfl;have hcz18_1 : w17.cell? ⟨gb141,1,none⟩ = some (.int .i64 a0_1) := (blk_cell BK141.out 1).trans rfl;have hcz18_2 : w17.cell? ⟨gb141,2,none⟩ = some (.int .i64 a0_2) := (blk_cell BK141.out 2).trans rfl;have hfz18_0 := blk_frozen BK141.out 0;have hfz18_1 := blk_frozen BK141.out 1;have hfz18_2 := blk_frozen BK141.out 2)|((with_reducible refine gate_callee (f := 28) rfl ?_);refine goesL_ (some 5) rfl rfl Tryd.func28 (by kernel_rfl) rfl #[.int .u64 a0_0] rfl (by (try simp only [List.map_toArray,List.map_cons,List.map_nil]);first|done|rfl|(simp only [List.length_drop,List.length_take];rfl)) ?_;(with_reducible refine (field_Supported.calls a0_0 true _ ?sidehx A2.out).mono ?_);(case sidehx => repeat (first|exact HX_.out|exact (Hx_below HX_.out HB.out)|(with_reducible refine Hx_alloc ?_ _)|(with_reducible refine Hx_drewN ?_ _)|(with_reducible refine Hx_drew ?_)));rintro e w' ⟨rfl,⟨nd,rfl⟩⟩;refine ⟨_,rfl,?_⟩))
    go_ret
    exact ⟨by first|rfl|(simp [errW_none,errW_some] <;> rfl)|(simp [*,errW_none,errW_some] <;> rfl),by repeat (first|(with_reducible first|exact HB.out|apply below_alloc|apply pw_below_drewN|apply below_drew1|refine below_set ?_ GE141.out)|exact HB.out)⟩
  ·rw [if_neg c4] at H
   have c4b0 : decide (4 ≤ a0_1) = false := decide_eq_false c4
   clear c4
   obtain rfl := Option.some.inj H
   go_enter Tryd.func10,Tryd.ntmps10
   go_wp2_with (first|((with_reducible refine gate_dst (N := 1) rfl ?_);refine box_event ?hg (N := 1) ?hd (cs := #[.int .u64 a0_0,.int .i64 a0_1,.int .i64 a0_2]) (t := 24) ?hr ?_;(case hd => rfl);(case hg => rfl);(case hr => first|(go_simp;done)|(go_simp;rfl));intro gb141 hg w19 hbox hb;have n0_ := Aside0.mk (below_step (by repeat (first|(with_reducible first|exact HB.out|apply below_alloc|apply pw_below_drewN|apply below_drew1)|exact HB.out)) hb);have n1_ := Aside0.mk (hbox);have n2_ := Aside0.mk ((by rw [hg];exact (below_size (by repeat (first|(with_reducible first|exact HB.out|apply below_alloc|apply pw_below_drewN|apply below_drew1)|exact HB.out))) : w.heap.size ≤ gb141));have n3_ := Aside0.mk ((by rw [hg];exact (below_size (by repeat (first|(with_reducible first|exact HB.out|apply below_alloc|apply pw_below_drewN|apply below_drew1)|exact HB.out))) : w.heap.size ≤ gb141));clear HB;have HB := n0_;have BK141 := n1_;have GW141 := n2_;have GE141 := n3_;clear n0_ n1_ n2_ n3_;clear hb hbox hg;have hcz20_0 : w19.cell? ⟨gb141,0,none⟩ = some (.int .u64 a0_0) := (blk_cell BK141.out 0).trans rfl;have hcz20_1 : w19.cell? ⟨gb141,1,none⟩ = some (.int .i64 a0_1) := (blk_cell BK141.out 1).trans rfl;have hcz20_2 : w19.cell? ⟨gb141,2,none⟩ = some (.int .i64 a0_2) := (blk_cell BK141.out 2).trans rfl;have hfz20_0 := blk_frozen BK141.out 0;have hfz20_1 := blk_frozen BK141.out 1;have hfz20_2 := blk_frozen BK141.out 2)|((with_reducible refine gate_callee (f := 28) rfl ?_);refine goesL_ (some 5) rfl rfl Tryd.func28 (by kernel_rfl) rfl #[.int .u64 a0_0] rfl (by (try simp only [List.map_toArray,List.map_cons,List.map_nil]);first|done|rfl|(simp only [List.length_drop,List.length_take];rfl)) ?_;(with_reducible refine (field_Supported.calls a0_0 true _ ?sidehx A2.out).mono ?_);(case sidehx => repeat (first|exact HX_.out|exact (Hx_below HX_.out HB.out)|(with_reducible refine Hx_alloc ?_ _)|(with_reducible refine Hx_drewN ?_ _)|(with_reducible refine Hx_drew ?_)));rintro e w' ⟨rfl,⟨nd,rfl⟩⟩;refine ⟨_,rfl,?_⟩))
   go_ret
   exact ⟨by first|rfl|(simp [errW_none,errW_some] <;> rfl)|(simp [*,errW_none,errW_some] <;> rfl),by repeat (first|(with_reducible first|exact HB.out|apply below_alloc|apply pw_below_drewN|apply below_drew1|refine below_set ?_ GE141.out)|exact HB.out)⟩
 ·replace c3 := Bool.eq_false_iff.mpr c3
  subst c3
  have H1 : (some false) = some r := by rw [if_neg (show ¬ (false = true) by decide)] at H;exact H
  clear H
  have H := H1
  clear H1
  obtain rfl := Option.some.inj H
  go_enter Tryd.func10,Tryd.ntmps10
  go_wp2_with (first|((with_reducible refine gate_dst (N := 1) rfl ?_);refine box_event ?hg (N := 1) ?hd (cs := #[.int .u64 a0_0,.int .i64 a0_1,.int .i64 a0_2]) (t := 24) ?hr ?_;(case hd => rfl);(case hg => rfl);(case hr => first|(go_simp;done)|(go_simp;rfl));intro gb141 hg w21 hbox hb;have n0_ := Aside0.mk (below_step (by repeat (first|(with_reducible first|exact HB.out|apply below_alloc|apply pw_below_drewN|apply below_drew1)|exact HB.out)) hb);have n1_ := Aside0.mk (hbox);have n2_ := Aside0.mk ((by rw [hg];exact (below_size (by repeat (first|(with_reducible first|exact HB.out|apply below_alloc|apply pw_below_drewN|apply below_drew1)|exact HB.out))) : w.heap.size ≤ gb141));have n3_ := Aside0.mk ((by rw [hg];exact (below_size (by repeat (first|(with_reducible first|exact HB.out|apply below_alloc|apply pw_below_drewN|apply below_drew1)|exact HB.out))) : w.heap.size ≤ gb141));clear HB;have HB := n0_;have BK141 := n1_;have GW141 := n2_;have GE141 := n3_;clear n0_ n1_ n2_ n3_;clear hb hbox hg;have hcz22_0 : w21.cell? ⟨gb141,0,none⟩ = some (.int .u64 a0_0) := (blk_cell BK141.out 0).trans rfl;have hcz22_1 : w21.cell? ⟨gb141,1,none⟩ = some (.int .i64 a0_1) := (blk_cell BK141.out 1).trans rfl;have hcz22_2 : w21.cell? ⟨gb141,2,none⟩ = some (.int .i64 a0_2) := (blk_cell BK141.out 2).trans rfl;have hfz22_0 := blk_frozen BK141.out 0;have hfz22_1 := blk_frozen BK141.out 1;have hfz22_2 := blk_frozen BK141.out 2)|((with_reducible refine gate_callee (f := 28) rfl ?_);refine goesL_ (some 5) rfl rfl Tryd.func28 (by kernel_rfl) rfl #[.int .u64 a0_0] rfl (by (try simp only [List.map_toArray,List.map_cons,List.map_nil]);first|done|rfl|(simp only [List.length_drop,List.length_take];rfl)) ?_;(with_reducible refine (field_Supported.calls a0_0 false _ ?sidehx A2.out).mono ?_);(case sidehx => repeat (first|exact HX_.out|exact (Hx_below HX_.out HB.out)|(with_reducible refine Hx_alloc ?_ _)|(with_reducible refine Hx_drewN ?_ _)|(with_reducible refine Hx_drew ?_)));rintro e w' ⟨rfl,⟨nd,rfl⟩⟩;refine ⟨_,rfl,?_⟩))
  go_ret
  exact ⟨by first|rfl|(simp [errW_none,errW_some] <;> rfl)|(simp [*,errW_none,errW_some] <;> rfl),by repeat (first|(with_reducible first|exact HB.out|apply below_alloc|apply pw_below_drewN|apply below_drew1|refine below_set ?_ GE141.out)|exact HB.out)⟩
end Go.Proofs.YtakaonojfpkhnaaDoor.Pr
end
section
/- Printed by a program of this seat (the kit's printer, with the functions that were proved by hand given to it). What stands here: the functions that the statements reach, as plain functions, and that the Go code computes them. -/
namespace Go.Proofs.YtakaonojfpkhnaaDoor.Pr
open Go.RowKit Go.Proofs.YtakaonojfpkhnaaDoorW.PrintWords Go.Proofs.YtakaonojfpkhnaaDoorW.PrintLast Go.Proofs.YtakaonojfpkhnaaDoorW.PrintMore
attribute [local go_sem] max2_int min2_int max_two min_two max_three min_three max_four min_four   -- for this text's walks alone
set_option linter.unusedVariables false
set_option linter.unusedSimpArgs false

open Go.Proofs.YtakaonojfpkhnaaDoor.Hw
/-! ### params_ValidCoalition: function 12 -/
mutual
def params_ValidCoalition.j0 : Nat → List Int → Bool → Int → Int → Int → Option (Bool)
 | 0,_,_,_,_,_ => none
 | k + 1,x1,x16,x144000,x144001,x144002 => if x16 = true then (some false) else (params_ValidCoalition.l0 k x1 x1 (x1.length : Int) 0 x144000 x144001 x144002)
def params_ValidCoalition.l0 : Nat → List Int → List Int → Int → Int → Int → Int → Int → Option (Bool)
 | 0,_,_,_,_,_,_,_ => none
 | k + 1,x1,x17,x18,x19,x144000,x144001,x144002 => if x19 < x18 then (if 0 ≤ x19 then (if x19 < (x17.length : Int) then (if (rd x17 x19) < 1 then (some false) else (if (rd x17 x19) > x144001 then (some false) else (if x19 > 0 then (if 0 ≤ (wrap64 (x19 - 1)) then (if (wrap64 (x19 - 1)) < (x1.length : Int) then (if (rd x1 (wrap64 (x19 - 1))) ≥ (rd x17 x19) then (some false) else (params_ValidCoalition.l0 k x1 x17 x18 (wrap64 (x19 + 1)) x144000 x144001 x144002)) else (none)) else (none)) else (params_ValidCoalition.l0 k x1 x17 x18 (wrap64 (x19 + 1)) x144000 x144001 x144002)))) else (none)) else (none)) else (some true)
end
def params_ValidCoalition.f (k : Nat) (a0_0 : Int) (a0_1 : Int) (a0_2 : Int) (l1 : List Int) : Option (Bool) := (params_Valid.f a0_0 a0_1 a0_2).bind fun t144 => (if t144 = true then (params_ValidCoalition.j0 k l1 (decide ((l1.length : Int) > a0_2)) a0_0 a0_1 a0_2) else (params_ValidCoalition.j0 k l1 true a0_0 a0_1 a0_2))
set_option maxHeartbeats 8000000 in
set_option maxRecDepth 100000 in
theorem params_ValidCoalition.calls (k : Nat) (a0_0 : Int) (a0_1 : Int) (a0_2 : Int) (A1 : Option Addr) (c1 : Nat) (l1 : List Int) (r : Bool) (w : World) (hr1 : Kd.C (Kd.int .i64) w A1 l1.length l1) (hc1 : l1.length ≤ c1) (hx_ : Hx w) (h : params_ValidCoalition.f k a0_0 a0_1 a0_2 l1 = some r) :
  Calls Tryd.prog 12 #[.agg #[.int .u64 a0_0,.int .i64 a0_1,.int .i64 a0_2],.slice A1 l1.length c1] w fun e w' => e = .returned (.bool r) ∧ Below w.heap.size w w' := by
 have HX_ := Aside0.mk hx_
 clear hx_
 have hu24 := Tryd.underlying24
 have HR1 := Aside0.mk hr1
 have HC1 := Aside0.mk hc1
 clear hr1 hc1
 have HB := Aside0.mk (Below.refl w.heap.size w)
 have H : ((params_Valid.f a0_0 a0_1 a0_2).bind fun t144 => (if t144 = true then (params_ValidCoalition.j0 k l1 (decide ((l1.length : Int) > a0_2)) a0_0 a0_1 a0_2) else (params_ValidCoalition.j0 k l1 true a0_0 a0_1 a0_2))) = some r := h
 clear h
 have HC3 := Aside0.mk H
 clear H
 go_enter Tryd.func12,Tryd.ntmps12
 go_upto_region 1 with (first|((with_reducible refine gate_dst (N := 2) rfl ?_);(try (refine gate_guard (by rfl) ?_;dsimp only));refine box_event ?hg (N := 2) ?hd (cs := #[.int .u64 a0_0,.int .i64 a0_1,.int .i64 a0_2]) (t := 24) ?hr ?_;(case hd => rfl);(case hg => rfl);(case hr => first|(go_simp;done)|(go_simp;rfl));intro gb143 hg w4 hbox hb;have n0_ := Aside0.mk (below_step (by repeat (first|(with_reducible first|exact HB.out|apply below_alloc|apply pw_below_drewN|apply below_drew1)|exact HB.out)) hb);have n1_ := Aside0.mk (hbox);have n2_ := Aside0.mk ((by rw [hg];exact (below_size (by repeat (first|(with_reducible first|exact HB.out|apply below_alloc|apply pw_below_drewN|apply below_drew1)|exact HB.out))) : w.heap.size ≤ gb143));have n3_ := Aside0.mk ((by rw [hg];exact (below_size (by repeat (first|(with_reducible first|exact HB.out|apply below_alloc|apply pw_below_drewN|apply below_drew1)|exact HB.out))) : w.heap.size ≤ gb143));clear HB;have HB := n0_;have BK143 := n1_;have GW143 := n2_;have GE143 := n3_;clear n0_ n1_ n2_ n3_;clear hb hbox hg))
 (try simp only [Act.put,List.setIfInBounds_toArray,List.set_cons_zero,List.set_cons_succ])
 go_cut [16] (fun v16 wc => ∃ (kq : Nat) (x16_2 : Bool),v16 = .bool x16_2 ∧ Aside0 (params_ValidCoalition.j0 kq l1 x16_2 a0_0 a0_1 a0_2 = some r) ∧ Aside0 (kq ≤ k) ∧ Aside0 (wc.heap[gb143]? = some (.cells #[.int .u64 a0_0,.int .i64 a0_1,.int .i64 a0_2] 24 (0,0))) ∧ Aside0 (Below w.heap.size w wc))
 case first =>
  have H := HC3.out
  clear HC3
  replace H := Option.bind_eq_some_iff.mp H
  obtain ⟨t144,A50,H⟩ := H
  replace H : (if t144 = true then (params_ValidCoalition.j0 k l1 (decide ((l1.length : Int) > a0_2)) a0_0 a0_1 a0_2) else (params_ValidCoalition.j0 k l1 true a0_0 a0_1 a0_2)) = some r := H
  have A5 := Aside0.mk A50
  clear A50
  by_cases c6 : t144 = true
  ·subst c6
   have H1 : (params_ValidCoalition.j0 k l1 (decide ((l1.length : Int) > a0_2)) a0_0 a0_1 a0_2) = some r := by rw [if_pos rfl] at H;exact H
   clear H
   have H := H1
   clear H1
   have H' := Aside0.mk H
   clear H
   have hcz7_0 : w4.cell? ⟨gb143,0,none⟩ = some (.int .u64 a0_0) := (blk_cell BK143.out 0).trans rfl
   have hcz7_1 : w4.cell? ⟨gb143,1,none⟩ = some (.int .i64 a0_1) := (blk_cell BK143.out 1).trans rfl
   have hcz7_2 : w4.cell? ⟨gb143,2,none⟩ = some (.int .i64 a0_2) := (blk_cell BK143.out 2).trans rfl
   have hfz7_0 := blk_frozen BK143.out 0
   have hfz7_1 := blk_frozen BK143.out 1
   have hfz7_2 := blk_frozen BK143.out 2
   go_wp2_with (first|((with_reducible refine gate_callee (f := 10) rfl ?_);refine goesL_ (some 8) rfl rfl Tryd.func10 (by kernel_rfl) rfl #[.agg #[.int .u64 a0_0,.int .i64 a0_1,.int .i64 a0_2]] rfl (by (try simp only [List.map_toArray,List.map_cons,List.map_nil]);first|done|rfl|(simp only [List.length_drop,List.length_take];rfl)) ?_;(with_reducible refine (params_Valid.calls a0_0 a0_1 a0_2 true _ ?sidehx A5.out).mono ?_);(case sidehx => repeat (first|exact HX_.out|exact (Hx_below HX_.out HB.out)|(with_reducible refine Hx_alloc ?_ _)|(with_reducible refine Hx_drewN ?_ _)|(with_reducible refine Hx_drew ?_)));rintro e w8 ⟨rfl,hb⟩;refine ⟨_,rfl,?_⟩;have n0_ := Aside0.mk (blk_below (g := gb143) (o := .cells #[.int .u64 a0_0,.int .i64 a0_1,.int .i64 a0_2] 24 (0,0)) (by (with_reducible repeat (first|refine blk_drewN ?_ _|refine blk_drew ?_|refine blk_alloc ?_ _));exact BK143.out) hb);have n1_ := Aside0.mk (below_step (by repeat (first|(with_reducible first|exact HB.out|apply below_alloc|apply pw_below_drewN|apply below_drew1|refine below_set ?_ GE143.out)|exact HB.out)) hb);clear BK143;clear HB;have BK143 := n0_;have HB := n1_;clear n0_ n1_;(try clear hb);(try clear hb2);(try clear hk);(try clear hi);have hcz9_0 : w8.cell? ⟨gb143,0,none⟩ = some (.int .u64 a0_0) := (blk_cell BK143.out 0).trans rfl;have hcz9_1 : w8.cell? ⟨gb143,1,none⟩ = some (.int .i64 a0_1) := (blk_cell BK143.out 1).trans rfl;have hcz9_2 : w8.cell? ⟨gb143,2,none⟩ = some (.int .i64 a0_2) := (blk_cell BK143.out 2).trans rfl;have hfz9_0 := blk_frozen BK143.out 0;have hfz9_1 := blk_frozen BK143.out 1;have hfz9_2 := blk_frozen BK143.out 2))
   go_meet
   case rel => exact ⟨_,(decide ((l1.length : Int) > a0_2)),(by first|rfl|(simp;done)|(simp [*];done)),H',⟨by first|omega|exact Nat.le_refl _⟩,⟨by (with_reducible repeat (first|refine blk_drewN ?_ _|refine blk_drew ?_|refine blk_alloc ?_ _));exact BK143.out⟩,⟨by repeat (first|(with_reducible first|exact HB.out|apply below_alloc|apply pw_below_drewN|apply below_drew1|refine below_set ?_ GE143.out)|exact HB.out)⟩⟩
  ·replace c6 := Bool.eq_false_iff.mpr c6
   subst c6
   have H1 : (params_ValidCoalition.j0 k l1 true a0_0 a0_1 a0_2) = some r := by rw [if_neg (show ¬ (false = true) by decide)] at H;exact H
   clear H
   have H := H1
   clear H1
   have H' := Aside0.mk H
   clear H
   have hcz10_0 : w4.cell? ⟨gb143,0,none⟩ = some (.int .u64 a0_0) := (blk_cell BK143.out 0).trans rfl
   have hcz10_1 : w4.cell? ⟨gb143,1,none⟩ = some (.int .i64 a0_1) := (blk_cell BK143.out 1).trans rfl
   have hcz10_2 : w4.cell? ⟨gb143,2,none⟩ = some (.int .i64 a0_2) := (blk_cell BK143.out 2).trans rfl
   have hfz10_0 := blk_frozen BK143.out 0
   have hfz10_1 := blk_frozen BK143.out 1
   have hfz10_2 := blk_frozen BK143.out 2
   go_wp2_with (first|((with_reducible refine gate_callee (f := 10) rfl ?_);refine goesL_ (some 8) rfl rfl Tryd.func10 (by kernel_rfl) rfl #[.agg #[.int .u64 a0_0,.int .i64 a0_1,.int .i64 a0_2]] rfl (by (try simp only [List.map_toArray,List.map_cons,List.map_nil]);first|done|rfl|(simp only [List.length_drop,List.length_take];rfl)) ?_;(with_reducible refine (params_Valid.calls a0_0 a0_1 a0_2 false _ ?sidehx A5.out).mono ?_);(case sidehx => repeat (first|exact HX_.out|exact (Hx_below HX_.out HB.out)|(with_reducible refine Hx_alloc ?_ _)|(with_reducible refine Hx_drewN ?_ _)|(with_reducible refine Hx_drew ?_)));rintro e w11 ⟨rfl,hb⟩;refine ⟨_,rfl,?_⟩;have n0_ := Aside0.mk (blk_below (g := gb143) (o := .cells #[.int .u64 a0_0,.int .i64 a0_1,.int .i64 a0_2] 24 (0,0)) (by (with_reducible repeat (first|refine blk_drewN ?_ _|refine blk_drew ?_|refine blk_alloc ?_ _));exact BK143.out) hb);have n1_ := Aside0.mk (below_step (by repeat (first|(with_reducible first|exact HB.out|apply below_alloc|apply pw_below_drewN|apply below_drew1|refine below_set ?_ GE143.out)|exact HB.out)) hb);clear BK143;clear HB;have BK143 := n0_;have HB := n1_;clear n0_ n1_;(try clear hb);(try clear hb2);(try clear hk);(try clear hi)))
   go_meet
   case rel => exact ⟨_,(true),(by first|rfl|(simp;done)|(simp [*];done)),H',⟨by first|omega|exact Nat.le_refl _⟩,⟨by (with_reducible repeat (first|refine blk_drewN ?_ _|refine blk_drew ?_|refine blk_alloc ?_ _));exact BK143.out⟩,⟨by repeat (first|(with_reducible first|exact HB.out|apply below_alloc|apply pw_below_drewN|apply below_drew1|refine below_set ?_ GE143.out)|exact HB.out)⟩⟩
 case rest =>
  clear HC3
  try clear c1
  try clear p2
  try clear c6
  try clear c10
  try clear hcz10_0
  try clear hcz10_1
  try clear hcz10_2
  try clear hcz7_0
  try clear hcz7_1
  try clear hcz7_2
  try clear hcz9_0
  try clear hcz9_1
  try clear hcz9_2
  try clear hfz10_0
  try clear hfz10_1
  try clear hfz10_2
  try clear hfz7_0
  try clear hfz7_1
  try clear hfz7_2
  try clear hfz9_0
  try clear hfz9_1
  try clear hfz9_2
  obtain ⟨kq,x16_2,rfl,HA,HJ2,BK143,HB⟩ := hcut
  cases kq with
  | zero => exact absurd HA.out (by simp [params_ValidCoalition.j0])
  | succ kj2 =>
   have H := HA.out
   clear HA
   simp only [params_ValidCoalition.j0] at H
   by_cases c12 : x16_2 = true
   ·subst c12
    have H1 : (some false) = some r := by rw [if_pos rfl] at H;exact H
    clear H
    have H := H1
    clear H1
    obtain rfl := Option.some.inj H
    go_wp2
    go_ret
    exact ⟨by first|rfl|(simp [errW_none,errW_some] <;> rfl)|(simp [*,errW_none,errW_some] <;> rfl),by repeat (first|(with_reducible first|exact HB.out|apply below_alloc|apply pw_below_drewN|apply below_drew1|refine below_set ?_ GE143.out)|exact HB.out)⟩
   ·replace c12 := Bool.eq_false_iff.mpr c12
    subst c12
    have H1 : (params_ValidCoalition.l0 kj2 l1 l1 (l1.length : Int) 0 a0_0 a0_1 a0_2) = some r := by rw [if_neg (show ¬ (false = true) by decide)] at H;exact H
    clear H
    have H := H1
    clear H1
    have H' := Aside0.mk H
    clear H
    go_wp2
    go_loopg [19] kj2 (fun kq v19 w' => ∃ (x19_2 : Int),v19 = .int .i64 x19_2 ∧ Aside0 (params_ValidCoalition.l0 kq l1 l1 (l1.length : Int) x19_2 a0_0 a0_1 a0_2 = some r) ∧ Aside0 (kq ≤ kj2) ∧ Aside0 (w'.heap[gb143]? = some (.cells #[.int .u64 a0_0,.int .i64 a0_1,.int .i64 a0_2] 24 (0,0))) ∧ Aside0 (Below w.heap.size w w'))
    case atStart => exact ⟨(0),(by first|rfl|(simp;done)|(simp [*];done)),H',⟨Nat.le_refl _⟩,⟨by (with_reducible repeat (first|refine blk_drewN ?_ _|refine blk_drew ?_|refine blk_alloc ?_ _));exact BK143.out⟩,⟨by repeat (first|(with_reducible first|exact HB.out|apply below_alloc|apply pw_below_drewN|apply below_drew1|refine below_set ?_ GE143.out)|exact HB.out)⟩⟩
    case round =>
     clear H'
     try clear c1
     try clear p2
     try clear c6
     try clear c10
     try clear c12
     try clear hcz10_0
     try clear hcz10_1
     try clear hcz10_2
     try clear hcz7_0
     try clear hcz7_1
     try clear hcz7_2
     try clear hcz9_0
     try clear hcz9_1
     try clear hcz9_2
     try clear hfz10_0
     try clear hfz10_1
     try clear hfz10_2
     try clear hfz7_0
     try clear hfz7_1
     try clear hfz7_2
     try clear hfz9_0
     try clear hfz9_1
     try clear hfz9_2
     try clear p2
     obtain ⟨x19_2,rfl,HA,HK2,BK143,HB⟩ := hrel
     cases gk with
     | zero => exact absurd HA.out (by simp [params_ValidCoalition.l0])
     | succ k2 =>
      have H := HA.out
      clear HA
      simp only [params_ValidCoalition.l0] at H
      by_cases c13 : x19_2 < (l1.length : Int)
      ·rw [if_pos c13] at H
       have c13b0 : decide (x19_2 < (l1.length : Int)) = true := decide_eq_true c13
       clear c13
       by_cases c14 : 0 ≤ x19_2
       ·rw [if_pos c14] at H
        have c14b0 : decide (0 ≤ x19_2) = true := decide_eq_true c14
        clear c14
        by_cases c15 : x19_2 < (l1.length : Int)
        ·rw [if_pos c15] at H
         have c15b0 : decide (x19_2 < (l1.length : Int)) = true := decide_eq_true c15
         clear c15
         by_cases c16 : (rd l1 x19_2) < 1
         ·rw [if_pos c16] at H
          have c16b0 : decide ((rd l1 x19_2) < 1) = true := decide_eq_true c16
          clear c16
          obtain rfl := Option.some.inj H
          have p145 : 0 ≤ (x19_2 : Int) := of_decide_eq_true (by first|(with_reducible assumption)|assumption)
          have q145 : x19_2 < (l1.length : Int) := of_decide_eq_true (by first|(with_reducible assumption)|assumption)
          obtain ⟨ad145,e145,hx145_0⟩ := Kd.at_int HR1.out x19_2 p145 q145
          cases e145
          replace hx145_0 := (HB.out.cell (World.block_lt_of_cell? w _ hx145_0)).trans hx145_0
          replace p145 := eq_true p145
          replace q145 := eq_true q145
          go_wp2
          go_ret
          exact ⟨by first|rfl|(simp [errW_none,errW_some] <;> rfl)|(simp [*,errW_none,errW_some] <;> rfl),by repeat (first|(with_reducible first|exact HB.out|apply below_alloc|apply pw_below_drewN|apply below_drew1|refine below_set ?_ GE143.out)|exact HB.out)⟩
         ·rw [if_neg c16] at H
          have c16b0 : decide ((rd l1 x19_2) < 1) = false := decide_eq_false c16
          clear c16
          by_cases c17 : (rd l1 x19_2) > a0_1
          ·rw [if_pos c17] at H
           have c17b0 : decide (a0_1 < (rd l1 x19_2)) = true := decide_eq_true c17
           clear c17
           obtain rfl := Option.some.inj H
           have p145 : 0 ≤ (x19_2 : Int) := of_decide_eq_true (by first|(with_reducible assumption)|assumption)
           have q145 : x19_2 < (l1.length : Int) := of_decide_eq_true (by first|(with_reducible assumption)|assumption)
           obtain ⟨ad145,e145,hx145_0⟩ := Kd.at_int HR1.out x19_2 p145 q145
           cases e145
           replace hx145_0 := (HB.out.cell (World.block_lt_of_cell? w _ hx145_0)).trans hx145_0
           replace p145 := eq_true p145
           replace q145 := eq_true q145
           have hcz18_0 : wr.cell? ⟨gb143,0,none⟩ = some (.int .u64 a0_0) := (blk_cell BK143.out 0).trans rfl
           have hcz18_1 : wr.cell? ⟨gb143,1,none⟩ = some (.int .i64 a0_1) := (blk_cell BK143.out 1).trans rfl
           have hcz18_2 : wr.cell? ⟨gb143,2,none⟩ = some (.int .i64 a0_2) := (blk_cell BK143.out 2).trans rfl
           have hfz18_0 := blk_frozen BK143.out 0
           have hfz18_1 := blk_frozen BK143.out 1
           have hfz18_2 := blk_frozen BK143.out 2
           go_wp2
           go_ret
           exact ⟨by first|rfl|(simp [errW_none,errW_some] <;> rfl)|(simp [*,errW_none,errW_some] <;> rfl),by repeat (first|(with_reducible first|exact HB.out|apply below_alloc|apply pw_below_drewN|apply below_drew1|refine below_set ?_ GE143.out)|exact HB.out)⟩
          ·rw [if_neg c17] at H
           have c17b0 : decide (a0_1 < (rd l1 x19_2)) = false := decide_eq_false c17
           clear c17
           by_cases c19 : x19_2 > 0
           ·rw [if_pos c19] at H
            have c19b0 : decide (0 < x19_2) = true := decide_eq_true c19
            clear c19
            obtain ⟨ji20,hji20⟩ : ∃ j_ : Int,(wrap64 (x19_2 - 1)) = j_ := ⟨_,rfl⟩
            replace H : (if 0 ≤ (ji20) then (if (ji20) < (l1.length : Int) then (if (rd l1 (ji20)) ≥ (rd l1 x19_2) then (some false) else (params_ValidCoalition.l0 k2 l1 l1 (l1.length : Int) (wrap64 (x19_2 + 1)) a0_0 a0_1 a0_2)) else (none)) else (none)) = some r := by first|(rw [hji20] at H;exact H)|(simp only [hji20] at H ⊢;exact H)
            have hji20w : (IntKind.i64.wrap (x19_2 - 1)) = ji20 := (i64_w _).trans hji20
            by_cases c21 : 0 ≤ (ji20)
            ·rw [if_pos c21] at H
             have c21b0 : decide (0 ≤ (ji20)) = true := decide_eq_true c21
             clear c21
             by_cases c22 : (ji20) < (l1.length : Int)
             ·rw [if_pos c22] at H
              have c22b0 : decide ((ji20) < (l1.length : Int)) = true := decide_eq_true c22
              clear c22
              by_cases c23 : (rd l1 (ji20)) ≥ (rd l1 x19_2)
              ·rw [if_pos c23] at H
               have c23b0 : decide ((rd l1 x19_2) ≤ (rd l1 (ji20))) = true := decide_eq_true c23
               clear c23
               obtain rfl := Option.some.inj H
               have p145 : 0 ≤ (x19_2 : Int) := of_decide_eq_true (by first|(with_reducible assumption)|assumption)
               have q145 : x19_2 < (l1.length : Int) := of_decide_eq_true (by first|(with_reducible assumption)|assumption)
               obtain ⟨ad145,e145,hx145_0⟩ := Kd.at_int HR1.out x19_2 p145 q145
               cases e145
               replace hx145_0 := (HB.out.cell (World.block_lt_of_cell? w _ hx145_0)).trans hx145_0
               replace p145 := eq_true p145
               replace q145 := eq_true q145
               have hcz24_0 : wr.cell? ⟨gb143,0,none⟩ = some (.int .u64 a0_0) := (blk_cell BK143.out 0).trans rfl
               have hcz24_1 : wr.cell? ⟨gb143,1,none⟩ = some (.int .i64 a0_1) := (blk_cell BK143.out 1).trans rfl
               have hcz24_2 : wr.cell? ⟨gb143,2,none⟩ = some (.int .i64 a0_2) := (blk_cell BK143.out 2).trans rfl
               have hfz24_0 := blk_frozen BK143.out 0
               have hfz24_1 := blk_frozen BK143.out 1
               have hfz24_2 := blk_frozen BK143.out 2
               have p146 : 0 ≤ ((ji20) : Int) := of_decide_eq_true (by first|(with_reducible assumption)|assumption)
               have q146 : (ji20) < (l1.length : Int) := of_decide_eq_true (by first|(with_reducible assumption)|assumption)
               obtain ⟨ad146,e146,hx146_0⟩ := Kd.at_int HR1.out (ji20) p146 q146
               obtain rfl : ad145 = ad146 := (by injection e146)
               replace hx146_0 := (HB.out.cell (World.block_lt_of_cell? w _ hx146_0)).trans hx146_0
               replace p146 := eq_true p146
               replace q146 := eq_true q146
               go_wp2
               go_ret
               exact ⟨by first|rfl|(simp [errW_none,errW_some] <;> rfl)|(simp only [← hji20];first|rfl|(simp [errW_none,errW_some] <;> rfl))|(simp [*,errW_none,errW_some] <;> rfl),by repeat (first|(with_reducible first|exact HB.out|apply below_alloc|apply pw_below_drewN|apply below_drew1|refine below_set ?_ GE143.out)|exact HB.out)⟩
              ·rw [if_neg c23] at H
               have c23b0 : decide ((rd l1 x19_2) ≤ (rd l1 (ji20))) = false := decide_eq_false c23
               clear c23
               have H' := Aside0.mk H
               clear H
               have p145 : 0 ≤ (x19_2 : Int) := of_decide_eq_true (by first|(with_reducible assumption)|assumption)
               have q145 : x19_2 < (l1.length : Int) := of_decide_eq_true (by first|(with_reducible assumption)|assumption)
               obtain ⟨ad145,e145,hx145_0⟩ := Kd.at_int HR1.out x19_2 p145 q145
               cases e145
               replace hx145_0 := (HB.out.cell (World.block_lt_of_cell? w _ hx145_0)).trans hx145_0
               replace p145 := eq_true p145
               replace q145 := eq_true q145
               have hcz25_0 : wr.cell? ⟨gb143,0,none⟩ = some (.int .u64 a0_0) := (blk_cell BK143.out 0).trans rfl
               have hcz25_1 : wr.cell? ⟨gb143,1,none⟩ = some (.int .i64 a0_1) := (blk_cell BK143.out 1).trans rfl
               have hcz25_2 : wr.cell? ⟨gb143,2,none⟩ = some (.int .i64 a0_2) := (blk_cell BK143.out 2).trans rfl
               have hfz25_0 := blk_frozen BK143.out 0
               have hfz25_1 := blk_frozen BK143.out 1
               have hfz25_2 := blk_frozen BK143.out 2
               have p146 : 0 ≤ ((ji20) : Int) := of_decide_eq_true (by first|(with_reducible assumption)|assumption)
               have q146 : (ji20) < (l1.length : Int) := of_decide_eq_true (by first|(with_reducible assumption)|assumption)
               obtain ⟨ad146,e146,hx146_0⟩ := Kd.at_int HR1.out (ji20) p146 q146
               obtain rfl : ad145 = ad146 := (by injection e146)
               replace hx146_0 := (HB.out.cell (World.block_lt_of_cell? w _ hx146_0)).trans hx146_0
               replace p146 := eq_true p146
               replace q146 := eq_true q146
               go_wp2
               go_roundg k2
               case measure => have := HJ2.out;have := HK2.out;omega
               case rel => exact ⟨(wrap64 (x19_2 + 1)),(by first|rfl|(simp;done)|(simp [*];done)),H',⟨by have := HJ2.out;have := HK2.out;omega⟩,⟨by (with_reducible repeat (first|refine blk_drewN ?_ _|refine blk_drew ?_|refine blk_alloc ?_ _));exact BK143.out⟩,⟨by repeat (first|(with_reducible first|exact HB.out|apply below_alloc|apply pw_below_drewN|apply below_drew1|refine below_set ?_ GE143.out)|exact HB.out)⟩⟩
             ·rw [if_neg c22] at H
              exact absurd H (by simp)
            ·rw [if_neg c21] at H
             exact absurd H (by simp)
           ·rw [if_neg c19] at H
            have c19b0 : decide (0 < x19_2) = false := decide_eq_false c19
            clear c19
            have H' := Aside0.mk H
            clear H
            have p145 : 0 ≤ (x19_2 : Int) := of_decide_eq_true (by first|(with_reducible assumption)|assumption)
            have q145 : x19_2 < (l1.length : Int) := of_decide_eq_true (by first|(with_reducible assumption)|assumption)
            obtain ⟨ad145,e145,hx145_0⟩ := Kd.at_int HR1.out x19_2 p145 q145
            cases e145
            replace hx145_0 := (HB.out.cell (World.block_lt_of_cell? w _ hx145_0)).trans hx145_0
            replace p145 := eq_true p145
            replace q145 := eq_true q145
            have hcz26_0 : wr.cell? ⟨gb143,0,none⟩ = some (.int .u64 a0_0) := (blk_cell BK143.out 0).trans rfl
            have hcz26_1 : wr.cell? ⟨gb143,1,none⟩ = some (.int .i64 a0_1) := (blk_cell BK143.out 1).trans rfl
            have hcz26_2 : wr.cell? ⟨gb143,2,none⟩ = some (.int .i64 a0_2) := (blk_cell BK143.out 2).trans rfl
            have hfz26_0 := blk_frozen BK143.out 0
            have hfz26_1 := blk_frozen BK143.out 1
            have hfz26_2 := blk_frozen BK143.out 2
            go_wp2
            go_roundg k2
            case measure => have := HJ2.out;have := HK2.out;omega
            case rel => exact ⟨(wrap64 (x19_2 + 1)),(by first|rfl|(simp;done)|(simp [*];done)),H',⟨by have := HJ2.out;have := HK2.out;omega⟩,⟨by (with_reducible repeat (first|refine blk_drewN ?_ _|refine blk_drew ?_|refine blk_alloc ?_ _));exact BK143.out⟩,⟨by repeat (first|(with_reducible first|exact HB.out|apply below_alloc|apply pw_below_drewN|apply below_drew1|refine below_set ?_ GE143.out)|exact HB.out)⟩⟩
        ·rw [if_neg c15] at H
         exact absurd H (by simp)
       ·rw [if_neg c14] at H
        exact absurd H (by simp)
      ·rw [if_neg c13] at H
       have c13b0 : decide (x19_2 < (l1.length : Int)) = false := decide_eq_false c13
       clear c13
       obtain rfl := Option.some.inj H
       go_wp2
       go_ret
       exact ⟨by first|rfl|(simp [errW_none,errW_some] <;> rfl)|(simp [*,errW_none,errW_some] <;> rfl),by repeat (first|(with_reducible first|exact HB.out|apply below_alloc|apply pw_below_drewN|apply below_drew1|refine below_set ?_ GE143.out)|exact HB.out)⟩
-- NOT PRINTED: function 47 (api_Deviation_47)

-- NOT PRINTED: function 30 (api_Deviation_30)

-- NOT PRINTED: function 48 (slices_IndexFunc_uint64_uint64)

-- NOT PRINTED: function 33 (slices_ContainsFunc_uint64_uint64)

end Go.Proofs.YtakaonojfpkhnaaDoor.Pr
end
section
/-
  Valid and ValidCoalition of package params, plainly.
-/
namespace Go.Proofs.YtakaonojfpkhnaaDoor.E
open Go.RowKit Go.Proofs.YtakaonojfpkhnaaDoor.Pr Go.Proofs.YtakaonojfpkhnaaDoor.Hw Go.Proofs.YtakaonojfpkhnaaDoor.Pl Go.Proofs.YtakaonojfpkhnaaDoorW.PrintWords Go.Proofs.YtakaonojfpkhnaaDoorW.PrintLast Go.Proofs.YtakaonojfpkhnaaDoorW.PrintMore
set_option linter.unusedVariables false
set_option linter.unusedSimpArgs false

/-- A loop that asks one thing of each index. -/
theorem allQ {F : Nat → Int → Option Bool} {n : Nat} {Q : Nat → Prop} [DecidablePred Q] {e : Bool} (hend : Ev (fun k => F k (n : Int)) e) (hyes : ∀ i, i < n → Q i → ∀ r, Ev (fun k => F k ((i + 1 : Nat) : Int)) r → Ev (fun k => F k (i : Int)) r)
    (hno : ∀ i, i < n → ¬ Q i → Ev (fun k => F k (i : Int)) false) (r : Bool) (hr : r = true ↔ ((∀ i, i < n → Q i) ∧ e = true)) : Ev (fun k => F k ((0 : Nat) : Int)) r := by
  by_cases hall : ∀ i, i < n → Q i
  · have : r = e := by
      cases e with
      | true => exact hr.2 ⟨hall, rfl⟩
      | false => exact Bool.eq_false_iff.mpr fun h => by have := (hr.1 h).2; cases this
    rw [this]
    exact up (Q := fun i => Ev (fun k => F k (i : Int)) e) (n := n) hend fun i hi h => hyes i hi (hall i hi) e h
  · have hf : r = false := Bool.eq_false_iff.mpr fun h => hall (hr.1 h).1
    rw [hf]
    obtain ⟨i, hi, hq⟩ : ∃ i, i < n ∧ ¬ Q i := Classical.byContradiction fun h => hall fun i hi => Classical.byContradiction fun hq => h ⟨i, hi, hq⟩
    refine up (Q := fun i => Ev (fun k => F k (i : Int)) false) (n := i) (hno i hi hq) fun j hj h => ?_
    by_cases hqj : Q j
    · exact hyes j (by omega) hqj false h
    · exact hno j (by omega) hqj
def val12B (p N T : Int) : Bool := supB p && decide (4 ≤ N ∧ N ≤ 13 ∧ N < p ∧ 1 ≤ T ∧ T < N ∧ 3 * T < N)
theorem expL_sup (p : Int) : (expL p expT != 0) = supB p := by
  unfold expT supB
  simp only [expL]
  repeat (split; · next h => subst h; decide)
  simp only [*, decide_false, Bool.or_false]
  rfl
theorem supP_eq (p : Int) : field_Supported.f p = some (supB p) := by
  unfold field_Supported.f field_Exponent.f
  rw [Option.bind_some, expL_sup]
theorem valP_ev (p N T : Int) : Ev (fun _ => params_Valid.f p N T) (val12B p N T) := by
  unfold params_Valid.f
  refine ev_if (A := fun _ => field_Supported.f p) (Ev.congr (fun _ => supP_eq p) (Ev.now _)) (fun h => ?_) (fun h => ?_)
  · unfold val12B
    rw [h, Bool.true_and]
    refine Ev.congr (fun _ => ?_) (Ev.now _)
    by_cases h1 : 4 ≤ N
    · rw [if_pos h1]
      by_cases h2 : N ≤ 13
      · rw [if_pos h2, wrapU_id (by omega) (by omega)]
        by_cases h3 : N < p
        · rw [if_pos h3]
          by_cases h4 : 1 ≤ T
          · rw [if_pos h4]
            by_cases h5 : T < N
            · rw [if_pos h5, w64' (by omega) (by omega)]
              by_cases h6 : 3 * T < N
              · rw [decide_eq_true h6, decide_eq_true ⟨h1, h2, h3, h4, h5, h6⟩]
              · rw [decide_eq_false h6, decide_eq_false fun h => h6 h.2.2.2.2.2]
            · rw [if_neg h5, decide_eq_false fun h => h5 h.2.2.2.2.1]
          · rw [if_neg h4, decide_eq_false fun h => h4 h.2.2.2.1]
        · rw [if_neg h3, decide_eq_false fun h => h3 h.2.2.1]
      · rw [if_neg h2, decide_eq_false fun h => h2 h.2.1]
    · rw [if_neg h1, decide_eq_false fun h => h1 h.1]
  · have : val12B p N T = false := by unfold val12B; rw [h]; rfl
    rw [this]; exact Ev.now _
/-- Increasing numbers of parties. -/
def IncAt (N : Int) (l : List Int) (i : Nat) : Prop := 1 ≤ l.getD i 0 ∧ l.getD i 0 ≤ N ∧ (i = 0 ∨ l.getD (i - 1) 0 < l.getD i 0)
instance (N : Int) (l : List Int) : DecidablePred (IncAt N l) := fun i => by unfold IncAt; infer_instance
def incB (N : Int) (l : List Int) : Bool := decide (∀ i, i < l.length → IncAt N l i)
def coaB (p N T : Int) (l : List Int) : Bool := val12B p N T && (decide ((l.length : Int) ≤ T) && incB N l)
theorem coaP_ev (p N T : Int) (l : List Int) : Ev (fun k => params_ValidCoalition.f k p N T l) (coaB p N T l) := by
  unfold params_ValidCoalition.f
  have hno : ∀ r, r = false → Ev (fun k => params_ValidCoalition.j0 k l true p N T) r := fun r hr => by
    subst hr
    refine Ev.step (fun k => ?_) (Ev.now _)
    simp only [params_ValidCoalition.j0]
    rw [if_pos trivial]
  refine ev_if (valP_ev p N T) (fun h => ?_) (fun h => hno _ (by unfold coaB; rw [h]; rfl))
  unfold coaB
  rw [h, Bool.true_and]
  unfold val12B at h
  rw [Bool.and_eq_true, decide_eq_true_eq] at h
  obtain ⟨_, a1, a2, a3, a4, a5, a6⟩ := h
  by_cases hl : (l.length : Int) > T
  · rw [decide_eq_true hl]
    exact hno _ (by rw [decide_eq_false (by omega)]; rfl)
  · rw [decide_eq_false hl, decide_eq_true (by omega), Bool.true_and]
    refine Ev.step (f := fun k => params_ValidCoalition.l0 k l l (l.length : Int) ((0 : Nat) : Int) p N T) (fun k => ?_) ?_
    · simp only [params_ValidCoalition.j0]
      rw [if_neg (by simp)]; rfl
    · refine allQ (F := fun k i => params_ValidCoalition.l0 k l l (l.length : Int) i p N T) (n := l.length) (Q := IncAt N l) (e := true) ?_ (fun i hi hq r h => ?_) (fun i hi hq => ?_) (incB N l) (by unfold incB; rw [decide_eq_true_iff]; exact ⟨fun h => ⟨h, rfl⟩, fun h => h.1⟩)
      · refine Ev.step (fun k => ?_) (Ev.now _)
        simp only [params_ValidCoalition.l0]
        rw [if_neg (by omega)]
      · obtain ⟨q1, q2, q3⟩ := hq
        refine Ev.step (fun k => ?_) h
        simp only [params_ValidCoalition.l0]
        rw [if_pos (by omega), if_pos (by omega), if_pos (by omega), rd_nat, if_neg (by omega), if_neg (by omega), wnat (by omega)]
        by_cases h0 : i = 0
        · rw [if_neg (by omega)]
        · rw [if_pos (by omega), w64' (n := (i : Int) - 1) (by omega) (by omega), if_pos (by omega), if_pos (by omega), show (i : Int) - 1 = ((i - 1 : Nat) : Int) from by omega, rd_nat, if_neg (by have := q3.resolve_left h0; omega)]
      · refine Ev.step (fun k => ?_) (Ev.now _)
        simp only [params_ValidCoalition.l0]
        rw [if_pos (by omega), if_pos (by omega), if_pos (by omega), rd_nat]
        by_cases q1 : l.getD i 0 < 1
        · rw [if_pos q1]
        · rw [if_neg q1]
          by_cases q2 : l.getD i 0 > N
          · rw [if_pos q2]
          · have h0 : i ≠ 0 := fun e => hq ⟨by omega, by omega, .inl e⟩
            rw [if_neg q2, if_pos (by omega), w64' (n := (i : Int) - 1) (by omega) (by omega), if_pos (by omega), if_pos (by omega), show (i : Int) - 1 = ((i - 1 : Nat) : Int) from by omega, rd_nat, if_pos (Int.not_lt.1 fun h => hq ⟨by omega, by omega, .inr h⟩)]
end Go.Proofs.YtakaonojfpkhnaaDoor.E
end
section
/-
  HonestParties of package params, proved by hand.
-/
namespace Go.Proofs.YtakaonojfpkhnaaDoor.Hw
open Go.RowKit Go.Proofs.YtakaonojfpkhnaaDoor.Pr Go.Proofs.YtakaonojfpkhnaaDoorW.PrintWords Go.Proofs.YtakaonojfpkhnaaDoorW.PrintLast Go.Proofs.YtakaonojfpkhnaaDoorW.PrintMore Go.Proofs.YtakaonojfpkhnaaDoor.E
set_option linter.unusedVariables false
set_option linter.unusedSimpArgs false

theorem hon_skip {bad : List Int} {n : Nat} {k : Int} (h : k ∈ bad) : honL bad (n + 1) k = honL bad n (k + 1) := by unfold honL; rw [runL, List.filter_cons_of_neg (by simpa using h)]
theorem hon_more {bad : List Int} {n : Nat} {k : Int} (h : k ∉ bad) : honL bad (n + 1) k = k :: honL bad n (k + 1) := by unfold honL; rw [runL, List.filter_cons_of_pos (by simpa using h)]
set_option maxHeartbeats 4000000 in
set_option maxRecDepth 100000 in
theorem hon_walk (p : Int) (N : Nat) (T : Int) (A : Option Addr) (c : Nat) (l : List Int) (w : World) (hr : Kd.C (Kd.int .i64) w A l.length l) (hc : l.length ≤ c) (hl : l.length ≤ 1000) (hx : ∀ i : Nat, i < l.length → 0 ≤ rd l (i : Int) ∧ rd l (i : Int) < 14) (hN : N ≤ 13) :
    Calls Tryd.prog 17 #[.agg #[.int .u64 p, .int .i64 (N : Int), .int .i64 T], .slice A l.length c] w fun e w' => ∃ v0_ : Value, e = .returned (v0_) ∧ Kd.R (Kd.int .i64) 3 w' w.heap.size (fun _ => True) v0_ (honL l N 1) ∧ Below w.heap.size w w' := by
  have HR := Aside0.mk hr
  have HX := Aside0.mk hx
  have HC := Aside0.mk hc
  have HL := Aside0.mk hl
  have hz := (zero_of_info (P := Tryd.prog) (t := 54) (v := .agg (boolC (markL [])).toArray) (n := 14) (by kernel_rfl)).1
  have hu := Tryd.underlying54
  have hu2 := Tryd.underlying24
  have hsz : (Tryd.prog.info? 54).map (·.size) = some (boolC (markL l)).toArray.size := by rw [infoA, List.size_toArray, boolC_length, markL_length]
  have HSZ := Aside0.mk hsz
  clear hr hx hc hl hsz
  go_enter Tryd.func17, Tryd.ntmps17
  go_wp2_with (first
    | ((with_reducible refine gate_dst (N := 2) rfl ?_); refine box_event ?hg (N := 2) ?hd (cs := #[.int .u64 p, .int .i64 (N : Int), .int .i64 T]) (t := 24) ?hr ?_; (case hd => rfl); (case hg => rfl); (case hr => first | (go_simp; done) | (go_simp; rfl)); intro gb hgb w4 hbox hb4; have GB := Aside0.mk hgb; have BK4 := Aside0.mk hbox; have HB4 := Aside0.mk hb4; clear hbox hb4 hgb)
    | (go_at_call 38; (refine (members_walk A c l _ (Kd.C_below HR.out HB4.out) HC.out HL.out HX.out).mono ?_); rintro e w5 ⟨rfl, hb5⟩; have BK5 := Aside0.mk (blk_below BK4.out hb5); have HB5 := Aside0.mk (below_step HB4.out hb5); clear hb5)
    | ((with_reducible refine gate_store (p := 5) rfl ?_); refine st_row rfl 54 (.tmp 5) (.tmp 9) rfl w5.heap.size (boolC (markL l)).toArray (by rfl) (by rfl) 54 (boolC (markL [])).toArray (blk_new w5 _) HSZ.out (by rw [List.size_toArray, List.size_toArray, boolC_length, boolC_length, markL_length, markL_length]) (boolC_one _) ?_; intro w6 hb6 hbw hbo; have BK6 := Aside0.mk (hbo gb _ (by have := blk_lt BK5.out; omega) (blk_alloc BK5.out _)); have HB6 := Aside0.mk (hbw _ _ (below_size HB5.out) (below_alloc HB5.out _)); have HM6 := Aside0.mk hb6; clear hb6 hbw hbo))
  obtain ⟨g, hg⟩ : ∃ y, y = w5.heap.size := ⟨_, rfl⟩
  rw [← hg] at HM6 ⊢
  have HG := Aside0.mk (show w.heap.size ≤ g by rw [hg]; exact below_size HB5.out)
  clear hg hz BK4 BK5 HB4 HB5 GB
  go_loopg [6, 7] N (fun kq v6 v7 w' => ∃ (k : Nat) (dn : List Int), v7 = .int .i64 (k : Int) ∧ Aside0 (kq + k = N + 1 ∧ 1 ≤ k) ∧ Aside0 (dn ++ honL l (N + 1 - k) (k : Int) = honL l N 1) ∧ Aside0 (dn.length + 1 ≤ k) ∧ Aside0 (Kd.R (Kd.int .i64) 3 w' w.heap.size (fun _ => True) v6 dn) ∧ Aside0 (w'.heap[g]? = some (.cells (boolC (markL l)).toArray 54 (0, 0))) ∧ Aside0 (w'.heap[gb]? = some (.cells #[.int .u64 p, .int .i64 (N : Int), .int .i64 T] 24 (0, 0))) ∧ Aside0 (Below w.heap.size w w'))
  case atStart => exact ⟨1, [], rfl, ⟨rfl, Nat.le_refl _⟩, ⟨rfl⟩, ⟨Nat.le_refl _⟩, ⟨Kd.R_nil _ _ _ _ _⟩, HM6, BK6, HB6⟩
  case round =>
    clear HM6 BK6 HB6
    obtain ⟨k, dn, rfl, HK, HD, HDL, HO, HMB, BK, HB⟩ := hrel
    have cN := blk_cell BK.out 1
    simp only [List.getElem?_toArray, List.getElem?_cons_zero, List.getElem?_cons_succ] at cN
    obtain ⟨hk0, hk1⟩ := HK.out
    have hl := HL.out
    by_cases hlt : k ≤ N
    · have q1 : decide ((k : Int) ≤ (N : Int)) = true := decide_eq_true (by omega)
      have q2 : decide (k ≤ N) = true := decide_eq_true hlt
      have p1 : ((0 : Int) ≤ (k : Int)) = True := eq_true (by omega)
      have p2 : ((k : Int) < 14) = True := eq_true (by omega)
      have p3 : (k < 14) = True := eq_true (by omega)
      have c1 := blk_cell HMB.out k
      rw [List.getElem?_toArray, boolC_get (markL_get (by omega))] at c1
      have hrun : N + 1 - k = (N + 1 - (k + 1)) + 1 := by omega
      by_cases hb : (k : Int) ∈ l
      · have hd : decide ((k : Int) ∈ l) = true := decide_eq_true hb
        rw [hd] at c1
        have HE := Aside0.mk (show dn ++ honL l (N + 1 - (k + 1)) ((k : Int) + 1) = honL l N 1 by rw [← HD.out, hrun, hon_skip hb])
        clear hd hb hrun hk0
        go_wp2
        go_roundg (N - k)
        case measure => have := HK.out; omega
        case rel => exact ⟨k + 1, dn, by go_num, ⟨by omega⟩, HE, ⟨by have := HDL.out; omega⟩, HO, HMB, BK, HB⟩
      · have hd : decide ((k : Int) ∈ l) = false := decide_eq_false hb
        rw [hd] at c1
        have HE := Aside0.mk (show dn ++ [(k : Int)] ++ honL l (N + 1 - (k + 1)) ((k : Int) + 1) = honL l N 1 by rw [← HD.out, hrun, hon_more hb, List.append_assoc]; rfl)
        obtain ⟨m1, hm1⟩ : ∃ y : List Int, y = dn ++ [(k : Int)] := ⟨_, rfl⟩
        have NM := Aside0.mk hm1
        obtain ⟨A7, c7, rfl⟩ := Kd.R_slice HO.out
        clear hm1 hd hb hrun hk0
        go_wp2_with (first
          | ((with_reducible refine gate_builtin (b := .append) (xs := #[.tmp 20, .tmp 22]) rfl ?_); at_builtin; refine Kd.R_append (Kd.int .i64) (w0 := w) w.heap.size rfl (.tmp 20) (.tmp 22) 25 3 (.int .i64 0) 8 rfl Tryd.underlying25 info3 rfl (by decide) (by omega) (.slice A7 dn.length c7) dn (k : Int) [.int .i64 (k : Int)] (fun _ => True) (fun _ => False) rfl rfl rfl (fun _ hk => hk.elim) (fun _ _ => trivial) HO.out HB.out (below_size HB.out) (by have := HDL.out; omega) ?_; intro v1 w1 ho hb hg hat; rw [← NM.out] at ho; have HMB1 := Aside0.mk (blk_grown HMB.out hg (Kd.R_ne HO.out HMB.out (by decide))); have BK1 := Aside0.mk (blk_grown BK.out hg (Kd.R_ne HO.out BK.out (by decide))); have HO1 := Aside0.mk ho; have HB1 := Aside0.mk hb; clear ho hb hg hat))
        go_roundg (N - k)
        case measure => have := HK.out; omega
        case rel => exact ⟨k + 1, m1, by go_num, ⟨by omega⟩, ⟨by rw [NM.out]; exact HE.out⟩, ⟨by rw [NM.out, List.length_append]; have := HDL.out; simp only [List.length_cons, List.length_nil]; omega⟩, HO1, HMB1, BK1, HB1⟩
    · have q1 : decide ((k : Int) ≤ (N : Int)) = false := decide_eq_false (by omega)
      have q2 : decide (k ≤ N) = false := decide_eq_false hlt
      have hz : N + 1 - k = 0 := by omega
      have HE := Aside0.mk (show dn = honL l N 1 by rw [← HD.out, hz]; simp [honL, runL])
      clear hz
      go_wp2
      first | go_ret | ((try simp only [Exit.inBlock, Exit.then]); refine bodyPost_ret (results_tmp rfl _ _ rfl) rfl ?_)
      exact ⟨_, rfl, by rw [← HE.out]; exact HO.out, HB.out⟩
def params_HonestParties.f (a0 a1 a2 : Int) (l : List Int) : Option (List Int) :=
  if 0 ≤ a1 then (if a1 ≤ 13 then (if l.length ≤ 1000 then (if (l.all fun x => decide (0 ≤ x) && decide (x < 14)) = true then some (honL l a1.toNat 1) else none) else none) else none) else none
theorem params_HonestParties.calls (a0 a1 a2 : Int) (A1 : Option Addr) (c1 : Nat) (l1 : List Int) (r : List Int) (w : World) (hr1 : Kd.C (Kd.int .i64) w A1 l1.length l1) (hc1 : l1.length ≤ c1) (h : params_HonestParties.f a0 a1 a2 l1 = some r) :
    Calls Tryd.prog 17 #[.agg #[.int .u64 a0, .int .i64 a1, .int .i64 a2], .slice A1 l1.length c1] w fun e w' => ∃ v0_ : Value, e = .returned (v0_) ∧ Kd.R (Kd.int .i64) 3 w' w.heap.size (fun _ => True) v0_ r ∧ Below w.heap.size w w' := by
  unfold params_HonestParties.f at h
  obtain ⟨h1, h⟩ := ifs h
  obtain ⟨h2, h⟩ := ifs h
  obtain ⟨h3, h⟩ := ifs h
  obtain ⟨h4, h⟩ := ifs h
  rw [← Option.some.inj h]
  have e : ((a1.toNat : Nat) : Int) = a1 := Int.toNat_of_nonneg h1
  have hg := hon_walk a0 a1.toNat a2 A1 c1 l1 w hr1 hc1 h3 (fun i hi => by
    have hm := List.all_eq_true.1 h4 (l1[i]) (List.getElem_mem _)
    rw [Bool.and_eq_true, decide_eq_true_eq, decide_eq_true_eq] at hm
    have : rd l1 (i : Int) = l1[i] := by unfold rd; rw [Int.toNat_natCast, List.getD_eq_getElem?_getD, List.getElem?_eq_getElem hi]; rfl
    rw [this]; exact hm) (by omega)
  rw [e] at hg
  exact hg
end Go.Proofs.YtakaonojfpkhnaaDoor.Hw
end
