/- The row of the law ShamirDetectsOneWrongShare, out of its plain law and the walk. -/
import Derived.Test.YtiaajmiphnjgaaaZDetects2
import Derived.Laws.OwnMore
import Derived.Test.YtiaajmiphnjgaaaZDetects4
import Derived.Test.YtiaajmiphnjgaaaZDetects3
import Derived.Test.YtiaajmiphnjgaaaProg
import Derived.ChangeArms
import Derived.DataReads
import Derived.DataElems
import Derived.ShutString
import Derived.ChangeSame
import Derived.OpenShut
import Derived.Test.YtiaajmiphnjgaaaZDetects0
import Derived.Test.YtiaajmiphnjgaaaRows
import Derived.WalkKit
import Derived.ProofKit
import Derived.ChangeOld
import Derived.Below
import Derived.SizedLaws
section
/- Printed by a program of this seat (the kit's printer, with the functions that were proved by hand given to it). What stands here: the functions that the statements reach, as plain functions, and that the Go code computes them. -/
namespace Go.Proofs.Ytiaajmiphnjgaaa.Pr
open Go.RowKit Go.Proofs.YtiaajmiphnjgaaaW.PrintWords Go.Proofs.YtiaajmiphnjgaaaW.PrintLast Go.Proofs.YtiaajmiphnjgaaaW.PrintMore
attribute [local go_sem] max2_int min2_int max_two min_two max_three min_three max_four min_four   -- for this text's walks alone
set_option linter.unusedVariables false
set_option linter.unusedSimpArgs false

open Go.Proofs.Ytiaajmiphnjgaaa.Hw
/-! ### privityref01_exps: function 60 -/
def privityref01_exps.f  : Option (List Int) := some (([5, 7, 13, 17, 19, 31, 61] : List Int))
set_option maxHeartbeats 8000000 in
set_option maxRecDepth 100000 in
theorem privityref01_exps.calls  (r : List Int) (w : World) (h : privityref01_exps.f  = some r) :
  Calls Try.prog 60 #[] w fun e w' => ∃ v0_ : Value,e = .returned (v0_) ∧ Kd.R (Kd.int .i64) 3 w' w.heap.size (fun _ => True) v0_ r ∧ Below w.heap.size w w' := by
 have HB := Aside0.mk (Below.refl w.heap.size w)
 have H : (some (([5,7,13,17,19,31,61] : List Int))) = some r := h
 clear h
 obtain ⟨y245,hy245⟩ : ∃ y_ : List Int,y_ = (([5,7,13,17,19,31,61] : List Int)) := ⟨_,rfl⟩
 replace H : (some y245) = some r := by first|(rw [hy245];with_reducible exact H)|(have H2_ := (Option.bind_some _ _).symm.trans H;rw [hy245];with_reducible exact H2_)|(have H2_ := (Option.bind_some _ _).symm.trans H;with_reducible exact H2_)|with_reducible exact H|(rw [hy245];exact H)|exact H
 have Ny245 := Aside0.mk hy245
 clear hy245
 obtain rfl := Option.some.inj H
 go_enter Try.func60,Try.ntmps60
 go_wp2_with (first|((with_reducible refine gate_dst (N := 1) rfl ?_);refine Kd.R_lit (Kd.int .i64) _ 3 ?hg (N := 1) ?hd (xs := ([5,7,13,17,19,31,61] : List Int)) (inner := [.int .i64 5,.int .i64 7,.int .i64 13,.int .i64 17,.int .i64 19,.int .i64 31,.int .i64 61]) (ok := fun _ => True) (okp := fun _ => True) ?hr ?hp (fun _ hk => hk) trivial (Below.refl _ _) (Nat.le_refl _) (by simp) ?_;(case hd => rfl);(case hg => rfl);(case hr => first|(go_simp;done)|(go_simp;rfl));(case hp => exact (Reps.one (show Kd.M (Kd.int .i64) _ _ _ 5 [.int .i64 5] from rfl) (Reps.one (show Kd.M (Kd.int .i64) _ _ _ 7 [.int .i64 7] from rfl) (Reps.one (show Kd.M (Kd.int .i64) _ _ _ 13 [.int .i64 13] from rfl) (Reps.one (show Kd.M (Kd.int .i64) _ _ _ 17 [.int .i64 17] from rfl) (Reps.one (show Kd.M (Kd.int .i64) _ _ _ 19 [.int .i64 19] from rfl) (Reps.one (show Kd.M (Kd.int .i64) _ _ _ 31 [.int .i64 31] from rfl) (Reps.one (show Kd.M (Kd.int .i64) _ _ _ 61 [.int .i64 61] from rfl) (Reps.none _ _)))))))));intro v246 w1 ho2 hb hg_ hnew_;clear hg_ hnew_;(first|rw [← Ny245.out] at ho2|(simp only [Int.reduceToNat] at ho2;rw [← Ny245.out] at ho2));have n0_ := Aside0.mk (Kd.R_lower ho2 (below_size (by repeat (first|(with_reducible first|exact HB.out|apply below_alloc|apply pw_below_drewN|apply below_drew1)|exact HB.out))));have n1_ := Aside0.mk (below_step (by repeat (first|(with_reducible first|exact HB.out|apply below_alloc|apply pw_below_drewN|apply below_drew1)|exact HB.out)) hb);clear HB;have HO247 := n0_;have HB := n1_;clear n0_ n1_;clear hb ho2))
 go_ret
 exact ⟨_,by first|rfl|(simp [errW_none,errW_some] <;> rfl)|(simp [*,errW_none,errW_some] <;> rfl),by (with_reducible repeat (first|apply Kd.R_alloc|apply Kd.R_drewN|apply Kd.R_drew));exact HO247.out,by repeat (first|(with_reducible first|exact HB.out|apply below_alloc|apply pw_below_drewN|apply below_drew1)|exact HB.out)⟩
/-! ### privityref01_Exponent: function 44 -/
def privityref01_Exponent.l0 : Nat → Int → List Int → Int → Option (Int)
 | 0,_,_,_ => none
 | k + 1,x0,x3,x4 => if x4 < (x3.length : Int) then (if 0 ≤ x4 then (if 0 ≤ (IntKind.u64.wrap (rd x3 x4)) then (if x0 = (IntKind.u64.wrap ((shl .u64 1 (IntKind.u64.wrap (rd x3 x4))) - 1)) then (some (rd x3 x4)) else (privityref01_Exponent.l0 k x0 x3 (wrap64 (x4 + 1)))) else (none)) else (none)) else (some 0)
def privityref01_Exponent.f (k : Nat) (a0 : Int) : Option (Int) := (privityref01_exps.f).bind fun t248 => (privityref01_Exponent.l0 k a0 t248 0)
theorem privityref01_Exponent.mono_l : ∀ k, (∀ y0 y1 y2, LeO (privityref01_Exponent.l0 k y0 y1 y2) (privityref01_Exponent.l0 (k + 1) y0 y1 y2))
 | 0 => fun _ _ _ r h => by simp [privityref01_Exponent.l0] at h
 | k + 1 => by
  have ih0 := privityref01_Exponent.mono_l k
  ·intro y0 y1 y2
   unfold privityref01_Exponent.l0
   repeat' first
   | (with_reducible exact ih0 _ _ _)
   | (with_reducible exact LeO.refl _)
   | (with_reducible exact LeO.none _)
   | (with_reducible refine LeO.ite ?_ ?_)
   | (with_reducible refine LeO.bind ?_ (fun _ => ?_))
   | exact ih0 _ _ _
   | exact LeO.none _
   | refine LeO.ite ?_ ?_
   | refine LeO.bind ?_ (fun _ => ?_)
theorem privityref01_Exponent.mono : ∀ a0 k, LeO (privityref01_Exponent.f k a0) (privityref01_Exponent.f (k + 1) a0) := by
 intro a0 k
 have ih0 := privityref01_Exponent.mono_l k
 unfold privityref01_Exponent.f
 repeat' first
   | (with_reducible exact ih0 _ _ _)
   | (with_reducible exact LeO.refl _)
   | (with_reducible exact LeO.none _)
   | (with_reducible refine LeO.ite ?_ ?_)
   | (with_reducible refine LeO.bind ?_ (fun _ => ?_))
   | exact ih0 _ _ _
   | exact LeO.none _
   | refine LeO.ite ?_ ?_
   | refine LeO.bind ?_ (fun _ => ?_)
set_option maxHeartbeats 8000000 in
set_option maxRecDepth 100000 in
theorem privityref01_Exponent.calls (k : Nat) (a0 : Int) (r : Int) (w : World) (h : privityref01_Exponent.f k a0 = some r) :
  Calls Try.prog 44 #[.int .u64 a0] w fun e w' => e = .returned (.int .i64 r) ∧ Below w.heap.size w w' := by
 have HB := Aside0.mk (Below.refl w.heap.size w)
 have H : ((privityref01_exps.f).bind fun t248 => (privityref01_Exponent.l0 k a0 t248 0)) = some r := h
 clear h
 replace H := Option.bind_eq_some_iff.mp H
 obtain ⟨t248,A20,H⟩ := H
 replace H : (privityref01_Exponent.l0 k a0 t248 0) = some r := H
 have A2 := Aside0.mk A20
 clear A20
 have H' := Aside0.mk H
 clear H
 go_enter Try.func44,Try.ntmps44
 go_wp2_with (first|((with_reducible refine gate_callee (f := 60) rfl ?_);refine goesL_ (some 5) rfl rfl Try.func60 (by kernel_rfl) rfl #[] rfl (by (try simp only [List.map_toArray,List.map_cons,List.map_nil]);first|done|rfl|(simp only [List.length_drop,List.length_take];rfl)) ?_;(with_reducible refine (privityref01_exps.calls  t248 _ A2.out).mono ?_);rintro e w3 ⟨v249,rfl,ho0,hb⟩;refine ⟨_,rfl,?_⟩;have n0_ := Aside0.mk (Kd.R_lower ho0 (below_size (by repeat (first|(with_reducible first|exact HB.out|apply below_alloc|apply pw_below_drewN|apply below_drew1)|exact HB.out))));have n1_ := Aside0.mk (below_step (by repeat (first|(with_reducible first|exact HB.out|apply below_alloc|apply pw_below_drewN|apply below_drew1)|exact HB.out)) hb);clear HB;have HO250 := n0_;have HB := n1_;clear n0_ n1_;(try clear hb);(try clear hb2);(try clear hk);(try clear hi);(try clear ho0)))
 go_loopg [4] k (fun kq v4 w' => ∃ (x4_1 : Int),v4 = .int .i64 x4_1 ∧ Aside0 (privityref01_Exponent.l0 kq a0 t248 x4_1 = some r) ∧ Aside0 (kq ≤ k) ∧ Aside0 (Kd.R (Kd.int .i64) 3 w' w.heap.size (fun _ => True) v249 t248) ∧ Aside0 (Below w.heap.size w w'))
 case atStart => exact ⟨(0),(by first|rfl|(simp;done)|(simp [*];done)),H',⟨Nat.le_refl _⟩,⟨by (with_reducible repeat (first|apply Kd.R_alloc|apply Kd.R_drewN|apply Kd.R_drew));exact HO250.out⟩,⟨by repeat (first|(with_reducible first|exact HB.out|apply below_alloc|apply pw_below_drewN|apply below_drew1)|exact HB.out)⟩⟩
 case round =>
  clear H'
  try clear p2
  obtain ⟨x4_1,rfl,HA,HK1,HO_3,HB⟩ := hrel
  cases gk with
  | zero => exact absurd HA.out (by simp [privityref01_Exponent.l0])
  | succ k1 =>
   have H := HA.out
   clear HA
   simp only [privityref01_Exponent.l0] at H
   by_cases c4 : x4_1 < (t248.length : Int)
   ·rw [if_pos c4] at H
    have c4b0 : decide (x4_1 < (t248.length : Int)) = true := decide_eq_true c4
    clear c4
    by_cases c5 : 0 ≤ x4_1
    ·rw [if_pos c5] at H
     have c5b0 : decide (0 ≤ x4_1) = true := decide_eq_true c5
     clear c5
     obtain ⟨ji6,hji6⟩ : ∃ j_ : Int,(IntKind.u64.wrap (rd t248 x4_1)) = j_ := ⟨_,rfl⟩
     replace H : (if 0 ≤ (ji6) then (if a0 = (IntKind.u64.wrap ((shl .u64 1 (ji6)) - 1)) then (some (rd t248 x4_1)) else (privityref01_Exponent.l0 k1 a0 t248 (wrap64 (x4_1 + 1)))) else (none)) = some r := by first|(rw [hji6] at H;exact H)|(simp only [hji6] at H ⊢;exact H)
     by_cases c7 : 0 ≤ (ji6)
     ·rw [if_pos c7] at H
      have c7b0 := eq_true c7
      have c7b1 : decide (0 ≤ (ji6)) = true := decide_eq_true c7
      clear c7
      obtain ⟨ji8,hji8⟩ : ∃ j_ : Int,(shl .u64 1 (ji6)) = j_ := ⟨_,rfl⟩
      replace H : (if a0 = (IntKind.u64.wrap ((ji8) - 1)) then (some (rd t248 x4_1)) else (privityref01_Exponent.l0 k1 a0 t248 (wrap64 (x4_1 + 1)))) = some r := by first|(rw [hji8] at H;exact H)|(simp only [hji8] at H ⊢;exact H)
      have hji8_ : (IntKind.u64.wrap (1 * 2 ^ min (ji6).toNat 64)) = ji8 := hji8
      have hji8z : (ji6) ≤ 64 → (IntKind.u64.wrap (1 * 2 ^ (ji6).toNat)) = ji8 := shl_small hji8
      have hji8u : (IntKind.u64.wrap (2 ^ min (ji6).toNat 64)) = ji8 := by have h_ := hji8_;rw [Int.one_mul] at h_;exact h_
      have hji8v : (ji6) ≤ 64 → (IntKind.u64.wrap (2 ^ (ji6).toNat)) = ji8 := fun hle_ => by have h_ := hji8z hle_;rw [Int.one_mul] at h_;exact h_
      by_cases c9 : a0 = (IntKind.u64.wrap ((ji8) - 1))
      ·rw [if_pos c9] at H
       have c9b0 : (a0 == (IntKind.u64.wrap ((ji8) - 1))) = true := beq_iff_eq.mpr c9
       have c9b1 : (a0 != (IntKind.u64.wrap ((ji8) - 1))) = false := bne_eq_false_iff_eq.mpr c9
       clear c9
       obtain rfl := Option.some.inj H
       obtain ⟨Ao10,co10,eo10⟩ := Kd.R_slice HO_3.out
       subst eo10
       have p251 : 0 ≤ (x4_1 : Int) := of_decide_eq_true (by first|(with_reducible assumption)|assumption)
       have q251 : x4_1 < (t248.length : Int) := of_decide_eq_true (by first|(with_reducible assumption)|assumption)
       obtain ⟨ad251,e251,hx251_0⟩ := Kd.at_int (Kd.R_reads' HO_3.out).2.2 x4_1 p251 q251
       cases e251
       replace p251 := eq_true p251
       replace q251 := eq_true q251
       have p252 : 0 ≤ (x4_1 : Int) := of_decide_eq_true (by first|(with_reducible assumption)|assumption)
       have q252 : x4_1 < (t248.length : Int) := of_decide_eq_true (by first|(with_reducible assumption)|assumption)
       obtain ⟨ad252,e252,hx252_0⟩ := Kd.at_int (Kd.R_reads' HO_3.out).2.2 x4_1 p252 q252
       obtain rfl : ad251 = ad252 := (by injection e252)
       replace p252 := eq_true p252
       replace q252 := eq_true q252
       go_wp2
       go_ret
       exact ⟨by first|rfl|(simp [errW_none,errW_some] <;> rfl)|(simp only [← hji6,← hji8];first|rfl|(simp [errW_none,errW_some] <;> rfl))|(simp [*,errW_none,errW_some] <;> rfl),by repeat (first|(with_reducible first|exact HB.out|apply below_alloc|apply pw_below_drewN|apply below_drew1)|exact HB.out)⟩
      ·rw [if_neg c9] at H
       have c9b0 : (a0 == (IntKind.u64.wrap ((ji8) - 1))) = false := beq_eq_false_iff_ne.mpr c9
       have c9b1 : (a0 != (IntKind.u64.wrap ((ji8) - 1))) = true := bne_iff_ne.mpr c9
       have H' := Aside0.mk H
       clear H
       obtain ⟨Ao11,co11,eo11⟩ := Kd.R_slice HO_3.out
       subst eo11
       have p251 : 0 ≤ (x4_1 : Int) := of_decide_eq_true (by first|(with_reducible assumption)|assumption)
       have q251 : x4_1 < (t248.length : Int) := of_decide_eq_true (by first|(with_reducible assumption)|assumption)
       obtain ⟨ad251,e251,hx251_0⟩ := Kd.at_int (Kd.R_reads' HO_3.out).2.2 x4_1 p251 q251
       cases e251
       replace p251 := eq_true p251
       replace q251 := eq_true q251
       go_wp2
       go_roundg k1
       case measure => have := HK1.out;omega
       case rel => exact ⟨(wrap64 (x4_1 + 1)),(by first|rfl|(simp;done)|(simp [*];done)),H',⟨by have := HK1.out;omega⟩,⟨by (with_reducible repeat (first|apply Kd.R_alloc|apply Kd.R_drewN|apply Kd.R_drew));exact HO_3.out⟩,⟨by repeat (first|(with_reducible first|exact HB.out|apply below_alloc|apply pw_below_drewN|apply below_drew1)|exact HB.out)⟩⟩
     ·rw [if_neg c7] at H
      exact absurd H (by simp)
    ·rw [if_neg c5] at H
     exact absurd H (by simp)
   ·rw [if_neg c4] at H
    have c4b0 : decide (x4_1 < (t248.length : Int)) = false := decide_eq_false c4
    clear c4
    obtain rfl := Option.some.inj H
    obtain ⟨Ao12,co12,eo12⟩ := Kd.R_slice HO_3.out
    subst eo12
    go_wp2
    go_ret
    exact ⟨by first|rfl|(simp [errW_none,errW_some] <;> rfl)|(simp [*,errW_none,errW_some] <;> rfl),by repeat (first|(with_reducible first|exact HB.out|apply below_alloc|apply pw_below_drewN|apply below_drew1)|exact HB.out)⟩
/-! ### privityref01_Supported: function 12 -/
def privityref01_Supported.f (k : Nat) (a0 : Int) : Option (Bool) := (privityref01_Exponent.f k a0).bind fun t253 => (some (decide (t253 > 0)))
theorem privityref01_Supported.mono : ∀ a0 k, LeO (privityref01_Supported.f k a0) (privityref01_Supported.f (k + 1) a0) := by
 intro a0 k
 unfold privityref01_Supported.f
 repeat' first
   | (with_reducible exact privityref01_Exponent.mono _ _)
   | (with_reducible exact LeO.refl _)
   | (with_reducible exact LeO.none _)
   | (with_reducible refine LeO.ite ?_ ?_)
   | (with_reducible refine LeO.bind ?_ (fun _ => ?_))
   | exact privityref01_Exponent.mono _ _
   | exact LeO.none _
   | refine LeO.ite ?_ ?_
   | refine LeO.bind ?_ (fun _ => ?_)
set_option maxHeartbeats 8000000 in
set_option maxRecDepth 100000 in
theorem privityref01_Supported.calls (k : Nat) (a0 : Int) (r : Bool) (w : World) (h : privityref01_Supported.f k a0 = some r) :
  Calls Try.prog 12 #[.int .u64 a0] w fun e w' => e = .returned (.bool r) ∧ Below w.heap.size w w' := by
 have HB := Aside0.mk (Below.refl w.heap.size w)
 have H : ((privityref01_Exponent.f k a0).bind fun t253 => (some (decide (t253 > 0)))) = some r := h
 clear h
 replace H := Option.bind_eq_some_iff.mp H
 obtain ⟨t253,A20,H⟩ := H
 replace H : (some (decide (t253 > 0))) = some r := H
 have A2 := Aside0.mk A20
 clear A20
 obtain rfl := Option.some.inj H
 go_enter Try.func12,Try.ntmps12
 go_wp2_with (first|((with_reducible refine gate_callee (f := 44) rfl ?_);refine goesL_ (some 4) rfl rfl Try.func44 (by kernel_rfl) rfl #[.int .u64 a0] rfl (by (try simp only [List.map_toArray,List.map_cons,List.map_nil]);first|done|rfl|(simp only [List.length_drop,List.length_take];rfl)) ?_;(with_reducible refine (privityref01_Exponent.calls k a0 t253 _ A2.out).mono ?_);rintro e w3 ⟨rfl,hb⟩;refine ⟨_,rfl,?_⟩;have n0_ := Aside0.mk (below_step (by repeat (first|(with_reducible first|exact HB.out|apply below_alloc|apply pw_below_drewN|apply below_drew1)|exact HB.out)) hb);clear HB;have HB := n0_;clear n0_;(try clear hb);(try clear hb2);(try clear hk);(try clear hi)))
 go_ret
 exact ⟨by first|rfl|(simp [errW_none,errW_some] <;> rfl)|(simp [*,errW_none,errW_some] <;> rfl),by repeat (first|(with_reducible first|exact HB.out|apply below_alloc|apply pw_below_drewN|apply below_drew1)|exact HB.out)⟩
/-! ### privityref05_Below: function 13 -/
def privityref05_Below.l0 : Nat → Int → List Int → Int → Option (Bool)
 | 0,_,_,_ => none
 | k + 1,x0,x1,x5 => if x5 < (x1.length : Int) then (if 0 ≤ x5 then (if (rd x1 x5) ≥ x0 then (some false) else (privityref05_Below.l0 k x0 x1 (wrap64 (x5 + 1)))) else (none)) else (some true)
def privityref05_Below.f (k : Nat) (a0 : Int) (l1 : List Int) : Option (Bool) := privityref05_Below.l0 k a0 l1 0
set_option maxHeartbeats 8000000 in
set_option maxRecDepth 100000 in
theorem privityref05_Below.calls (k : Nat) (a0 : Int) (A1 : Option Addr) (c1 : Nat) (l1 : List Int) (r : Bool) (w : World) (hr1 : Kd.C (Kd.int .u64) w A1 l1.length l1) (hc1 : l1.length ≤ c1) (h : privityref05_Below.f k a0 l1 = some r) :
  Calls Try.prog 13 #[.int .u64 a0,.slice A1 l1.length c1] w fun e w' => e = .returned (.bool r) ∧ Drawn0 w w' := by
 have HR1 := Aside0.mk hr1
 have HC1 := Aside0.mk hc1
 clear hr1 hc1
 have H : (privityref05_Below.l0 k a0 l1 0) = some r := h
 clear h
 have H' := Aside0.mk H
 clear H
 go_enter Try.func13,Try.ntmps13
 go_wp2
 go_loopg [5] k (fun kq v5 w' => ∃ (x5_1 : Int),v5 = .int .i64 x5_1 ∧ Aside0 (privityref05_Below.l0 kq a0 l1 x5_1 = some r) ∧ Aside0 (kq ≤ k) ∧ Drawn0 w w')
 case atStart => exact ⟨(0),(by first|rfl|(simp;done)|(simp [*];done)),H',⟨Nat.le_refl _⟩,by repeat (first|exact Drawn0.refl _|apply Drawn0.step)⟩
 case round =>
  clear H'
  try clear c1
  try clear p2
  obtain ⟨x5_1,rfl,HA,HK1,⟨m1,rfl⟩⟩ := hrel
  cases gk with
  | zero => exact absurd HA.out (by simp [privityref05_Below.l0])
  | succ k1 =>
   have H := HA.out
   clear HA
   simp only [privityref05_Below.l0] at H
   by_cases c3 : x5_1 < (l1.length : Int)
   ·rw [if_pos c3] at H
    have c3b0 : decide (x5_1 < (l1.length : Int)) = true := decide_eq_true c3
    clear c3
    by_cases c4 : 0 ≤ x5_1
    ·rw [if_pos c4] at H
     have c4b0 : decide (0 ≤ x5_1) = true := decide_eq_true c4
     clear c4
     by_cases c5 : (rd l1 x5_1) ≥ a0
     ·rw [if_pos c5] at H
      have c5b0 : decide (a0 ≤ (rd l1 x5_1)) = true := decide_eq_true c5
      clear c5
      obtain rfl := Option.some.inj H
      have p254 : 0 ≤ (x5_1 : Int) := of_decide_eq_true (by first|(with_reducible assumption)|assumption)
      have q254 : x5_1 < (l1.length : Int) := of_decide_eq_true (by first|(with_reducible assumption)|assumption)
      obtain ⟨ad254,e254,hx254_0⟩ := Kd.at_int HR1.out x5_1 p254 q254
      cases e254
      replace p254 := eq_true p254
      replace q254 := eq_true q254
      go_wp2
      go_ret
      exact ⟨by first|rfl|(simp;done)|(simp [*];done),by repeat (first|exact Drawn0.refl _|apply Drawn0.step)⟩
     ·rw [if_neg c5] at H
      have c5b0 : decide (a0 ≤ (rd l1 x5_1)) = false := decide_eq_false c5
      clear c5
      have H' := Aside0.mk H
      clear H
      have p254 : 0 ≤ (x5_1 : Int) := of_decide_eq_true (by first|(with_reducible assumption)|assumption)
      have q254 : x5_1 < (l1.length : Int) := of_decide_eq_true (by first|(with_reducible assumption)|assumption)
      obtain ⟨ad254,e254,hx254_0⟩ := Kd.at_int HR1.out x5_1 p254 q254
      cases e254
      replace p254 := eq_true p254
      replace q254 := eq_true q254
      go_wp2
      go_roundg k1
      case measure => have := HK1.out;omega
      case rel => exact ⟨(wrap64 (x5_1 + 1)),(by first|rfl|(simp;done)|(simp [*];done)),H',⟨by have := HK1.out;omega⟩,by repeat (first|exact Drawn0.refl _|apply Drawn0.step)⟩
    ·rw [if_neg c4] at H
     exact absurd H (by simp)
   ·rw [if_neg c3] at H
    have c3b0 : decide (x5_1 < (l1.length : Int)) = false := decide_eq_false c3
    clear c3
    obtain rfl := Option.some.inj H
    go_wp2
    go_ret
    exact ⟨by first|rfl|(simp;done)|(simp [*];done),by repeat (first|exact Drawn0.refl _|apply Drawn0.step)⟩
end Go.Proofs.Ytiaajmiphnjgaaa.Pr
end
section
/-
  A store into the second field of an element of a row of points of the call's own.
-/
namespace Go.Proofs.Ytiaajmiphnjgaaa.Hw
open Go.RowKit Go.Proofs.Ytiaajmiphnjgaaa.Pr Go.Proofs.YtiaajmiphnjgaaaW.PrintWords Go.Proofs.YtiaajmiphnjgaaaW.PrintLast Go.Proofs.YtiaajmiphnjgaaaW.PrintMore
set_option linter.unusedVariables false
set_option linter.unusedSimpArgs false

/-- The row with the element's second field set. -/
def setY (xs : List S34) (i y : Int) : List S34 := xs.set i.toNat ⟨(rd_T34 xs i).f0, y⟩
theorem setY_length (xs : List S34) (i y : Int) : (setY xs i y).length = xs.length := by simp [setY]
theorem rdP_in (d : List S34) (i : Nat) (h : i < d.length) : rd_T34 d (i : Int) = d[i] := by unfold rd_T34; rw [Int.toNat_natCast, List.getD_eq_getElem?_getD, List.getElem?_eq_getElem h]; rfl
theorem R_block {w : World} {base : Nat} {ok : Nat → Prop} {v : Value} {xs : List S34} (h : Kd.R k34 34 w base ok v xs) (hn : 0 < xs.length) :
    ∃ g c cur, v = .slice (some ⟨g, 0, none⟩) xs.length c ∧ base ≤ g ∧ w.heap[g]? = some (.cells cur 34 (0, 0)) := by
  obtain ⟨h0, inner, ho, hr⟩ := h
  rcases ho.2 with ⟨_, hz⟩ | ⟨g, c, cur, rfl, hb, hg, _⟩
  · omega
  · exact ⟨g, c, cur, rfl, hb, hg⟩
theorem R_setY {w : World} {base : Nat} {ok : Nat → Prop} {g c : Nat} {xs : List S34} (h : Kd.R k34 34 w base ok (.slice (some ⟨g, 0, none⟩) xs.length c) xs) (i : Nat) (hi : i < xs.length) (y : Int) :
    Kd.R k34 34 (w.setCell ⟨g, i * 2 + 1, none⟩ (.int .u64 y)) base ok (.slice (some ⟨g, 0, none⟩) (setY xs (i : Int) y).length c) (setY xs (i : Int) y) := by
  obtain ⟨h0, inner, ho, hr⟩ := h
  have hs := (ho.stored (i * 2 + 1) (.int .u64 y)).1
  have hlen : inner.length = xs.length * 2 := hr.1
  have hr2 : ∀ j p, xs[j]? = some p → (inner.drop (j * 2)).take 2 = [.int .u64 p.f0, .int .u64 p.f1] := fun j p hp => k34_openM (hr.2 j p hp)
  refine ⟨h0, inner.set (i * 2 + 1) (.int .u64 y), by rw [setY_length]; exact hs, ?_⟩
  refine ⟨by rw [List.length_set, setY_length]; exact hr.1, fun j p hj => ?_⟩
  have hcs : ((inner.set (i * 2 + 1) (.int .u64 y)).drop (j * 2)).take 2 = [.int .u64 p.f0, .int .u64 p.f1] := by
    by_cases e : j = i
    · subst e
      have hp : p = ⟨(rd_T34 xs (j : Int)).f0, y⟩ := by
        unfold setY at hj
        rw [Int.toNat_natCast, List.getElem?_set_self hi] at hj
        exact (Option.some.inj hj).symm
      have hx := hr2 j xs[j] (List.getElem?_eq_getElem hi)
      rw [List.drop_set, if_neg (by omega), List.take_set, hx, hp, rdP_in xs j hi, show j * 2 + 1 - j * 2 = 1 from by omega]
      rfl
    · have hx : xs[j]? = some p := by
        unfold setY at hj
        rw [Int.toNat_natCast, List.getElem?_set_ne (Ne.symm e)] at hj
        exact hj
      have hx2 := hr2 j p hx
      rw [List.drop_set]
      split
      · exact hx2
      · rw [List.take_set, hx2, List.set_eq_of_length_le]
        simp only [List.length_cons, List.length_nil]
        omega
  show k34.M _ _ _ p (((inner.set (i * 2 + 1) (.int .u64 y)).drop (j * 2)).take 2)
  rw [hcs]
  exact k34_mkM _ _ _ p
/-- What the walk needs of the store. -/
theorem setY_at {w : World} {base : Nat} {ok : Nat → Prop} {ad : Addr} {n c : Nat} {xs : List S34} (h : Kd.R k34 34 w base ok (.slice (some ad) n c) xs) (i : Int) (h0 : 0 ≤ i) (h1 : i < (xs.length : Int)) :
    w.frozen? ⟨(ad.add (i.toNat * 2)).block, (ad.add (i.toNat * 2)).off + 1, none⟩ = false ∧ base ≤ (ad.add (i.toNat * 2)).block ∧ n = xs.length ∧
    ∀ (nd : Nat) (y : Int), Kd.C k34 ((w.drewN nd).setCell ⟨(ad.add (i.toNat * 2)).block, (ad.add (i.toNat * 2)).off + 1, none⟩ (.int .u64 y)) (some ad) (setY xs i y).length (setY xs i y) ∧ (setY xs i y).length ≤ c := by
  have hn : 0 < xs.length := by omega
  obtain ⟨g, c', cur, e, hb, hg⟩ := R_block h hn
  injection e with e1 e2 e3
  injection e1 with e1
  subst e1
  subst e2
  subst e3
  obtain ⟨j, rfl⟩ : ∃ j : Nat, i = (j : Int) := ⟨i.toNat, by omega⟩
  rw [Int.toNat_natCast, Addr.add_lit]
  simp only [Nat.zero_add]
  refine ⟨blk_frozen hg _, hb, trivial, fun nd y => ?_⟩
  have h2 := Kd.R_reads' (R_setY (Kd.R_drewN h nd) j (by omega) y)
  exact ⟨h2.2.2, h2.2.1⟩
end Go.Proofs.Ytiaajmiphnjgaaa.Hw
end
section
/- Printed by a program of this seat (the kit's printer, with the functions that were proved by hand given to it). What stands here: the functions that the statements reach, as plain functions, and that the Go code computes them. -/
namespace Go.Proofs.Ytiaajmiphnjgaaa.Pr
open Go.RowKit Go.Proofs.YtiaajmiphnjgaaaW.PrintWords Go.Proofs.YtiaajmiphnjgaaaW.PrintLast Go.Proofs.YtiaajmiphnjgaaaW.PrintMore
attribute [local go_sem] max2_int min2_int max_two min_two max_three min_three max_four min_four   -- for this text's walks alone
set_option linter.unusedVariables false
set_option linter.unusedSimpArgs false

open Go.Proofs.Ytiaajmiphnjgaaa.Hw
/-! ### privitylaw09_ShamirDetectsOneWrongShare: function 7 -/
mutual
def privitylaw09_ShamirDetectsOneWrongShare.j0 : Nat → Int → List Int → Bool → Int → Int → Int → Option (Bool)
 | 0,_,_,_,_,_,_ => none
 | k + 1,x0,x1,x33,x256000,x256001,x256002 => if x33 = true then (some true) else (privitylaw09_ShamirDetectsOneWrongShare.l0 k x0 x1 (wrap64 ((wrap64 ((x1.length : Int) + 1)) + (wrap64 (Int.tmod x256000 3)))) ([] : List (S34)) 1 x256000 x256001 x256002)
def privitylaw09_ShamirDetectsOneWrongShare.l0 : Nat → Int → List Int → Int → List (S34) → Int → Int → Int → Int → Option (Bool)
 | 0,_,_,_,_,_,_,_,_ => none
 | k + 1,x0,x1,x7,x8,x9,x256000,x256001,x256002 => if x9 ≤ x7 then ((poly_Eval.f k x0 x1 (IntKind.u64.wrap (x9))).bind fun t259 => (if x8.length < 8796093022208 then (privitylaw09_ShamirDetectsOneWrongShare.l0 k x0 x1 x7 (x8 ++ [(⟨IntKind.u64.wrap (x9),t259⟩ : S34)]) (wrap64 (x9 + 1)) x256000 x256001 x256002) else (none))) else (if (IntKind.u64.wrap (x7)) = 0 then (none) else (if 0 ≤ (wrap64 (Int.tmod x256001 (IntKind.u64.wrap (x7)))) then (if (wrap64 (Int.tmod x256001 (IntKind.u64.wrap (x7)))) < (x8.length : Int) then (if (IntKind.u64.wrap (x0 - 1)) = 0 then (none) else ((field_Add.f k x0 ((rd_T34 x8 (wrap64 (Int.tmod x256001 (IntKind.u64.wrap (x7))))).f1) (IntKind.u64.wrap (1 + (Int.tmod x256002 (IntKind.u64.wrap (x0 - 1)))))).bind fun t264 => ((shamir_Reconstruct.f k x0 (wrap64 ((x1.length : Int) - 1)) (setY x8 (wrap64 (Int.tmod x256001 (IntKind.u64.wrap (x7)))) t264)).bind fun bt265 => (if bt265.1 = 0 then (some (bt265.2 == 9)) else (some false))))) else (none)) else (none)))
end
def privitylaw09_ShamirDetectsOneWrongShare.f (k : Nat) (a0 : Int) (l1 : List Int) (a2_0 : Int) (a2_1 : Int) (a2_2 : Int) : Option (Bool) := (privitylaw09_awake.f k).bind fun t256 => (if t256 = true then ((privityref01_Supported.f k a0).bind fun t257 => (if t257 = true then (if (l1.length : Int) < 1 then (privitylaw09_ShamirDetectsOneWrongShare.j0 k a0 l1 true a2_0 a2_1 a2_2) else (if (l1.length : Int) > 9 then (privitylaw09_ShamirDetectsOneWrongShare.j0 k a0 l1 true a2_0 a2_1 a2_2) else ((privityref05_Below.f k a0 l1).bind fun t258 => (privitylaw09_ShamirDetectsOneWrongShare.j0 k a0 l1 (!t258) a2_0 a2_1 a2_2)))) else (privitylaw09_ShamirDetectsOneWrongShare.j0 k a0 l1 true a2_0 a2_1 a2_2))) else (some false))
set_option maxHeartbeats 8000000 in
set_option maxRecDepth 100000 in
theorem privitylaw09_ShamirDetectsOneWrongShare.calls (k : Nat) (a0 : Int) (A1 : Option Addr) (c1 : Nat) (l1 : List Int) (a2_0 : Int) (a2_1 : Int) (a2_2 : Int) (r : Bool) (w : World) (hr1 : Kd.C (Kd.int .u64) w A1 l1.length l1) (hc1 : l1.length ≤ c1) (hr1_ : r = true) (h : privitylaw09_ShamirDetectsOneWrongShare.f k a0 l1 a2_0 a2_1 a2_2 = some r) :
  Calls Try.prog 7 #[.int .u64 a0,.slice A1 l1.length c1,.agg #[.int .u64 a2_0,.int .u64 a2_1,.int .u64 a2_2]] w fun e w' => e = .returned (.bool r) ∧ Below w.heap.size w w' := by
 have HRT_ := Aside0.mk hr1_
 clear hr1_
 have hu48 := Try.underlying48
 have hu34 := Try.underlying34
 have HR1 := Aside0.mk hr1
 have HC1 := Aside0.mk hc1
 clear hr1 hc1
 have HB := Aside0.mk (Below.refl w.heap.size w)
 have H : ((privitylaw09_awake.f k).bind fun t256 => (if t256 = true then ((privityref01_Supported.f k a0).bind fun t257 => (if t257 = true then (if (l1.length : Int) < 1 then (privitylaw09_ShamirDetectsOneWrongShare.j0 k a0 l1 true a2_0 a2_1 a2_2) else (if (l1.length : Int) > 9 then (privitylaw09_ShamirDetectsOneWrongShare.j0 k a0 l1 true a2_0 a2_1 a2_2) else ((privityref05_Below.f k a0 l1).bind fun t258 => (privitylaw09_ShamirDetectsOneWrongShare.j0 k a0 l1 (!t258) a2_0 a2_1 a2_2)))) else (privitylaw09_ShamirDetectsOneWrongShare.j0 k a0 l1 true a2_0 a2_1 a2_2))) else (some false))) = some r := h
 clear h
 replace H := Option.bind_eq_some_iff.mp H
 obtain ⟨t256,A40,H⟩ := H
 replace H : (if t256 = true then ((privityref01_Supported.f k a0).bind fun t257 => (if t257 = true then (if (l1.length : Int) < 1 then (privitylaw09_ShamirDetectsOneWrongShare.j0 k a0 l1 true a2_0 a2_1 a2_2) else (if (l1.length : Int) > 9 then (privitylaw09_ShamirDetectsOneWrongShare.j0 k a0 l1 true a2_0 a2_1 a2_2) else ((privityref05_Below.f k a0 l1).bind fun t258 => (privitylaw09_ShamirDetectsOneWrongShare.j0 k a0 l1 (!t258) a2_0 a2_1 a2_2)))) else (privitylaw09_ShamirDetectsOneWrongShare.j0 k a0 l1 true a2_0 a2_1 a2_2))) else (some false)) = some r := H
 have A4 := Aside0.mk A40
 clear A40
 by_cases c5 : t256 = true
 ·subst c5
  have H1 : ((privityref01_Supported.f k a0).bind fun t257 => (if t257 = true then (if (l1.length : Int) < 1 then (privitylaw09_ShamirDetectsOneWrongShare.j0 k a0 l1 true a2_0 a2_1 a2_2) else (if (l1.length : Int) > 9 then (privitylaw09_ShamirDetectsOneWrongShare.j0 k a0 l1 true a2_0 a2_1 a2_2) else ((privityref05_Below.f k a0 l1).bind fun t258 => (privitylaw09_ShamirDetectsOneWrongShare.j0 k a0 l1 (!t258) a2_0 a2_1 a2_2)))) else (privitylaw09_ShamirDetectsOneWrongShare.j0 k a0 l1 true a2_0 a2_1 a2_2))) = some r := by rw [if_pos rfl] at H;exact H
  clear H
  have H := H1
  clear H1
  have HC6 := Aside0.mk H
  clear H
  go_enter Try.func7,Try.ntmps7
  go_upto_region 3 with (first|((with_reducible refine gate_dst (N := 5) rfl ?_);(try (refine gate_guard (by rfl) ?_;dsimp only));refine box_event ?hg (N := 5) ?hd (cs := #[.int .u64 a2_0,.int .u64 a2_1,.int .u64 a2_2]) (t := 48) ?hr ?_;(case hd => rfl);(case hg => rfl);(case hr => first|(go_simp;done)|(go_simp;rfl));intro gb255 hg w7 hbox hb;have n0_ := Aside0.mk (below_step (by repeat (first|(with_reducible first|exact HB.out|apply below_alloc|apply pw_below_drewN|apply below_drew1)|exact HB.out)) hb);have n1_ := Aside0.mk (hbox);have n2_ := Aside0.mk ((by rw [hg];exact (below_size (by repeat (first|(with_reducible first|exact HB.out|apply below_alloc|apply pw_below_drewN|apply below_drew1)|exact HB.out))) : w.heap.size ≤ gb255));have n3_ := Aside0.mk ((by rw [hg];exact (below_size (by repeat (first|(with_reducible first|exact HB.out|apply below_alloc|apply pw_below_drewN|apply below_drew1)|exact HB.out))) : w.heap.size ≤ gb255));clear HB;have HB := n0_;have BK255 := n1_;have GW255 := n2_;have GE255 := n3_;clear n0_ n1_ n2_ n3_;clear hb hbox hg)|(go_at_call 11;(with_reducible refine (privitylaw09_awake.calls k  true _ A4.out).mono ?_);rintro e w8 ⟨rfl,hb⟩;have n0_ := Aside0.mk (blk_below (g := gb255) (o := .cells #[.int .u64 a2_0,.int .u64 a2_1,.int .u64 a2_2] 48 (0,0)) (by (with_reducible repeat (first|refine blk_drewN ?_ _|refine blk_drew ?_|refine blk_alloc ?_ _));exact BK255.out) hb);have n1_ := Aside0.mk (below_step (by repeat (first|(with_reducible first|exact HB.out|apply below_alloc|apply pw_below_drewN|apply below_drew1|refine below_set ?_ GE255.out)|exact HB.out)) hb);clear BK255;clear HB;have BK255 := n0_;have HB := n1_;clear n0_ n1_;(try clear hb);(try clear hb2);(try clear hk);(try clear hi)))
  repeat (go_quiet (first|((with_reducible refine gate_dst (N := 5) rfl ?_);(try (refine gate_guard (by rfl) ?_;dsimp only));refine box_event ?hg (N := 5) ?hd (cs := #[.int .u64 a2_0,.int .u64 a2_1,.int .u64 a2_2]) (t := 48) ?hr ?_;(case hd => rfl);(case hg => rfl);(case hr => first|(go_simp;done)|(go_simp;rfl));intro gb255 hg w7 hbox hb;have n0_ := Aside0.mk (below_step (by repeat (first|(with_reducible first|exact HB.out|apply below_alloc|apply pw_below_drewN|apply below_drew1)|exact HB.out)) hb);have n1_ := Aside0.mk (hbox);have n2_ := Aside0.mk ((by rw [hg];exact (below_size (by repeat (first|(with_reducible first|exact HB.out|apply below_alloc|apply pw_below_drewN|apply below_drew1)|exact HB.out))) : w.heap.size ≤ gb255));have n3_ := Aside0.mk ((by rw [hg];exact (below_size (by repeat (first|(with_reducible first|exact HB.out|apply below_alloc|apply pw_below_drewN|apply below_drew1)|exact HB.out))) : w.heap.size ≤ gb255));clear HB;have HB := n0_;have BK255 := n1_;have GW255 := n2_;have GE255 := n3_;clear n0_ n1_ n2_ n3_;clear hb hbox hg)|(go_at_call 11;(with_reducible refine (privitylaw09_awake.calls k  true _ A4.out).mono ?_);rintro e w8 ⟨rfl,hb⟩;have n0_ := Aside0.mk (blk_below (g := gb255) (o := .cells #[.int .u64 a2_0,.int .u64 a2_1,.int .u64 a2_2] 48 (0,0)) (by (with_reducible repeat (first|refine blk_drewN ?_ _|refine blk_drew ?_|refine blk_alloc ?_ _));exact BK255.out) hb);have n1_ := Aside0.mk (below_step (by repeat (first|(with_reducible first|exact HB.out|apply below_alloc|apply pw_below_drewN|apply below_drew1|refine below_set ?_ GE255.out)|exact HB.out)) hb);clear BK255;clear HB;have BK255 := n0_;have HB := n1_;clear n0_ n1_;(try clear hb);(try clear hb2);(try clear hk);(try clear hi)));go_upto_region 3 with (first|((with_reducible refine gate_dst (N := 5) rfl ?_);(try (refine gate_guard (by rfl) ?_;dsimp only));refine box_event ?hg (N := 5) ?hd (cs := #[.int .u64 a2_0,.int .u64 a2_1,.int .u64 a2_2]) (t := 48) ?hr ?_;(case hd => rfl);(case hg => rfl);(case hr => first|(go_simp;done)|(go_simp;rfl));intro gb255 hg w7 hbox hb;have n0_ := Aside0.mk (below_step (by repeat (first|(with_reducible first|exact HB.out|apply below_alloc|apply pw_below_drewN|apply below_drew1)|exact HB.out)) hb);have n1_ := Aside0.mk (hbox);have n2_ := Aside0.mk ((by rw [hg];exact (below_size (by repeat (first|(with_reducible first|exact HB.out|apply below_alloc|apply pw_below_drewN|apply below_drew1)|exact HB.out))) : w.heap.size ≤ gb255));have n3_ := Aside0.mk ((by rw [hg];exact (below_size (by repeat (first|(with_reducible first|exact HB.out|apply below_alloc|apply pw_below_drewN|apply below_drew1)|exact HB.out))) : w.heap.size ≤ gb255));clear HB;have HB := n0_;have BK255 := n1_;have GW255 := n2_;have GE255 := n3_;clear n0_ n1_ n2_ n3_;clear hb hbox hg)|(go_at_call 11;(with_reducible refine (privitylaw09_awake.calls k  true _ A4.out).mono ?_);rintro e w8 ⟨rfl,hb⟩;have n0_ := Aside0.mk (blk_below (g := gb255) (o := .cells #[.int .u64 a2_0,.int .u64 a2_1,.int .u64 a2_2] 48 (0,0)) (by (with_reducible repeat (first|refine blk_drewN ?_ _|refine blk_drew ?_|refine blk_alloc ?_ _));exact BK255.out) hb);have n1_ := Aside0.mk (below_step (by repeat (first|(with_reducible first|exact HB.out|apply below_alloc|apply pw_below_drewN|apply below_drew1|refine below_set ?_ GE255.out)|exact HB.out)) hb);clear BK255;clear HB;have BK255 := n0_;have HB := n1_;clear n0_ n1_;(try clear hb);(try clear hb2);(try clear hk);(try clear hi))))
  (try simp only [Act.put,List.setIfInBounds_toArray,List.set_cons_zero,List.set_cons_succ])
  go_cut [33] (fun v33 wc => ∃ (kq : Nat) (x33_5 : Bool),v33 = .bool x33_5 ∧ Aside0 (privitylaw09_ShamirDetectsOneWrongShare.j0 kq a0 l1 x33_5 a2_0 a2_1 a2_2 = some r) ∧ Aside0 (kq ≤ k) ∧ Aside0 (wc.heap[gb255]? = some (.cells #[.int .u64 a2_0,.int .u64 a2_1,.int .u64 a2_2] 48 (0,0))) ∧ Aside0 (Below w.heap.size w wc))
  case first =>
   have H := HC6.out
   clear HC6
   replace H := Option.bind_eq_some_iff.mp H
   obtain ⟨t257,A90,H⟩ := H
   replace H : (if t257 = true then (if (l1.length : Int) < 1 then (privitylaw09_ShamirDetectsOneWrongShare.j0 k a0 l1 true a2_0 a2_1 a2_2) else (if (l1.length : Int) > 9 then (privitylaw09_ShamirDetectsOneWrongShare.j0 k a0 l1 true a2_0 a2_1 a2_2) else ((privityref05_Below.f k a0 l1).bind fun t258 => (privitylaw09_ShamirDetectsOneWrongShare.j0 k a0 l1 (!t258) a2_0 a2_1 a2_2)))) else (privitylaw09_ShamirDetectsOneWrongShare.j0 k a0 l1 true a2_0 a2_1 a2_2)) = some r := H
   have A9 := Aside0.mk A90
   clear A90
   by_cases c10 : t257 = true
   ·subst c10
    have H1 : (if (l1.length : Int) < 1 then (privitylaw09_ShamirDetectsOneWrongShare.j0 k a0 l1 true a2_0 a2_1 a2_2) else (if (l1.length : Int) > 9 then (privitylaw09_ShamirDetectsOneWrongShare.j0 k a0 l1 true a2_0 a2_1 a2_2) else ((privityref05_Below.f k a0 l1).bind fun t258 => (privitylaw09_ShamirDetectsOneWrongShare.j0 k a0 l1 (!t258) a2_0 a2_1 a2_2)))) = some r := by rw [if_pos rfl] at H;exact H
    clear H
    have H := H1
    clear H1
    by_cases c11 : (l1.length : Int) < 1
    ·rw [if_pos c11] at H
     have c11b0 : decide ((l1.length : Int) < 1) = true := decide_eq_true c11
     have c11b1 : decide (l1.length < 1) = true := decide_eq_true (by omega)
     clear c11
     (first|rw [c11b0]|(simp only [i64_w,i32_w];rw [c11b0])|skip)
     have H' := Aside0.mk H
     clear H
     go_wp2_with (first|(go_at_call 12;(with_reducible refine (privityref01_Supported.calls k a0 true _ A9.out).mono ?_);rintro e w12 ⟨rfl,hb⟩;have n0_ := Aside0.mk (blk_below (g := gb255) (o := .cells #[.int .u64 a2_0,.int .u64 a2_1,.int .u64 a2_2] 48 (0,0)) (by (with_reducible repeat (first|refine blk_drewN ?_ _|refine blk_drew ?_|refine blk_alloc ?_ _));exact BK255.out) hb);have n1_ := Aside0.mk (below_step (by repeat (first|(with_reducible first|exact HB.out|apply below_alloc|apply pw_below_drewN|apply below_drew1|refine below_set ?_ GE255.out)|exact HB.out)) hb);clear BK255;clear HB;have BK255 := n0_;have HB := n1_;clear n0_ n1_;(try clear hb);(try clear hb2);(try clear hk);(try clear hi)))
     repeat (go_quiet (first|(go_at_call 12;(with_reducible refine (privityref01_Supported.calls k a0 true _ A9.out).mono ?_);rintro e w12 ⟨rfl,hb⟩;have n0_ := Aside0.mk (blk_below (g := gb255) (o := .cells #[.int .u64 a2_0,.int .u64 a2_1,.int .u64 a2_2] 48 (0,0)) (by (with_reducible repeat (first|refine blk_drewN ?_ _|refine blk_drew ?_|refine blk_alloc ?_ _));exact BK255.out) hb);have n1_ := Aside0.mk (below_step (by repeat (first|(with_reducible first|exact HB.out|apply below_alloc|apply pw_below_drewN|apply below_drew1|refine below_set ?_ GE255.out)|exact HB.out)) hb);clear BK255;clear HB;have BK255 := n0_;have HB := n1_;clear n0_ n1_;(try clear hb);(try clear hb2);(try clear hk);(try clear hi)));try go_wp2_with (first|(go_at_call 12;(with_reducible refine (privityref01_Supported.calls k a0 true _ A9.out).mono ?_);rintro e w12 ⟨rfl,hb⟩;have n0_ := Aside0.mk (blk_below (g := gb255) (o := .cells #[.int .u64 a2_0,.int .u64 a2_1,.int .u64 a2_2] 48 (0,0)) (by (with_reducible repeat (first|refine blk_drewN ?_ _|refine blk_drew ?_|refine blk_alloc ?_ _));exact BK255.out) hb);have n1_ := Aside0.mk (below_step (by repeat (first|(with_reducible first|exact HB.out|apply below_alloc|apply pw_below_drewN|apply below_drew1|refine below_set ?_ GE255.out)|exact HB.out)) hb);clear BK255;clear HB;have BK255 := n0_;have HB := n1_;clear n0_ n1_;(try clear hb);(try clear hb2);(try clear hk);(try clear hi))))
     go_meet
     case rel => exact ⟨_,(true),(by first|rfl|(simp;done)|(simp [*];done)),H',⟨by first|omega|exact Nat.le_refl _⟩,⟨by (with_reducible repeat (first|refine blk_drewN ?_ _|refine blk_drew ?_|refine blk_alloc ?_ _));exact BK255.out⟩,⟨by repeat (first|(with_reducible first|exact HB.out|apply below_alloc|apply pw_below_drewN|apply below_drew1|refine below_set ?_ GE255.out)|exact HB.out)⟩⟩
    ·rw [if_neg c11] at H
     have c11b0 : decide ((l1.length : Int) < 1) = false := decide_eq_false c11
     have c11b1 : decide (l1.length < 1) = false := decide_eq_false (by omega)
     clear c11
     (first|rw [c11b0]|(simp only [i64_w,i32_w];rw [c11b0])|skip)
     by_cases c13 : (l1.length : Int) > 9
     ·rw [if_pos c13] at H
      have c13b0 : decide (9 < (l1.length : Int)) = true := decide_eq_true c13
      have c13b1 : decide (9 < l1.length) = true := decide_eq_true (by omega)
      clear c13
      have H' := Aside0.mk H
      clear H
      go_wp2_with (first|(go_at_call 12;(with_reducible refine (privityref01_Supported.calls k a0 true _ A9.out).mono ?_);rintro e w14 ⟨rfl,hb⟩;have n0_ := Aside0.mk (blk_below (g := gb255) (o := .cells #[.int .u64 a2_0,.int .u64 a2_1,.int .u64 a2_2] 48 (0,0)) (by (with_reducible repeat (first|refine blk_drewN ?_ _|refine blk_drew ?_|refine blk_alloc ?_ _));exact BK255.out) hb);have n1_ := Aside0.mk (below_step (by repeat (first|(with_reducible first|exact HB.out|apply below_alloc|apply pw_below_drewN|apply below_drew1|refine below_set ?_ GE255.out)|exact HB.out)) hb);clear BK255;clear HB;have BK255 := n0_;have HB := n1_;clear n0_ n1_;(try clear hb);(try clear hb2);(try clear hk);(try clear hi)))
      repeat (go_quiet (first|(go_at_call 12;(with_reducible refine (privityref01_Supported.calls k a0 true _ A9.out).mono ?_);rintro e w14 ⟨rfl,hb⟩;have n0_ := Aside0.mk (blk_below (g := gb255) (o := .cells #[.int .u64 a2_0,.int .u64 a2_1,.int .u64 a2_2] 48 (0,0)) (by (with_reducible repeat (first|refine blk_drewN ?_ _|refine blk_drew ?_|refine blk_alloc ?_ _));exact BK255.out) hb);have n1_ := Aside0.mk (below_step (by repeat (first|(with_reducible first|exact HB.out|apply below_alloc|apply pw_below_drewN|apply below_drew1|refine below_set ?_ GE255.out)|exact HB.out)) hb);clear BK255;clear HB;have BK255 := n0_;have HB := n1_;clear n0_ n1_;(try clear hb);(try clear hb2);(try clear hk);(try clear hi)));try go_wp2_with (first|(go_at_call 12;(with_reducible refine (privityref01_Supported.calls k a0 true _ A9.out).mono ?_);rintro e w14 ⟨rfl,hb⟩;have n0_ := Aside0.mk (blk_below (g := gb255) (o := .cells #[.int .u64 a2_0,.int .u64 a2_1,.int .u64 a2_2] 48 (0,0)) (by (with_reducible repeat (first|refine blk_drewN ?_ _|refine blk_drew ?_|refine blk_alloc ?_ _));exact BK255.out) hb);have n1_ := Aside0.mk (below_step (by repeat (first|(with_reducible first|exact HB.out|apply below_alloc|apply pw_below_drewN|apply below_drew1|refine below_set ?_ GE255.out)|exact HB.out)) hb);clear BK255;clear HB;have BK255 := n0_;have HB := n1_;clear n0_ n1_;(try clear hb);(try clear hb2);(try clear hk);(try clear hi))))
      go_meet
      case rel => exact ⟨_,(true),(by first|rfl|(simp;done)|(simp [*];done)),H',⟨by first|omega|exact Nat.le_refl _⟩,⟨by (with_reducible repeat (first|refine blk_drewN ?_ _|refine blk_drew ?_|refine blk_alloc ?_ _));exact BK255.out⟩,⟨by repeat (first|(with_reducible first|exact HB.out|apply below_alloc|apply pw_below_drewN|apply below_drew1|refine below_set ?_ GE255.out)|exact HB.out)⟩⟩
     ·rw [if_neg c13] at H
      have c13b0 : decide (9 < (l1.length : Int)) = false := decide_eq_false c13
      have c13b1 : decide (9 < l1.length) = false := decide_eq_false (by omega)
      clear c13
      replace H := Option.bind_eq_some_iff.mp H
      obtain ⟨t258,A150,H⟩ := H
      replace H : (privitylaw09_ShamirDetectsOneWrongShare.j0 k a0 l1 (!t258) a2_0 a2_1 a2_2) = some r := H
      have A15 := Aside0.mk A150
      clear A150
      have H' := Aside0.mk H
      clear H
      go_wp2_with (first|(go_at_call 12;(with_reducible refine (privityref01_Supported.calls k a0 true _ A9.out).mono ?_);rintro e w16 ⟨rfl,hb⟩;have n0_ := Aside0.mk (blk_below (g := gb255) (o := .cells #[.int .u64 a2_0,.int .u64 a2_1,.int .u64 a2_2] 48 (0,0)) (by (with_reducible repeat (first|refine blk_drewN ?_ _|refine blk_drew ?_|refine blk_alloc ?_ _));exact BK255.out) hb);have n1_ := Aside0.mk (below_step (by repeat (first|(with_reducible first|exact HB.out|apply below_alloc|apply pw_below_drewN|apply below_drew1|refine below_set ?_ GE255.out)|exact HB.out)) hb);clear BK255;clear HB;have BK255 := n0_;have HB := n1_;clear n0_ n1_;(try clear hb);(try clear hb2);(try clear hk);(try clear hi))|(go_at_call 13;(with_reducible refine (privityref05_Below.calls k a0 _ _ l1 t258 _ ?side1 ?side2 A15.out).mono ?_);(case side1 => repeat (first|exact (Kd.C_below HR1.out HB.out)|(with_reducible refine Kd.C_alloc ?_ _)|(with_reducible refine Kd.C_drewN ?_ _)|(with_reducible refine Kd.C_drew ?_)));(case side2 => exact HC1.out);rintro e w' ⟨rfl,⟨nd,rfl⟩⟩;(try first|exact ⟨rfl,_,World.drewN_drewN _ _ _⟩|exact ⟨rfl,_,Eq.trans (World.drewN_drewN _ _ _) (congrArg (World.drewN _) (Nat.add_assoc _ _ _))⟩)))
      repeat (go_quiet (first|(go_at_call 12;(with_reducible refine (privityref01_Supported.calls k a0 true _ A9.out).mono ?_);rintro e w16 ⟨rfl,hb⟩;have n0_ := Aside0.mk (blk_below (g := gb255) (o := .cells #[.int .u64 a2_0,.int .u64 a2_1,.int .u64 a2_2] 48 (0,0)) (by (with_reducible repeat (first|refine blk_drewN ?_ _|refine blk_drew ?_|refine blk_alloc ?_ _));exact BK255.out) hb);have n1_ := Aside0.mk (below_step (by repeat (first|(with_reducible first|exact HB.out|apply below_alloc|apply pw_below_drewN|apply below_drew1|refine below_set ?_ GE255.out)|exact HB.out)) hb);clear BK255;clear HB;have BK255 := n0_;have HB := n1_;clear n0_ n1_;(try clear hb);(try clear hb2);(try clear hk);(try clear hi))|(go_at_call 13;(with_reducible refine (privityref05_Below.calls k a0 _ _ l1 t258 _ ?side1 ?side2 A15.out).mono ?_);(case side1 => repeat (first|exact (Kd.C_below HR1.out HB.out)|(with_reducible refine Kd.C_alloc ?_ _)|(with_reducible refine Kd.C_drewN ?_ _)|(with_reducible refine Kd.C_drew ?_)));(case side2 => exact HC1.out);rintro e w' ⟨rfl,⟨nd,rfl⟩⟩;(try first|exact ⟨rfl,_,World.drewN_drewN _ _ _⟩|exact ⟨rfl,_,Eq.trans (World.drewN_drewN _ _ _) (congrArg (World.drewN _) (Nat.add_assoc _ _ _))⟩)));try go_wp2_with (first|(go_at_call 12;(with_reducible refine (privityref01_Supported.calls k a0 true _ A9.out).mono ?_);rintro e w16 ⟨rfl,hb⟩;have n0_ := Aside0.mk (blk_below (g := gb255) (o := .cells #[.int .u64 a2_0,.int .u64 a2_1,.int .u64 a2_2] 48 (0,0)) (by (with_reducible repeat (first|refine blk_drewN ?_ _|refine blk_drew ?_|refine blk_alloc ?_ _));exact BK255.out) hb);have n1_ := Aside0.mk (below_step (by repeat (first|(with_reducible first|exact HB.out|apply below_alloc|apply pw_below_drewN|apply below_drew1|refine below_set ?_ GE255.out)|exact HB.out)) hb);clear BK255;clear HB;have BK255 := n0_;have HB := n1_;clear n0_ n1_;(try clear hb);(try clear hb2);(try clear hk);(try clear hi))|(go_at_call 13;(with_reducible refine (privityref05_Below.calls k a0 _ _ l1 t258 _ ?side1 ?side2 A15.out).mono ?_);(case side1 => repeat (first|exact (Kd.C_below HR1.out HB.out)|(with_reducible refine Kd.C_alloc ?_ _)|(with_reducible refine Kd.C_drewN ?_ _)|(with_reducible refine Kd.C_drew ?_)));(case side2 => exact HC1.out);rintro e w' ⟨rfl,⟨nd,rfl⟩⟩;(try first|exact ⟨rfl,_,World.drewN_drewN _ _ _⟩|exact ⟨rfl,_,Eq.trans (World.drewN_drewN _ _ _) (congrArg (World.drewN _) (Nat.add_assoc _ _ _))⟩))))
      go_meet
      case rel => exact ⟨_,(!t258),(by first|rfl|(simp;done)|(simp [*];done)),H',⟨by first|omega|exact Nat.le_refl _⟩,⟨by (with_reducible repeat (first|refine blk_drewN ?_ _|refine blk_drew ?_|refine blk_alloc ?_ _));exact BK255.out⟩,⟨by repeat (first|(with_reducible first|exact HB.out|apply below_alloc|apply pw_below_drewN|apply below_drew1|refine below_set ?_ GE255.out)|exact HB.out)⟩⟩
   ·replace c10 := Bool.eq_false_iff.mpr c10
    subst c10
    have H1 : (privitylaw09_ShamirDetectsOneWrongShare.j0 k a0 l1 true a2_0 a2_1 a2_2) = some r := by rw [if_neg (show ¬ (false = true) by decide)] at H;exact H
    clear H
    have H := H1
    clear H1
    have H' := Aside0.mk H
    clear H
    go_wp2_with (first|(go_at_call 12;(with_reducible refine (privityref01_Supported.calls k a0 false _ A9.out).mono ?_);rintro e w17 ⟨rfl,hb⟩;have n0_ := Aside0.mk (blk_below (g := gb255) (o := .cells #[.int .u64 a2_0,.int .u64 a2_1,.int .u64 a2_2] 48 (0,0)) (by (with_reducible repeat (first|refine blk_drewN ?_ _|refine blk_drew ?_|refine blk_alloc ?_ _));exact BK255.out) hb);have n1_ := Aside0.mk (below_step (by repeat (first|(with_reducible first|exact HB.out|apply below_alloc|apply pw_below_drewN|apply below_drew1|refine below_set ?_ GE255.out)|exact HB.out)) hb);clear BK255;clear HB;have BK255 := n0_;have HB := n1_;clear n0_ n1_;(try clear hb);(try clear hb2);(try clear hk);(try clear hi)))
    repeat (go_quiet (first|(go_at_call 12;(with_reducible refine (privityref01_Supported.calls k a0 false _ A9.out).mono ?_);rintro e w17 ⟨rfl,hb⟩;have n0_ := Aside0.mk (blk_below (g := gb255) (o := .cells #[.int .u64 a2_0,.int .u64 a2_1,.int .u64 a2_2] 48 (0,0)) (by (with_reducible repeat (first|refine blk_drewN ?_ _|refine blk_drew ?_|refine blk_alloc ?_ _));exact BK255.out) hb);have n1_ := Aside0.mk (below_step (by repeat (first|(with_reducible first|exact HB.out|apply below_alloc|apply pw_below_drewN|apply below_drew1|refine below_set ?_ GE255.out)|exact HB.out)) hb);clear BK255;clear HB;have BK255 := n0_;have HB := n1_;clear n0_ n1_;(try clear hb);(try clear hb2);(try clear hk);(try clear hi)));try go_wp2_with (first|(go_at_call 12;(with_reducible refine (privityref01_Supported.calls k a0 false _ A9.out).mono ?_);rintro e w17 ⟨rfl,hb⟩;have n0_ := Aside0.mk (blk_below (g := gb255) (o := .cells #[.int .u64 a2_0,.int .u64 a2_1,.int .u64 a2_2] 48 (0,0)) (by (with_reducible repeat (first|refine blk_drewN ?_ _|refine blk_drew ?_|refine blk_alloc ?_ _));exact BK255.out) hb);have n1_ := Aside0.mk (below_step (by repeat (first|(with_reducible first|exact HB.out|apply below_alloc|apply pw_below_drewN|apply below_drew1|refine below_set ?_ GE255.out)|exact HB.out)) hb);clear BK255;clear HB;have BK255 := n0_;have HB := n1_;clear n0_ n1_;(try clear hb);(try clear hb2);(try clear hk);(try clear hi))))
    go_meet
    case rel => exact ⟨_,(true),(by first|rfl|(simp;done)|(simp [*];done)),H',⟨by first|omega|exact Nat.le_refl _⟩,⟨by (with_reducible repeat (first|refine blk_drewN ?_ _|refine blk_drew ?_|refine blk_alloc ?_ _));exact BK255.out⟩,⟨by repeat (first|(with_reducible first|exact HB.out|apply below_alloc|apply pw_below_drewN|apply below_drew1|refine below_set ?_ GE255.out)|exact HB.out)⟩⟩
  case rest =>
   clear HC6
   try clear c1
   try clear p2
   try clear c5
   try clear c7
   try clear c10
   try clear c11
   try clear c11b0
   try clear c11b1
   try clear c13
   try clear c13b0
   try clear c13b1
   obtain ⟨kq,x33_5,rfl,HA,HJ5,BK255,HB⟩ := hcut
   cases kq with
   | zero => exact absurd HA.out (by simp [privitylaw09_ShamirDetectsOneWrongShare.j0])
   | succ kj5 =>
    have H := HA.out
    clear HA
    simp only [privitylaw09_ShamirDetectsOneWrongShare.j0] at H
    by_cases c18 : x33_5 = true
    ·subst c18
     have H1 : (some true) = some r := by rw [if_pos rfl] at H;exact H
     clear H
     have H := H1
     clear H1
     obtain rfl := Option.some.inj H
     go_wp2
     repeat (go_quiet (fail);try go_wp2)
     go_ret
     exact ⟨by first|rfl|(simp [errW_none,errW_some] <;> rfl)|(simp [*,errW_none,errW_some] <;> rfl),by repeat (first|(with_reducible first|exact HB.out|apply below_alloc|apply pw_below_drewN|apply below_drew1|refine below_set ?_ GE255.out)|exact HB.out)⟩
    ·replace c18 := Bool.eq_false_iff.mpr c18
     subst c18
     have H1 : (privitylaw09_ShamirDetectsOneWrongShare.l0 kj5 a0 l1 (wrap64 ((wrap64 ((l1.length : Int) + 1)) + (wrap64 (Int.tmod a2_0 3)))) ([] : List (S34)) 1 a2_0 a2_1 a2_2) = some r := by rw [if_neg (show ¬ (false = true) by decide)] at H;exact H
     clear H
     have H := H1
     clear H1
     have H' := Aside0.mk H
     clear H
     have hcz19_0 : wc.cell? ⟨gb255,0,none⟩ = some (.int .u64 a2_0) := (blk_cell BK255.out 0).trans rfl
     have hcz19_1 : wc.cell? ⟨gb255,1,none⟩ = some (.int .u64 a2_1) := (blk_cell BK255.out 1).trans rfl
     have hcz19_2 : wc.cell? ⟨gb255,2,none⟩ = some (.int .u64 a2_2) := (blk_cell BK255.out 2).trans rfl
     have hfz19_0 := blk_frozen BK255.out 0
     have hfz19_1 := blk_frozen BK255.out 1
     have hfz19_2 := blk_frozen BK255.out 2
     go_wp2
     repeat (go_quiet (fail);try go_wp2)
     go_loopg [8,9] kj5 (fun kq v8 v9 w' => ∃ (x8_2 : List (S34)) (x9_2 : Int),v9 = .int .i64 x9_2 ∧ Aside0 (privitylaw09_ShamirDetectsOneWrongShare.l0 kq a0 l1 (wrap64 ((wrap64 ((l1.length : Int) + 1)) + (wrap64 (Int.tmod a2_0 3)))) x8_2 x9_2 a2_0 a2_1 a2_2 = some r) ∧ Aside0 (kq ≤ kj5) ∧ Aside0 (Kd.R k34 34 w' w.heap.size (fun _ => True) v8 x8_2) ∧ Aside0 (w'.heap[gb255]? = some (.cells #[.int .u64 a2_0,.int .u64 a2_1,.int .u64 a2_2] 48 (0,0))) ∧ Aside0 (Below w.heap.size w w'))
     case atStart => exact ⟨(([] : List (S34))),(1),(by first|rfl|(simp;done)|(simp [*];done)),H',⟨Nat.le_refl _⟩,⟨by first|exact Kd.R_nil _ _ _ _ _|exact Kd.N_nil _ _ _ _ _|exact Kd.V_nil _ _ _ _ _|exact Kd.Q_nil _ _ _ _ _|exact Kd.S_nil _ _ _ _ _⟩,⟨by (with_reducible repeat (first|refine blk_drewN ?_ _|refine blk_drew ?_|refine blk_alloc ?_ _));exact BK255.out⟩,⟨by repeat (first|(with_reducible first|exact HB.out|apply below_alloc|apply pw_below_drewN|apply below_drew1|refine below_set ?_ GE255.out)|exact HB.out)⟩⟩
     case round =>
      clear H'
      try clear c1
      try clear p2
      try clear c5
      try clear p6
      try clear c7
      try clear c10
      try clear c11
      try clear c11b0
      try clear c11b1
      try clear c13
      try clear c13b0
      try clear c13b1
      try clear c18
      try clear hcz19_0
      try clear hcz19_1
      try clear hcz19_2
      try clear hfz19_0
      try clear hfz19_1
      try clear hfz19_2
      try clear p2
      obtain ⟨x8_2,x9_2,rfl,HA,HK2,HO_8,BK255,HB⟩ := hrel
      cases gk with
      | zero => exact absurd HA.out (by simp [privitylaw09_ShamirDetectsOneWrongShare.l0])
      | succ k2 =>
       have H := HA.out
       clear HA
       simp only [privitylaw09_ShamirDetectsOneWrongShare.l0] at H
       by_cases c20 : x9_2 ≤ (wrap64 ((wrap64 ((l1.length : Int) + 1)) + (wrap64 (Int.tmod a2_0 3))))
       ·rw [if_pos c20] at H
        have c20b0 : decide (x9_2 ≤ (wrap64 ((wrap64 ((l1.length : Int) + 1)) + (wrap64 (Int.tmod a2_0 3))))) = true := decide_eq_true c20
        clear c20
        replace H := Option.bind_eq_some_iff.mp H
        obtain ⟨t259,A210,H⟩ := H
        replace H : (if x8_2.length < 8796093022208 then (privitylaw09_ShamirDetectsOneWrongShare.l0 k2 a0 l1 (wrap64 ((wrap64 ((l1.length : Int) + 1)) + (wrap64 (Int.tmod a2_0 3)))) (x8_2 ++ [(⟨IntKind.u64.wrap (x9_2),t259⟩ : S34)]) (wrap64 (x9_2 + 1)) a2_0 a2_1 a2_2) else (none)) = some r := H
        have A21 := Aside0.mk A210
        clear A210
        by_cases c22 : x8_2.length < 8796093022208
        ·rw [if_pos c22] at H
         have LMc22 := Aside0.mk c22
         clear c22
         obtain ⟨y260,hy260⟩ : ∃ y_ : List (S34),y_ = (x8_2 ++ [(⟨IntKind.u64.wrap (x9_2),t259⟩ : S34)]) := ⟨_,rfl⟩
         replace H : (privitylaw09_ShamirDetectsOneWrongShare.l0 k2 a0 l1 (wrap64 ((wrap64 ((l1.length : Int) + 1)) + (wrap64 (Int.tmod a2_0 3)))) y260 (wrap64 (x9_2 + 1)) a2_0 a2_1 a2_2) = some r := by first|(rw [hy260];with_reducible exact H)|(have H2_ := (Option.bind_some _ _).symm.trans H;rw [hy260];with_reducible exact H2_)|(have H2_ := (Option.bind_some _ _).symm.trans H;with_reducible exact H2_)|with_reducible exact H|(rw [hy260];exact H)|exact H
         have Ny260 := Aside0.mk hy260
         clear hy260
         have H' := Aside0.mk H
         clear H
         go_wp2_with (first|(go_at_call 18;(with_reducible refine (poly_Eval.calls k2 a0 _ _ l1 (IntKind.u64.wrap (x9_2)) t259 _ ?side1 ?side2 A21.out).mono ?_);(case side1 => repeat (first|exact (Kd.C_below HR1.out HB.out)|(with_reducible refine Kd.C_alloc ?_ _)|(with_reducible refine Kd.C_drewN ?_ _)|(with_reducible refine Kd.C_drew ?_)));(case side2 => exact HC1.out);rintro e w' ⟨rfl,⟨nd,rfl⟩⟩;(try first|exact ⟨rfl,_,World.drewN_drewN _ _ _⟩|exact ⟨rfl,_,Eq.trans (World.drewN_drewN _ _ _) (congrArg (World.drewN _) (Nat.add_assoc _ _ _))⟩))|((with_reducible refine gate_builtin (b := .append) (xs := #[.tmp 47,.tmp 56]) rfl ?_);(try (refine gate_guard (by rfl) ?_;dsimp only));at_builtin;refine Kd.R_append k34 (w0 := w) w.heap.size rfl (.tmp 47) (.tmp 56) 31 34 (.agg #[(.int .u64 0),(.int .u64 0)]) 16 rfl Try.underlying31 info34 rfl (by decide) (by omega) u8 x8_2 (⟨IntKind.u64.wrap (x9_2),t259⟩ : S34) [.int .u64 (IntKind.u64.wrap (x9_2)),.int .u64 t259] (fun _ => True) (fun _ => False) rfl rfl ?aP (fun _ hk => hk.elim) ?aF ?aO ?aB ?aS ?aL ?_;(case aP => exact k34_mkM _ _ _ (⟨IntKind.u64.wrap (x9_2),t259⟩ : S34));(case aB => exact (by repeat (first|(with_reducible first|exact HB.out|apply below_alloc|apply pw_below_drewN|apply below_drew1|refine below_set ?_ GE255.out)|exact HB.out)));(case aF => exact (fun _ _ => trivial));(case aO => exact (by (with_reducible repeat (first|apply Kd.R_alloc|apply Kd.R_drewN|apply Kd.R_drew));exact HO_8.out));(case aS => exact (below_size (by repeat (first|(with_reducible first|exact HB.out|apply below_alloc|apply pw_below_drewN|apply below_drew1|refine below_set ?_ GE255.out)|exact HB.out))));(case aL => have := LMc22.out;omega);intro v261 w23 ho hb hg hat;rw [← Ny260.out] at ho;have n0_ := Aside0.mk (blk_grown (g := gb255) (o := .cells #[.int .u64 a2_0,.int .u64 a2_1,.int .u64 a2_2] 48 (0,0)) (by (with_reducible repeat (first|refine blk_drewN ?_ _|refine blk_drew ?_|refine blk_alloc ?_ _));exact BK255.out) hg (Kd.R_ne HO_8.out BK255.out (by decide)));have n1_ := Aside0.mk (hb);have n2_ := Aside0.mk (ho);clear BK255;clear HB;clear HO_8;have BK255 := n0_;have HB := n1_;have HO262 := n2_;clear n0_ n1_ n2_;clear ho hb hg hat))
         repeat (go_quiet (first|(go_at_call 18;(with_reducible refine (poly_Eval.calls k2 a0 _ _ l1 (IntKind.u64.wrap (x9_2)) t259 _ ?side1 ?side2 A21.out).mono ?_);(case side1 => repeat (first|exact (Kd.C_below HR1.out HB.out)|(with_reducible refine Kd.C_alloc ?_ _)|(with_reducible refine Kd.C_drewN ?_ _)|(with_reducible refine Kd.C_drew ?_)));(case side2 => exact HC1.out);rintro e w' ⟨rfl,⟨nd,rfl⟩⟩;(try first|exact ⟨rfl,_,World.drewN_drewN _ _ _⟩|exact ⟨rfl,_,Eq.trans (World.drewN_drewN _ _ _) (congrArg (World.drewN _) (Nat.add_assoc _ _ _))⟩))|((with_reducible refine gate_builtin (b := .append) (xs := #[.tmp 47,.tmp 56]) rfl ?_);(try (refine gate_guard (by rfl) ?_;dsimp only));at_builtin;refine Kd.R_append k34 (w0 := w) w.heap.size rfl (.tmp 47) (.tmp 56) 31 34 (.agg #[(.int .u64 0),(.int .u64 0)]) 16 rfl Try.underlying31 info34 rfl (by decide) (by omega) u8 x8_2 (⟨IntKind.u64.wrap (x9_2),t259⟩ : S34) [.int .u64 (IntKind.u64.wrap (x9_2)),.int .u64 t259] (fun _ => True) (fun _ => False) rfl rfl ?aP (fun _ hk => hk.elim) ?aF ?aO ?aB ?aS ?aL ?_;(case aP => exact k34_mkM _ _ _ (⟨IntKind.u64.wrap (x9_2),t259⟩ : S34));(case aB => exact (by repeat (first|(with_reducible first|exact HB.out|apply below_alloc|apply pw_below_drewN|apply below_drew1|refine below_set ?_ GE255.out)|exact HB.out)));(case aF => exact (fun _ _ => trivial));(case aO => exact (by (with_reducible repeat (first|apply Kd.R_alloc|apply Kd.R_drewN|apply Kd.R_drew));exact HO_8.out));(case aS => exact (below_size (by repeat (first|(with_reducible first|exact HB.out|apply below_alloc|apply pw_below_drewN|apply below_drew1|refine below_set ?_ GE255.out)|exact HB.out))));(case aL => have := LMc22.out;omega);intro v261 w23 ho hb hg hat;rw [← Ny260.out] at ho;have n0_ := Aside0.mk (blk_grown (g := gb255) (o := .cells #[.int .u64 a2_0,.int .u64 a2_1,.int .u64 a2_2] 48 (0,0)) (by (with_reducible repeat (first|refine blk_drewN ?_ _|refine blk_drew ?_|refine blk_alloc ?_ _));exact BK255.out) hg (Kd.R_ne HO_8.out BK255.out (by decide)));have n1_ := Aside0.mk (hb);have n2_ := Aside0.mk (ho);clear BK255;clear HB;clear HO_8;have BK255 := n0_;have HB := n1_;have HO262 := n2_;clear n0_ n1_ n2_;clear ho hb hg hat));try go_wp2_with (first|(go_at_call 18;(with_reducible refine (poly_Eval.calls k2 a0 _ _ l1 (IntKind.u64.wrap (x9_2)) t259 _ ?side1 ?side2 A21.out).mono ?_);(case side1 => repeat (first|exact (Kd.C_below HR1.out HB.out)|(with_reducible refine Kd.C_alloc ?_ _)|(with_reducible refine Kd.C_drewN ?_ _)|(with_reducible refine Kd.C_drew ?_)));(case side2 => exact HC1.out);rintro e w' ⟨rfl,⟨nd,rfl⟩⟩;(try first|exact ⟨rfl,_,World.drewN_drewN _ _ _⟩|exact ⟨rfl,_,Eq.trans (World.drewN_drewN _ _ _) (congrArg (World.drewN _) (Nat.add_assoc _ _ _))⟩))|((with_reducible refine gate_builtin (b := .append) (xs := #[.tmp 47,.tmp 56]) rfl ?_);(try (refine gate_guard (by rfl) ?_;dsimp only));at_builtin;refine Kd.R_append k34 (w0 := w) w.heap.size rfl (.tmp 47) (.tmp 56) 31 34 (.agg #[(.int .u64 0),(.int .u64 0)]) 16 rfl Try.underlying31 info34 rfl (by decide) (by omega) u8 x8_2 (⟨IntKind.u64.wrap (x9_2),t259⟩ : S34) [.int .u64 (IntKind.u64.wrap (x9_2)),.int .u64 t259] (fun _ => True) (fun _ => False) rfl rfl ?aP (fun _ hk => hk.elim) ?aF ?aO ?aB ?aS ?aL ?_;(case aP => exact k34_mkM _ _ _ (⟨IntKind.u64.wrap (x9_2),t259⟩ : S34));(case aB => exact (by repeat (first|(with_reducible first|exact HB.out|apply below_alloc|apply pw_below_drewN|apply below_drew1|refine below_set ?_ GE255.out)|exact HB.out)));(case aF => exact (fun _ _ => trivial));(case aO => exact (by (with_reducible repeat (first|apply Kd.R_alloc|apply Kd.R_drewN|apply Kd.R_drew));exact HO_8.out));(case aS => exact (below_size (by repeat (first|(with_reducible first|exact HB.out|apply below_alloc|apply pw_below_drewN|apply below_drew1|refine below_set ?_ GE255.out)|exact HB.out))));(case aL => have := LMc22.out;omega);intro v261 w23 ho hb hg hat;rw [← Ny260.out] at ho;have n0_ := Aside0.mk (blk_grown (g := gb255) (o := .cells #[.int .u64 a2_0,.int .u64 a2_1,.int .u64 a2_2] 48 (0,0)) (by (with_reducible repeat (first|refine blk_drewN ?_ _|refine blk_drew ?_|refine blk_alloc ?_ _));exact BK255.out) hg (Kd.R_ne HO_8.out BK255.out (by decide)));have n1_ := Aside0.mk (hb);have n2_ := Aside0.mk (ho);clear BK255;clear HB;clear HO_8;have BK255 := n0_;have HB := n1_;have HO262 := n2_;clear n0_ n1_ n2_;clear ho hb hg hat)))
         go_roundg k2
         case measure => have := HJ5.out;have := HK2.out;omega
         case rel => exact ⟨(y260),(wrap64 (x9_2 + 1)),(by first|rfl|(simp;done)|(simp [*];done)),H',⟨by have := HJ5.out;have := HK2.out;omega⟩,⟨by (with_reducible repeat (first|apply Kd.R_alloc|apply Kd.R_drewN|apply Kd.R_drew));exact HO262.out⟩,⟨by (with_reducible repeat (first|refine blk_drewN ?_ _|refine blk_drew ?_|refine blk_alloc ?_ _));exact BK255.out⟩,⟨by repeat (first|(with_reducible first|exact HB.out|apply below_alloc|apply pw_below_drewN|apply below_drew1|refine below_set ?_ GE255.out)|exact HB.out)⟩⟩
        ·rw [if_neg c22] at H
         exact absurd H (by simp)
       ·rw [if_neg c20] at H
        have c20b0 : decide (x9_2 ≤ (wrap64 ((wrap64 ((l1.length : Int) + 1)) + (wrap64 (Int.tmod a2_0 3))))) = false := decide_eq_false c20
        clear c20
        by_cases c24 : (IntKind.u64.wrap ((wrap64 ((wrap64 ((l1.length : Int) + 1)) + (wrap64 (Int.tmod a2_0 3)))))) = 0
        ·rw [if_pos c24] at H
         exact absurd H (by simp)
        ·rw [if_neg c24] at H
         have c24b0 : ((IntKind.u64.wrap ((wrap64 ((wrap64 ((l1.length : Int) + 1)) + (wrap64 (Int.tmod a2_0 3)))))) == 0) = false := beq_eq_false_iff_ne.mpr c24
         have c24b1 : ((IntKind.u64.wrap ((wrap64 ((wrap64 ((l1.length : Int) + 1)) + (wrap64 (Int.tmod a2_0 3)))))) != 0) = true := bne_iff_ne.mpr c24
         obtain ⟨ji25,hji25⟩ : ∃ j_ : Int,(wrap64 (Int.tmod a2_1 (IntKind.u64.wrap ((wrap64 ((wrap64 ((l1.length : Int) + 1)) + (wrap64 (Int.tmod a2_0 3)))))))) = j_ := ⟨_,rfl⟩
         replace H : (if 0 ≤ (ji25) then (if (ji25) < (x8_2.length : Int) then (if (IntKind.u64.wrap (a0 - 1)) = 0 then (none) else ((field_Add.f k2 a0 ((rd_T34 x8_2 (ji25)).f1) (IntKind.u64.wrap (1 + (Int.tmod a2_2 (IntKind.u64.wrap (a0 - 1)))))).bind fun t264 => ((shamir_Reconstruct.f k2 a0 (wrap64 ((l1.length : Int) - 1)) (setY x8_2 (ji25) t264)).bind fun bt265 => (if bt265.1 = 0 then (some (bt265.2 == 9)) else (some false))))) else (none)) else (none)) = some r := by first|(rw [hji25] at H;exact H)|(simp only [hji25] at H ⊢;exact H)
         have hji25w : (IntKind.i64.wrap (Int.tmod a2_1 (IntKind.u64.wrap ((wrap64 ((wrap64 ((l1.length : Int) + 1)) + (wrap64 (Int.tmod a2_0 3)))))))) = ji25 := (i64_w _).trans hji25
         by_cases c26 : 0 ≤ (ji25)
         ·rw [if_pos c26] at H
          have c26b0 : decide (0 ≤ (ji25)) = true := decide_eq_true c26
          clear c26
          by_cases c27 : (ji25) < (x8_2.length : Int)
          ·rw [if_pos c27] at H
           have c27b0 : decide ((ji25) < (x8_2.length : Int)) = true := decide_eq_true c27
           clear c27
           by_cases c28 : (IntKind.u64.wrap (a0 - 1)) = 0
           ·rw [if_pos c28] at H
            exact absurd H (by simp)
           ·rw [if_neg c28] at H
            have c28b0 : ((IntKind.u64.wrap (a0 - 1)) == 0) = false := beq_eq_false_iff_ne.mpr c28
            have c28b1 : ((IntKind.u64.wrap (a0 - 1)) != 0) = true := bne_iff_ne.mpr c28
            replace H := Option.bind_eq_some_iff.mp H
            obtain ⟨t264,A290,H⟩ := H
            replace H : ((shamir_Reconstruct.f k2 a0 (wrap64 ((l1.length : Int) - 1)) (setY x8_2 (ji25) t264)).bind fun bt265 => (if bt265.1 = 0 then (some (bt265.2 == 9)) else (some false))) = some r := H
            have A29 := Aside0.mk A290
            clear A290
            replace H := Option.bind_eq_some_iff.mp H
            obtain ⟨⟨t265,t266⟩,A300,H⟩ := H
            replace H : (if t265 = 0 then (some (t266 == 9)) else (some false)) = some r := H
            have A30 := Aside0.mk A300
            clear A300
            by_cases c31 : t265 = 0
            ·rw [if_pos c31] at H
             have c31b0 : (t265 == 0) = true := beq_iff_eq.mpr c31
             have c31b1 : (t265 != 0) = false := bne_eq_false_iff_eq.mpr c31
             clear c31
             obtain rfl := Option.some.inj H
             have hcz32_0 : wr.cell? ⟨gb255,0,none⟩ = some (.int .u64 a2_0) := (blk_cell BK255.out 0).trans rfl
             have hcz32_1 : wr.cell? ⟨gb255,1,none⟩ = some (.int .u64 a2_1) := (blk_cell BK255.out 1).trans rfl
             have hcz32_2 : wr.cell? ⟨gb255,2,none⟩ = some (.int .u64 a2_2) := (blk_cell BK255.out 2).trans rfl
             have hfz32_0 := blk_frozen BK255.out 0
             have hfz32_1 := blk_frozen BK255.out 1
             have hfz32_2 := blk_frozen BK255.out 2
             obtain ⟨Ao33,co33,eo33⟩ := Kd.R_slice HO_8.out
             subst eo33
             have p263 : 0 ≤ ((ji25) : Int) := of_decide_eq_true (by first|(with_reducible assumption)|assumption)
             have q263 : (ji25) < (x8_2.length : Int) := of_decide_eq_true (by first|(with_reducible assumption)|assumption)
             obtain ⟨ad263,e263,hx263_0,hx263_1⟩ := at_T34 (Kd.R_reads' HO_8.out).2.2 (ji25) p263 q263
             cases e263
             have p263_ := p263
             have q263_ := q263
             replace p263 := eq_true p263
             replace q263 := eq_true q263
             obtain ⟨zf_,zb_,_,zc_⟩ := setY_at HO_8.out (ji25) p263_ q263_
             have ZB_ := Aside0.mk zb_
             have ZC_ := Aside0.mk zc_
             clear zb_ zc_
             obtain ⟨y_,hy_⟩ : ∃ y_,y_ = setY x8_2 (ji25) t264 := ⟨_,rfl⟩
             have hl_ : y_.length = x8_2.length := by rw [hy_];exact setY_length _ _ _
             have A_ := Aside0.mk (show shamir_Reconstruct.f k2 a0 (wrap64 ((l1.length : Int) - 1)) y_ = some (t265,t266) by rw [hy_];exact A30.out)
             have HL_ := Aside0.mk hl_
             have HY_ := Aside0.mk hy_
             clear hl_ hy_
             go_wp2
             refine start_ (n := 18) (S := (fun w' => w'.cell? ⟨(ad263.add ((ji25).toNat * 2)).block,(ad263.add ((ji25).toNat * 2)).off + 1,none⟩ = some (.int .u64 ((rd_T34 x8_2 (ji25)).f1)) ∧ w'.cell? ⟨gb255,2,none⟩ = some (.int .u64 a2_2))) (ds := [17]) #[false,false,false,false,false,false,false,false,false,false,false,false,false,false,false,false,false,false] (by kernel_rfl) rfl rfl ⟨hx263_1,hcz32_2⟩ (fun hHeld => ?_)
             refine pure_ (i := 0) (N := some 64) (v := ?_) (a' := ?_) #[true,false,false,false,false,false,false,false,false,false,false,false,false,false,false,false,false,false] rfl rfl (by kernel_rfl) (fun _ _ _ h => h) (Or.inl ⟨by rfl,?_⟩) ?_ ?_
             rotate_left
             ·intro w'
              go_simp
              with_reducible rfl
             rotate_left
             ·simp only [Act.put,List.setIfInBounds_toArray,List.set_cons_zero,List.set_cons_succ,i64_w,i32_w]
              rfl
             refine pure_ (i := 1) (N := some 65) (v := ?_) (a' := ?_) #[true,true,false,false,false,false,false,false,false,false,false,false,false,false,false,false,false,false] rfl rfl (by kernel_rfl) (fun _ _ _ h => h) (Or.inl ⟨by rfl,?_⟩) ?_ ?_
             rotate_left
             ·intro w'
              go_simp
              with_reducible rfl
             rotate_left
             ·simp only [Act.put,List.setIfInBounds_toArray,List.set_cons_zero,List.set_cons_succ,i64_w,i32_w]
              rfl
             refine pure_ (i := 2) (N := some 66) (v := ?_) (a' := ?_) #[true,true,true,false,false,false,false,false,false,false,false,false,false,false,false,false,false,false] rfl rfl (by kernel_rfl) (fun _ _ _ h => h) (Or.inl ⟨by rfl,?_⟩) ?_ ?_
             rotate_left
             ·intro w'
              go_simp
              with_reducible rfl
             rotate_left
             ·simp only [Act.put,List.setIfInBounds_toArray,List.set_cons_zero,List.set_cons_succ,i64_w,i32_w]
              rfl
             refine pure_ (i := 3) (N := some 67) (v := ?_) (a' := ?_) #[true,true,true,true,false,false,false,false,false,false,false,false,false,false,false,false,false,false] rfl rfl (by kernel_rfl) (fun _ _ _ h => h) (Or.inl ⟨by rfl,?_⟩) ?_ ?_
             rotate_left
             ·intro w'
              go_simp
              with_reducible rfl
             rotate_left
             ·simp only [Act.put,List.setIfInBounds_toArray,List.set_cons_zero,List.set_cons_succ,i64_w,i32_w]
              rfl
             refine pure_ (i := 4) (N := some 68) (v := ?_) (a' := ?_) #[true,true,true,true,true,false,false,false,false,false,false,false,false,false,false,false,false,false] rfl rfl (by kernel_rfl) (fun _ _ _ h => h) (Or.inl ⟨by rfl,?_⟩) ?_ ?_
             rotate_left
             ·intro w'
              go_simp
              with_reducible rfl
             rotate_left
             ·simp only [Act.put,List.setIfInBounds_toArray,List.set_cons_zero,List.set_cons_succ,i64_w,i32_w]
              rfl
             refine pure_ (i := 5) (N := some 69) (v := ?_) (a' := ?_) #[true,true,true,true,true,true,false,false,false,false,false,false,false,false,false,false,false,false] rfl rfl (by kernel_rfl) (fun _ _ _ h => h) (Or.inl ⟨by rfl,?_⟩) ?_ ?_
             rotate_left
             ·intro w'
              go_simp
              with_reducible rfl
             rotate_left
             ·simp only [Act.put,List.setIfInBounds_toArray,List.set_cons_zero,List.set_cons_succ,i64_w,i32_w]
              rfl
             refine pure_ (i := 6) (N := some 70) (v := ?_) (a' := ?_) #[true,true,true,true,true,true,true,false,false,false,false,false,false,false,false,false,false,false] rfl rfl (by kernel_rfl) (fun _ _ _ h => h) (Or.inl ⟨by rfl,?_⟩) ?_ ?_
             rotate_left
             ·intro w'
              go_simp
              with_reducible rfl
             rotate_left
             ·simp only [Act.put,List.setIfInBounds_toArray,List.set_cons_zero,List.set_cons_succ,i64_w,i32_w]
              rfl
             refine take_ (i := 7) (N := some 71) (v := ?_) (a' := ?_) #[true,true,true,true,true,true,true,true,false,false,false,false,false,false,false,false,false,false] rfl rfl (by kernel_rfl) (fun _ _ _ h => h) (Or.inl ⟨by rfl,?_⟩) hHeld ?_ ?_
             rotate_left
             ·rintro w' ⟨s0,s1⟩
              go_simp
              with_reducible rfl
             rotate_left
             ·simp only [Act.put,List.setIfInBounds_toArray,List.set_cons_zero,List.set_cons_succ,i64_w,i32_w]
              rfl
             refine pure_ (i := 8) (N := some 72) (v := ?_) (a' := ?_) #[true,true,true,true,true,true,true,true,true,false,false,false,false,false,false,false,false,false] rfl rfl (by kernel_rfl) (fun _ _ _ h => h) (Or.inl ⟨by rfl,?_⟩) ?_ ?_
             rotate_left
             ·intro w'
              go_simp
              with_reducible rfl
             rotate_left
             ·simp only [Act.put,List.setIfInBounds_toArray,List.set_cons_zero,List.set_cons_succ,i64_w,i32_w]
              rfl
             refine take_ (i := 9) (N := some 73) (v := ?_) (a' := ?_) #[true,true,true,true,true,true,true,true,true,true,false,false,false,false,false,false,false,false] rfl rfl (by kernel_rfl) (fun _ _ _ h => h) (Or.inl ⟨by rfl,?_⟩) hHeld ?_ ?_
             rotate_left
             ·rintro w' ⟨s0,s1⟩
              go_simp
              with_reducible rfl
             rotate_left
             ·simp only [Act.put,List.setIfInBounds_toArray,List.set_cons_zero,List.set_cons_succ,i64_w,i32_w]
              rfl
             refine pure_ (i := 10) (N := some 74) (v := ?_) (a' := ?_) #[true,true,true,true,true,true,true,true,true,true,true,false,false,false,false,false,false,false] rfl rfl (by kernel_rfl) (fun _ _ _ h => h) (Or.inl ⟨by rfl,?_⟩) ?_ ?_
             rotate_left
             ·intro w'
              go_simp
              with_reducible rfl
             rotate_left
             ·simp only [Act.put,List.setIfInBounds_toArray,List.set_cons_zero,List.set_cons_succ,i64_w,i32_w]
              rfl
             refine pure_ (i := 11) (N := some 75) (v := ?_) (a' := ?_) #[true,true,true,true,true,true,true,true,true,true,true,true,false,false,false,false,false,false] rfl rfl (by kernel_rfl) (fun _ _ _ h => h) (Or.inl ⟨by rfl,?_⟩) ?_ ?_
             rotate_left
             ·intro w'
              go_simp
              with_reducible rfl
             rotate_left
             ·simp only [Act.put,List.setIfInBounds_toArray,List.set_cons_zero,List.set_cons_succ,i64_w,i32_w]
              rfl
             refine pure_ (i := 12) (N := some 76) (v := ?_) (a' := ?_) #[true,true,true,true,true,true,true,true,true,true,true,true,true,false,false,false,false,false] rfl rfl (by kernel_rfl) (fun _ _ _ h => h) (Or.inl ⟨by rfl,?_⟩) ?_ ?_
             rotate_left
             ·intro w'
              go_simp
              with_reducible rfl
             rotate_left
             ·simp only [Act.put,List.setIfInBounds_toArray,List.set_cons_zero,List.set_cons_succ,i64_w,i32_w]
              rfl
             refine pure_ (i := 13) (N := some 77) (v := ?_) (a' := ?_) #[true,true,true,true,true,true,true,true,true,true,true,true,true,true,false,false,false,false] rfl rfl (by kernel_rfl) (fun _ _ _ h => h) (Or.inl ⟨by rfl,?_⟩) ?_ ?_
             rotate_left
             ·intro w'
              go_simp
              with_reducible rfl
             rotate_left
             ·simp only [Act.put,List.setIfInBounds_toArray,List.set_cons_zero,List.set_cons_succ,i64_w,i32_w]
              rfl
             refine one_ (i := 14) (N := some 78) #[true,true,true,true,true,true,true,true,true,true,true,true,true,true,true,false,false,false] rfl rfl (by kernel_rfl) (by decide) (fun K hK => ?_)
             refine goes_ Try.func23 (by kernel_rfl) rfl #[.int .u64 a0,.int .u64 ((rd_T34 x8_2 (ji25)).f1),.int .u64 (IntKind.u64.wrap (1 + (Int.tmod a2_2 (IntKind.u64.wrap (a0 - 1)))))] (by rfl) rfl rfl (by (try simp only [List.map_toArray,List.map_cons,List.map_nil]);first|done|rfl) ?_
             refine (field_Add.calls k2 a0 ((rd_T34 x8_2 (ji25)).f1) (IntKind.u64.wrap (1 + (Int.tmod a2_2 (IntKind.u64.wrap (a0 - 1))))) t264 _ A29.out).mono ?_
             rintro e w' ⟨rfl,⟨nd,rfl⟩⟩
             refine ⟨_,rfl,?_⟩
             refine hK.out _ _ ⟨hx263_1,hcz32_2⟩ (fun hHeld => ?_)
             clear hK K
             refine norm_ (a' := ?_) ?_ ?_
             rotate_left
             ·show Act.put _ (some 78) _ = _
              simp only [Act.put,List.setIfInBounds_toArray,List.set_cons_zero,List.set_cons_succ,i64_w,i32_w]
              rfl
             refine pure_ (i := 15) (N := some 79) (v := ?_) (a' := ?_) #[true,true,true,true,true,true,true,true,true,true,true,true,true,true,true,true,false,false] rfl rfl (by kernel_rfl) (fun _ _ _ h => h) (Or.inl ⟨by rfl,?_⟩) ?_ ?_
             rotate_left
             ·intro w'
              go_simp
              with_reducible rfl
             rotate_left
             ·simp only [Act.put,List.setIfInBounds_toArray,List.set_cons_zero,List.set_cons_succ,i64_w,i32_w]
              rfl
             refine pure_ (i := 16) (N := some 80) (v := ?_) (a' := ?_) #[true,true,true,true,true,true,true,true,true,true,true,true,true,true,true,true,true,false] rfl rfl (by kernel_rfl) (fun _ _ _ h => h) (Or.inl ⟨by rfl,?_⟩) ?_ ?_
             rotate_left
             ·intro w'
              go_simp
              with_reducible rfl
             rotate_left
             ·simp only [Act.put,List.setIfInBounds_toArray,List.set_cons_zero,List.set_cons_succ,i64_w,i32_w]
              rfl
             refine last_ (i := 17) (N := none) #[true,true,true,true,true,true,true,true,true,true,true,true,true,true,true,true,true,true] rfl rfl (by kernel_rfl) (by decide) (fun K hK => ?_)
             refine skip_ (w1 := ?_) (by rfl) rfl ?_ ?_
             rotate_left
             ·go_simp
              rfl
             refine hK.out _ _ ?_
             clear hK K
             refine done_ (by kernel_rfl) ?_
             go_wp2_with (first|(go_at_call 19;rw [← HL_.out];(refine (shamir_Reconstruct.calls k2 a0 (wrap64 ((l1.length : Int) - 1)) (some ad263) co33 y_ t265 t266 _ (by rw [HY_.out];exact (ZC_.out (1 + nd) t264).1) (by rw [HY_.out];exact (ZC_.out (1 + nd) t264).2) A_.out).mono ?_);rintro e w34 ⟨rfl,hb⟩;have HB9_ := Aside0.mk (below_step (Below.setCell (pw_below_drewN HB.out (1 + nd)) (p := ⟨(ad263.add ((ji25).toNat * 2)).block,(ad263.add ((ji25).toNat * 2)).off + 1,none⟩) ZB_.out _) hb);clear hb))
             go_ret
             exact ⟨by first|rfl|(simp [errW_none,errW_some] <;> rfl)|(simp only [← hji25];first|rfl|(simp [errW_none,errW_some] <;> rfl))|(simp [*,errW_none,errW_some] <;> rfl),HB9_.out⟩
            ·rw [if_neg c31] at H
             have c31b0 : (t265 == 0) = false := beq_eq_false_iff_ne.mpr c31
             have c31b1 : (t265 != 0) = true := bne_iff_ne.mpr c31
             exact absurd (Option.some.inj H) (by rw [HRT_.out];simp)
          ·rw [if_neg c27] at H
           exact absurd H (by simp)
         ·rw [if_neg c26] at H
          exact absurd H (by simp)
 ·replace c5 := Bool.eq_false_iff.mpr c5
  subst c5
  have H1 : (some false) = some r := by rw [if_neg (show ¬ (false = true) by decide)] at H;exact H
  clear H
  have H := H1
  clear H1
  exact absurd (Option.some.inj H) (by rw [HRT_.out];simp)
end Go.Proofs.Ytiaajmiphnjgaaa.Pr
end
section
/-
  The reference of layer 1: what its printed functions answer.
-/
namespace Go.Proofs.Ytiaajmiphnjgaaa.E
open Go.RowKit Go.Proofs.Ytiaajmiphnjgaaa.Pr Go.Proofs.Ytiaajmiphnjgaaa.Hw Go.Proofs.YtiaajmiphnjgaaaW.PrintWords Go.Proofs.YtiaajmiphnjgaaaW.PrintLast Go.Proofs.YtiaajmiphnjgaaaW.PrintMore
set_option linter.unusedVariables false
set_option linter.unusedSimpArgs false

theorem wcap {n : Int} (h : 0 ≤ n) (h2 : n < 9223372036854775808) : wrap64 n = n := by unfold wrap64; omega
theorem wnat {n : Nat} (h : n < 1099511627776) : wrap64 ((n : Int) + 1) = ((n + 1 : Nat) : Int) := by rw [wcap (by omega) (by omega)]; omega
/-- From the end back to the start. -/
theorem up {Q : Nat → Prop} {n : Nat} (hn : Q n) (hs : ∀ i, i < n → Q (i + 1) → Q i) : Q 0 := by
  have : ∀ d, d ≤ n → Q (n - d) := by
    intro d
    induction d with
    | zero => intro _; exact hn
    | succ d ih =>
      intro h
      have h1 := ih (by omega)
      refine hs (n - (d + 1)) (by omega) ?_
      rwa [show n - (d + 1) + 1 = n - d from by omega]
  have := this n (Nat.le_refl _)
  rwa [Nat.sub_self] at this
theorem exponent_eq (p : Int) : privityref01_Exponent.f 10 p = if p = 31 then some 5 else if p = 127 then some 7 else if p = 8191 then some 13 else if p = 131071 then some 17 else if p = 524287 then some 19 else if p = 2147483647 then some 31 else if p = 2305843009213693951 then some 61 else some 0 := by kernel_rfl
theorem supported_ev (p : Int) : Ev (fun k => privityref01_Supported.f k p) (supB p) := by
  refine Ev.of (fun k => privityref01_Supported.mono _ _) (k := 10) ?_
  show (privityref01_Exponent.f 10 p).bind _ = _
  rw [exponent_eq]
  unfold supB
  by_cases h1 : p = 31
  · subst h1; rfl
  by_cases h2 : p = 127
  · subst h2; rfl
  by_cases h3 : p = 8191
  · subst h3; rfl
  by_cases h4 : p = 131071
  · subst h4; rfl
  by_cases h5 : p = 524287
  · subst h5; rfl
  by_cases h6 : p = 2147483647
  · subst h6; rfl
  by_cases h7 : p = 2305843009213693951
  · subst h7; rfl
  rw [if_neg h1, if_neg h2, if_neg h3, if_neg h4, if_neg h5, if_neg h6, if_neg h7]
  simp [h1, h2, h3, h4, h5, h6, h7]
theorem tmod_pos {a p : Int} (h : 0 ≤ a) : Int.tmod a p = a % p := Int.tmod_eq_emod_of_nonneg h
end Go.Proofs.Ytiaajmiphnjgaaa.E
end
section
/-
  Guards, sums, and the hand-proved functions' answers, for the statements.
-/
namespace Go.Proofs.Ytiaajmiphnjgaaa.E
open Go.RowKit Go.Proofs.Ytiaajmiphnjgaaa.Pr Go.Proofs.Ytiaajmiphnjgaaa.Hw Go.Proofs.Ytiaajmiphnjgaaa.Pl Go.Proofs.YtiaajmiphnjgaaaW.PrintWords Go.Proofs.YtiaajmiphnjgaaaW.PrintLast Go.Proofs.YtiaajmiphnjgaaaW.PrintMore
set_option linter.unusedVariables false
set_option linter.unusedSimpArgs false

theorem wf64 {x : Int} (h : (Lit.int .u64 x).wf = true) : 0 ≤ x ∧ x < 18446744073709551616 := by
  have h1 : IntKind.u64.min ≤ x ∧ x ≤ IntKind.u64.max := by simpa [Lit.wf] using h
  have e1 : IntKind.u64.min = 0 := by decide
  have e2 : IntKind.u64.max = 18446744073709551615 := by decide
  omega
/-- A check, and both ways on. -/
theorem ev_if {α : Type} {A : Nat → Option Bool} {b : Bool} (hA : Ev A b) {X Y : Nat → Option α} {r : α} (hx : b = true → Ev X r) (hy : b = false → Ev Y r) : Ev (fun k => (A k).bind fun t => if t = true then X k else Y k) r := by
  refine Ev.bind (f := fun k t => if t = true then X k else Y k) hA ?_
  cases b with
  | true => exact (hx rfl).congr fun k => if_pos rfl
  | false => exact (hy rfl).congr fun k => if_neg (by simp)
theorem ev_ite {α : Type} {c : Prop} [Decidable c] {X Y : Nat → Option α} {r : α} (hx : c → Ev X r) (hy : ¬ c → Ev Y r) : Ev (fun k => if c then X k else Y k) r := by
  by_cases h : c
  · exact (hx h).congr fun k => if_pos h
  · exact (hy h).congr fun k => if_neg h
/-- A check whose negation is handed on. -/
theorem ev_now_bind {α β : Type} {x : Option α} {a : α} (hx : x = some a) {f : Nat → α → Option β} {r : β} (h : Ev (fun k => f k a) r) : Ev (fun k => x.bind (f k)) r := by subst hx; exact h
theorem ipol_eq {p : Int} (hp : Supp p) {pts : List S34} (hx : PtsOk p pts) (hl : pts.length ≤ 12) : interpolate_Polynomial.f p pts = some (if (xsOf pts).Nodup then polL p pts else [], if (xsOf pts).Nodup then 0 else 1) := by
  unfold interpolate_Polynomial.f
  rw [if_pos (supB_iff.2 hp), if_pos (ptsB_iff.2 hx), if_pos hl]
theorem evI_trimL {p : Int} (hp : Supp p) (x : Int) (a : List Int) : evI p x (trimL a) = evI p x a := by
  haveI := nz hp
  refine T_inj hp (evI_res hp _ _) (evI_res hp _ _) ?_
  rw [ev_evI hp, ev_trimL, ev_evI hp]
end Go.Proofs.Ytiaajmiphnjgaaa.E
end
section
/-
  What the statements of chapter 9 share: the first check.
-/
namespace Go.Proofs.Ytiaajmiphnjgaaa.E
open Go.RowKit Go.Proofs.Ytiaajmiphnjgaaa.Pr Go.Proofs.Ytiaajmiphnjgaaa.Hw Go.Proofs.Ytiaajmiphnjgaaa.Pl Go.Proofs.YtiaajmiphnjgaaaW.PrintWords Go.Proofs.YtiaajmiphnjgaaaW.PrintLast Go.Proofs.YtiaajmiphnjgaaaW.PrintMore
set_option linter.unusedVariables false
set_option linter.unusedSimpArgs false

theorem awake09 : Ev (fun k => privitylaw09_awake.f k) true := Ev.of (fun k => privitylaw09_awake.mono _) (k := 40) (by kernel_rfl)
end Go.Proofs.Ytiaajmiphnjgaaa.E
end
section
/-
  The reference of layer 4: what its printed functions answer.
-/

namespace Go.Proofs.Ytiaajmiphnjgaaa.E
open Go.RowKit Go.Proofs.Ytiaajmiphnjgaaa.Pr Go.Proofs.Ytiaajmiphnjgaaa.Hw Go.Proofs.Ytiaajmiphnjgaaa.Pl Go.Proofs.YtiaajmiphnjgaaaW.PrintWords Go.Proofs.YtiaajmiphnjgaaaW.PrintLast Go.Proofs.YtiaajmiphnjgaaaW.PrintMore
set_option linter.unusedVariables false
set_option linter.unusedSimpArgs false

/-! ### Coefficients of what the program adds up -/
/-! ### Sum -/
end Go.Proofs.Ytiaajmiphnjgaaa.E
end
section
/-
  The reference of layer 5: what its printed functions answer.
-/
namespace Go.Proofs.Ytiaajmiphnjgaaa.E
open Go.RowKit Go.Proofs.Ytiaajmiphnjgaaa.Pr Go.Proofs.Ytiaajmiphnjgaaa.Hw Go.Proofs.Ytiaajmiphnjgaaa.Pl Go.Proofs.YtiaajmiphnjgaaaW.PrintWords Go.Proofs.YtiaajmiphnjgaaaW.PrintLast Go.Proofs.YtiaajmiphnjgaaaW.PrintMore
set_option linter.unusedVariables false
set_option linter.unusedSimpArgs false

/-- A loop that answers false at the first i that Q does not hold of. -/
theorem allLoop {F : Nat → Int → Option Bool} {n : Nat} {Q : Nat → Prop} [DecidablePred Q] (hend : ∀ k, F (k + 1) (n : Int) = some true) (hyes : ∀ i, i < n → Q i → ∀ r, Ev (fun k => F k ((i + 1 : Nat) : Int)) r → Ev (fun k => F k (i : Int)) r)
    (hno : ∀ i, i < n → ¬ Q i → Ev (fun k => F k (i : Int)) false) (r : Bool) (hr : r = true ↔ ∀ i, i < n → Q i) : Ev (fun k => F k ((0 : Nat) : Int)) r := by
  have main : ∀ d i, i + d = n → ∀ r : Bool, (r = true ↔ ∀ j, i ≤ j → j < n → Q j) → Ev (fun k => F k (i : Int)) r := by
    intro d
    induction d with
    | zero =>
      intro i hi r hr
      have : i = n := by omega
      subst this
      have : r = true := hr.2 (fun j h1 h2 => by omega)
      subst this
      exact Ev.step (fun k => hend k) (Ev.now _)
    | succ d ih =>
      intro i hi r hr
      by_cases h : Q i
      · refine hyes i (by omega) h r (ih (i + 1) (by omega) r ⟨fun e j h1 h2 => hr.1 e j (by omega) h2, fun e => hr.2 fun j h1 h2 => ?_⟩)
        by_cases e2 : j = i
        · rw [e2]; exact h
        · exact e j (by omega) h2
      · have : r = false := by
          cases r with
          | false => rfl
          | true => exact absurd (hr.1 rfl i (Nat.le_refl _) (by omega)) h
        subst this
        exact hno i (by omega) h
  exact main n 0 (by omega) r ⟨fun e j _ h2 => hr.1 e j h2, fun e => hr.2 fun j h => e j (Nat.zero_le _) h⟩
def belowB (p : Int) (l : List Int) : Bool := l.all fun x => decide (x < p)
theorem below_ev (p : Int) (l : List Int) (hl : l.length ≤ 1000000000) : Ev (fun k => privityref05_Below.f k p l) (belowB p l) := by
  have h := allLoop (F := fun k i => privityref05_Below.l0 k p l i) (n := l.length) (Q := fun i => l.getD i 0 < p) (fun k => ?_) (fun i hi hq r h => ?_) (fun i hi hq => ?_) (belowB p l) ?_
  · exact h
  · simp only [privityref05_Below.l0]
    rw [if_neg (by omega)]
  · refine Ev.step (fun k => ?_) h
    simp only [privityref05_Below.l0]
    rw [if_pos (by omega), if_pos (by omega), rd_nat, if_neg (by omega), wnat (by omega)]
  · refine Ev.step (fun k => ?_) (Ev.now _)
    simp only [privityref05_Below.l0]
    rw [if_pos (by omega), if_pos (by omega), rd_nat, if_pos (by omega)]
  · unfold belowB
    rw [List.all_eq_true]
    refine ⟨fun h i hi => ?_, fun h x hx => ?_⟩
    · rw [Hw.getD_in _ _ hi]; exact of_decide_eq_true (h _ (List.getElem_mem hi))
    · obtain ⟨i, hi, rfl⟩ := List.getElem_of_mem hx
      have := h i hi
      rw [Hw.getD_in _ _ hi] at this
      exact decide_eq_true this
theorem below_res {p : Int} {l : List Int} (h : belowB p l = true) (hw : ∀ x ∈ l, 0 ≤ x) : ∀ x ∈ l, Res p x := fun x hx => ⟨hw x hx, of_decide_eq_true (List.all_eq_true.1 h x hx)⟩
end Go.Proofs.Ytiaajmiphnjgaaa.E
end
section
/-
  Reconstruct reports an error if exactly one of at least t + 2 shares is wrong.
-/
namespace Go.Proofs.Ytiaajmiphnjgaaa.Pure
open Go.RowKit Go.Proofs.Ytiaajmiphnjgaaa.Pr Go.Proofs.Ytiaajmiphnjgaaa.Hw Go.Proofs.Ytiaajmiphnjgaaa.E Go.Proofs.YtiaajmiphnjgaaaW.PrintWords Go.Proofs.YtiaajmiphnjgaaaW.PrintLast Go.Proofs.YtiaajmiphnjgaaaW.PrintMore
set_option linter.unusedVariables false
set_option linter.unusedSimpArgs false

theorem rd_setY_self (l : List S34) (i : Nat) (hi : i < l.length) (y : Int) : rd_T34 (setY l (i : Int) y) (i : Int) = ⟨(rd_T34 l (i : Int)).f0, y⟩ := by
  rw [rdP_in _ i (by rw [setY_length]; exact hi)]
  have : (setY l (i : Int) y)[i]? = some ⟨(rd_T34 l (i : Int)).f0, y⟩ := by unfold setY; rw [Int.toNat_natCast, List.getElem?_set_self hi]
  rw [List.getElem?_eq_getElem (by rw [setY_length]; exact hi)] at this
  exact Option.some.inj this
theorem rd_setY_ne (l : List S34) (i j : Nat) (hj : j < l.length) (e : j ≠ i) (y : Int) : rd_T34 (setY l (i : Int) y) (j : Int) = rd_T34 l (j : Int) := by
  rw [rdP_in _ j (by rw [setY_length]; exact hj), rdP_in _ j hj]
  have : (setY l (i : Int) y)[j]? = l[j]? := by unfold setY; rw [Int.toNat_natCast, List.getElem?_set_ne (Ne.symm e)]
  rw [List.getElem?_eq_getElem (by rw [setY_length]; exact hj), List.getElem?_eq_getElem hj] at this
  exact Option.some.inj this
section
variable {p : Int} (hp : Supp p) {q xs : List Int} (hq : ∀ x ∈ q, Res p x) (hx : ∀ x ∈ xs, Res p x) (i : Nat) (hi : i < xs.length) {y : Int} (hy : Res p y)
include hi in
theorem det_xs : xsOf (setY (ptsOf p xs q) (i : Int) y) = xs := by
  have h1 : (rd_T34 (ptsOf p xs q) (i : Int)).f0 = xs[i] := by rw [ptsOf_rd _ _ _ _ hi]; exact (rd_nat xs i).trans (Hw.getD_in _ _ hi)
  unfold setY
  rw [h1, Int.toNat_natCast]
  have h2 : xsOf ((ptsOf p xs q).set i ⟨xs[i], y⟩) = (xsOf (ptsOf p xs q)).set i xs[i] := by unfold xsOf; rw [List.map_set]
  rw [h2, ptsOf_xs, List.set_getElem_self]
include hp hx hi hy in
theorem det_ok : PtsOk p (setY (ptsOf p xs q) (i : Int) y) := by
  intro x hm
  have h1 : (rd_T34 (ptsOf p xs q) (i : Int)).f0 = xs[i] := by rw [ptsOf_rd _ _ _ _ hi]; exact (rd_nat xs i).trans (Hw.getD_in _ _ hi)
  unfold setY at hm
  rcases List.mem_or_eq_of_mem_set hm with h | rfl
  · exact ptsOf_ok hp hx q x h
  · exact ⟨by rw [h1]; exact hx _ (List.getElem_mem hi), hy⟩
include hp hq hx hi hy in
theorem det_deg (hn : xs.Nodup) (lx : q.length + 1 ≤ xs.length) (hne : y ≠ evI p (rd xs i) q) : q.length < (polL p (setY (ptsOf p xs q) (i : Int) y)).length := by
  refine Nat.lt_of_not_le fun hle => hne ?_
  have hok := det_ok hp (q := q) hx i hi hy
  have hnd : (xsOf (setY (ptsOf p xs q) (i : Int) y)).Nodup := by rw [det_xs i hi]; exact hn
  have hlen : (setY (ptsOf p xs q) (i : Int) y).length = xs.length := by rw [setY_length, ptsOf_length]
  have hsub := List.eraseIdx_sublist xs i
  have hlen2 : (xs.eraseIdx i).length = xs.length - 1 := List.length_eraseIdx_of_lt hi
  have h := uniq hp (xs := xs.eraseIdx i) (f := polL p (setY (ptsOf p xs q) (i : Int) y)) (g := q) (fun x hm => hx x (hsub.subset hm)) (hsub.nodup hn) (polL_res hp hok) hq (by omega) (by omega) fun x hm => by
    obtain ⟨j, hji, hj⟩ := List.mem_eraseIdx_iff_getElem?.1 hm
    have hjl : j < xs.length := (List.getElem?_eq_some_iff.1 hj).1
    have hxj : rd xs (j : Int) = x := by rw [rd_nat, List.getD_eq_getElem?_getD, hj]; rfl
    have := polL_at hp hok hnd j (by omega)
    rw [rd_setY_ne _ i j (by rw [ptsOf_length]; exact hjl) hji, ptsOf_rd _ _ _ _ hjl, hxj] at this
    exact this
  have h2 := polL_at hp hok hnd i (by omega)
  rw [rd_setY_self _ i (by rw [ptsOf_length]; exact hi), ptsOf_rd _ _ _ _ hi] at h2
  rw [← evI_trimL hp, h, evI_trimL hp] at h2
  exact h2.symm
include hp hq hx hi hy in
theorem det_recon (hn : (0 :: xs).Nodup) (lq : 1 ≤ q.length) (lx : q.length + 1 ≤ xs.length) (l12 : xs.length ≤ 12) (hne : y ≠ evI p (rd xs i) q) : Ev (fun k => shamir_Reconstruct.f k p ((q.length : Int) - 1) (setY (ptsOf p xs q) (i : Int) y)) (0, 9) := by
  have hnx := (List.nodup_cons.1 hn).2
  have hlen : (setY (ptsOf p xs q) (i : Int) y).length = xs.length := by rw [setY_length, ptsOf_length]
  have hdeg := det_deg hp hq hx i hi hy hnx lx hne
  have hxs := det_xs (p := p) (q := q) (y := y) i hi
  have hpl : shamir_placed.f (setY (ptsOf p xs q) (i : Int) y) = some true := by
    unfold shamir_placed.f
    rw [if_pos (by omega), hxs, decide_eq_true hn]
  have he := ipol_eq hp (det_ok hp (q := q) hx i hi hy) (by omega)
  have hplen := polL_len hp (pts := setY (ptsOf p xs q) (i : Int) y)
  have htrim := polL_trim p (setY (ptsOf p xs q) (i : Int) y)
  rw [hxs, if_pos hnx, if_pos hnx] at he
  obtain ⟨pts, hpts⟩ : ∃ z, z = setY (ptsOf p xs q) (i : Int) y := ⟨_, rfl⟩
  rw [← hpts] at hlen hdeg hxs hpl he hplen htrim ⊢
  have hj : Ev (fun k => shamir_Reconstruct.j0 k p ((q.length : Int) - 1) pts false) (0, 9) := by
    refine Ev.step (f := fun k => (interpolate_Polynomial.f p pts).bind fun bt182 => (if bt182.2 = 0 then ((poly_Degree.f k bt182.1).bind fun t186 => (if t186 > (q.length : Int) - 1 then (some (0, 9)) else ((poly_Coefficient.f bt182.1 0).bind fun t187 => (some (t187, 0))))) else (some (0, bt182.2)))) (fun k => ?_) ?_
    · simp only [shamir_Reconstruct.j0]
      rw [if_neg (by simp)]
    · refine ev_now_bind he (Ev.congr (fun k => if_pos rfl) (Ev.bind (degree_ev (polL p pts) (by omega)) (Ev.congr (fun k => if_pos ?_) (Ev.now _))))
      rw [htrim]; omega
  refine hj.congr fun k => ?_
  unfold shamir_Reconstruct.f
  rw [if_neg (by omega), hpl, Option.bind_some, if_pos rfl, decide_eq_false (by omega)]
end
theorem det_next (p : Int) (xs f : List Int) (i : Nat) (hi : i < xs.length) : ptsOf p (xs.take i) f ++ [⟨rd xs i, evI p (rd xs i) f⟩] = ptsOf p (xs.take (i + 1)) f := by
  unfold ptsOf
  rw [List.take_succ_eq_append_getElem hi, List.map_append, rd_nat, Hw.getD_in _ _ hi]; rfl
/-- The places 1 to m. -/
def xsN (m : Nat) : List Int := (List.range m).map fun (i : Nat) => (i : Int) + 1
theorem xsN_length (m : Nat) : (xsN m).length = m := by simp [xsN]
theorem xsN_rd {m i : Nat} (h : i < m) : rd (xsN m) (i : Int) = (i : Int) + 1 := by
  rw [rd_nat, List.getD_eq_getElem?_getD]
  unfold xsN
  rw [List.getElem?_map, List.getElem?_range h]; rfl
theorem xsN_mem {m : Nat} {x : Int} (h : x ∈ xsN m) : 1 ≤ x ∧ x ≤ m := by
  obtain ⟨i, hi, rfl⟩ := List.mem_map.1 h
  have := List.mem_range.1 hi
  omega
theorem xsN_nodup (m : Nat) : (0 :: xsN m).Nodup := by
  refine List.nodup_cons.2 ⟨fun h => by have := xsN_mem h; omega, ?_⟩
  unfold xsN
  rw [List.nodup_iff_pairwise_ne, List.pairwise_map]
  exact (List.nodup_iff_pairwise_ne.1 List.nodup_range).imp fun h e => h (by omega)
theorem det_len (p : Int) (q : List Int) (m j : Nat) (h : m ≤ 12) : (ptsOf p ((xsN m).take j) q).length < 8796093022208 := by
  have h1 : (ptsOf p ((xsN m).take j) q).length ≤ 12 := by rw [ptsOf_length, List.length_take, xsN_length]; omega
  exact Nat.lt_of_le_of_lt h1 (by decide)
theorem det_main {p : Int} (hp : Supp p) {q : List Int} (hq : ∀ x ∈ q, Res p x) (q1 : 1 ≤ q.length) (q9 : q.length ≤ 9) (w0 w1 w2 : Int) (h0 : 0 ≤ w0) (h1 : 0 ≤ w1) (h2 : 0 ≤ w2) (m : Nat) (hm : m = q.length + 1 + (w0 % 3).toNat) : Ev (fun k => privitylaw09_ShamirDetectsOneWrongShare.l0 k p q (m : Int) [] 1 w0 w1 w2) true := by
  have hb := hp.bd
  have hw0 : 0 ≤ w0 % 3 ∧ w0 % 3 < 3 := ⟨Int.emod_nonneg _ (by omega), Int.emod_lt_of_pos _ (by omega)⟩
  have hm12 : m ≤ 12 := by omega
  have hx : ∀ x ∈ xsN m, Res p x := fun x h => by have := xsN_mem h; exact ⟨by omega, by omega⟩
  have hxl := xsN_length m
  have main := up (Q := fun j => Ev (fun k => privitylaw09_ShamirDetectsOneWrongShare.l0 k p q (m : Int) (ptsOf p ((xsN m).take j) q) ((j : Int) + 1) w0 w1 w2) true) (n := m) ?_ fun j hj h => ?_
  · exact main
  · have hwm := Aside0.mk (show IntKind.u64.wrap (m : Int) = (m : Int) from wrapU_id (by omega) (by omega))
    obtain ⟨i, hi⟩ : ∃ i : Nat, (i : Int) = w1 % (m : Int) := ⟨(w1 % (m : Int)).toNat, Int.toNat_of_nonneg (Int.emod_nonneg _ (by omega))⟩
    have hil : i < m := by
      have := Int.emod_lt_of_pos w1 (show (0 : Int) < (m : Int) by omega)
      omega
    have hk := Aside0.mk (show wrap64 (Int.tmod w1 (m : Int)) = (i : Int) from by rw [tmod_pos h1, ← hi, wcap (by omega) (by omega)])
    have hp1 := Aside0.mk (show IntKind.u64.wrap (p - 1) = p - 1 from wrapU_id (by omega) (by omega))
    obtain ⟨d, hd⟩ : ∃ d, d = 1 + w2 % (p - 1) := ⟨_, rfl⟩
    have hd2 : 0 < d ∧ d < p := by
      have h3 := Int.emod_nonneg w2 (show p - 1 ≠ 0 by omega)
      have h4 := Int.emod_lt_of_pos w2 (show (0 : Int) < p - 1 by omega)
      omega
    have hdw := Aside0.mk (show IntKind.u64.wrap (1 + Int.tmod w2 (p - 1)) = d from by rw [tmod_pos h2, ← hd, wrapU_id (by omega) (by omega)])
    have hyi : (rd_T34 (ptsOf p (xsN m) q) (i : Int)).f1 = evI p (rd (xsN m) (i : Int)) q := by rw [ptsOf_rd _ _ _ _ (by omega)]
    have hyr : Res p (evI p (rd (xsN m) (i : Int)) q) := evI_res hp _ _
    have hne : (evI p (rd (xsN m) (i : Int)) q + d) % p ≠ evI p (rd (xsN m) (i : Int)) q := by
      intro e
      obtain ⟨e0, e1⟩ := hyr
      by_cases hlt : evI p (rd (xsN m) (i : Int)) q + d < p
      · rw [Int.emod_eq_of_lt (by omega) hlt] at e; omega
      · have : (evI p (rd (xsN m) (i : Int)) q + d) % p = evI p (rd (xsN m) (i : Int)) q + d - p := by
          rw [← Int.sub_emod_right]
          exact Int.emod_eq_of_lt (by omega) (by omega)
        omega
    have hrec := det_recon hp hq hx i (by omega) (Res.mod hp _) (xsN_nodup m) q1 (by omega) (by omega) hne
    have hfull : (xsN m).take m = xsN m := List.take_of_length_le (by omega)
    rw [hfull]
    refine Ev.step (f := fun k => (field_Add.f k p ((rd_T34 (ptsOf p (xsN m) q) (i : Int)).f1) d).bind fun t264 => ((shamir_Reconstruct.f k p ((q.length : Int) - 1) (setY (ptsOf p (xsN m) q) (i : Int) t264)).bind fun bt265 => (if bt265.1 = 0 then (some (bt265.2 == 9)) else (some false)))) (fun k => ?_) ?_
    · simp only [privitylaw09_ShamirDetectsOneWrongShare.l0]
      rw [if_neg (by omega), hwm.out, if_neg (by omega), hk.out, if_pos (by omega), if_pos (by rw [ptsOf_length]; omega), hp1.out, if_neg (by omega), hdw.out, wcap (by omega) (by omega)]
    · rw [hyi]
      refine Ev.bind (add_ev hp hyr ⟨by omega, hd2.2⟩) (Ev.bind hrec (Ev.congr (fun k => if_pos rfl) (Ev.now _)))
  · have hjm : j < (xsN m).length := by omega
    rw [← det_next p (xsN m) q j hjm, xsN_rd hj] at h
    have hw := Aside0.mk (show IntKind.u64.wrap ((j : Int) + 1) = (j : Int) + 1 from wrapU_id (by omega) (by omega))
    have hw2 := Aside0.mk (show wrap64 ((j : Int) + 1 + 1) = ((j + 1 : Nat) : Int) + 1 from by rw [wcap (by omega) (by omega)]; omega)
    obtain ⟨pts, hpts⟩ : ∃ z, z = ptsOf p ((xsN m).take j) q := ⟨_, rfl⟩
    rw [← hpts] at h ⊢
    have hj1 : Res p ((j : Int) + 1) := ⟨by omega, by omega⟩
    have he := eval_ev hp hj1 q hq (Nat.le_trans q9 (by decide))
    obtain ⟨e, hee⟩ : ∃ z, z = evI p ((j : Int) + 1) q := ⟨_, rfl⟩
    rw [← hee] at h he
    have hbody : Ev (fun k => if pts.length < 8796093022208 then (privitylaw09_ShamirDetectsOneWrongShare.l0 k p q (m : Int) (pts ++ [(⟨(j : Int) + 1, e⟩ : S34)]) (((j + 1 : Nat) : Int) + 1) w0 w1 w2) else none) true := Ev.congr (fun k => if_pos (by rw [hpts]; exact det_len p q m j hm12)) h
    clear hpts h hee
    refine Ev.step (f := fun k => (poly_Eval.f k p q ((j : Int) + 1)).bind fun t259 => (if pts.length < 8796093022208 then (privitylaw09_ShamirDetectsOneWrongShare.l0 k p q (m : Int) (pts ++ [(⟨(j : Int) + 1, t259⟩ : S34)]) (((j + 1 : Nat) : Int) + 1) w0 w1 w2) else (none))) (fun k => ?_) (Ev.bind he hbody)
    simp only [privitylaw09_ShamirDetectsOneWrongShare.l0]
    rw [if_pos (by omega), hw.out, hw2.out]
theorem ShamirDetectsOneWrongShare (p : Int) (q : List Int) (w0 w1 w2 : Int) (wp : (Lit.int .u64 p).wf = true) (wq : ∀ x_ ∈ q, (Lit.int .u64 x_).wf = true) (h0 : (Lit.int .u64 w0).wf = true) (h1 : (Lit.int .u64 w1).wf = true) (h2 : (Lit.int .u64 w2).wf = true) : ∃ k, privitylaw09_ShamirDetectsOneWrongShare.f k p q w0 w1 w2 = some true := by
  refine Ev.rounds (r := true) ?_
  unfold privitylaw09_ShamirDetectsOneWrongShare.f
  have hskip : Ev (fun k => privitylaw09_ShamirDetectsOneWrongShare.j0 k p q true w0 w1 w2) true := by
    refine Ev.step (fun k => ?_) (Ev.now _)
    simp only [privitylaw09_ShamirDetectsOneWrongShare.j0]
    rw [if_pos trivial]
  refine ev_if awake09 (fun _ => ev_if (supported_ev p) (fun hs => ev_ite (fun _ => hskip) fun l1 => ev_ite (fun _ => hskip) fun l9 => Ev.bind (below_ev p q (by omega)) ?_) fun _ => hskip) (fun h => by cases h)
  cases hbel : belowB p q with
  | false => exact hskip
  | true =>
    have hw0 : 0 ≤ w0 % 3 ∧ w0 % 3 < 3 := ⟨Int.emod_nonneg _ (by omega), Int.emod_lt_of_pos _ (by omega)⟩
    refine Ev.step (fun k => ?_) (det_main (supB_of hs) (below_res hbel fun x hx => (wf64 (wq x hx)).1) (by omega) (by omega) w0 w1 w2 (wf64 h0).1 (wf64 h1).1 (wf64 h2).1 _ rfl)
    simp only [privitylaw09_ShamirDetectsOneWrongShare.j0]
    rw [if_neg (by simp), tmod_pos (wf64 h0).1, wcap (n := w0 % 3) (by omega) (by omega), wcap (n := (q.length : Int) + 1) (by omega) (by omega), wcap (by omega) (by omega), show (q.length : Int) + 1 + w0 % 3 = ((q.length + 1 + (w0 % 3).toNat : Nat) : Int) from by omega]
end Go.Proofs.Ytiaajmiphnjgaaa.Pure
end
section
/-
  What came in, opened: numbers, bools, rows and structs of them, to any depth.
-/
namespace Go.Proofs.Ytiaajmiphnjgaaa.Op
open Go.RowKit Go.Proofs.YtiaajmiphnjgaaaW.PrintWords
set_option linter.unusedVariables false

/-- What is read of a type's value is a value of d, and Q holds of it. -/
def OpenK {α : Type} (P : Program) (t : TypeId) (d : Kd α) (Q : α → Prop) : Prop :=
  ∀ {H : Type} {enc : TypeId × Value → H} {w : World} {base : Nat} {sp : Nat → Bool} {hd : Bool} {fuel : Nat} {cs : List Value} {x : DataW H × List MemPlace}, DataW.trod enc P w base sp hd fuel t cs = some x → ∃ v : α, d.K w v cs ∧ Q v
theorem openInt {P : Program} {t : TypeId} {k : IntKind} (ht : P.underlying t = some (.int k)) : OpenK P t (Kd.int k) (fun n => (Lit.int k n).wf = true) := by
  intro H enc w base sp hd fuel cs x h
  obtain ⟨n, rfl, _, hw⟩ := DataW.trod_int ht h
  exact ⟨n, rfl, hw⟩
theorem exists_list {α : Type} {R : Nat → α → Prop} : ∀ (n : Nat), (∀ i, i < n → ∃ v, R i v) → ∃ l : List α, l.length = n ∧ ∀ i v, l[i]? = some v → R i v
  | 0, _ => ⟨[], rfl, fun i v h => by simp at h⟩
  | n + 1, h => by
    obtain ⟨l, hl, hr⟩ := exists_list n (fun i hi => h i (by omega))
    obtain ⟨v, hv⟩ := h n (by omega)
    refine ⟨l ++ [v], by simp [hl], fun i u hu => ?_⟩
    by_cases hi : i < n
    · rw [List.getElem?_append_left (by omega)] at hu
      exact hr i u hu
    · rw [List.getElem?_append_right (by omega)] at hu
      by_cases h0 : i - l.length = 0
      · rw [h0] at hu
        simp only [List.getElem?_cons_zero, Option.some.injEq] at hu
        rw [← hu, show i = n from by omega]; exact hv
      · rw [List.getElem?_eq_none (by simp; omega)] at hu; cases hu
theorem openSlice {α : Type} {P : Program} {t e : TypeId} {d : Kd α} {Q : α → Prop} (ht : P.underlying t = some (.slice e)) (hc : P.cellsOf e = d.sz) (he : OpenK P e d Q) : OpenK P t (Kd.slice e d) (fun l => ∀ x ∈ l, Q x) := by
  intro H enc w base sp hd fuel cs x h
  rcases DataW.trod_slice ht h with ⟨rfl, _⟩ | ⟨a, len, cap, elems, rest, n, _, rfl, _, _, hlc, hm, hlen, hel, _, _⟩
  · exact ⟨[], ⟨none, 0, rfl, Nat.le_refl _, rfl, Nat.zero_le _, fun h => absurd h (Nat.lt_irrefl 0)⟩, fun x hx => by cases hx⟩
  · have each : ∀ i, i < len → ∃ v, (∃ c, c.length = d.sz ∧ d.K w v c ∧ ∀ j u, c[j]? = some u → w.cell? (a.add (i * d.sz + j)) = some u) ∧ Q v := by
      intro i hi
      have h1 := hel i hi
      rw [List.getElem?_eq_getElem (by omega), hc] at h1
      obtain ⟨c, hcs, htr⟩ := Option.bind_eq_some_iff.1 h1
      obtain ⟨v, hk, hq⟩ := he htr
      refine ⟨v, ⟨c, d.K_len hk, hk, fun j u hu => ?_⟩, hq⟩
      have h2 := World.cells?_some hcs
      have hj := (List.getElem?_eq_some_iff.1 hu).1
      have h3 := h2.2.2 j (by rw [← d.K_len hk]; exact hj)
      rw [hu] at h3
      rw [← h3, ← Addr.add_add]
    obtain ⟨l, hl, hr⟩ := exists_list len each
    refine ⟨l, ⟨some a, cap, by rw [hl], by omega, rfl, by rw [hl]; simp only [maxLen] at hm; omega, fun _ => ⟨a, rfl, fun j p hj => (hr j p hj).1⟩⟩, fun x hx => ?_⟩
    obtain ⟨i, hi, rfl⟩ := List.getElem_of_mem hx
    exact (hr i _ (List.getElem?_eq_getElem hi)).2
/-- An array's elements. -/
theorem openElems {P : Program} {H : Type} {enc : TypeId × Value → H} {w : World} {base : Nat} {sp : Nat → Bool} {hd : Bool} {fuel : Nat} {t : TypeId} {cs : List Value} {x : DataW H × List MemPlace} {n : Nat} {e : TypeId} (ht : P.underlying t = some (.array n e))
    (h : DataW.trod enc P w base sp hd fuel t cs = some x) : cs.length = P.cellsOf t ∧ ∀ (i : Nat), i < n → ∃ m y, DataW.trod enc P w base sp hd m e ((cs.drop (i * P.cellsOf e)).take (P.cellsOf e)) = some y := by
  obtain ⟨xs, m, _, _, hl, hlen, hf⟩ := DataW.trod_array ht h
  refine ⟨hl, fun i hi => ?_⟩
  have h1 := hf i hi
  rw [List.getElem?_eq_getElem (by omega)] at h1
  exact ⟨m, _, h1⟩
theorem okWide_arr {P : Program} {w : World} {r : Reach} {base : Nat} {t : TypeId} {v : Value} {n : Nat} {e : TypeId} (ht : P.underlying t = some (.array n e)) (h : Value.okWide P w r base t v) : ∃ cs, v = .agg cs ∧ cs.size = P.cellsOf t := by
  simp only [Value.okWide, ht] at h
  obtain ⟨cs, h1, h2, _⟩ := h
  exact ⟨cs, h1, h2⟩
end Go.Proofs.Ytiaajmiphnjgaaa.Op
end
section
/- The row of the law ShamirDetectsOneWrongShare, out of its plain law and the walk. -/
namespace Go.Proofs.Ytiaajmiphnjgaaa.shamirDetectsOneWrongShare
open Go.ChangeShapes Go.WideShapes Go.ChangeAt Go.RowKit Go.Proofs.Ytiaajmiphnjgaaa.Pr Go.Proofs.YtiaajmiphnjgaaaW.PrintWords
set_option linter.unusedVariables false
theorem own : ownKnob Try.prog.godebug = none := by kernel_rfl
theorem laidOut : laidOutB Try.prog = true := by kernel_rfl
set_option maxRecDepth 100000 in
theorem arr3 (cs : Array Value) (h : cs.size = 3) : ∃ c0_ c1_ c2_, cs = #[c0_, c1_, c2_] := by
  obtain ⟨l_⟩ := cs
  match l_, h with
  | [c0_, c1_, c2_], _ => exact ⟨_, _, _, rfl⟩
set_option maxHeartbeats 4000000 in
set_option maxRecDepth 100000 in
theorem lifted (os : Os) (started : os.Started) (H : Type) (enc : TypeId × Value → H) :
    ReturnsInHanded {} Try.checked os 7 .any (Rows.shamirDetectsOneWrongShareSpec.pre6 enc Try.prog Try.f7 Rows.shamirDetectsOneWrongShareRow.domain false) (Rows.shamirDetectsOneWrongShareSpec.post enc Try.prog Try.f7 false true false false) := by
  refine returnsInHanded_of_change_sized (C := Try.checked) own started (by kernel_rfl) Try.func7
    (ChangeSpec.witness6 (enc := enc) (C := Try.checked) false ⟨#[], #[.int .u64 0, .slice none 0 0, .agg #[.int .u64 0, .int .u64 0, .int .u64 0]], []⟩ 8 (by kernel_rfl) (by kernel_rfl) (by kernel_rfl) (by kernel_rfl)) ?_
  intro W base args ds gs before hval0 hW hcnd hsz0 _
  have hval : ∀ (j : Nat) t v, Try.f7.params[j]? = some t → args[j]? = some v → Value.okWide Try.prog W .any base t v := hval0
  have hW' := hW
  obtain ⟨p, q, hA0, hV, rfl, hfz, hnd⟩ := hW
  have hA : DataW.TrodAll enc Try.prog W 0 (fun _ => true) true Try.f7.params.toList args.toList ds p := hA0
  rw [Try.params7] at hA hval
  obtain ⟨v0, vs0, d0, ds0, p0, q0, hargs, rfl, rfl, h0, r0⟩ := trodAll_cons hA
  obtain ⟨v1, vs1, d1, ds1, p1, q1, rfl, rfl, rfl, h1, r1⟩ := trodAll_cons r0
  obtain ⟨v2, vs2, d2, ds2, p2, q2, rfl, rfl, rfl, h2, r2⟩ := trodAll_cons r1
  obtain ⟨rfl, rfl, rfl⟩ := trodAll_nil r2
  obtain rfl : args = #[v0, v1, v2] := by cases args; simp_all
  obtain ⟨rfl, rfl⟩ := trodVars_none hV
  have k0 := h0
  have lt0 : ∀ x ∈ p0, x.block < W.heap.size := by obtain ⟨m, hm⟩ := k0; exact DataW.trod_lt m _ _ _ hm
  obtain ⟨a0, rfl, rfl, rfl, w0⟩ := open_int Try.underlying22 (hval 0 22 v0 rfl rfl) h0
  have k1 := h1
  have lt1 : ∀ x ∈ p1, x.block < W.heap.size := by obtain ⟨m, hm⟩ := k1; exact DataW.trod_lt m _ _ _ hm
  obtain ⟨a1, len1, cap1, rfl⟩ := okWide_slice Try.underlying23 (hval 1 23 v1 rfl rfl)
  obtain ⟨fu1, hf1⟩ := h1
  obtain ⟨z1, ⟨A1, c1, e1, hc1, g1⟩, w1⟩ := (Op.openSlice (d := (Kd.int .u64)) Try.underlying23 (by kernel_rfl) (Op.openInt (k := .u64) Try.underlying22)) hf1
  cases e1
  have k2 := h2
  have lt2 : ∀ x ∈ p2, x.block < W.heap.size := by obtain ⟨m, hm⟩ := k2; exact DataW.trod_lt m _ _ _ hm
  obtain ⟨cs2, rfl, hs2⟩ := Op.okWide_arr Try.underlying48 (hval 2 48 v2 rfl rfl)
  have hN2 : Try.prog.cellsOf 48 = 3 := by kernel_rfl
  rw [hN2] at hs2
  obtain ⟨x2_0, x2_1, x2_2, rfl⟩ := arr3 cs2 hs2
  obtain ⟨fu2, hf2⟩ := h2
  have hg2 : DataW.trod enc Try.prog W 0 (fun _ => true) true fu2 48 [x2_0, x2_1, x2_2] = some (d2, p2) := hf2
  have f2 := (Op.openElems Try.underlying48 hg2).2
  obtain ⟨n2_0, y2_0, e2_0⟩ := f2 0 (by decide)
  have b2_0 : DataW.trod enc Try.prog W 0 (fun _ => true) true n2_0 22 [x2_0] = some y2_0 := e2_0
  obtain ⟨a2_0, e2_0, w2_0⟩ := (Op.openInt (k := .u64) Try.underlying22) b2_0
  cases e2_0
  obtain ⟨n2_1, y2_1, e2_1⟩ := f2 1 (by decide)
  have b2_1 : DataW.trod enc Try.prog W 0 (fun _ => true) true n2_1 22 [x2_1] = some y2_1 := e2_1
  obtain ⟨a2_1, e2_1, w2_1⟩ := (Op.openInt (k := .u64) Try.underlying22) b2_1
  cases e2_1
  obtain ⟨n2_2, y2_2, e2_2⟩ := f2 2 (by decide)
  have b2_2 : DataW.trod enc Try.prog W 0 (fun _ => true) true n2_2 22 [x2_2] = some y2_2 := e2_2
  obtain ⟨a2_2, e2_2, w2_2⟩ := (Op.openInt (k := .u64) Try.underlying22) b2_2
  cases e2_2
  clear hA0 hval0 hsz0
  obtain ⟨kk, hk⟩ := Pure.ShamirDetectsOneWrongShare a0 z1 a2_0 a2_1 a2_2 w0 w1 w2_0 w2_1 w2_2
  refine (privitylaw09_ShamirDetectsOneWrongShare.calls kk a0 _ _ z1 a2_0 a2_1 a2_2 true W g1 hc1 rfl hk).mono fun e W' ⟨he, bel⟩ => ?_
  subst he
  exact ⟨_, rfl, _, _, _, [], _, [], hW', trodAll_mk1 (shut_bool Try.underlying4 _), (trodAll_cons_mk (shut_int Try.underlying22 w0) (trodAll_cons_mk (Below.trod laidOut (by kernel_rfl) (of_decide_eq_true (by kernel_rfl)) k1 bel lt1) (trodAll_cons_mk (Below.trod laidOut (by kernel_rfl) (of_decide_eq_true (by kernel_rfl)) k2 bel lt2) trodAll_mk0))), rfl, bel.frame _, fun h => by cases h⟩
theorem over : Rows.shamirDetectsOneWrongShareRow.holds Try.pinned (OpenSpec.ofChange Rows.shamirDetectsOneWrongShareSpec) :=
  OpenClaim.holds_of_wide 7 Try.f7 rfl rfl rfl rfl rfl rfl rfl ⟨rfl, rfl, rfl, rfl, rfl⟩ rfl rfl rfl rfl rfl (by kernel_rfl) Try.func7 (by kernel_rfl)
    (of_decide_eq_true (by kernel_rfl)) (by unfold Func.isWrapper; first | (rw [if_pos (by decide +kernel)]; kernel_rfl) | (rw [if_neg (by decide +kernel)]; exact ⟨rfl, rfl⟩))
    (fun os started H enc _ => lifted os started H enc)
theorem proved : Rows.ShamirDetectsOneWrongShareSaid := over
#print axioms proved
end Go.Proofs.Ytiaajmiphnjgaaa.shamirDetectsOneWrongShare
namespace Go.Proofs.Ytiaajmiphnjgaaa
/-- The row, under a short name, for the claim. -/
theorem shamirDetectsOneWrongShare_holds : Rows.ShamirDetectsOneWrongShareSaid := shamirDetectsOneWrongShare.proved
end Go.Proofs.Ytiaajmiphnjgaaa
end
