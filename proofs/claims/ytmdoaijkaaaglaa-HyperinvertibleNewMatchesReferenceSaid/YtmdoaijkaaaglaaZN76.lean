/- Part 6 of the proof's texts, joined in build order. -/
import Derived.Test.YtmdoaijkaaaglaaZN71
import Derived.Test.YtmdoaijkaaaglaaZN75
import Derived.Test.YtmdoaijkaaaglaaProg
import Derived.MapKept
import Derived.Maps.Own
import Derived.Test.YtmdoaijkaaaglaaZN70
set_option linter.unusedVariables false
set_option linter.unusedSimpArgs false
section
namespace Go.Proofs.Ytmdoaijkaaaglaa.Pr
open Go.RowKit Go.Proofs.YtmdoaijkaaaglaaW.PrintWords Go.Proofs.YtmdoaijkaaaglaaW.PrintLast Go.Proofs.YtmdoaijkaaaglaaW.PrintMore
attribute [local go_sem] max2_int min2_int max_two min_two max_three min_three max_four min_four
open Go.Proofs.Ytmdoaijkaaaglaa.Hw
def privityref01_exps.f  : Option (List Int) := some (([5,7,13,17,19,31,61] : List Int))
set_option maxHeartbeats 8000000 in
set_option maxRecDepth 100000 in
theorem privityref01_exps.calls  (r : List Int) (w : World) (h : privityref01_exps.f  = some r) :
  Calls Try.prog 75 #[] w fun e w' => ∃ v0_ : Value,e = .returned (v0_) ∧ Kd.R (Kd.int .i64) 3 w' w.heap.size (fun _ => True) v0_ r ∧ Below w.heap.size w w' := by
 have HB := am (Below.refl w.heap.size w)
 have H : (some (([5,7,13,17,19,31,61] : List Int))) = some r := h
 clear h
 obtain ⟨y454,hy454⟩ : ∃ y_ : List Int,y_ = (([5,7,13,17,19,31,61] : List Int)) := ⟨_,rfl⟩
 replace H : (some y454) = some r := by first|(rw [hy454];with_reducible exact H)|(have H2_ := (Option.bind_some _ _).symm.trans H;rw [hy454];with_reducible exact H2_)|(have H2_ := (Option.bind_some _ _).symm.trans H;with_reducible exact H2_)|with_reducible exact H|(rw [hy454];exact H)|exact H
 have Ny454 := am hy454
 clear hy454
 obtain rfl := Option.some.inj H
 go_enter Try.func75,Try.ntmps75
 go_wp2_with (first|((with_reducible refine gate_dst (N := 1) rfl ?_);refine Kd.R_lit (Kd.int .i64) _ 3 ?hg (N := 1) ?hd (xs := ([5,7,13,17,19,31,61] : List Int)) (inner := [.int .i64 5,.int .i64 7,.int .i64 13,.int .i64 17,.int .i64 19,.int .i64 31,.int .i64 61]) (ok := fun _ => True) (okp := fun _ => True) ?hr ?hp (fun _ hk => hk) trivial (Below.refl _ _) (Nat.le_refl _) (by simp) ?_;(case hd => rfl);(case hg => rfl);(case hr => first|(go_simp;done)|(go_simp;rfl));(case hp => exact (Reps.one (show Kd.M (Kd.int .i64) _ _ _ 5 [.int .i64 5] from rfl) (Reps.one (show Kd.M (Kd.int .i64) _ _ _ 7 [.int .i64 7] from rfl) (Reps.one (show Kd.M (Kd.int .i64) _ _ _ 13 [.int .i64 13] from rfl) (Reps.one (show Kd.M (Kd.int .i64) _ _ _ 17 [.int .i64 17] from rfl) (Reps.one (show Kd.M (Kd.int .i64) _ _ _ 19 [.int .i64 19] from rfl) (Reps.one (show Kd.M (Kd.int .i64) _ _ _ 31 [.int .i64 31] from rfl) (Reps.one (show Kd.M (Kd.int .i64) _ _ _ 61 [.int .i64 61] from rfl) (Reps.none _ _)))))))));intro v455 w1 ho2 hb hg_ hnew_;clear hg_ hnew_;(first|rw [← Ny454.out] at ho2|(simp only [Int.reduceToNat] at ho2;rw [← Ny454.out] at ho2));have n0_ := am (Kd.R_lower ho2 (below_size (bb HB)));have n1_ := am (below_step (bb HB) hb);clear HB;have HO456 := n0_;have HB := n1_;clear n0_ n1_;clear hb ho2))
 go_ret
 exact ⟨_,by first|rfl|(simp [errW_none,errW_some] <;> rfl)|(simp [*,errW_none,errW_some] <;> rfl),by (with_reducible repeat (first|apply Kd.R_alloc|apply Kd.R_drewN|apply Kd.R_drew));exact HO456.out,bb HB⟩
def privityref01_Exponent.l0 : Nat → Int → List Int → Int → Option (Int)
 | 0,_,_,_ => none
 | k + 1,x0,x3,x4 => if x4 < (x3.length : Int) then (if 0 ≤ x4 then (if 0 ≤ (IntKind.u64.wrap (rd x3 x4)) then (if x0 = (IntKind.u64.wrap ((shl .u64 1 (IntKind.u64.wrap (rd x3 x4))) - 1)) then (some (rd x3 x4)) else (privityref01_Exponent.l0 k x0 x3 (wrap64 (x4 + 1)))) else (none)) else (none)) else (some 0)
def privityref01_Exponent.f (k : Nat) (a0 : Int) : Option (Int) := (privityref01_exps.f).bind fun t457 => (privityref01_Exponent.l0 k a0 t457 0)
theorem privityref01_Exponent.mono_l : ∀ k,(∀ y0 y1 y2,LeO (privityref01_Exponent.l0 k y0 y1 y2) (privityref01_Exponent.l0 (k + 1) y0 y1 y2))
 | 0 => fun _ _ _ r h => by simp [privityref01_Exponent.l0] at h
 | k + 1 => by
  have ih0 := privityref01_Exponent.mono_l k
  ·intro y0 y1 y2
   unfold privityref01_Exponent.l0
   repeat' first
   | (with_reducible exact ih0 _ _ _)
   | (with_reducible exact LeO.refl _)
   | (with_reducible exact LeO.none _)
   | (with_reducible refine LeO.ite ?_ ?_)
   | (with_reducible refine LeO.bind ?_ (fun _ => ?_))
   | exact ih0 _ _ _
   | exact LeO.none _
   | refine LeO.ite ?_ ?_
   | refine LeO.bind ?_ (fun _ => ?_)
theorem privityref01_Exponent.mono : ∀ a0 k,LeO (privityref01_Exponent.f k a0) (privityref01_Exponent.f (k + 1) a0) := by
 intro a0 k
 have ih0 := privityref01_Exponent.mono_l k
 unfold privityref01_Exponent.f
 repeat' first
   | (with_reducible exact ih0 _ _ _)
   | (with_reducible exact LeO.refl _)
   | (with_reducible exact LeO.none _)
   | (with_reducible refine LeO.ite ?_ ?_)
   | (with_reducible refine LeO.bind ?_ (fun _ => ?_))
   | exact ih0 _ _ _
   | exact LeO.none _
   | refine LeO.ite ?_ ?_
   | refine LeO.bind ?_ (fun _ => ?_)
set_option maxHeartbeats 8000000 in
set_option maxRecDepth 100000 in
theorem privityref01_Exponent.calls (k : Nat) (a0 : Int) (r : Int) (w : World) (h : privityref01_Exponent.f k a0 = some r) :
  Calls Try.prog 38 #[.int .u64 a0] w fun e w' => e = .returned (.int .i64 r) ∧ Below w.heap.size w w' := by
 have HB := am (Below.refl w.heap.size w)
 have H : ((privityref01_exps.f).bind fun t457 => (privityref01_Exponent.l0 k a0 t457 0)) = some r := h
 clear h
 replace H := Option.bind_eq_some_iff.mp H
 obtain ⟨t457,A20,H⟩ := H
 try dsimp only at H
 have A2 := am A20
 clear A20
 have H' := am H
 clear H
 go_enter Try.func38,Try.ntmps38
 go_wp2_with (first|((with_reducible refine gate_callee (f := 75) rfl ?_);refine goesL_ (some 5) rfl rfl Try.func75 (by kernel_rfl) rfl #[] rfl (by (try simp only [List.map_toArray,List.map_cons,List.map_nil]);first|done|rfl|(simp only [List.length_drop,List.length_take];rfl)) ?_;(with_reducible refine (privityref01_exps.calls  t457 _ A2.out).mono ?_);rintro e w3 ⟨v458,rfl,ho0,hb⟩;refine ⟨_,rfl,?_⟩;have n0_ := am (Kd.R_lower ho0 (below_size (bb HB)));have n1_ := am (below_step (bb HB) hb);clear HB;have HO459 := n0_;have HB := n1_;clear n0_ n1_;(try clear hb);(try clear hb2);(try clear hk);(try clear hi);(try clear ho0)))
 go_loopg [4] k (fun kq v4 w' => ∃ (x4_1 : Int),v4 = .int .i64 x4_1 ∧ Aside0 (privityref01_Exponent.l0 kq a0 t457 x4_1 = some r) ∧ Aside0 (kq ≤ k) ∧ Aside0 (Kd.R (Kd.int .i64) 3 w' w.heap.size (fun _ => True) v458 t457) ∧ Aside0 (Below w.heap.size w w'))
 case atStart => exact ⟨(0),(by first|rfl|(simp;done)|(simp [*];done)),H',⟨Nat.le_refl _⟩,⟨by (with_reducible repeat (first|apply Kd.R_alloc|apply Kd.R_drewN|apply Kd.R_drew));exact HO459.out⟩,⟨bb HB⟩⟩
 case round =>
  clear H'
  try clear p2
  try clear c3
  obtain ⟨x4_1,rfl,HA,HK1,HO_3,HB⟩ := hrel
  cases gk with
  | zero => exact absurd HA.out (by simp [privityref01_Exponent.l0])
  | succ k1 =>
   have H := HA.out
   clear HA
   simp only [privityref01_Exponent.l0] at H
   by_cases c4 : x4_1 < (t457.length : Int)
   ·rw [if_pos c4] at H
    have c4b0 : decide (x4_1 < (t457.length : Int)) = true := decide_eq_true c4
    clear c4
    by_cases c5 : 0 ≤ x4_1
    ·rw [if_pos c5] at H
     have c5b0 : decide (0 ≤ x4_1) = true := decide_eq_true c5
     clear c5
     obtain ⟨ji6,hji6⟩ : ∃ j_ : Int,(IntKind.u64.wrap (rd t457 x4_1)) = j_ := ⟨_,rfl⟩
     first|rw [hji6] at H|simp only [hji6] at H
     by_cases c7 : 0 ≤ (ji6)
     ·rw [if_pos c7] at H
      have c7b0 := eq_true c7
      have c7b1 : decide (0 ≤ (ji6)) = true := decide_eq_true c7
      clear c7
      obtain ⟨ji8,hji8⟩ : ∃ j_ : Int,(shl .u64 1 (ji6)) = j_ := ⟨_,rfl⟩
      first|rw [hji8] at H|simp only [hji8] at H
      have hji8_ : (IntKind.u64.wrap (1 * 2 ^ min (ji6).toNat 64)) = ji8 := hji8
      have hji8z : (ji6) ≤ 64 → (IntKind.u64.wrap (1 * 2 ^ (ji6).toNat)) = ji8 := shl_small hji8
      have hji8u : (IntKind.u64.wrap (2 ^ min (ji6).toNat 64)) = ji8 := by have h_ := hji8_;rw [Int.one_mul] at h_;exact h_
      have hji8v : (ji6) ≤ 64 → (IntKind.u64.wrap (2 ^ (ji6).toNat)) = ji8 := fun hle_ => by have h_ := hji8z hle_;rw [Int.one_mul] at h_;exact h_
      by_cases c9 : a0 = (IntKind.u64.wrap ((ji8) - 1))
      ·rw [if_pos c9] at H
       have c9b0 : (a0 == (IntKind.u64.wrap ((ji8) - 1))) = true := beq_iff_eq.mpr c9
       have c9b1 : (a0 != (IntKind.u64.wrap ((ji8) - 1))) = false := bne_eq_false_iff_eq.mpr c9
       clear c9
       obtain rfl := Option.some.inj H
       obtain ⟨Ao10,co10,eo10⟩ := Kd.R_slice HO_3.out
       subst eo10
       have p460 : 0 ≤ (x4_1 : Int) := od
       have q460 : x4_1 < (t457.length : Int) := od
       obtain ⟨ad460,e460,hx460_0⟩ := Kd.at_int (Kd.R_reads' HO_3.out).2.2 x4_1 p460 q460
       cases e460
       replace p460 := eq_true p460
       replace q460 := eq_true q460
       have p461 : 0 ≤ (x4_1 : Int) := od
       have q461 : x4_1 < (t457.length : Int) := od
       obtain ⟨ad461,e461,hx461_0⟩ := Kd.at_int (Kd.R_reads' HO_3.out).2.2 x4_1 p461 q461
       obtain rfl : ad460 = ad461 := (by injection e461)
       replace p461 := eq_true p461
       replace q461 := eq_true q461
       go_wp2
       go_ret
       exact ⟨by first|rfl|(simp [errW_none,errW_some] <;> rfl)|(simp only [← hji6,← hji8];first|rfl|(simp [errW_none,errW_some] <;> rfl))|(simp [*,errW_none,errW_some] <;> rfl),bb HB⟩
      ·rw [if_neg c9] at H
       have c9b0 : (a0 == (IntKind.u64.wrap ((ji8) - 1))) = false := beq_eq_false_iff_ne.mpr c9
       have c9b1 : (a0 != (IntKind.u64.wrap ((ji8) - 1))) = true := bne_iff_ne.mpr c9
       have H' := am H
       clear H
       obtain ⟨Ao11,co11,eo11⟩ := Kd.R_slice HO_3.out
       subst eo11
       have p460 : 0 ≤ (x4_1 : Int) := od
       have q460 : x4_1 < (t457.length : Int) := od
       obtain ⟨ad460,e460,hx460_0⟩ := Kd.at_int (Kd.R_reads' HO_3.out).2.2 x4_1 p460 q460
       cases e460
       replace p460 := eq_true p460
       replace q460 := eq_true q460
       go_wp2
       go_roundg k1
       case measure => have := HK1.out;omega
       case rel => exact ⟨(wrap64 (x4_1 + 1)),(by first|rfl|(simp;done)|(simp [*];done)),H',⟨by have := HK1.out;omega⟩,⟨by (with_reducible repeat (first|apply Kd.R_alloc|apply Kd.R_drewN|apply Kd.R_drew));exact HO_3.out⟩,⟨bb HB⟩⟩
     ·rw [if_neg c7] at H
      exact absurd H (by simp)
    ·rw [if_neg c5] at H
     exact absurd H (by simp)
   ·rw [if_neg c4] at H
    have c4b0 : decide (x4_1 < (t457.length : Int)) = false := decide_eq_false c4
    clear c4
    obtain rfl := Option.some.inj H
    obtain ⟨Ao12,co12,eo12⟩ := Kd.R_slice HO_3.out
    subst eo12
    go_wp2
    go_ret
    exact ⟨by first|rfl|(simp [errW_none,errW_some] <;> rfl)|(simp [*,errW_none,errW_some] <;> rfl),bb HB⟩
def privityref01_Supported.f (k : Nat) (a0 : Int) : Option (Bool) := (privityref01_Exponent.f k a0).bind fun t462 => (some (decide (t462 > 0)))
theorem privityref01_Supported.mono : ∀ a0 k,LeO (privityref01_Supported.f k a0) (privityref01_Supported.f (k + 1) a0) := by
 intro a0 k
 unfold privityref01_Supported.f
 repeat' first
   | (with_reducible exact privityref01_Exponent.mono _ _)
   | (with_reducible exact LeO.refl _)
   | (with_reducible exact LeO.none _)
   | (with_reducible refine LeO.ite ?_ ?_)
   | (with_reducible refine LeO.bind ?_ (fun _ => ?_))
   | exact privityref01_Exponent.mono _ _
   | exact LeO.none _
   | refine LeO.ite ?_ ?_
   | refine LeO.bind ?_ (fun _ => ?_)
set_option maxHeartbeats 8000000 in
set_option maxRecDepth 100000 in
theorem privityref01_Supported.calls (k : Nat) (a0 : Int) (r : Bool) (w : World) (h : privityref01_Supported.f k a0 = some r) :
  Calls Try.prog 13 #[.int .u64 a0] w fun e w' => e = .returned (.bool r) ∧ Below w.heap.size w w' := by
 have HB := am (Below.refl w.heap.size w)
 have H : ((privityref01_Exponent.f k a0).bind fun t462 => (some (decide (t462 > 0)))) = some r := h
 clear h
 replace H := Option.bind_eq_some_iff.mp H
 obtain ⟨t462,A20,H⟩ := H
 try dsimp only at H
 have A2 := am A20
 clear A20
 obtain rfl := Option.some.inj H
 go_enter Try.func13,Try.ntmps13
 go_wp2_with (first|((with_reducible refine gate_callee (f := 38) rfl ?_);refine goesL_ (some 4) rfl rfl Try.func38 (by kernel_rfl) rfl #[.int .u64 a0] rfl (by (try simp only [List.map_toArray,List.map_cons,List.map_nil]);first|done|rfl|(simp only [List.length_drop,List.length_take];rfl)) ?_;(with_reducible refine (privityref01_Exponent.calls k a0 t462 _ A2.out).mono ?_);rintro e w3 ⟨rfl,hb⟩;refine ⟨_,rfl,?_⟩;have n0_ := am (below_step (bb HB) hb);clear HB;have HB := n0_;clear n0_;(try clear hb);(try clear hb2);(try clear hk);(try clear hi)))
 go_ret
 exact ⟨by first|rfl|(simp [errW_none,errW_some] <;> rfl)|(simp [*,errW_none,errW_some] <;> rfl),bb HB⟩
end Go.Proofs.Ytmdoaijkaaaglaa.Pr
end
section
namespace Go.Proofs.Ytmdoaijkaaaglaa.E
open Go.RowKit Go.Proofs.Ytmdoaijkaaaglaa.Pr Go.Proofs.Ytmdoaijkaaaglaa.Hw Go.Proofs.YtmdoaijkaaaglaaW.PrintWords Go.Proofs.YtmdoaijkaaaglaaW.PrintLast Go.Proofs.YtmdoaijkaaaglaaW.PrintMore
theorem wcap {n : Int} (h : 0 ≤ n) (h2 : n < 9223372036854775808) : wrap64 n = n := by unfold wrap64;omega
theorem wnat {n : Nat} (h : n < 1099511627776) : wrap64 ((n : Int) + 1) = ((n + 1 : Nat) : Int) := by rw [wcap (by omega) (by omega)];omega
theorem up {Q : Nat → Prop} {n : Nat} (hn : Q n) (hs : ∀ i,i < n → Q (i + 1) → Q i) : Q 0 := by
 have : ∀ d,d ≤ n → Q (n - d) := by
  intro d
  induction d with
  | zero => intro _;exact hn
  | succ d ih =>
   intro h
   have h1 := ih (by omega)
   refine hs (n - (d + 1)) (by omega) ?_
   rwa [show n - (d + 1) + 1 = n - d from by omega]
 have := this n (Nat.le_refl _)
 rwa [Nat.sub_self] at this
theorem exponent_eq (p : Int) : privityref01_Exponent.f 10 p = if p = 31 then some 5 else if p = 127 then some 7 else if p = 8191 then some 13 else if p = 131071 then some 17 else if p = 524287 then some 19 else if p = 2147483647 then some 31 else if p = 2305843009213693951 then some 61 else some 0 := by kernel_rfl
theorem supported_ev (p : Int) : Ev (fun k => privityref01_Supported.f k p) (supB p) := by
 refine Ev.of (fun k => privityref01_Supported.mono _ _) (k := 10) ?_
 show (privityref01_Exponent.f 10 p).bind _ = _
 rw [exponent_eq]
 unfold supB
 by_cases h1 : p = 31
 ·subst h1;rfl
 by_cases h2 : p = 127
 ·subst h2;rfl
 by_cases h3 : p = 8191
 ·subst h3;rfl
 by_cases h4 : p = 131071
 ·subst h4;rfl
 by_cases h5 : p = 524287
 ·subst h5;rfl
 by_cases h6 : p = 2147483647
 ·subst h6;rfl
 by_cases h7 : p = 2305843009213693951
 ·subst h7;rfl
 rw [if_neg h1,if_neg h2,if_neg h3,if_neg h4,if_neg h5,if_neg h6,if_neg h7]
 simp [h1,h2,h3,h4,h5,h6,h7]
theorem tmod_pos {a p : Int} (h : 0 ≤ a) : Int.tmod a p = a % p := Int.tmod_eq_emod_of_nonneg h
theorem radd_eq {p : Int} (hp : Supp p) {a b : Int} (ha : Res p a) (hb : Res p b) : privityref01_Add.f p a b = some ((a + b) % p) := by
 have := hp.bd
 obtain ⟨a0,a1⟩ := ha
 obtain ⟨b0,b1⟩ := hb
 unfold privityref01_Add.f
 rw [if_neg (by omega),wrapU_id (by omega) (by omega),tmod_pos (by omega)]
theorem rneg_eq {p : Int} (hp : Supp p) {a : Int} (ha : Res p a) : privityref01_Neg.f p a = some (-a % p) := by
 have := hp.bd
 obtain ⟨a0,a1⟩ := ha
 unfold privityref01_Neg.f
 rw [if_neg (by omega),wrapU_id (by omega) (by omega),tmod_pos (by omega),show p - a = -a + p * 1 from by omega,Int.add_mul_emod_self_left]
theorem rsub_eq {p : Int} (hp : Supp p) {a b : Int} (ha : Res p a) (hb : Res p b) : privityref01_Sub.f p a b = some ((a - b) % p) := by
 have := hp.bd
 obtain ⟨a0,a1⟩ := ha
 obtain ⟨b0,b1⟩ := hb
 unfold privityref01_Sub.f
 rw [if_neg (by omega),wrapU_id (n := a + p) (by omega) (by omega),wrapU_id (by omega) (by omega),tmod_pos (by omega),show a + p - b = a - b + p * 1 from by omega,Int.add_mul_emod_self_left]
theorem rmul_l0 {p : Int} (hp : Supp p) : ∀ (n : Nat) (a out : Int),n < 18446744073709551616 → Res p a → Res p out → Ev (fun k => privityref01_Mul.l0 k p a n out) ((out + a * n) % p) := by
 intro n
 induction n using Nat.strongRecOn with
 | _ n ih =>
  intro a out hn ha ho
  have hb := hp.bd
  obtain ⟨a0,a1⟩ := ha
  obtain ⟨o0,o1⟩ := ho
  by_cases h0 : n = 0
  ·subst h0
   refine Ev.of (fun k => (privityref01_Mul.mono_l k) _ _ _ _) (k := 1) ?_
   simp only [privityref01_Mul.l0]
   rw [if_neg (by omega),Int.natCast_zero,Int.mul_zero,Int.add_zero,Int.emod_eq_of_lt o0 o1]
  ·have e1 : Int.tmod (n : Int) 2 = n % 2 := tmod_pos (by omega)
   have e2 : IntKind.u64.wrap (Int.tdiv (n : Int) 2) = ((n / 2 : Nat) : Int) := by
    rw [Int.tdiv_eq_ediv_of_nonneg (by omega),wrapU_id (by omega) (by omega)];omega
   have e3 : IntKind.u64.wrap (a + a) = a + a := wrapU_id (by omega) (by omega)
   have e4 : IntKind.u64.wrap (out + a) = out + a := wrapU_id (by omega) (by omega)
   have hN : (n : Int) = 2 * ((n / 2 : Nat) : Int) + n % 2 := by omega
   by_cases hodd : n % 2 = 1
   ·have h := ih (n / 2) (by omega) ((a + a) % p) ((out + a) % p) (by omega) (Res.mod hp _) (Res.mod hp _)
    refine Ev.step (fun k => ?_) (f := fun k => privityref01_Mul.l0 k p ((a + a) % p) ((n / 2 : Nat) : Int) ((out + a) % p)) ?_
    ·simp only [privityref01_Mul.l0]
     rw [if_pos (by omega),if_pos (by omega),if_neg (by omega),e2,e3,e4,tmod_pos (by omega),tmod_pos (by omega)]
    ·rw [show (out + a * n) % p = ((out + a) % p + (a + a) % p * ((n / 2 : Nat) : Int)) % p from ?_]
     ·exact h
     ·rw [addm (modm p (out + a)) (mulm (modm p (a + a)) rfl)]
      congr 1
      have : (n : Int) = 2 * ((n / 2 : Nat) : Int) + 1 := by omega
      generalize ((n / 2 : Nat) : Int) = m at *
      rw [this];grind
   ·have h := ih (n / 2) (by omega) ((a + a) % p) out (by omega) (Res.mod hp _) ⟨o0,o1⟩
    refine Ev.step (fun k => ?_) (f := fun k => privityref01_Mul.l0 k p ((a + a) % p) ((n / 2 : Nat) : Int) out) ?_
    ·simp only [privityref01_Mul.l0]
     rw [if_pos (by omega),if_neg (by omega),if_neg (by omega),e2,e3,tmod_pos (by omega)]
    ·rw [show (out + a * n) % p = (out + (a + a) % p * ((n / 2 : Nat) : Int)) % p from ?_]
     ·exact h
     ·rw [addm (a := out) rfl (mulm (modm p (a + a)) rfl)]
      congr 1
      have : (n : Int) = 2 * ((n / 2 : Nat) : Int) := by omega
      generalize ((n / 2 : Nat) : Int) = m at *
      rw [this];grind
theorem rmul_ev {p : Int} (hp : Supp p) {a b : Int} (ha : Res p a) (hb : Res p b) : Ev (fun k => privityref01_Mul.f k p a b) (a * b % p) := by
 have h := hp.bd
 have := rmul_l0 hp b.toNat a 0 (by have := hb.1;have := hb.2;omega) ha ⟨by omega,by omega⟩
 rw [Int.toNat_of_nonneg hb.1,Int.zero_add] at this
 exact this
theorem rpow_l0 {p : Int} (h : Supp p) : ∀ (n : Nat) (a out : Int),n < 18446744073709551616 → Res p a → Res p out → Ev (fun k => privityref01_Pow.l0 k p a n out) (out * a ^ n % p) := by
 intro n
 induction n using Nat.strongRecOn with
 | _ n ih =>
  intro a out hn ha ho
  by_cases h0 : n = 0
  ·subst h0
   refine Ev.of (fun k => (privityref01_Pow.mono_l k) _ _ _ _) (k := 1) ?_
   simp only [privityref01_Pow.l0]
   rw [if_neg (by omega),Int.pow_zero,Int.mul_one,ho.eq]
  ·have hsq := rmul_ev h ha ha
   have hrec := fun out' ho' => ih (n / 2) (by omega) (a * a % p) out' (by omega) (Res.mod h _) ho'
   have eh := pow_two_half a n
   have e1 := pow_mod_base (a * a) p (n / 2)
   have t1 : Int.tmod (n : Int) 2 = n % 2 := tmod_pos (by omega)
   have t2 : IntKind.u64.wrap (Int.tdiv (n : Int) 2) = ((n / 2 : Nat) : Int) := by
    rw [Int.tdiv_eq_ediv_of_nonneg (by omega),wrapU_id (by omega) (by omega)];omega
   by_cases hodd : n % 2 = 1
   ·refine Ev.step (f := fun k => (privityref01_Mul.f k p out a).bind fun t244 => ((privityref01_Mul.f k p a a).bind fun t245 => (privityref01_Pow.l0 k p t245 ((n / 2 : Nat) : Int) t244))) (fun k => ?_) ?_
    ·simp only [privityref01_Pow.l0]
     rw [if_pos (by omega),if_pos (by omega),t2]
    ·refine Ev.bind (rmul_ev h ho ha) (Ev.bind hsq ?_)
     have := hrec (out * a % p) (Res.mod h _)
     rw [show out * a ^ n % p = out * a % p * (a * a % p) ^ (n / 2) % p from ?_]
     ·exact this
     ·rw [mulm (Int.emod_emod_of_dvd (out * a) (Int.dvd_refl p)) e1,eh,hodd,Int.pow_one,Int.mul_assoc,Int.mul_comm a ((a * a) ^ (n / 2))]
   ·refine Ev.step (f := fun k => (privityref01_Mul.f k p a a).bind fun t246 => (privityref01_Pow.l0 k p t246 ((n / 2 : Nat) : Int) out)) (fun k => ?_) ?_
    ·simp only [privityref01_Pow.l0]
     rw [if_pos (by omega),if_neg (by omega),t2]
    ·refine Ev.bind hsq ?_
     have := hrec out ho
     rw [show out * a ^ n % p = out * (a * a % p) ^ (n / 2) % p from ?_]
     ·exact this
     ·rw [mulm (a := out) rfl e1,eh,show n % 2 = 0 from by omega,Int.pow_zero,Int.mul_one]
theorem rinv_ev {p : Int} (h : Supp p) {a : Int} (ha : Res p a) (h0 : a ≠ 0) : Ev (fun k => privityref01_Inverse.f k p a) (invp p a,0) := by
 have := h.bd
 have e := rpow_l0 h (p - 2).toNat a 1 (by omega) ha ⟨by omega,by omega⟩
 rw [Int.one_mul,show ((p - 2).toNat : Int) = p - 2 from Int.toNat_of_nonneg (by omega)] at e
 refine (Ev.bind (f := fun k t => some (t,0)) e (Ev.now _)).congr fun k => ?_
 show (if a = 0 then _ else (privityref01_Pow.f k p a (IntKind.u64.wrap (p - 2))).bind _) = _
 rw [if_neg h0,wrapU_id (by omega) (by omega)]
 rfl
end Go.Proofs.Ytmdoaijkaaaglaa.E
end
section
namespace Go.Proofs.Ytmdoaijkaaaglaa.Pr
open Go.RowKit Go.Proofs.YtmdoaijkaaaglaaW.PrintWords Go.Proofs.YtmdoaijkaaaglaaW.PrintLast Go.Proofs.YtmdoaijkaaaglaaW.PrintMore
attribute [local go_sem] max2_int min2_int max_two min_two max_three min_three max_four min_four
open Go.Proofs.Ytmdoaijkaaaglaa.Hw
mutual
def hyperinvertible_Submatrix.l0 : Nat → List (List Int) → List Int → List (List Int) → List Int → Int → Int → Option ((List (List Int)) × Int)
 | 0,_,_,_,_,_,_ => none
 | k + 1,x0,x2,x8,x14,x15,x16 => if x16 < x15 then (if 0 ≤ x16 then (if x16 < (x14.length : Int) then (if (rd x14 x16) < 0 then (hyperinvertible_Submatrix.j1 k x0 x2 x8 (rd x14 x16) x14 x15 x16 true) else (hyperinvertible_Submatrix.j1 k x0 x2 x8 (rd x14 x16) x14 x15 x16 (decide ((rd x14 x16) ≥ (x0.length : Int))))) else (none)) else (none)) else (some (x8,0))
def hyperinvertible_Submatrix.j1 : Nat → List (List Int) → List Int → List (List Int) → Int → List Int → Int → Int → Bool → Option ((List (List Int)) × Int)
 | 0,_,_,_,_,_,_,_,_ => none
 | k + 1,x0,x2,x8,x10,x14,x15,x16,x27 => if x27 = true then (some (([] : List (List Int)),1)) else (hyperinvertible_Submatrix.l1 k x0 x2 x8 x10 ([] : List Int) x14 x15 x16 x2 (x2.length : Int) 0)
def hyperinvertible_Submatrix.l1 : Nat → List (List Int) → List Int → List (List Int) → Int → List Int → List Int → Int → Int → List Int → Int → Int → Option ((List (List Int)) × Int)
 | 0,_,_,_,_,_,_,_,_,_,_,_ => none
 | k + 1,x0,x2,x8,x10,x11,x14,x15,x16,x28,x29,x30 => if x30 < x29 then (if 0 ≤ x30 then (if x30 < (x28.length : Int) then (if (rd x28 x30) < 0 then (some (([] : List (List Int)),1)) else (if 0 ≤ x10 then (if x10 < (x0.length : Int) then (if (rd x28 x30) ≥ ((rd_L2 x0 x10).length : Int) then (some (([] : List (List Int)),1)) else (if 0 ≤ (rd x28 x30) then (if (rd x28 x30) < ((rd_L2 x0 x10).length : Int) then (if x11.length < 17592186044416 then (hyperinvertible_Submatrix.l1 k x0 x2 x8 x10 (x11 ++ [rd (rd_L2 x0 x10) (rd x28 x30)]) x14 x15 x16 x28 x29 (wrap64 (x30 + 1))) else (none)) else (none)) else (none))) else (none)) else (none))) else (none)) else (none)) else (if x8.length < 5864062014805 then (hyperinvertible_Submatrix.l0 k x0 x2 (x8 ++ [x11]) x14 x15 (wrap64 (x16 + 1))) else (none))
end
def hyperinvertible_Submatrix.f (k : Nat) (l0 : List (List Int)) (l1 : List Int) (l2 : List Int) : Option ((List (List Int)) × Int) := hyperinvertible_Submatrix.l0 k l0 l2 ([] : List (List Int)) l1 (l1.length : Int) 0
set_option maxHeartbeats 8000000 in
set_option maxRecDepth 100000 in
theorem hyperinvertible_Submatrix.calls (k : Nat) (A0 : Option Addr) (c0 : Nat) (l0 : List (List Int)) (A1 : Option Addr) (c1 : Nat) (l1 : List Int) (A2 : Option Addr) (c2 : Nat) (l2 : List Int) (r1 : List (List Int)) (r2 : Int) (w : World) (hr0 : Kd.C (Kd.slice 22 (Kd.int .u64)) w A0 l0.length l0) (hc0 : l0.length ≤ c0) (hr1 : Kd.C (Kd.int .i64) w A1 l1.length l1) (hc1 : l1.length ≤ c1) (hr2 : Kd.C (Kd.int .i64) w A2 l2.length l2) (hc2 : l2.length ≤ c2) (h : hyperinvertible_Submatrix.f k l0 l1 l2 = some (r1,r2)) :
  Calls Try.prog 18 #[.slice A0 l0.length c0,.slice A1 l1.length c1,.slice A2 l2.length c2] w fun e w' => ∃ v0_ : Value,e = .returned (.tuple #[v0_,.int .i64 r2]) ∧ Kd.S (Kd.slice 22 (Kd.int .u64)) 40 w' w.heap.size (fun _ => True) v0_ r1 ∧ Below w.heap.size w w' := by
 have HR0 := am hr0
 have HC0 := am hc0
 clear hr0 hc0
 have HR1 := am hr1
 have HC1 := am hc1
 clear hr1 hc1
 have HR2 := am hr2
 have HC2 := am hc2
 clear hr2 hc2
 have HB := am (Below.refl w.heap.size w)
 have H : (hyperinvertible_Submatrix.l0 k l0 l2 ([] : List (List Int)) l1 (l1.length : Int) 0) = some (r1,r2) := h
 clear h
 have H' := am H
 clear H
 go_enter Try.func18,Try.ntmps18
 go_wp2
 go_loopg [8,16] k (fun kq v8 v16 w' => ∃ (x8_1 : List (List Int)) (x16_1 : Int),v16 = .int .i64 x16_1 ∧ Aside0 (hyperinvertible_Submatrix.l0 kq l0 l2 x8_1 l1 (l1.length : Int) x16_1 = some (r1,r2)) ∧ Aside0 (kq ≤ k) ∧ Aside0 (Kd.S (Kd.slice 22 (Kd.int .u64)) 40 w' w.heap.size (fun _ => True) v8 x8_1) ∧ Aside0 (Below w.heap.size w w'))
 case atStart => exact ⟨(([] : List (List Int))),(0),(by first|rfl|(simp;done)|(simp [*];done)),H',⟨Nat.le_refl _⟩,⟨by first|exact Kd.S_nil _ _ _ _ _|exact Kd.N_nil _ _ _ _ _|exact Kd.V_nil _ _ _ _ _|exact Kd.Q_nil _ _ _ _ _|exact Kd.R_nil _ _ _ _ _⟩,⟨bb HB⟩⟩
 case round =>
  clear H'
  try clear c1
  try clear c2
  try clear p2
  obtain ⟨x8_1,x16_1,rfl,HA,HK1,HO_8,HB⟩ := hrel
  cases gk with
  | zero => exact absurd HA.out (by simp [hyperinvertible_Submatrix.l0])
  | succ k1 =>
   have H := HA.out
   clear HA
   simp only [hyperinvertible_Submatrix.l0] at H
   by_cases c4 : x16_1 < (l1.length : Int)
   ·rw [if_pos c4] at H
    have c4b0 : decide (x16_1 < (l1.length : Int)) = true := decide_eq_true c4
    clear c4
    by_cases c5 : 0 ≤ x16_1
    ·rw [if_pos c5] at H
     have c5b0 : decide (0 ≤ x16_1) = true := decide_eq_true c5
     clear c5
     by_cases c6 : x16_1 < (l1.length : Int)
     ·rw [if_pos c6] at H
      have c6b0 : decide (x16_1 < (l1.length : Int)) = true := decide_eq_true c6
      clear c6
      have HC7 := am H
      clear H
      have p391 : 0 ≤ (x16_1 : Int) := od
      have q391 : x16_1 < (l1.length : Int) := od
      obtain ⟨ad391,e391,hx391_0⟩ := Kd.at_int HR1.out x16_1 p391 q391
      cases e391
      replace hx391_0 := (HB.out.cell (World.block_lt_of_cell? w _ hx391_0)).trans hx391_0
      replace p391 := eq_true p391
      replace q391 := eq_true q391
      go_upto_region 5 with (fail)
      go_cut [27] (fun v27 wc => ∃ (kq : Nat) (x27_6 : Bool),v27 = .bool x27_6 ∧ Aside0 (hyperinvertible_Submatrix.j1 kq l0 l2 x8_1 (rd l1 x16_1) l1 (l1.length : Int) x16_1 x27_6 = some (r1,r2)) ∧ Aside0 (kq ≤ k1) ∧ Aside0 (Kd.S (Kd.slice 22 (Kd.int .u64)) 40 wc w.heap.size (fun _ => True) u8 x8_1) ∧ Aside0 (Below w.heap.size w wc))
      case first =>
       have H := HC7.out
       clear HC7
       by_cases c8 : (rd l1 x16_1) < 0
       ·rw [if_pos c8] at H
        have c8b0 : decide ((rd l1 x16_1) < 0) = true := decide_eq_true c8
        clear c8
        (first|rw [c8b0]|(simp only [i64_w,i32_w];rw [c8b0])|skip)
        have H' := am H
        clear H
        go_wp2
        go_meet
        case rel => exact ⟨_,(true),(by first|rfl|(simp;done)|(simp [*];done)),H',⟨by have := HK1.out;first|omega|exact Nat.le_refl _⟩,⟨by (with_reducible repeat (first|apply Kd.S_alloc|apply Kd.S_drewN|apply Kd.S_drew));exact HO_8.out⟩,⟨bb HB⟩⟩
       ·rw [if_neg c8] at H
        have c8b0 : decide ((rd l1 x16_1) < 0) = false := decide_eq_false c8
        clear c8
        (first|rw [c8b0]|(simp only [i64_w,i32_w];rw [c8b0])|skip)
        have H' := am H
        clear H
        go_wp2
        go_meet
        case rel => exact ⟨_,(decide ((rd l1 x16_1) ≥ (l0.length : Int))),(by first|rfl|(simp;done)|(simp [*];done)),H',⟨by have := HK1.out;first|omega|exact Nat.le_refl _⟩,⟨by (with_reducible repeat (first|apply Kd.S_alloc|apply Kd.S_drewN|apply Kd.S_drew));exact HO_8.out⟩,⟨bb HB⟩⟩
      case rest =>
       clear HC7
       try clear c1
       try clear c2
       try clear p2
       try clear p3
       try clear q3
       try clear hx3
       try clear c4
       try clear c4b0
       try clear c5
       try clear c5b0
       try clear c6
       try clear c6b0
       try clear c8
       try clear c8b0
       try clear hx391_0
       try clear p2
       try clear p391
       try clear q391
       obtain ⟨kq,x27_6,rfl,HA,HJ6,HO_8,HB⟩ := hcut
       cases kq with
       | zero => exact absurd HA.out (by simp [hyperinvertible_Submatrix.j1])
       | succ kj6 =>
        have H := HA.out
        clear HA
        simp only [hyperinvertible_Submatrix.j1] at H
        by_cases c9 : x27_6 = true
        ·subst c9
         rw [if_pos rfl] at H
         simp only [Option.some.injEq,Prod.mk.injEq] at H
         obtain ⟨rfl,rfl⟩ := H
         go_wp2
         go_ret2
         exact ⟨_,by first|rfl|(simp [errW_none,errW_some] <;> rfl)|(simp [*,errW_none,errW_some] <;> rfl),by first|exact Kd.S_nil _ _ _ _ _|exact Kd.N_nil _ _ _ _ _|exact Kd.V_nil _ _ _ _ _|exact Kd.Q_nil _ _ _ _ _|exact Kd.R_nil _ _ _ _ _,bb HB⟩
        ·replace c9 := Bool.eq_false_iff.mpr c9
         subst c9
         rw [if_neg (show ¬ (false = true) by decide)] at H
         have H' := am H
         clear H
         go_wp2
         go_loopg [11,30] kj6 (fun kq v11 v30 w' => ∃ (x11_3 : List Int) (x30_3 : Int),v30 = .int .i64 x30_3 ∧ Aside0 (hyperinvertible_Submatrix.l1 kq l0 l2 x8_1 (rd l1 x16_1) x11_3 l1 (l1.length : Int) x16_1 l2 (l2.length : Int) x30_3 = some (r1,r2)) ∧ Aside0 (kq ≤ kj6) ∧ Aside0 (Kd.S (Kd.slice 22 (Kd.int .u64)) 40 w' w.heap.size (fun k_ => some k_ ≠ (v11 : Value).ownBlock) u8 x8_1) ∧ Aside0 (Kd.R (Kd.int .u64) 22 w' w.heap.size (fun _ => True) v11 x11_3) ∧ Aside0 (Below w.heap.size w w'))
         case atStart => exact ⟨(([] : List Int)),(0),(by first|rfl|(simp;done)|(simp [*];done)),H',⟨Nat.le_refl _⟩,⟨by (with_reducible repeat (first|apply Kd.S_alloc|apply Kd.S_drewN|apply Kd.S_drew));exact Kd.S_mono HO_8.out (fun _ hk => (by simp [Value.ownBlock]))⟩,⟨by first|exact Kd.R_nil _ _ _ _ _|exact Kd.N_nil _ _ _ _ _|exact Kd.V_nil _ _ _ _ _|exact Kd.Q_nil _ _ _ _ _|exact Kd.S_nil _ _ _ _ _⟩,⟨bb HB⟩⟩
         case round =>
          clear H'
          try clear c1
          try clear c2
          try clear p2
          try clear p3
          try clear q3
          try clear hx3
          try clear c4
          try clear c4b0
          try clear c5
          try clear c5b0
          try clear c6
          try clear c6b0
          try clear c8
          try clear c8b0
          try clear c9
          try clear hx391_0
          try clear p2
          try clear p3
          try clear p391
          try clear q3
          try clear q391
          obtain ⟨x11_3,x30_3,rfl,HA,HK3,HO_8,HO_11,HB⟩ := hrel
          cases gk with
          | zero => exact absurd HA.out (by simp [hyperinvertible_Submatrix.l1])
          | succ k3 =>
           have H := HA.out
           clear HA
           simp only [hyperinvertible_Submatrix.l1] at H
           by_cases c10 : x30_3 < (l2.length : Int)
           ·rw [if_pos c10] at H
            have c10b0 : decide (x30_3 < (l2.length : Int)) = true := decide_eq_true c10
            clear c10
            by_cases c11 : 0 ≤ x30_3
            ·rw [if_pos c11] at H
             have c11b0 : decide (0 ≤ x30_3) = true := decide_eq_true c11
             clear c11
             by_cases c12 : x30_3 < (l2.length : Int)
             ·rw [if_pos c12] at H
              have c12b0 : decide (x30_3 < (l2.length : Int)) = true := decide_eq_true c12
              clear c12
              by_cases c13 : (rd l2 x30_3) < 0
              ·rw [if_pos c13] at H
               have c13b0 : decide ((rd l2 x30_3) < 0) = true := decide_eq_true c13
               clear c13
               simp only [Option.some.injEq,Prod.mk.injEq] at H
               obtain ⟨rfl,rfl⟩ := H
               have p392 : 0 ≤ (x30_3 : Int) := od
               have q392 : x30_3 < (l2.length : Int) := od
               obtain ⟨ad392,e392,hx392_0⟩ := Kd.at_int HR2.out x30_3 p392 q392
               cases e392
               replace hx392_0 := (HB.out.cell (World.block_lt_of_cell? w _ hx392_0)).trans hx392_0
               replace p392 := eq_true p392
               replace q392 := eq_true q392
               go_wp2
               go_ret2
               exact ⟨_,by first|rfl|(simp [errW_none,errW_some] <;> rfl)|(simp [*,errW_none,errW_some] <;> rfl),by first|exact Kd.S_nil _ _ _ _ _|exact Kd.N_nil _ _ _ _ _|exact Kd.V_nil _ _ _ _ _|exact Kd.Q_nil _ _ _ _ _|exact Kd.R_nil _ _ _ _ _,bb HB⟩
              ·rw [if_neg c13] at H
               have c13b0 : decide ((rd l2 x30_3) < 0) = false := decide_eq_false c13
               clear c13
               by_cases c14 : 0 ≤ (rd l1 x16_1)
               ·rw [if_pos c14] at H
                have c14b0 : decide (0 ≤ (rd l1 x16_1)) = true := decide_eq_true c14
                clear c14
                by_cases c15 : (rd l1 x16_1) < (l0.length : Int)
                ·rw [if_pos c15] at H
                 have c15b0 : decide ((rd l1 x16_1) < (l0.length : Int)) = true := decide_eq_true c15
                 clear c15
                 by_cases c16 : (rd l2 x30_3) ≥ ((rd_L2 l0 (rd l1 x16_1)).length : Int)
                 ·rw [if_pos c16] at H
                  have c16b0 : decide (((rd_L2 l0 (rd l1 x16_1)).length : Int) ≤ (rd l2 x30_3)) = true := decide_eq_true c16
                  clear c16
                  simp only [Option.some.injEq,Prod.mk.injEq] at H
                  obtain ⟨rfl,rfl⟩ := H
                  have p392 : 0 ≤ (x30_3 : Int) := od
                  have q392 : x30_3 < (l2.length : Int) := od
                  obtain ⟨ad392,e392,hx392_0⟩ := Kd.at_int HR2.out x30_3 p392 q392
                  cases e392
                  replace hx392_0 := (HB.out.cell (World.block_lt_of_cell? w _ hx392_0)).trans hx392_0
                  replace p392 := eq_true p392
                  replace q392 := eq_true q392
                  have p393 : 0 ≤ ((rd l1 x16_1) : Int) := od
                  have q393 : (rd l1 x16_1) < (l0.length : Int) := od
                  obtain ⟨ad393,A393_0,c393_0,e393,hx393_0,hl393_0,hi393_0⟩ := at_L2 HR0.out (rd l1 x16_1) p393 q393
                  cases e393
                  replace hx393_0 := (HB.out.cell (World.block_lt_of_cell? w _ hx393_0)).trans hx393_0
                  have HR393_0 := am hi393_0
                  have HC393_0 := am hl393_0
                  clear hi393_0 hl393_0
                  replace p393 := eq_true p393
                  replace q393 := eq_true q393
                  go_wp2
                  go_ret2
                  exact ⟨_,by first|rfl|(simp [errW_none,errW_some] <;> rfl)|(simp [*,errW_none,errW_some] <;> rfl),by first|exact Kd.S_nil _ _ _ _ _|exact Kd.N_nil _ _ _ _ _|exact Kd.V_nil _ _ _ _ _|exact Kd.Q_nil _ _ _ _ _|exact Kd.R_nil _ _ _ _ _,bb HB⟩
                 ·rw [if_neg c16] at H
                  have c16b0 : decide (((rd_L2 l0 (rd l1 x16_1)).length : Int) ≤ (rd l2 x30_3)) = false := decide_eq_false c16
                  clear c16
                  by_cases c17 : 0 ≤ (rd l2 x30_3)
                  ·rw [if_pos c17] at H
                   have c17b0 : decide (0 ≤ (rd l2 x30_3)) = true := decide_eq_true c17
                   clear c17
                   by_cases c18 : (rd l2 x30_3) < ((rd_L2 l0 (rd l1 x16_1)).length : Int)
                   ·rw [if_pos c18] at H
                    have c18b0 : decide ((rd l2 x30_3) < ((rd_L2 l0 (rd l1 x16_1)).length : Int)) = true := decide_eq_true c18
                    clear c18
                    by_cases c19 : x11_3.length < 17592186044416
                    ·rw [if_pos c19] at H
                     have LMc19 := am c19
                     clear c19
                     obtain ⟨y396,hy396⟩ : ∃ y_ : List Int,y_ = (x11_3 ++ [rd (rd_L2 l0 (rd l1 x16_1)) (rd l2 x30_3)]) := ⟨_,rfl⟩
                     replace H : (hyperinvertible_Submatrix.l1 k3 l0 l2 x8_1 (rd l1 x16_1) y396 l1 (l1.length : Int) x16_1 l2 (l2.length : Int) (wrap64 (x30_3 + 1))) = some (r1,r2) := by first|(rw [hy396];with_reducible exact H)|(have H2_ := (Option.bind_some _ _).symm.trans H;rw [hy396];with_reducible exact H2_)|(have H2_ := (Option.bind_some _ _).symm.trans H;with_reducible exact H2_)|with_reducible exact H|(rw [hy396];exact H)|exact H
                     have Ny396 := am hy396
                     clear hy396
                     have H' := am H
                     clear H
                     have p392 : 0 ≤ (x30_3 : Int) := od
                     have q392 : x30_3 < (l2.length : Int) := od
                     obtain ⟨ad392,e392,hx392_0⟩ := Kd.at_int HR2.out x30_3 p392 q392
                     cases e392
                     replace hx392_0 := (HB.out.cell (World.block_lt_of_cell? w _ hx392_0)).trans hx392_0
                     replace p392 := eq_true p392
                     replace q392 := eq_true q392
                     have p393 : 0 ≤ ((rd l1 x16_1) : Int) := od
                     have q393 : (rd l1 x16_1) < (l0.length : Int) := od
                     obtain ⟨ad393,A393_0,c393_0,e393,hx393_0,hl393_0,hi393_0⟩ := at_L2 HR0.out (rd l1 x16_1) p393 q393
                     cases e393
                     replace hx393_0 := (HB.out.cell (World.block_lt_of_cell? w _ hx393_0)).trans hx393_0
                     have HR393_0 := am hi393_0
                     have HC393_0 := am hl393_0
                     clear hi393_0 hl393_0
                     replace p393 := eq_true p393
                     replace q393 := eq_true q393
                     have p394 : 0 ≤ ((rd l1 x16_1) : Int) := od
                     have q394 : (rd l1 x16_1) < (l0.length : Int) := od
                     obtain ⟨ad394,A394_0,c394_0,e394,hx394_0,hl394_0,hi394_0⟩ := at_L2 HR0.out (rd l1 x16_1) p394 q394
                     obtain rfl : ad393 = ad394 := (by injection e394)
                     replace hx394_0 := (HB.out.cell (World.block_lt_of_cell? w _ hx394_0)).trans hx394_0
                     have HR394_0 := am hi394_0
                     have HC394_0 := am hl394_0
                     clear hi394_0 hl394_0
                     replace p394 := eq_true p394
                     replace q394 := eq_true q394
                     have ea_ := Option.some.inj (hx393_0.symm.trans hx394_0)
                     injection ea_ with ea_ en_ ec_
                     subst ea_
                     subst ec_
                     clear en_
                     have p395 : 0 ≤ ((rd l2 x30_3) : Int) := od
                     have q395 : (rd l2 x30_3) < ((rd_L2 l0 (rd l1 x16_1)).length : Int) := od
                     obtain ⟨ad395,e395,hx395_0⟩ := Kd.at_int HR394_0.out (rd l2 x30_3) p395 q395
                     cases e395
                     replace hx395_0 := (HB.out.cell (World.block_lt_of_cell? w _ hx395_0)).trans hx395_0
                     replace p395 := eq_true p395
                     replace q395 := eq_true q395
                     go_wp2_with (first|((with_reducible refine gate_builtin (b := .append) (xs := #[.tmp 45,.tmp 53]) rfl ?_);(try (refine gate_guard (by rfl) ?_;dsimp only));at_builtin;refine Kd.R_append (Kd.int .u64) (w0 := w) w.heap.size rfl (.tmp 45) (.tmp 53) 40 22 (.int .u64 0) 8 rfl Try.underlying40 info22 rfl (by decide) (by omega) u11 x11_3 (rd (rd_L2 l0 (rd l1 x16_1)) (rd l2 x30_3)) [.int .u64 (rd (rd_L2 l0 (rd l1 x16_1)) (rd l2 x30_3))] (fun _ => True) (fun _ => False) rfl rfl ?aP (fun _ hk => hk.elim) ?aF ?aO ?aB ?aS ?aL ?_;(case aP => exact rfl);(case aB => exact (bb HB));(case aF => exact (fun _ _ => trivial));(case aO => exact (rr HO_11));(case aS => exact (below_size (bb HB)));(case aL => have := LMc19.out;omega);intro v397 w20 ho hb hg hat;rw [← Ny396.out] at ho;have n0_ := am (Kd.S_after (ok := (fun _ => True)) (by (with_reducible repeat (first|apply Kd.S_alloc|apply Kd.S_drewN|apply Kd.S_drew));exact Kd.S_mono HO_8.out (fun _ hk => ⟨trivial,hk⟩)) hg hat);have n1_ := am (hb);have n2_ := am (ho);clear HO_8 HB HO_11;have HO_8 := n0_;have HB := n1_;have HO398 := n2_;clear n0_ n1_ n2_;clear ho hb hg hat))
                     go_roundg k3
                     case measure => have := HK1.out;have := HJ6.out;have := HK3.out;omega
                     case rel => exact ⟨(y396),(wrap64 (x30_3 + 1)),(by first|rfl|(simp;done)|(simp [*];done)),H',⟨by have := HK1.out;have := HJ6.out;have := HK3.out;omega⟩,⟨by (with_reducible repeat (first|apply Kd.S_alloc|apply Kd.S_drewN|apply Kd.S_drew));exact Kd.S_mono HO_8.out (fun _ hk => hk.2)⟩,⟨by (with_reducible repeat (first|apply Kd.R_alloc|apply Kd.R_drewN|apply Kd.R_drew));exact HO398.out⟩,⟨bb HB⟩⟩
                    ·rw [if_neg c19] at H
                     exact absurd H (by simp)
                   ·rw [if_neg c18] at H
                    exact absurd H (by simp)
                  ·rw [if_neg c17] at H
                   exact absurd H (by simp)
                ·rw [if_neg c15] at H
                 exact absurd H (by simp)
               ·rw [if_neg c14] at H
                exact absurd H (by simp)
             ·rw [if_neg c12] at H
              exact absurd H (by simp)
            ·rw [if_neg c11] at H
             exact absurd H (by simp)
           ·rw [if_neg c10] at H
            have c10b0 : decide (x30_3 < (l2.length : Int)) = false := decide_eq_false c10
            clear c10
            by_cases c21 : x8_1.length < 5864062014805
            ·rw [if_pos c21] at H
             have LMc21 := am c21
             clear c21
             obtain ⟨y399,hy399⟩ : ∃ y_ : List (List Int),y_ = (x8_1 ++ [x11_3]) := ⟨_,rfl⟩
             replace H : (hyperinvertible_Submatrix.l0 k3 l0 l2 y399 l1 (l1.length : Int) (wrap64 (x16_1 + 1))) = some (r1,r2) := by first|(rw [hy399];with_reducible exact H)|(have H2_ := (Option.bind_some _ _).symm.trans H;rw [hy399];with_reducible exact H2_)|(have H2_ := (Option.bind_some _ _).symm.trans H;with_reducible exact H2_)|with_reducible exact H|(rw [hy399];exact H)|exact H
             have Ny399 := am hy399
             clear hy399
             have H' := am H
             clear H
             obtain ⟨Ao23,co23,eo23⟩ := Kd.R_slice HO_11.out
             subst eo23
             go_wp2_with (first|((with_reducible refine gate_builtin (b := .append) (xs := #[.tmp 56,.tmp 58]) rfl ?_);(try (refine gate_guard (by rfl) ?_;dsimp only));at_builtin;refine Kd.S_append (Kd.slice 22 (Kd.int .u64)) (w0 := w) w.heap.size rfl (.tmp 56) (.tmp 58) 25 40 (.slice none 0 0) 24 rfl Try.underlying25 info40 rfl (by decide) (by omega) u8 x8_1 x11_3 [.slice Ao23 x11_3.length co23] (fun _ => True) (fun k_ => some k_ = (.slice Ao23 x11_3.length co23 : Value).ownBlock) rfl rfl ?aP (fun k_ hk_ => ((Kd.R_mono (ok' := fun k_ => ((fun _ => True)) k_ ∧ some k_ ≠ (u8 : Value).ownBlock) (Kd.R_apart' (HO_11.out) (Kd.S_typed HO_8.out) (by decide)) (fun k_ hk => ⟨trivial,hk.2⟩))).1 k_ hk_.symm) ?aF ?aO ?aB ?aS ?aL ?_;(case aP => exact Kd.M_row (Kd.R_mono (Kd.R_tight rfl (Kd.R_mono (ok' := fun k_ => ((fun _ => True)) k_ ∧ some k_ ≠ (u8 : Value).ownBlock) (Kd.R_apart' (HO_11.out) (Kd.S_typed HO_8.out) (by decide)) (fun k_ hk => ⟨trivial,hk.2⟩))) (fun _ h_ => h_)));(case aB => exact (bb HB));(case aF => exact (fun _ _ => trivial));(case aO => exact (by (with_reducible repeat (first|apply Kd.S_alloc|apply Kd.S_drewN|apply Kd.S_drew));exact Kd.S_mono HO_8.out (fun k_ hk => ⟨trivial,fun e_ => hk e_⟩)));(case aS => exact (below_size (bb HB)));(case aL => have := LMc21.out;omega);intro v400 w22 ho hb hg hat;rw [← Ny399.out] at ho;have n0_ := am (hb);have n1_ := am (ho);clear HB HO_8 HO_11;have HB := n0_;have HO401 := n1_;clear n0_ n1_;clear ho hb hg hat))
             go_roundg k3
             case measure => have := HK1.out;have := HJ6.out;have := HK3.out;omega
             case rel => exact ⟨(y399),(wrap64 (x16_1 + 1)),(by first|rfl|(simp;done)|(simp [*];done)),H',⟨by have := HK1.out;have := HJ6.out;have := HK3.out;omega⟩,⟨by (with_reducible repeat (first|apply Kd.S_alloc|apply Kd.S_drewN|apply Kd.S_drew));exact HO401.out⟩,⟨bb HB⟩⟩
            ·rw [if_neg c21] at H
             exact absurd H (by simp)
     ·rw [if_neg c6] at H
      exact absurd H (by simp)
    ·rw [if_neg c5] at H
     exact absurd H (by simp)
   ·rw [if_neg c4] at H
    have c4b0 : decide (x16_1 < (l1.length : Int)) = false := decide_eq_false c4
    clear c4
    simp only [Option.some.injEq,Prod.mk.injEq] at H
    obtain ⟨rfl,rfl⟩ := H
    go_wp2
    go_ret2
    exact ⟨_,by first|rfl|(simp [errW_none,errW_some] <;> rfl)|(simp [*,errW_none,errW_some] <;> rfl),by (with_reducible repeat (first|apply Kd.S_alloc|apply Kd.S_drewN|apply Kd.S_drew));exact HO_8.out,bb HB⟩
mutual
def hyperinvertible_flat.j0 : Nat → List (List Int) → Bool → Option (Bool)
 | 0,_,_ => none
 | k + 1,x0,x14 => if x14 = true then (some false) else (hyperinvertible_flat.l0 k x0 x0 (x0.length : Int) 0)
def hyperinvertible_flat.l0 : Nat → List (List Int) → List (List Int) → Int → Int → Option (Bool)
 | 0,_,_,_,_ => none
 | k + 1,x0,x15,x16,x17 => if x17 < x16 then (if 0 ≤ x17 then (if x17 < (x15.length : Int) then (if 0 < (x0.length : Int) then (if ((rd_L2 x15 x17).length : Int) = ((rd_L2 x0 0).length : Int) then (hyperinvertible_flat.l0 k x0 x15 x16 (wrap64 (x17 + 1))) else (some false)) else (none)) else (none)) else (none)) else (some true)
end
def hyperinvertible_flat.f (k : Nat) (l0 : List (List Int)) : Option (Bool) := if (l0.length : Int) = 0 then (hyperinvertible_flat.j0 k l0 true) else (if 0 < (l0.length : Int) then (hyperinvertible_flat.j0 k l0 (((rd_L2 l0 0).length : Int) == 0)) else (none))
set_option maxHeartbeats 8000000 in
set_option maxRecDepth 100000 in
theorem hyperinvertible_flat.calls (k : Nat) (A0 : Option Addr) (c0 : Nat) (l0 : List (List Int)) (r : Bool) (w : World) (hr0 : Kd.C (Kd.slice 22 (Kd.int .u64)) w A0 l0.length l0) (hc0 : l0.length ≤ c0) (h : hyperinvertible_flat.f k l0 = some r) :
  Calls Try.prog 40 #[.slice A0 l0.length c0] w fun e w' => e = .returned (.bool r) ∧ Drawn0 w w' := by
 have HR0 := am hr0
 have HC0 := am hc0
 clear hr0 hc0
 have H : (if (l0.length : Int) = 0 then (hyperinvertible_flat.j0 k l0 true) else (if 0 < (l0.length : Int) then (hyperinvertible_flat.j0 k l0 (((rd_L2 l0 0).length : Int) == 0)) else (none))) = some r := h
 clear h
 have HC2 := am H
 clear H
 go_enter Try.func40,Try.ntmps40
 go_upto_region 1 with (fail)
 go_cut [14] (fun v14 wc => ∃ (kq : Nat) (x14_1 : Bool),v14 = .bool x14_1 ∧ Aside0 (hyperinvertible_flat.j0 kq l0 x14_1 = some r) ∧ Aside0 (kq ≤ k) ∧ Drawn0 w wc)
 case first =>
  have H := HC2.out
  clear HC2
  by_cases c3 : (l0.length : Int) = 0
  ·rw [if_pos c3] at H
   have c3b0 : ((l0.length : Int) == 0) = true := beq_iff_eq.mpr c3
   have c3b1 : ((l0.length : Int) != 0) = false := bne_eq_false_iff_eq.mpr c3
   clear c3
   (first|rw [c3b0]|(simp only [i64_w,i32_w];rw [c3b0])|skip)
   have H' := am H
   clear H
   go_wp2
   go_meet
   case rel => exact ⟨_,(true),(by first|rfl|(simp;done)|(simp [*];done)),H',⟨by first|omega|exact Nat.le_refl _⟩,by repeat (first|exact Drawn0.refl _|apply Drawn0.step)⟩
  ·rw [if_neg c3] at H
   have c3b0 : ((l0.length : Int) == 0) = false := beq_eq_false_iff_ne.mpr c3
   have c3b1 : ((l0.length : Int) != 0) = true := bne_iff_ne.mpr c3
   have c3b2 : ¬ (l0 = []) := fun h_ => c3 (by rw [h_];rfl)
   (first|rw [c3b0]|(simp only [i64_w,i32_w];rw [c3b0])|skip)
   by_cases c4 : 0 < (l0.length : Int)
   ·rw [if_pos c4] at H
    have c4b0 : decide (0 < (l0.length : Int)) = true := decide_eq_true c4
    have c4b1 : decide (0 < l0.length) = true := decide_eq_true (by omega)
    clear c4
    have H' := am H
    clear H
    have p402 : 0 ≤ (0 : Int) := (by omega)
    have q402 : 0 < (l0.length : Int) := od
    obtain ⟨ad402,A402_0,c402_0,e402,hx402_0,hl402_0,hi402_0⟩ := at_L2 HR0.out 0 p402 q402
    cases e402
    have qi402 : (0 < l0.length) = True := eq_true (by omega)
    (try rw [show ((0 : Int)).toNat = 0 from rfl] at hx402_0)
    (try rw [Addr.add_zero'] at hx402_0)
    have HR402_0 := am hi402_0
    have HC402_0 := am hl402_0
    clear hi402_0 hl402_0
    replace p402 := eq_true p402
    replace q402 := eq_true q402
    go_wp2
    go_meet
    case rel => exact ⟨_,((((rd_L2 l0 0).length : Int) == 0)),(by first|rfl|(simp;done)|(simp [*];done)),H',⟨by first|omega|exact Nat.le_refl _⟩,by repeat (first|exact Drawn0.refl _|apply Drawn0.step)⟩
   ·rw [if_neg c4] at H
    exact absurd H (by simp)
 case rest =>
  clear HC2
  try clear p2
  try clear c3
  try clear c3b0
  try clear c3b1
  try clear c3b2
  try clear c4
  try clear c4b0
  try clear c4b1
  try clear p4
  try clear q4
  try clear hx4
  try clear qi4
  try clear hx402_0
  try clear p402
  try clear q402
  obtain ⟨kq,x14_1,rfl,HA,HJ1,⟨mc1,rfl⟩⟩ := hcut
  cases kq with
  | zero => exact absurd HA.out (by simp [hyperinvertible_flat.j0])
  | succ kj1 =>
   have H := HA.out
   clear HA
   simp only [hyperinvertible_flat.j0] at H
   by_cases c5 : x14_1 = true
   ·subst c5
    rw [if_pos rfl] at H
    obtain rfl := Option.some.inj H
    go_wp2
    go_ret
    exact ⟨by first|rfl|(simp;done)|(simp [*];done),by repeat (first|exact Drawn0.refl _|apply Drawn0.step)⟩
   ·replace c5 := Bool.eq_false_iff.mpr c5
    subst c5
    rw [if_neg (show ¬ (false = true) by decide)] at H
    have H' := am H
    clear H
    go_wp2
    go_loopg [17] kj1 (fun kq v17 w' => ∃ (x17_2 : Int),v17 = .int .i64 x17_2 ∧ Aside0 (hyperinvertible_flat.l0 kq l0 l0 (l0.length : Int) x17_2 = some r) ∧ Aside0 (kq ≤ kj1) ∧ Drawn0 w w')
    case atStart => exact ⟨(0),(by first|rfl|(simp;done)|(simp [*];done)),H',⟨Nat.le_refl _⟩,by repeat (first|exact Drawn0.refl _|apply Drawn0.step)⟩
    case round =>
     clear H'
     try clear c1
     try clear p2
     try clear c3
     try clear c3b0
     try clear c3b1
     try clear c3b2
     try clear c4
     try clear c4b0
     try clear c4b1
     try clear p4
     try clear q4
     try clear hx4
     try clear qi4
     try clear c5
     try clear hx402_0
     try clear p2
     try clear p4
     try clear p402
     try clear q4
     try clear q402
     obtain ⟨x17_2,rfl,HA,HK2,⟨m2,rfl⟩⟩ := hrel
     cases gk with
     | zero => exact absurd HA.out (by simp [hyperinvertible_flat.l0])
     | succ k2 =>
      have H := HA.out
      clear HA
      simp only [hyperinvertible_flat.l0] at H
      by_cases c6 : x17_2 < (l0.length : Int)
      ·rw [if_pos c6] at H
       have c6b0 : decide (x17_2 < (l0.length : Int)) = true := decide_eq_true c6
       clear c6
       by_cases c7 : 0 ≤ x17_2
       ·rw [if_pos c7] at H
        have c7b0 : decide (0 ≤ x17_2) = true := decide_eq_true c7
        clear c7
        by_cases c8 : x17_2 < (l0.length : Int)
        ·rw [if_pos c8] at H
         have c8b0 : decide (x17_2 < (l0.length : Int)) = true := decide_eq_true c8
         clear c8
         by_cases c9 : 0 < (l0.length : Int)
         ·rw [if_pos c9] at H
          have c9b0 : decide (0 < (l0.length : Int)) = true := decide_eq_true c9
          have c9b1 : decide (0 < l0.length) = true := decide_eq_true (by omega)
          clear c9
          by_cases c10 : ((rd_L2 l0 x17_2).length : Int) = ((rd_L2 l0 0).length : Int)
          ·rw [if_pos c10] at H
           have c10b0 : (((rd_L2 l0 x17_2).length : Int) == ((rd_L2 l0 0).length : Int)) = true := beq_iff_eq.mpr c10
           have c10b1 : (((rd_L2 l0 x17_2).length : Int) != ((rd_L2 l0 0).length : Int)) = false := bne_eq_false_iff_eq.mpr c10
           have c10b2 : ((rd_L2 l0 x17_2).length == (rd_L2 l0 0).length) = true := by first|simpa using c10|(simp at c10 ⊢;omega)
           clear c10
           have H' := am H
           clear H
           have p403 : 0 ≤ (x17_2 : Int) := od
           have q403 : x17_2 < (l0.length : Int) := od
           obtain ⟨ad403,A403_0,c403_0,e403,hx403_0,hl403_0,hi403_0⟩ := at_L2 HR0.out x17_2 p403 q403
           cases e403
           have HR403_0 := am hi403_0
           have HC403_0 := am hl403_0
           clear hi403_0 hl403_0
           replace p403 := eq_true p403
           replace q403 := eq_true q403
           have p404 : 0 ≤ (0 : Int) := (by omega)
           have q404 : 0 < (l0.length : Int) := od
           obtain ⟨ad404,A404_0,c404_0,e404,hx404_0,hl404_0,hi404_0⟩ := at_L2 HR0.out 0 p404 q404
           obtain rfl : ad403 = ad404 := (by injection e404)
           have qi404 : (0 < l0.length) = True := eq_true (by omega)
           (try rw [show ((0 : Int)).toNat = 0 from rfl] at hx404_0)
           (try rw [Addr.add_zero'] at hx404_0)
           have HR404_0 := am hi404_0
           have HC404_0 := am hl404_0
           clear hi404_0 hl404_0
           replace p404 := eq_true p404
           replace q404 := eq_true q404
           go_wp2
           go_roundg k2
           case measure => have := HJ1.out;have := HK2.out;omega
           case rel => exact ⟨(wrap64 (x17_2 + 1)),(by first|rfl|(simp;done)|(simp [*];done)),H',⟨by have := HJ1.out;have := HK2.out;omega⟩,by repeat (first|exact Drawn0.refl _|apply Drawn0.step)⟩
          ·rw [if_neg c10] at H
           have c10b0 : (((rd_L2 l0 x17_2).length : Int) == ((rd_L2 l0 0).length : Int)) = false := beq_eq_false_iff_ne.mpr c10
           have c10b1 : (((rd_L2 l0 x17_2).length : Int) != ((rd_L2 l0 0).length : Int)) = true := bne_iff_ne.mpr c10
           have c10b2 : ((rd_L2 l0 x17_2).length == (rd_L2 l0 0).length) = false := by first|simpa using c10|(simp at c10 ⊢;omega)
           obtain rfl := Option.some.inj H
           have p403 : 0 ≤ (x17_2 : Int) := od
           have q403 : x17_2 < (l0.length : Int) := od
           obtain ⟨ad403,A403_0,c403_0,e403,hx403_0,hl403_0,hi403_0⟩ := at_L2 HR0.out x17_2 p403 q403
           cases e403
           have HR403_0 := am hi403_0
           have HC403_0 := am hl403_0
           clear hi403_0 hl403_0
           replace p403 := eq_true p403
           replace q403 := eq_true q403
           have p404 : 0 ≤ (0 : Int) := (by omega)
           have q404 : 0 < (l0.length : Int) := od
           obtain ⟨ad404,A404_0,c404_0,e404,hx404_0,hl404_0,hi404_0⟩ := at_L2 HR0.out 0 p404 q404
           obtain rfl : ad403 = ad404 := (by injection e404)
           have qi404 : (0 < l0.length) = True := eq_true (by omega)
           (try rw [show ((0 : Int)).toNat = 0 from rfl] at hx404_0)
           (try rw [Addr.add_zero'] at hx404_0)
           have HR404_0 := am hi404_0
           have HC404_0 := am hl404_0
           clear hi404_0 hl404_0
           replace p404 := eq_true p404
           replace q404 := eq_true q404
           go_wp2
           go_ret
           exact ⟨by first|rfl|(simp;done)|(simp [*];done),by repeat (first|exact Drawn0.refl _|apply Drawn0.step)⟩
         ·rw [if_neg c9] at H
          exact absurd H (by simp)
        ·rw [if_neg c8] at H
         exact absurd H (by simp)
       ·rw [if_neg c7] at H
        exact absurd H (by simp)
      ·rw [if_neg c6] at H
       have c6b0 : decide (x17_2 < (l0.length : Int)) = false := decide_eq_false c6
       clear c6
       obtain rfl := Option.some.inj H
       go_wp2
       go_ret
       exact ⟨by first|rfl|(simp;done)|(simp [*];done),by repeat (first|exact Drawn0.refl _|apply Drawn0.step)⟩
def hyperinvertible_row.l0 : Nat → Int → List Int → Int → List Int → Int → Int → Option (Int)
 | 0,_,_,_,_,_,_ => none
 | k + 1,x0,x2,x7,x10,x11,x12 => if x12 < x11 then (if 0 ≤ x12 then (if x12 < (x10.length : Int) then (if x12 < (x2.length : Int) then ((field_Mul.f k x0 (rd x10 x12) (rd x2 x12)).bind fun t410 => ((field_Add.f k x0 x7 t410).bind fun t411 => (hyperinvertible_row.l0 k x0 x2 t411 x10 x11 (wrap64 (x12 + 1))))) else (none)) else (none)) else (none)) else (some x7)
def hyperinvertible_row.f (k : Nat) (a0 : Int) (l1 : List Int) (l2 : List Int) : Option (Int) := hyperinvertible_row.l0 k a0 l2 0 l1 (l1.length : Int) 0
set_option maxHeartbeats 8000000 in
set_option maxRecDepth 100000 in
theorem hyperinvertible_row.calls (k : Nat) (a0 : Int) (A1 : Option Addr) (c1 : Nat) (l1 : List Int) (A2 : Option Addr) (c2 : Nat) (l2 : List Int) (r : Int) (w : World) (hr1 : Kd.C (Kd.int .u64) w A1 l1.length l1) (hc1 : l1.length ≤ c1) (hr2 : Kd.C (Kd.int .u64) w A2 l2.length l2) (hc2 : l2.length ≤ c2) (h : hyperinvertible_row.f k a0 l1 l2 = some r) :
  Calls Try.prog 45 #[.int .u64 a0,.slice A1 l1.length c1,.slice A2 l2.length c2] w fun e w' => e = .returned (.int .u64 r) ∧ Drawn0 w w' := by
 have HR1 := am hr1
 have HC1 := am hc1
 clear hr1 hc1
 have HR2 := am hr2
 have HC2 := am hc2
 clear hr2 hc2
 have H : (hyperinvertible_row.l0 k a0 l2 0 l1 (l1.length : Int) 0) = some r := h
 clear h
 have H' := am H
 clear H
 go_enter Try.func45,Try.ntmps45
 go_wp2
 go_loopg [7,12] k (fun kq v7 v12 w' => ∃ (x7_1 : Int) (x12_1 : Int),v7 = .int .u64 x7_1 ∧ v12 = .int .i64 x12_1 ∧ Aside0 (hyperinvertible_row.l0 kq a0 l2 x7_1 l1 (l1.length : Int) x12_1 = some r) ∧ Aside0 (kq ≤ k) ∧ Drawn0 w w')
 case atStart => exact ⟨(0),(0),(by first|rfl|(simp;done)|(simp [*];done)),(by first|rfl|(simp;done)|(simp [*];done)),H',⟨Nat.le_refl _⟩,by repeat (first|exact Drawn0.refl _|apply Drawn0.step)⟩
 case round =>
  clear H'
  try clear c1
  try clear c2
  try clear p2
  obtain ⟨x7_1,x12_1,rfl,rfl,HA,HK1,⟨m1,rfl⟩⟩ := hrel
  cases gk with
  | zero => exact absurd HA.out (by simp [hyperinvertible_row.l0])
  | succ k1 =>
   have H := HA.out
   clear HA
   simp only [hyperinvertible_row.l0] at H
   by_cases c4 : x12_1 < (l1.length : Int)
   ·rw [if_pos c4] at H
    have c4b0 : decide (x12_1 < (l1.length : Int)) = true := decide_eq_true c4
    clear c4
    by_cases c5 : 0 ≤ x12_1
    ·rw [if_pos c5] at H
     have c5b0 : decide (0 ≤ x12_1) = true := decide_eq_true c5
     clear c5
     by_cases c6 : x12_1 < (l1.length : Int)
     ·rw [if_pos c6] at H
      have c6b0 : decide (x12_1 < (l1.length : Int)) = true := decide_eq_true c6
      clear c6
      by_cases c7 : x12_1 < (l2.length : Int)
      ·rw [if_pos c7] at H
       have c7b0 : decide (x12_1 < (l2.length : Int)) = true := decide_eq_true c7
       clear c7
       replace H := Option.bind_eq_some_iff.mp H
       obtain ⟨t410,A80,H⟩ := H
       try dsimp only at H
       have A8 := am A80
       clear A80
       replace H := Option.bind_eq_some_iff.mp H
       obtain ⟨t411,A90,H⟩ := H
       try dsimp only at H
       have A9 := am A90
       clear A90
       have H' := am H
       clear H
       have p408 : 0 ≤ (x12_1 : Int) := od
       have q408 : x12_1 < (l1.length : Int) := od
       obtain ⟨ad408,e408,hx408_0⟩ := Kd.at_int HR1.out x12_1 p408 q408
       cases e408
       replace p408 := eq_true p408
       replace q408 := eq_true q408
       have p409 : 0 ≤ (x12_1 : Int) := od
       have q409 : x12_1 < (l2.length : Int) := od
       obtain ⟨ad409,e409,hx409_0⟩ := Kd.at_int HR2.out x12_1 p409 q409
       cases e409
       replace p409 := eq_true p409
       replace q409 := eq_true q409
       go_wp2_with (first|((with_reducible refine gate_callee (f := 27) rfl ?_);refine goesL_ (some 25) rfl rfl Try.func27 (by kernel_rfl) rfl #[.int .u64 a0,.int .u64 (rd l1 x12_1),.int .u64 (rd l2 x12_1)] rfl (by (try simp only [List.map_toArray,List.map_cons,List.map_nil]);first|done|rfl|(simp only [List.length_drop,List.length_take];rfl)) ?_;(with_reducible refine (field_Mul.calls k1 a0 (rd l1 x12_1) (rd l2 x12_1) t410 _ A8.out).mono ?_);rintro e w' ⟨rfl,⟨nd,rfl⟩⟩;refine ⟨_,rfl,?_⟩)|((with_reducible refine gate_callee (f := 26) rfl ?_);refine goesL_ (some 26) rfl rfl Try.func26 (by kernel_rfl) rfl #[.int .u64 a0,.int .u64 x7_1,.int .u64 t410] rfl (by (try simp only [List.map_toArray,List.map_cons,List.map_nil]);first|done|rfl|(simp only [List.length_drop,List.length_take];rfl)) ?_;(with_reducible refine (field_Add.calls k1 a0 x7_1 t410 t411 _ A9.out).mono ?_);rintro e w' ⟨rfl,⟨nd,rfl⟩⟩;refine ⟨_,rfl,?_⟩))
       go_roundg k1
       case measure => have := HK1.out;omega
       case rel => exact ⟨(t411),(wrap64 (x12_1 + 1)),(by first|rfl|(simp;done)|(simp [*];done)),(by first|rfl|(simp;done)|(simp [*];done)),H',⟨by have := HK1.out;omega⟩,by repeat (first|exact Drawn0.refl _|apply Drawn0.step)⟩
      ·rw [if_neg c7] at H
       exact absurd H (by simp)
     ·rw [if_neg c6] at H
      exact absurd H (by simp)
    ·rw [if_neg c5] at H
     exact absurd H (by simp)
   ·rw [if_neg c4] at H
    have c4b0 : decide (x12_1 < (l1.length : Int)) = false := decide_eq_false c4
    clear c4
    obtain rfl := Option.some.inj H
    go_wp2
    go_ret
    exact ⟨by first|rfl|(simp;done)|(simp [*];done),by repeat (first|exact Drawn0.refl _|apply Drawn0.step)⟩



end Go.Proofs.Ytmdoaijkaaaglaa.Pr
end
section
namespace Go.Proofs.Ytmdoaijkaaaglaa.E
open Go.RowKit Go.Proofs.Ytmdoaijkaaaglaa.Pr Go.Proofs.Ytmdoaijkaaaglaa.Hw Go.Proofs.YtmdoaijkaaaglaaW.PrintWords Go.Proofs.YtmdoaijkaaaglaaW.PrintLast Go.Proofs.YtmdoaijkaaaglaaW.PrintMore
theorem rdM_nat (l : List (List Int)) (i : Nat) : rd_L2 l (i : Int) = l.getD i [] := by unfold rd_L2;rw [Int.toNat_natCast]
theorem allL {F : Nat → Int → Option Bool} {n : Nat} {Q : Nat → Prop} [DecidablePred Q] {e : Bool} (hend : Ev (fun k => F k (n : Int)) e) (hyes : ∀ i,i < n → Q i → ∀ r,Ev (fun k => F k ((i + 1 : Nat) : Int)) r → Ev (fun k => F k (i : Int)) r)
  (hno : ∀ i,i < n → ¬ Q i → Ev (fun k => F k (i : Int)) false) (r : Bool) (hr : r = true ↔ ((∀ i,i < n → Q i) ∧ e = true)) : Ev (fun k => F k ((0 : Nat) : Int)) r := by
 by_cases hall : ∀ i,i < n → Q i
 ·have : r = e := by
   cases e with
   | true => exact hr.2 ⟨hall,rfl⟩
   | false => exact Bool.eq_false_iff.mpr fun h => by have := (hr.1 h).2;cases this
  rw [this]
  exact up (Q := fun i => Ev (fun k => F k (i : Int)) e) (n := n) hend fun i hi h => hyes i hi (hall i hi) e h
 ·have hf : r = false := Bool.eq_false_iff.mpr fun h => hall (hr.1 h).1
  rw [hf]
  obtain ⟨i,hi,hq⟩ : ∃ i,i < n ∧ ¬ Q i := Classical.byContradiction fun h => hall fun i hi => Classical.byContradiction fun hq => h ⟨i,hi,hq⟩
  refine up (Q := fun i => Ev (fun k => F k (i : Int)) false) (n := i) (hno i hi hq) fun j hj h => ?_
  by_cases hqj : Q j
  ·exact hyes j (by omega) hqj false h
  ·exact hno j (by omega) hqj
theorem res_at {p : Int} {l : List Int} (h : ∀ x ∈ l,Res p x) {i : Nat} (hi : i < l.length) : Res p (l.getD i 0) := by
 rw [List.getD_eq_getElem?_getD,List.getElem?_eq_getElem hi];exact h _ (List.getElem_mem hi)
def dotP (p : Int) (r l : List Int) : Nat → Int
 | 0 => 0
 | n + 1 => (dotP p r l n + r.getD n 0 * l.getD n 0 % p) % p
theorem dotP_res {p : Int} (hp : Supp p) (r l : List Int) : ∀ n,Res p (dotP p r l n)
 | 0 => by have := hp.bd;exact ⟨Int.le_refl _,by show (0 : Int) < p;omega⟩
 | n + 1 => Res.mod hp _
theorem row_ev {p : Int} (hp : Supp p) {r l : List Int} (hr : ∀ x ∈ r,Res p x) (hl : ∀ x ∈ l,Res p x) (h : r.length ≤ l.length) (hn : r.length ≤ 1000000) : Ev (fun k => hyperinvertible_row.f k p r l) (dotP p r l r.length) := by
 refine (up (Q := fun i => Ev (fun k => hyperinvertible_row.l0 k p l (dotP p r l i) r (r.length : Int) (i : Int)) (dotP p r l r.length)) (n := r.length) ?_ (fun i hi h2 => ?_)).congr fun k => rfl
 ·refine Ev.step (fun k => ?_) (Ev.now _)
  simp only [hyperinvertible_row.l0]
  rw [if_neg (by omega)]
 ·refine Ev.step (f := fun k => (field_Mul.f k p (r.getD i 0) (l.getD i 0)).bind fun t => (field_Add.f k p (dotP p r l i) t).bind fun u => hyperinvertible_row.l0 k p l u r (r.length : Int) ((i + 1 : Nat) : Int)) (fun k => ?_) ?_
  ·simp only [hyperinvertible_row.l0]
   rw [if_pos (by omega),if_pos (by omega),if_pos (by omega),if_pos (by omega),rd_nat,rd_nat,wnat (by omega)]
  ·exact Ev.bind (mul_ev hp (res_at hr hi) (res_at hl (by omega))) (Ev.bind (add_ev hp (dotP_res hp _ _ _) (Res.mod hp _)) h2)
def flatB (m : List (List Int)) : Bool := decide (0 < m.length) && (decide (0 < (m.getD 0 []).length) && m.all fun r => decide (r.length = (m.getD 0 []).length))
theorem flat_ev (m : List (List Int)) (hm : m.length ≤ 1000000) : Ev (fun k => hyperinvertible_flat.f k m) (flatB m) := by
 by_cases h0 : m.length = 0
 ·have e : flatB m = false := by unfold flatB;rw [decide_eq_false (by omega)];rfl
  rw [e]
  refine Ev.congr (f := fun k => hyperinvertible_flat.j0 k m true) (fun k => ?_) (Ev.step (fun k => ?_) (Ev.now false))
  ·unfold hyperinvertible_flat.f;rw [if_pos (by omega)]
  ·simp only [hyperinvertible_flat.j0];rw [if_pos trivial]
 ·have hr0 : rd_L2 m 0 = m.getD 0 [] := rdM_nat m 0
  have hf : ∀ k,hyperinvertible_flat.f k m = hyperinvertible_flat.j0 k m (((m.getD 0 []).length : Int) == 0) := fun k => by
   unfold hyperinvertible_flat.f
   rw [if_neg (by omega),if_pos (by omega),hr0]
  by_cases h1 : (m.getD 0 []).length = 0
  ·have e : flatB m = false := by unfold flatB;rw [decide_eq_false (show ¬ 0 < (m.getD 0 []).length by omega)];simp
   rw [e]
   refine Ev.congr (f := fun k => hyperinvertible_flat.j0 k m true) (fun k => ?_) (Ev.step (fun k => ?_) (Ev.now false))
   ·rw [hf,h1];rfl
   ·simp only [hyperinvertible_flat.j0];rw [if_pos trivial]
  ·have hb : (((m.getD 0 []).length : Int) == 0) = false := by
    have : ¬ ((m.getD 0 []).length : Int) = 0 := by omega
    simpa using this
   refine Ev.congr (f := fun k => hyperinvertible_flat.j0 k m false) (fun k => by rw [hf,hb]) ?_
   refine Ev.step (f := fun k => hyperinvertible_flat.l0 k m m (m.length : Int) ((0 : Nat) : Int)) (fun k => by simp only [hyperinvertible_flat.j0];rw [if_neg (by simp)];rfl) ?_
   have hst : ∀ i,i < m.length → ∀ k,hyperinvertible_flat.l0 (k + 1) m m (m.length : Int) (i : Int) = if ((m.getD i []).length : Int) = ((m.getD 0 []).length : Int) then hyperinvertible_flat.l0 k m m (m.length : Int) ((i + 1 : Nat) : Int) else some false := fun i hi k => by
    simp only [hyperinvertible_flat.l0]
    rw [if_pos (by omega),if_pos (by omega),if_pos (by omega),if_pos (by omega),rdM_nat,hr0,wnat (by omega)]
   refine allL (F := fun k i => hyperinvertible_flat.l0 k m m (m.length : Int) i) (n := m.length) (Q := fun i => (m.getD i []).length = (m.getD 0 []).length) (e := true) ?_ (fun i hi hq r h => ?_) (fun i hi hq => ?_) (flatB m) ?_
   ·refine Ev.step (fun k => ?_) (Ev.now _)
    simp only [hyperinvertible_flat.l0]
    rw [if_neg (by omega)]
   ·exact Ev.step (hst i hi) (h.congr fun k => if_pos (by rw [hq]))
   ·exact Ev.step (hst i hi) ((Ev.now false).congr fun k => if_neg (by omega))
   ·unfold flatB
    rw [decide_eq_true (show 0 < m.length by omega),decide_eq_true (show 0 < (m.getD 0 []).length by omega),Bool.true_and,Bool.true_and,List.all_eq_true]
    refine ⟨fun h => ⟨fun i hi => ?_,rfl⟩,fun h x hx => ?_⟩
    ·have := h (m.getD i []) (by rw [List.getD_eq_getElem?_getD,List.getElem?_eq_getElem hi];exact List.getElem_mem hi)
     exact of_decide_eq_true this
    ·obtain ⟨i,hi,rfl⟩ := List.getElem_of_mem hx
     have := h.1 i hi
     rw [show m.getD i [] = m[i] from by rw [List.getD_eq_getElem?_getD,List.getElem?_eq_getElem hi];rfl] at this
     exact decide_eq_true this
def subOk (m : List (List Int)) (rows cols : List Int) : Bool := rows.all fun i => decide (0 ≤ i) && (decide (i < (m.length : Int)) && cols.all fun c => decide (0 ≤ c) && decide (c < ((rd_L2 m i).length : Int)))
def subM (m : List (List Int)) (rows cols : List Int) : List (List Int) := rows.map fun i => cols.map fun c => rd (rd_L2 m i) c
def subR (m : List (List Int)) (rows cols : List Int) : List (List Int) × Int := if subOk m rows cols = true then (subM m rows cols,0) else ([],1)
def goodI (m : List (List Int)) (cols : List Int) (i : Int) : Prop := 0 ≤ i ∧ i < (m.length : Int) ∧ ∀ c ∈ cols,0 ≤ c ∧ c < ((rd_L2 m i).length : Int)
theorem subOk_iff {m : List (List Int)} {rows cols : List Int} : subOk m rows cols = true ↔ ∀ i ∈ rows,goodI m cols i := by
 unfold subOk goodI
 simp only [List.all_eq_true,Bool.and_eq_true,decide_eq_true_eq]
theorem rd_mem {l : List Int} {i : Nat} (h : i < l.length) : rd l (i : Int) ∈ l := by
 rw [rd_nat,List.getD_eq_getElem?_getD,List.getElem?_eq_getElem h];exact List.getElem_mem h
theorem subM_next (m : List (List Int)) (rows cols : List Int) (i : Nat) (h : i < rows.length) : subM m (rows.take i) cols ++ [cols.map fun c => rd (rd_L2 m (rd rows (i : Int))) c] = subM m (rows.take (i + 1)) cols := by
 unfold subM
 rw [List.take_succ_eq_append_getElem h,List.map_append,rd_nat,List.getD_eq_getElem?_getD,List.getElem?_eq_getElem h];rfl
theorem map_next (f : Int → Int) (l : List Int) (i : Nat) (h : i < l.length) : (l.take i).map f ++ [f (rd l (i : Int))] = (l.take (i + 1)).map f := by
 rw [List.take_succ_eq_append_getElem h,List.map_append,rd_nat,List.getD_eq_getElem?_getD,List.getElem?_eq_getElem h];rfl
theorem subm_ev (m : List (List Int)) (rows cols : List Int) (hr : rows.length ≤ 1000000) (hc : cols.length ≤ 1000000) : Ev (fun k => hyperinvertible_Submatrix.f k m rows cols) (subR m rows cols) := by
 have bad : ∀ i,i < rows.length → ¬ goodI m cols (rd rows (i : Int)) → subR m rows cols = ([],1) := fun i hi h => by
  unfold subR;rw [if_neg fun h2 => h (subOk_iff.1 h2 _ (rd_mem hi))]
 have main := up (Q := fun i => (∀ q,q < i → goodI m cols (rd rows (q : Int))) → Ev (fun k => hyperinvertible_Submatrix.l0 k m cols (subM m (rows.take i) cols) rows (rows.length : Int) (i : Int)) (subR m rows cols)) (n := rows.length) ?_ (fun i hi h2 => ?_) (fun q hq => by omega)
 ·exact main.congr fun k => rfl
 ·intro hall
  refine Ev.step (fun k => ?_) (Ev.now _)
  simp only [hyperinvertible_Submatrix.l0]
  rw [if_neg (by omega),List.take_length]
  unfold subR
  rw [if_pos (subOk_iff.2 fun x hx => ?_)]
  obtain ⟨j,hj,rfl⟩ := List.getElem_of_mem hx
  have := hall j hj
  rwa [show rd rows (j : Int) = rows[j] from by rw [rd_nat,List.getD_eq_getElem?_getD,List.getElem?_eq_getElem hj];rfl] at this
 ·intro hall
  have hsl : (subM m (rows.take i) cols).length ≤ rows.length := by unfold subM;rw [List.length_map,List.length_take];omega
  obtain ⟨x,hx⟩ : ∃ x,x = rd rows (i : Int) := ⟨_,rfl⟩
  have hj1 : ∀ b,(b = true → Ev (fun k => some (([] : List (List Int)),(1 : Int))) (subR m rows cols)) → (b = false → Ev (fun k => hyperinvertible_Submatrix.l1 k m cols (subM m (rows.take i) cols) x ([] : List Int) rows (rows.length : Int) (i : Int) cols (cols.length : Int) ((0 : Nat) : Int)) (subR m rows cols)) → Ev (fun k => hyperinvertible_Submatrix.j1 k m cols (subM m (rows.take i) cols) x rows (rows.length : Int) (i : Int) b) (subR m rows cols) := by
   intro b h1 h0
   cases b with
   | true => exact Ev.step (f := fun k => some (([] : List (List Int)),(1 : Int))) (fun k => by simp only [hyperinvertible_Submatrix.j1];rw [if_pos trivial]) (h1 rfl)
   | false => exact Ev.step (f := fun k => hyperinvertible_Submatrix.l1 k m cols (subM m (rows.take i) cols) x ([] : List Int) rows (rows.length : Int) (i : Int) cols (cols.length : Int) ((0 : Nat) : Int)) (fun k => by simp only [hyperinvertible_Submatrix.j1];rw [if_neg (by simp)];rfl) (h0 rfl)
  have hfull : (0 ≤ x ∧ x < (m.length : Int)) → Ev (fun k => hyperinvertible_Submatrix.l1 k m cols (subM m (rows.take i) cols) x ([] : List Int) rows (rows.length : Int) (i : Int) cols (cols.length : Int) ((0 : Nat) : Int)) (subR m rows cols) := by
   intro hxr
   refine up (Q := fun j => (∀ q,q < j → 0 ≤ rd cols (q : Int) ∧ rd cols (q : Int) < ((rd_L2 m x).length : Int)) → Ev (fun k => hyperinvertible_Submatrix.l1 k m cols (subM m (rows.take i) cols) x ((cols.take j).map fun c => rd (rd_L2 m x) c) rows (rows.length : Int) (i : Int) cols (cols.length : Int) (j : Int)) (subR m rows cols)) (n := cols.length) ?_ (fun j hj h3 => ?_) (fun q hq => by omega)
   ·intro hgood
    have hg : goodI m cols x := ⟨hxr.1,hxr.2,fun c hc => by
     obtain ⟨j,hj,rfl⟩ := List.getElem_of_mem hc
     have := hgood j hj
     rwa [show rd cols (j : Int) = cols[j] from by rw [rd_nat,List.getD_eq_getElem?_getD,List.getElem?_eq_getElem hj];rfl] at this⟩
    refine Ev.step (f := fun k => hyperinvertible_Submatrix.l0 k m cols (subM m (rows.take (i + 1)) cols) rows (rows.length : Int) ((i + 1 : Nat) : Int)) (fun k => ?_) (h2 fun q hq => ?_)
    ·simp only [hyperinvertible_Submatrix.l1]
     rw [if_neg (by omega),List.take_length,wnat (by omega),← subM_next m rows cols i hi,← hx,if_pos (by omega)]
    ·by_cases e : q = i
     ·subst e;rw [← hx];exact hg
     ·exact hall q (by omega)
   ·intro hgood
    by_cases hcj : 0 ≤ rd cols (j : Int) ∧ rd cols (j : Int) < ((rd_L2 m x).length : Int)
    ·have hn := h3 fun q hq => by
      by_cases e : q = j
      ·subst e;exact hcj
      ·exact hgood q (by omega)
     refine Ev.step (f := fun k => hyperinvertible_Submatrix.l1 k m cols (subM m (rows.take i) cols) x ((cols.take (j + 1)).map fun c => rd (rd_L2 m x) c) rows (rows.length : Int) (i : Int) cols (cols.length : Int) ((j + 1 : Nat) : Int)) (fun k => ?_) hn
     simp only [hyperinvertible_Submatrix.l1]
     rw [if_pos (by omega),if_pos (by omega),if_pos (by omega),if_neg (by omega),if_pos hxr.1,if_pos hxr.2,if_neg (by omega),if_pos hcj.1,if_pos hcj.2,if_pos (by rw [List.length_map,List.length_take];omega),wnat (by omega),← map_next (fun c => rd (rd_L2 m x) c) cols j hj]
    ·rw [bad i hi fun hg => hcj (by rw [← hx] at hg;exact hg.2.2 _ (rd_mem hj))]
     refine Ev.step (fun k => ?_) (Ev.now _)
     simp only [hyperinvertible_Submatrix.l1]
     rw [if_pos (by omega),if_pos (by omega),if_pos (by omega)]
     by_cases hneg : rd cols (j : Int) < 0
     ·rw [if_pos hneg]
     ·rw [if_neg hneg,if_pos hxr.1,if_pos hxr.2,if_pos (by omega)]
  by_cases hneg : x < 0
  ·refine Ev.step (f := fun k => hyperinvertible_Submatrix.j1 k m cols (subM m (rows.take i) cols) x rows (rows.length : Int) (i : Int) true) (fun k => ?_) (hj1 true (fun _ => ?_) (fun h => by cases h))
   ·simp only [hyperinvertible_Submatrix.l0]
    rw [if_pos (by omega),if_pos (by omega),if_pos (by omega),← hx,if_pos hneg]
   ·rw [bad i hi fun hg => by rw [← hx] at hg;have := hg.1;omega]
    exact Ev.now _
  ·refine Ev.step (f := fun k => hyperinvertible_Submatrix.j1 k m cols (subM m (rows.take i) cols) x rows (rows.length : Int) (i : Int) (decide (x ≥ (m.length : Int)))) (fun k => ?_) (hj1 _ (fun h => ?_) (fun h => ?_))
   ·simp only [hyperinvertible_Submatrix.l0]
    rw [if_pos (by omega),if_pos (by omega),if_pos (by omega),← hx,if_neg hneg]
   ·have := of_decide_eq_true h
    rw [bad i hi fun hg => by rw [← hx] at hg;have := hg.2.1;omega]
    exact Ev.now _
   ·have := of_decide_eq_false h
    exact hfull ⟨by omega,by omega⟩
end Go.Proofs.Ytmdoaijkaaaglaa.E
end
section
namespace Go.Proofs.Ytmdoaijkaaaglaa.Hw
open Go.RowKit Go.MapKept Go.Proofs.YtmdoaijkaaaglaaW.PrintWords
def ents7 (L : List (Int × Int)) : Array MapEntry := (L.mapIdx fun i n => (⟨.int .i64 n.1,.int .u64 n.2,i⟩ : MapEntry)).toArray
def keys7 (L : List (Int × Int)) : List Int := L.map Prod.fst
def val7 (L : List (Int × Int)) (x : Int) : Int := ((L.find? fun e => e.1 == x).map Prod.snd).getD 0
def MpAt (w : World) (b : Nat) (L : List (Int × Int)) : Prop := w.heap[b]? = some (.map (ents7 L) L.length)
theorem ents7_push (L : List (Int × Int)) (x y : Int) : (ents7 L).push ⟨.int .i64 x,.int .u64 y,L.length⟩ = ents7 (L ++ [(x,y)]) := by
 unfold ents7;rw [List.mapIdx_append];simp
theorem ents7_key (L : List (Int × Int)) : ∀ e ∈ (ents7 L).toList,IsKey (.int .i64) e.key := by
 intro e he
 unfold ents7 at he
 simp only [List.mem_mapIdx] at he
 obtain ⟨i,h,rfl⟩ := he
 simp [IsKey]
theorem ents7_has (L : List (Int × Int)) (e : MapEntry) (h : e ∈ (ents7 L).toList) : ∃ p,p ∈ L ∧ e.key = .int .i64 p.1 ∧ e.val = .int .u64 p.2 := by
 unfold ents7 at h
 simp only [List.mem_mapIdx] at h
 obtain ⟨i,h,rfl⟩ := h
 exact ⟨L[i],List.getElem_mem h,rfl,rfl⟩
theorem ents7_mem (L : List (Int × Int)) (p : Int × Int) (h : p ∈ L) : ∃ e ∈ (ents7 L).toList,e.key = .int .i64 p.1 := by
 obtain ⟨i,hi,rfl⟩ := List.getElem_of_mem h
 unfold ents7
 simp only [List.mem_mapIdx]
 exact ⟨_,⟨i,hi,rfl⟩,rfl⟩
theorem val7_out {L : List (Int × Int)} {x : Int} (h : x ∉ keys7 L) : val7 L x = 0 := by
 unfold val7
 rw [List.find?_eq_none.2 fun e he => by simp only [beq_iff_eq];exact fun hx => h (List.mem_map.2 ⟨e,he,hx⟩)]
 rfl
theorem val7_in : ∀ {L : List (Int × Int)},(keys7 L).Nodup → ∀ {p : Int × Int},p ∈ L → val7 L p.1 = p.2
 | [],_,p,h => by cases h
 | q :: L,hn,p,h => by
  have hn' := List.nodup_cons.1 hn
  unfold val7
  rw [List.find?_cons]
  by_cases e : q.1 = p.1
  ·rw [show (q.1 == p.1) = true from by simpa using e]
   rcases List.mem_cons.1 h with rfl|h
   ·rfl
   ·exact absurd (List.mem_map.2 ⟨p,h,e.symm⟩) hn'.1
  ·rw [show (q.1 == p.1) = false from by simpa using e]
   rcases List.mem_cons.1 h with rfl|h
   ·exact absurd rfl e
   ·exact val7_in hn'.2 h
theorem mp_look {P : Program} {t kt et : TypeId} (hm : P.underlying t = some (.map kt et)) (hk : P.underlying kt = some (.int .i64)) {w : World} (hz : (zeroValue et).run P w = .ok (.int .u64 0) w) {b : Nat} {L : List (Int × Int)} (h : MpAt w b L) (hn : (keys7 L).Nodup) (x : Int) :
  (Instr.lookup t (.map (some b)) (.int .i64 x) false).run P w = .ok (.int .u64 (val7 L x)) w ∧ (Instr.lookup t (.map (some b)) (.int .i64 x) true).run P w = .ok (.tuple #[.int .u64 (val7 L x),.bool (decide (x ∈ keys7 L))]) w := by
 have hik : IsKey (.int .i64) (.int .i64 x) := by simp [IsKey]
 rcases findNow_spec hik (ents7 L).toList 0 (ents7_key L) with ⟨h1,h2⟩|⟨j,e,h1,h2,h3⟩
 ·have hx : x ∉ keys7 L := fun hx => by
   obtain ⟨p,hp,rfl⟩ := List.mem_map.1 hx
   obtain ⟨e,he,hk⟩ := ents7_mem L p hp
   exact h2 e he hk
  rw [val7_out hx]
  constructor <;> simp [Instr.lookup,run_underlying hm,Go.MapKept.run_getObj_map (P := P) (show w.heap[b]? = some (.map (ents7 L) L.length) from h),run_checkKey hk hik,run_findKey hk h1,Result.andThen,hz,hx]
 ·have he : e ∈ (ents7 L).toList := List.mem_of_getElem? h2
  obtain ⟨p,hp,e1,e2⟩ := ents7_has L e he
  have hpx : p.1 = x := by rw [e1] at h3;simpa using h3
  subst hpx
  have hx : p.1 ∈ keys7 L := List.mem_map.2 ⟨p,hp,rfl⟩
  rw [val7_in hn hp]
  constructor <;> simp [Instr.lookup,run_underlying hm,Go.MapKept.run_getObj_map (P := P) (show w.heap[b]? = some (.map (ents7 L) L.length) from h),run_checkKey hk hik,run_findKey hk h1,Result.andThen,hx,e2]
def putMp (w : World) (b : Nat) (L : List (Int × Int)) : World := { w with heap := w.heap.setIfInBounds b (.map (ents7 L) L.length) }
theorem mp_put {P : Program} {t kt et : TypeId} (hm : P.underlying t = some (.map kt et)) (hk : P.underlying kt = some (.int .i64)) {w : World} {b : Nat} {L : List (Int × Int)} (h : MpAt w b L) (x y : Int) (hx : x ∉ keys7 L) :
  (Instr.mapUpdate t (.map (some b)) (.int .i64 x) (.int .u64 y)).run P w = .ok () (putMp w b (L ++ [(x,y)])) := by
 have hik : IsKey (.int .i64) (.int .i64 x) := by simp [IsKey]
 rcases findNow_spec hik (ents7 L).toList 0 (ents7_key L) with ⟨h1,h2⟩|⟨j,e,h1,h2,h3⟩
 ·simp [Instr.mapUpdate,run_underlying hm,Go.MapKept.run_getObj_map (P := P) (show w.heap[b]? = some (.map (ents7 L) L.length) from h),run_checkKey hk hik,run_findKey hk h1,Go.MapKept.run_setObj_map (P := P) _ (show w.heap[b]? = some (.map (ents7 L) L.length) from h),Result.andThen,putMp,ents7_push]
 ·have he : e ∈ (ents7 L).toList := List.mem_of_getElem? h2
  obtain ⟨p,hp,e1,e2⟩ := ents7_has L e he
  have hpx : p.1 = x := by rw [e1] at h3;simpa using h3
  exact absurd (List.mem_map.2 ⟨p,hp,hpx⟩) hx
theorem putMp_at {w : World} {b : Nat} {L : List (Int × Int)} (hb : b < w.heap.size) : MpAt (putMp w b L) b L := by
 unfold MpAt putMp
 simp [hb]
theorem putMp_below {base : Nat} {w w1 : World} {b : Nat} {L : List (Int × Int)} (h : Below base w w1) (hb : base ≤ b) : Below base w (putMp w1 b L) :=
 ⟨h.os,h.tape,h.output,by show _ ≤ (Array.setIfInBounds _ _ _).size;rw [Array.size_setIfInBounds];exact h.size,fun i hi => by
  show (Array.setIfInBounds _ _ _)[i]? = _
  rw [Array.getElem?_setIfInBounds_ne (by omega)];exact h.block i hi⟩
theorem MpAt.alloc {w : World} {b : Nat} {L : List (Int × Int)} (h : MpAt w b L) (o : Obj) : MpAt (w.alloc o) b L := by
 have hlt : b < w.heap.size := (Array.getElem?_eq_some_iff.1 h).1
 show (w.heap.push o)[b]? = _
 rw [Array.getElem?_push,if_neg (by omega)];exact h
theorem mp_made (w : World) : MpAt (w.alloc (.map #[] 0)) w.heap.size [] := by
 show (w.heap.push _)[w.heap.size]? = _
 simp [ents7]
end Go.Proofs.Ytmdoaijkaaaglaa.Hw
end
section
namespace Go.Proofs.Ytmdoaijkaaaglaa.Hw
open Go.RowKit Go.Proofs.Ytmdoaijkaaaglaa.Pr Go.Proofs.YtmdoaijkaaaglaaW.PrintWords Go.Proofs.YtmdoaijkaaaglaaW.PrintLast Go.Proofs.YtmdoaijkaaaglaaW.PrintMore
def maskC (L : List (Int × Int)) (bp : Nat) : List Value := ((List.range 64).map fun (i : Nat) => Value.bool (decide ((i : Int) ∈ keys7 L))) ++ [.map (some bp)]
theorem maskC_at (L : List (Int × Int)) (bp i : Nat) (h : i < 64) : (maskC L bp).toArray[i]? = some (.bool (decide ((i : Int) ∈ keys7 L))) := by
 rw [List.getElem?_toArray,maskC,List.getElem?_append_left (by simpa using h)]
 simp [h]
theorem maskC_map (L : List (Int × Int)) (bp : Nat) : (maskC L bp).toArray[64]? = some (.map (some bp)) := by
 rw [List.getElem?_toArray,maskC,List.getElem?_append_right (by simp)]
 simp
def MaskAt (w : World) (bm bp : Nat) (L : List (Int × Int)) : Prop := w.heap[bm]? = some (.cells (maskC L bp).toArray 74 (0,0)) ∧ MpAt w bp L
theorem MaskAt.below {w w1 : World} {bm bp : Nat} {L : List (Int × Int)} (h : MaskAt w bm bp L) (hb : Below w.heap.size w w1) : MaskAt w1 bm bp L :=
 ⟨(hb.block _ (blk_lt h.1)).trans h.1,(hb.block _ (blk_lt h.2)).trans h.2⟩
set_option maxHeartbeats 1000000 in
set_option maxRecDepth 100000 in
theorem has_walk (bm bp : Nat) (L : List (Int × Int)) (w : World) (hM : MaskAt w bm bp L) (i : Nat) (hi : i < 64) :
  Calls Try.prog 42 #[.pointer (some ⟨bm,0,none⟩),.int .i64 (i : Int)] w fun e w' => e = .returned (.bool (decide ((i : Int) ∈ keys7 L))) ∧ Below w.heap.size w w' := by
 have hc : w.cell? ⟨bm,i,none⟩ = some (.bool (decide ((i : Int) ∈ keys7 L))) := (blk_cell hM.1 i).trans (maskC_at L bp i hi)
 have q1 : decide ((i : Int) < 64) = true := decide_eq_true (by omega)
 have q2 : ((i : Int) < 64) = True := eq_true (by omega)
 have q3 : ((0 : Int) ≤ (i : Int)) = True := eq_true (by omega)
 obtain ⟨r,hr⟩ : ∃ r,r = decide ((i : Int) ∈ keys7 L) := ⟨_,rfl⟩
 rw [← hr] at hc ⊢
 clear hM hr
 go_enter Try.func42,Try.ntmps42
 go_wp2
 first|go_ret|((try simp only [Exit.inBlock,Exit.then]);refine bodyPost_ret (results_tmp rfl _ _ _) rfl ?_)
 exact ⟨rfl,Below.refl _ _⟩
theorem maskC_set (L : List (Int × Int)) (bp i : Nat) (y : Int) (h : i < 64) : (maskC L bp).toArray.setIfInBounds i (.bool true) = (maskC (L ++ [((i : Int),y)]) bp).toArray := by
 rw [List.setIfInBounds_toArray]
 congr 1
 unfold maskC
 rw [List.set_append_left _ _ (by simpa using h)]
 congr 1
 apply List.ext_getElem
 ·simp
 ·intro j h1 h2
  rw [List.getElem_set]
  simp only [List.getElem_map,List.getElem_range,keys7,List.map_append,List.map_cons,List.map_nil,List.mem_append,List.mem_cons,List.not_mem_nil,or_false]
  by_cases e : i = j
  ·subst e;simp
  ·rw [if_neg e]
   congr 1
   exact decide_eq_decide.2 ⟨Or.inl,fun hh => hh.resolve_right fun e2 => e (by omega)⟩
def ptsM (pts : List S56) : List (Int × Int) := pts.map fun x => (x.f0,x.f1)
theorem ptsM_next (pts : List S56) (n : Nat) (h : n < pts.length) : ptsM (pts.take n) ++ [((pts[n]).f0,(pts[n]).f1)] = ptsM (pts.take (n + 1)) := by
 unfold ptsM;rw [List.take_succ_eq_append_getElem h,List.map_append];rfl
theorem zeroW7 (w : World) : (zeroValue 22).run Try.prog w = .ok (.int .u64 0) w := by kernel_rfl
theorem putMp_other {w : World} {b : Nat} {L : List (Int × Int)} {k : Nat} (h : k ≠ b) : (putMp w b L).heap[k]? = w.heap[k]? := by
 unfold putMp
 exact Array.getElem?_setIfInBounds_ne (by omega)
theorem maskC_zero (bp : Nat) : Try.zeroCells74.setIfInBounds 64 (.map (some bp)) = (maskC [] bp).toArray := by kernel_rfl
theorem wrU7 {x : Int} (h0 : 0 ≤ x) (h1 : x < 18446744073709551616) : IntKind.u64.wrap x = x := by
 show x % 18446744073709551616 = x
 omega
theorem wrI7 {x : Int} (h0 : 0 ≤ x) (h1 : x < 9223372036854775808) : IntKind.i64.wrap x = x := by
 rw [i64_w];unfold wrap64;omega
theorem rdT_nat7 (pts : List S56) (i : Nat) (h : i < pts.length) : rd_T56 pts (i : Int) = pts[i] := by
 unfold rd_T56
 rw [Int.toNat_natCast,List.getD_eq_getElem?_getD,List.getElem?_eq_getElem h];rfl
def plcB (pts : List S56) (n : Int) : Bool := (pts.all fun x => decide (x.f0 < n)) && decide ((keys7 (ptsM pts)).Nodup)
theorem plcB_iff {pts : List S56} {n : Int} : plcB pts n = true ↔ (∀ x ∈ pts,x.f0 < n) ∧ (keys7 (ptsM pts)).Nodup := by
 unfold plcB;simp only [Bool.and_eq_true,List.all_eq_true,decide_eq_true_eq]
def KnwR (pts : List S56) (n : Int) (w : World) (e : Ending) (w' : World) : Prop :=
 ∃ a : Option Addr,e = .returned (.tuple #[.pointer a,.bool (plcB pts n)]) ∧ (plcB pts n = true → ∃ bm bp,a = some ⟨bm,0,none⟩ ∧ MaskAt w' bm bp (ptsM pts) ∧ w.heap.size ≤ bm ∧ w.heap.size ≤ bp)
theorem plcB_no1 {pts : List S56} {n : Int} {i : Nat} (h : i < pts.length) (hn : ¬ (pts[i]).f0 < n) : plcB pts n = false := by
 rw [Bool.eq_false_iff]
 exact fun h2 => hn ((plcB_iff.1 h2).1 _ (List.getElem_mem h))
theorem plcB_no2 {pts : List S56} {n : Int} {i : Nat} (h : i < pts.length) (hn : (pts[i]).f0 ∈ keys7 (ptsM (pts.take i))) : plcB pts n = false := by
 rw [Bool.eq_false_iff]
 intro h2
 have h3 := (plcB_iff.1 h2).2
 have h4 : (keys7 (ptsM (pts.take (i + 1)))).Nodup := by
  refine List.Nodup.sublist ?_ h3
  unfold keys7 ptsM
  exact ((List.take_sublist _ _).map _).map _
 rw [← ptsM_next pts i h] at h4
 unfold keys7 at h4 hn
 rw [List.map_append] at h4
 exact (List.nodup_append.1 h4).2.2 _ hn _ (by simp) rfl
set_option maxHeartbeats 4000000 in
set_option maxRecDepth 100000 in
theorem known_any (A : Option Addr) (c : Nat) (pts : List S56) (n : Int) (hl : pts.length ≤ 1000000) (w : World) (hr : Kd.C k56 w A pts.length pts) (hc : pts.length ≤ c) (h0 : 0 ≤ n) (h64 : n ≤ 64) (hx : ∀ x ∈ pts,0 ≤ x.f0 ∧ x.f0 < 18446744073709551616) :
  Calls Try.prog 41 #[.slice A pts.length c,.int .i64 n] w fun e w' => KnwR pts n w e w' ∧ Below w.heap.size w w' := by
 have HR := am hr
 have HX := am hx
 have hmm := @run_makeMap Try.prog
 have hb1 := below_alloc (Below.refl w.heap.size w) (.map #[] 0)
 have hM0 : MaskAt ((w.alloc (.map #[] 0)).alloc (.cells (maskC [] w.heap.size).toArray 74)) (w.heap.size + 1) w.heap.size [] := by
  refine ⟨?_,MpAt.alloc (mp_made w) _⟩
  have := blk_new (w.alloc (.map #[] 0)) (.cells (maskC [] w.heap.size).toArray 74)
  rwa [show (w.alloc (.map #[] 0)).heap.size = w.heap.size + 1 from Array.size_push _] at this
 have HM0 := am hM0
 have HB0 := am (below_alloc hb1 (.cells (maskC [] w.heap.size).toArray 74))
 clear hr hx hb1 hM0
 go_enter Try.func41,Try.ntmps41
 go_wp2
 clear hmm
 rw [maskC_zero]
 go_loopg [8,9,10,11,17] pts.length (fun kq v8 v9 v10 v11 v17 w' => ∃ (i : Nat),v17 = .int .i64 (i : Int) ∧ Aside0 (kq + i = pts.length) ∧ Aside0 ((∀ x ∈ pts.take i,x.f0 < n) ∧ (keys7 (ptsM (pts.take i))).Nodup) ∧ Aside0 (MaskAt w' (w.heap.size + 1) w.heap.size (ptsM (pts.take i))) ∧ Aside0 (Below w.heap.size w w'))
 case atStart => exact ⟨0,rfl,⟨rfl⟩,⟨by simp,by simp [ptsM,keys7]⟩,HM0,HB0⟩
 case round =>
  clear HM0 HB0
  obtain ⟨i,rfl,HK,HPO,HM,HB⟩ := hrel
  by_cases hlt : i < pts.length
  ·have p1 : ((0 : Int) ≤ (i : Int)) = True := eq_true (by omega)
   have q1 : ((i : Int) < (pts.length : Int)) = True := eq_true (by omega)
   have q0 : decide ((i : Int) < (pts.length : Int)) = true := decide_eq_true (by omega)
   obtain ⟨ad,e1,hx0,hx1⟩ := at_T56 HR.out (i : Int) (by omega) (by omega)
   cases e1
   replace hx0 := pw_cell_below HB.out hx0
   replace hx1 := pw_cell_below HB.out hx1
   rw [Int.toNat_natCast] at hx0 hx1
   have hrd := rdT_nat7 pts i hlt
   have hXb := HX.out _ (List.getElem_mem hlt)
   obtain ⟨k,hk⟩ : ∃ k : Nat,(pts[i]).f0 = (k : Int) := ⟨(pts[i]).f0.toNat,by omega⟩
   obtain ⟨Y,hY⟩ : ∃ y,y = (pts[i]).f1 := ⟨_,rfl⟩
   have hnx := ptsM_next pts i hlt
   have HNO1 := am (fun (h : ¬ (k : Int) < n) => plcB_no1 (n := n) hlt (by rw [hk];exact h))
   have HNO2 := am (fun (h : (k : Int) ∈ keys7 (ptsM (pts.take i))) => plcB_no2 (n := n) hlt (by rw [hk];exact h))
   have HPN := am (fun (h : (k : Int) < n) => show ∀ x ∈ pts.take (i + 1),x.f0 < n from by
    intro x hx2
    rw [List.take_succ_eq_append_getElem hlt] at hx2
    rcases List.mem_append.1 hx2 with h3|h3
    ·exact HPO.out.1 x h3
    ·rw [List.mem_singleton.1 h3,hk];exact h)
   rw [hrd] at hx0 hx1
   rw [hk] at hx0 hnx hXb
   rw [← hY] at hx1 hnx
   obtain ⟨L,hL⟩ : ∃ L,L = ptsM (pts.take i) := ⟨_,rfl⟩
   rw [← hL] at HM hnx HNO2
   have hndl : (keys7 L).Nodup := by rw [hL];exact HPO.out.2
   have hba := below_alloc (Below.refl wr.heap.size wr) (.cells #[.int .u64 (k : Int),.int .u64 Y] 56)
   have HMa := am (HM.out.below hba)
   have HBa := am (below_step HB.out hba)
   have hcm : (wr.alloc (.cells #[.int .u64 (k : Int),.int .u64 Y] 56)).cell? ⟨w.heap.size + 1,64,none⟩ = some (.map (some w.heap.size)) := (blk_cell HMa.out.1 64).trans (maskC_map L _)
   have hlook := (mp_look Try.underlying72 Try.underlying3 (zeroW7 _) HMa.out.2 hndl (k : Int)).2
   have hw1 : IntKind.u64.wrap n = n := wrU7 (by omega) (by omega)
   have HKB := am hXb
   by_cases hkn : (k : Int) < n
   case neg =>
    have q2 : decide ((k : Int) ≥ n) = true := decide_eq_true (by omega)
    have q3 : decide (n ≤ (k : Int)) = true := decide_eq_true (by omega)
    have HF := am (HNO1.out hkn)
    clear hrd hk hY hL hnx hndl hba hXb hlook hcm
    go_wp2
    first|go_ret2|((try simp only [Exit.inBlock,Exit.then]);refine bodyPost_ret (results_tmp2 rfl _ _ _) rfl ?_)
    exact ⟨⟨none,by rw [HF.out];rfl,fun h => by rw [HF.out] at h;cases h⟩,HBa.out⟩
   have hw2 : IntKind.i64.wrap (k : Int) = (k : Int) := wrI7 (by omega) (by omega)
   have q2 : decide ((k : Int) ≥ n) = false := decide_eq_false (by omega)
   have q3 : decide (n ≤ (k : Int)) = false := decide_eq_false (by omega)
   by_cases hin : (k : Int) ∈ keys7 L
   case pos =>
    rw [decide_eq_true hin] at hlook
    have HF := am (HNO2.out hin)
    clear hrd hk hY hL hnx hndl hba hXb hin
    go_wp2
    first|go_ret2|((try simp only [Exit.inBlock,Exit.then]);refine bodyPost_ret (results_tmp2 rfl _ _ _) rfl ?_)
    exact ⟨⟨none,by rw [HF.out];rfl,fun h => by rw [HF.out] at h;cases h⟩,HBa.out⟩
   have hout : (k : Int) ∉ keys7 L := hin
   rw [decide_eq_false hout] at hlook
   have hput := mp_put Try.underlying72 Try.underlying3 (show MpAt (wr.alloc (.cells #[.int .u64 (k : Int),.int .u64 Y] 56)).drew w.heap.size L from HMa.out.2) (k : Int) Y hout
   have HOut := am hout
   have HNX := am hnx
   have HPQ := am (show (∀ x ∈ pts.take (i + 1),x.f0 < n) ∧ (keys7 (ptsM (pts.take (i + 1)))).Nodup from ⟨HPN.out hkn,by
    rw [← hnx]
    unfold keys7
    rw [List.map_append,List.nodup_append]
    refine ⟨hndl,by simp,?_⟩
    intro a ha b hb2 e
    rw [List.map_cons,List.map_nil,List.mem_singleton] at hb2
    rw [hb2] at e
    rw [e] at ha
    exact hout ha⟩)
   clear hrd hk hY hL hnx hndl hout hba hXb hin
   go_wp2
   have hY1 : (wr.alloc (.cells #[.int .u64 (k : Int),.int .u64 Y] 56)).cell? ⟨wr.heap.size,1,none⟩ = some (.int .u64 Y) := (blk_cell (blk_new wr (.cells #[.int .u64 (k : Int),.int .u64 Y] 56)) 1).trans rfl
   refine start_ (n := 8) (S := (fun w' => w'.cell? ⟨w.heap.size + 1,64,none⟩ = some (.map (some w.heap.size)) ∧ w'.cell? ⟨wr.heap.size,1,none⟩ = some (.int .u64 Y))) (ds := [7]) (bz 8 0) (by kernel_rfl) rfl rfl ⟨hcm,hY1⟩ (fun hHeld => ?_)
   refine pu 0 39 (bz 8 1) ?_
   refine pu 1 40 (bz 8 3) ?_
   refine pu 2 41 (bz 8 7) ?_
   refine tu 3 42 (bz 8 15) hHeld ?_
   refine pu 4 43 (bz 8 31) ?_
   refine pu 5 44 (bz 8 63) ?_
   refine tu 6 45 (bz 8 127) hHeld ?_
   refine last_ (i := 7) (N := none) (bz 8 255) rfl rfl (by kernel_rfl) (by decide) (fun K hK => ?_)
   refine skip_ (w1 := ?_) (by rfl) rfl ?_ ?_
   rotate_left
   ·go_simp
    rfl
   refine hK.out _ _ ?_
   clear hK K
   refine done_ (by kernel_rfl) ?_
   clear hput hcm hY1 hlook
   obtain ⟨w5,hw5⟩ : ∃ W,W = putMp (wr.alloc (.cells #[.int .u64 (k : Int),.int .u64 Y] 56)).drew w.heap.size (L ++ [((k : Int),Y)]) := ⟨_,rfl⟩
   rw [← hw5]
   have hk64 : k < 64 := by omega
   have hb5 : w5.heap[w.heap.size + 1]? = some (.cells (maskC L w.heap.size).toArray 74 (0,0)) := by
    rw [hw5,putMp_other (by omega)];exact HMa.out.1
   have hm5 : MpAt w5 w.heap.size (L ++ [((k : Int),Y)]) := by
    rw [hw5];exact putMp_at (blk_lt HMa.out.2)
   have hB5 : Below w.heap.size w w5 := by
    rw [hw5];exact putMp_below (below_drew HBa.out) (Nat.le_refl _)
   have hc5 : w5.cell? ⟨w.heap.size + 1,k,none⟩ = some (.bool (decide ((k : Int) ∈ keys7 L))) := (blk_cell hb5 k).trans (maskC_at L _ k hk64)
   have hf5 := blk_frozen hb5 k
   have q4 : decide ((k : Int) < 64) = true := decide_eq_true (by omega)
   have q5 : ((k : Int) < 64) = True := eq_true (by omega)
   have q6 : ((0 : Int) ≤ (k : Int)) = True := eq_true (by omega)
   have HB6 := am (hB5.setCell (p := ⟨w.heap.size + 1,k,none⟩) (Nat.le_succ _) (.bool true))
   have HM6 := am (show MaskAt (w5.setCell ⟨w.heap.size + 1,k,none⟩ (.bool true)) (w.heap.size + 1) w.heap.size (ptsM (pts.take (i + 1))) from by
    rw [← HNX.out]
    exact ⟨blk_put hb5 k _ (maskC_set L _ k Y hk64),(Below.heap_setCell w5 ⟨w.heap.size + 1,k,none⟩ _ _ (by show w.heap.size ≠ w.heap.size + 1;omega)).trans hm5⟩)
   clear hw5 hb5 hm5 hB5
   go_wp2
   go_roundg (pts.length - (i + 1))
   case measure => have := HK.out;omega
   case rel => exact ⟨i + 1,by go_num,⟨by omega⟩,HPQ,HM6,HB6⟩
  ·have q0 : decide ((i : Int) < (pts.length : Int)) = false := decide_eq_false (by omega)
   have hn : i = pts.length := by have := HK.out;omega
   have hM := HM.out
   rw [hn,List.take_length] at hM
   have HMM := am hM
   clear hM
   go_wp2
   first|go_ret2|((try simp only [Exit.inBlock,Exit.then]);refine bodyPost_ret (results_tmp2 rfl _ _ _) rfl ?_)
   have hpo := HPO.out
   rw [hn,List.take_length] at hpo
   have hpy := plcB_iff.2 hpo
   exact ⟨⟨some ⟨w.heap.size + 1,0,none⟩,by rw [hpy];rfl,fun _ => ⟨_,_,rfl,HMM.out,by omega,by omega⟩⟩,HB.out⟩
theorem any_no {α : Type} {q : α → Bool} {l : List α} {n : Nat} (h : n < l.length) (hq : q l[n] = false) : (l.drop n).any q = (l.drop (n + 1)).any q := by rw [List.drop_eq_getElem_cons h,List.any_cons,hq,Bool.false_or]
theorem any_yes {α : Type} {q : α → Bool} {l : List α} {n : Nat} (h : n < l.length) (hq : q l[n] = true) : (l.drop n).any q = true := by rw [List.drop_eq_getElem_cons h,List.any_cons,hq,Bool.true_or]
theorem any_end {α : Type} {q : α → Bool} {l : List α} : (l.drop l.length).any q = false := by rw [List.drop_length];rfl
set_option maxHeartbeats 4000000 in
set_option maxRecDepth 100000 in
theorem idx_row (q : List Int → Bool) (bw : Nat) (A : Option Addr) (c : Nat) (l : List (List Int)) (w : World) (hr : Kd.C (Kd.slice 22 (Kd.int .u64)) w A l.length l) (hl : l.length ≤ 1000000000)
  (hcall : ∀ (W : World) (A4 : Option Addr) (c4 : Nat) (y : List Int),0 < l.length → Below w.heap.size w W → Calls Try.prog 88 #[.slice A4 y.length c4,.pointer (some ⟨bw,0,none⟩)] W fun e w' => e = .returned (.bool (q y)) ∧ Below w.heap.size w w') :
  Calls Try.prog 101 #[.slice A l.length c,.func (.func 88) #[] #[.pointer (some ⟨bw,0,none⟩)]] w fun e w' => ∃ r : Int,e = .returned (.int .i64 r) ∧ decide (0 ≤ r) = l.any q ∧ Below w.heap.size w w' := by
 have HR := Aside0.mk hr
 have HC := Aside0.mk hcall
 clear hr hcall
 go_enter Try.func101,Try.ntmps101
 go_wp2
 go_loopg [5,8] l.length (fun kq v5 v8 w' => ∃ (n : Nat),v8 = .int .i64 (n : Int) ∧ Aside0 (kq + n = l.length) ∧ Aside0 (l.any q = (l.drop n).any q) ∧ Aside0 (Below w.heap.size w w'))
 case atStart => exact ⟨0,rfl,⟨rfl⟩,⟨rfl⟩,⟨Below.refl _ _⟩⟩
 case round =>
  obtain ⟨n,rfl,HK,HN,HB⟩ := hrel
  by_cases hlt : n < l.length
  ·have p1 : ((0 : Int) ≤ (n : Int)) = True := eq_true (by omega)
   have q1 : ((n : Int) < (l.length : Int)) = True := eq_true (by omega)
   obtain ⟨ad,A4,c4,e1,hy1,hc4,hC4⟩ := at_L2 (Kd.C_below HR.out HB.out) (n : Int) (by omega) (by omega)
   cases e1
   rw [Int.toNat_natCast] at hy1
   have hrd : rd_L2 l (n : Int) = l[n] := by unfold rd_L2;rw [Int.toNat_natCast,List.getD_eq_getElem?_getD,List.getElem?_eq_getElem hlt];rfl
   obtain ⟨y,hy⟩ : ∃ y,y = rd_L2 l (n : Int) := ⟨_,rfl⟩
   rw [← hy] at hy1 hrd hc4 hC4
   have hc := HC.out wr A4 c4 y (by omega) HB.out
   clear hy hC4
   cases hq : q y with
   | true =>
    have hv : l.any q = true := by rw [HN.out];exact any_yes hlt (by rw [← hrd];exact hq)
    have HV := Aside0.mk hv
    rw [hq] at hc
    have HCC := Aside0.mk hc
    clear hv hq hc hrd
    go_wp2_with (first|(go_at_call 88;(with_reducible refine HCC.out.mono ?_);rintro e w' ⟨rfl,hb'⟩;have HB2 := Aside0.mk hb';clear hb'))
    first|go_ret|((try simp only [Exit.inBlock,Exit.then]);refine bodyPost_ret (results_tmp rfl _ _ _) rfl ?_)
    exact ⟨_,rfl,by rw [HV.out];exact decide_eq_true (by omega),HB2.out⟩
   | false =>
    have hv : l.any q = (l.drop (n + 1)).any q := by rw [HN.out];exact any_no hlt (by rw [← hrd];exact hq)
    have HV := Aside0.mk hv
    rw [hq] at hc
    have HCC := Aside0.mk hc
    clear hv hq hc hrd
    go_wp2_with (first|(go_at_call 88;(with_reducible refine HCC.out.mono ?_);rintro e w' ⟨rfl,hb'⟩;have HB2 := Aside0.mk hb';clear hb'))
    go_roundg (l.length - (n + 1))
    case measure => have := HK.out;omega
    case rel => exact ⟨n + 1,by go_num,⟨by omega⟩,HV,HB2⟩
  ·have hd : decide ((n : Int) < (l.length : Int)) = false := decide_eq_false (by omega)
   have hn : n = l.length := by have := HK.out;omega
   subst hn
   have hv : l.any q = false := by rw [HN.out];exact any_end
   have HV := Aside0.mk hv
   clear hv
   go_wp2
   first|go_ret|((try simp only [Exit.inBlock,Exit.then]);refine bodyPost_ret (results_tmp rfl _ _ _) rfl ?_)
   exact ⟨_,rfl,by rw [HV.out];rfl,HB.out⟩
theorem has_row (q : List Int → Bool) (bw : Nat) (A : Option Addr) (c : Nat) (l : List (List Int)) (w : World) (hr : Kd.C (Kd.slice 22 (Kd.int .u64)) w A l.length l) (hl : l.length ≤ 1000000000)
  (hcall : ∀ (W : World) (A4 : Option Addr) (c4 : Nat) (y : List Int),0 < l.length → Below w.heap.size w W → Calls Try.prog 88 #[.slice A4 y.length c4,.pointer (some ⟨bw,0,none⟩)] W fun e w' => e = .returned (.bool (q y)) ∧ Below w.heap.size w w') :
  Calls Try.prog 87 #[.slice A l.length c,.func (.func 88) #[] #[.pointer (some ⟨bw,0,none⟩)]] w fun e w' => e = .returned (.bool (l.any q)) ∧ Below w.heap.size w w' := by
 have hi := Aside0.mk (idx_row q bw A c l w hr hl hcall)
 clear hr hcall
 go_enter Try.func87,Try.ntmps87
 go_wp2_with (first|(go_at_call 101;(with_reducible refine hi.out.mono ?_);rintro e w' ⟨r,rfl,hv,hb'⟩;have HV := Aside0.mk hv;have HB2 := Aside0.mk hb';clear hv hb'))
 first|go_ret|((try simp only [Exit.inBlock,Exit.then]);refine bodyPost_ret (results_tmp rfl _ _ _) rfl ?_)
 exact ⟨by first|(rw [HV.out];done)|(rw [HV.out] <;> rfl)|(rw [← HV.out] <;> rfl),HB2.out⟩
def oddRow (l : List (List Int)) (y : List Int) : Bool := (y.length : Int) != ((rd_L2 l 0).length : Int)
set_option maxHeartbeats 4000000 in
set_option maxRecDepth 100000 in
theorem rect1_walk (A : Option Addr) (c : Nat) (l : List (List Int)) (bw : Nat) (w W : World) (hr : Kd.C (Kd.slice 22 (Kd.int .u64)) W A l.length l) (h0 : 0 < l.length) (hB : Below w.heap.size w W) (hbx : W.heap[bw]? = some (.cells #[.slice A l.length c] 25 (0,0)))
  (A4 : Option Addr) (c4 : Nat) (y : List Int) :
  Calls Try.prog 88 #[.slice A4 y.length c4,.pointer (some ⟨bw,0,none⟩)] W fun e w' => e = .returned (.bool (oddRow l y)) ∧ Below w.heap.size w w' := by
 have q1 : ((0 : Int) < (l.length : Int)) = True := eq_true (by omega)
 have q2 : (0 < l.length) = True := eq_true h0
 have hb0 : W.cell? ⟨bw,0,none⟩ = some (.slice A l.length c) := (blk_cell hbx 0).trans rfl
 obtain ⟨ad,A5,c5,e1,hy1,hc5,hC5⟩ := at_L2 hr (0 : Int) (by omega) (by omega)
 cases e1
 rw [show ((0 : Int)).toNat = 0 from rfl,Addr.add_zero'] at hy1
 have HB := Aside0.mk hB
 clear hB hbx hr hC5 hc5 h0
 go_enter Try.func88,Try.ntmps88
 go_wp2
 first|go_ret|((try simp only [Exit.inBlock,Exit.then]);refine bodyPost_ret (results_tmp rfl _ _ _) rfl ?_)
 exact ⟨rfl,HB.out⟩
def matrix_rect.f (l : List (List Int)) : Option Bool := if l.length ≤ 1000000000 then some (!l.any (oddRow l)) else none
set_option maxHeartbeats 4000000 in
set_option maxRecDepth 100000 in
theorem matrix_rect.calls (A0 : Option Addr) (c0 : Nat) (l0 : List (List Int)) (r : Bool) (w : World) (hr0 : Kd.C (Kd.slice 22 (Kd.int .u64)) w A0 l0.length l0) (hc0 : l0.length ≤ c0) (h : matrix_rect.f l0 = some r) :
  Calls Try.prog 55 #[.slice A0 l0.length c0] w fun e w' => e = .returned (.bool r) ∧ Below w.heap.size w w' := by
 unfold matrix_rect.f at h
 by_cases hl : l0.length ≤ 1000000000
 ·rw [if_pos hl] at h
  obtain rfl := Option.some.inj h
  have hb := below_alloc (Below.refl w.heap.size w) (.cells #[.slice A0 l0.length c0] 25)
  have hx := blk_new w (.cells #[.slice A0 l0.length c0] 25)
  have HH := Aside0.mk (has_row (oddRow l0) w.heap.size A0 c0 l0 (w.alloc (.cells #[.slice A0 l0.length c0] 25)) (Kd.C_below hr0 hb) hl (fun W A4 c4 y h0 hB => by
   exact rect1_walk A0 c0 l0 w.heap.size _ W (Kd.C_below (Kd.C_below hr0 hb) hB) h0 hB (blk_below hx hB) A4 c4 y))
  have HB := Aside0.mk hb
  clear hr0 h hb hx
  go_enter Try.func55,Try.ntmps55
  go_wp2_with (first|(go_at_call 87;(with_reducible refine HH.out.mono ?_);rintro e w' ⟨rfl,hb'⟩;have HB2 := Aside0.mk (below_step HB.out hb');clear hb'))
  first|go_ret|((try simp only [Exit.inBlock,Exit.then]);refine bodyPost_ret (results_tmp rfl _ _ _) rfl ?_)
  exact ⟨rfl,HB2.out⟩
 ·rw [if_neg hl] at h;cases h
theorem own_form0 {w : World} {base : Nat} {e : TypeId} {size n : Nat} {v : Value} {xs : List Value} (h : w.ownsRow base e size v n xs) (hn : 0 < n) : ∃ g cap,v = .slice (some ⟨g,0,none⟩) n cap ∧ base ≤ g ∧ g < w.heap.size ∧ n ≤ cap := by
 rcases h.2 with ⟨_,h0⟩|⟨g,cap,cur,rfl,hb,hg,hc,_⟩
 ·omega
 ·exact ⟨g,cap,rfl,hb,blk_lt hg,hc⟩
theorem own_ne0 {w : World} {base : Nat} {e e' : TypeId} {size n : Nat} {v : Value} {xs : List Value} {g : Nat} {cs : Array Value} (h : w.ownsRow base e size v n xs) (hb : w.heap[g]? = some (.cells cs e' (0,0))) (he : e ≠ e') : ∀ k,v.ownBlock = some k → k ≠ g := by
 rintro k hk rfl
 obtain ⟨cs2,h2⟩ := own_typed h k hk
 rw [h2] at hb
 injection hb with hb
 injection hb with _ hb
 exact he hb
theorem own_far0 {w : World} {base : Nat} {e : TypeId} {size n : Nat} {v u : Value} {xs : List Value} {g j : Nat} (h : w.ownsRow base e size v n xs) (hne : ∀ k,v.ownBlock = some k → k ≠ g) : (w.setCell ⟨g,j,none⟩ u).ownsRow base e size v n xs :=
 own_move h fun k hk => Below.heap_setCell w ⟨g,j,none⟩ u k (hne k hk)
theorem own_below0 {w w1 : World} {base : Nat} {e : TypeId} {size n : Nat} {v : Value} {xs : List Value} (h : w.ownsRow base e size v n xs) (hb : Below w.heap.size w w1) : w1.ownsRow base e size v n xs :=
 own_move h fun k hk => hb.block k (own_lt h k hk)
theorem own_grown0 {w w1 : World} {base : Nat} {e : TypeId} {size n : Nat} {v : Value} {xs : List Value} {row : Option Nat} (h : w.ownsRow base e size v n xs) (hg : w.grownBy w1 row) (hne : ∀ k,v.ownBlock = some k → some k ≠ row) : w1.ownsRow base e size v n xs :=
 own_move h fun k hk => hg.block k (own_lt h k hk) (hne k hk)
theorem own_typed2 {w : World} {base : Nat} {e : TypeId} {size n : Nat} {v : Value} {xs : List Value} {g : Nat} (h : w.ownsRow base e size v n xs) (hv : v.ownBlock = some g) : ∃ cs,w.heap[g]? = some (.cells cs e (0,0)) := own_typed h g hv
theorem cell_other0 {w : World} {b i k : Nat} {v u : Value} (h : i ≠ k) (hc : w.cell? ⟨b,k,none⟩ = some u) : (w.setCell ⟨b,i,none⟩ v).cell? ⟨b,k,none⟩ = some u := by
 have hne : (⟨b,i,none⟩ : Addr) ≠ ⟨b,k,none⟩ := by
  intro e
  injection e with _ e2
  exact h e2
 rw [← hc]
 exact World.cell?_setCell_other w ⟨b,i,none⟩ ⟨b,k,none⟩ v hne
structure Wk (w : World) (base bw : Nat) (p : Int) (mv : Value) (vs : List Value) (rs : List (List Int)) (pv : Value) (ps : List Int) (det : Int) : Prop where
 hbw : base ≤ bw
 box : w.heap[bw]? = some (.cells #[.int .u64 p,mv,pv,.int .u64 det] 84 (0,0))
 arr : w.ownsRow base 40 1 mv vs.length vs
 len : rs.length = vs.length
 row : ∀ (j : Nat) v r,vs[j]? = some v → rs[j]? = some r → w.ownsRow base 22 1 v r.length (nums .u64 r)
 apart : ∀ (i j b : Nat) u v,vs[i]? = some u → vs[j]? = some v → u.ownBlock = some b → v.ownBlock = some b → i = j
 piv : w.ownsRow base 3 1 pv ps.length (nums .i64 ps)
section
variable {w w1 : World} {base bw : Nat} {p : Int} {mv : Value} {vs : List Value} {rs : List (List Int)} {pv : Value} {ps : List Int} {det : Int}
theorem Wk.below (h : Wk w base bw p mv vs rs pv ps det) (hb : Below w.heap.size w w1) : Wk w1 base bw p mv vs rs pv ps det :=
 ⟨h.hbw,blk_below h.box hb,own_below0 h.arr hb,h.len,fun j v r hv hr => own_below0 (h.row j v r hv hr) hb,h.apart,own_below0 h.piv hb⟩
theorem Wk.drew (h : Wk w base bw p mv vs rs pv ps det) : Wk w.drew base bw p mv vs rs pv ps det := h.below (below_drew (Below.refl _ _))
theorem Wk.c0 (h : Wk w base bw p mv vs rs pv ps det) : w.cell? ⟨bw,0,none⟩ = some (.int .u64 p) := (blk_cell h.box 0).trans rfl
theorem Wk.c1 (h : Wk w base bw p mv vs rs pv ps det) : w.cell? ⟨bw,1,none⟩ = some mv := (blk_cell h.box 1).trans rfl
theorem Wk.c2 (h : Wk w base bw p mv vs rs pv ps det) : w.cell? ⟨bw,2,none⟩ = some pv := (blk_cell h.box 2).trans rfl
theorem Wk.c3 (h : Wk w base bw p mv vs rs pv ps det) : w.cell? ⟨bw,3,none⟩ = some (.int .u64 det) := (blk_cell h.box 3).trans rfl
theorem Wk.fz (h : Wk w base bw p mv vs rs pv ps det) (i : Nat) : w.frozen? ⟨bw,i,none⟩ = false := blk_frozen h.box i
theorem Wk.mform (h : Wk w base bw p mv vs rs pv ps det) (hm : 0 < rs.length) : ∃ bo co,mv = .slice (some ⟨bo,0,none⟩) rs.length co ∧ rs.length ≤ co ∧ base ≤ bo := by
 obtain ⟨g,cap,e,hb,_,hc⟩ := own_form0 h.arr (by rw [← h.len];exact hm)
 rw [← h.len] at e hc
 exact ⟨g,cap,e,hc,hb⟩
theorem Wk.rform (h : Wk w base bw p mv vs rs pv ps det) (i : Nat) (hi : i < rs.length) (h0 : 0 < rs[i].length) : ∃ b c,vs[i]? = some (.slice (some ⟨b,0,none⟩) rs[i].length c) ∧ rs[i].length ≤ c ∧ base ≤ b := by
 have hv : vs[i]? = some (vs[i]'(by rw [← h.len];exact hi)) := List.getElem?_eq_getElem _
 obtain ⟨g,cap,e,hb,_,hc⟩ := own_form0 (h.row i _ _ hv (List.getElem?_eq_getElem hi)) h0
 rw [e] at hv
 exact ⟨g,cap,hv,hc,hb⟩
theorem Wk.ahead {bo m co : Nat} (h : Wk w base bw p (.slice (some ⟨bo,0,none⟩) m co) vs rs pv ps det) {i : Nat} {v : Value} (hv : vs[i]? = some v) : w.cell? ⟨bo,i,none⟩ = some v := by
 have hi := (List.getElem?_eq_some_iff.1 hv).1
 have := h.arr.cells (g := bo) rfl i v hv
 rwa [Addr.add_lit,Nat.zero_add] at this
theorem Wk.rcell {i b n c : Nat} (h : Wk w base bw p mv vs rs pv ps det) (hv : vs[i]? = some (.slice (some ⟨b,0,none⟩) n c)) {r : List Int} (hr : rs[i]? = some r) {j : Nat} (hj : j < r.length) : w.cell? ⟨b,j,none⟩ = some (.int .u64 r[j]) := by
 have := (h.row i _ r hv hr).cells (g := b) rfl j (.int .u64 r[j]) (by unfold nums;rw [List.getElem?_map,List.getElem?_eq_getElem hj];rfl)
 rwa [Addr.add_lit,Nat.zero_add] at this
theorem Wk.rfz {i b n c : Nat} (h : Wk w base bw p mv vs rs pv ps det) (hv : vs[i]? = some (.slice (some ⟨b,0,none⟩) n c)) {r : List Int} (hr : rs[i]? = some r) (j : Nat) : w.frozen? ⟨b,j,none⟩ = false := by
 obtain ⟨cs,hc⟩ := own_typed2 (g := b) (h.row i _ r hv hr) rfl
 exact blk_frozen hc j
theorem Wk.afz {bo m co : Nat} (h : Wk w base bw p (.slice (some ⟨bo,0,none⟩) m co) vs rs pv ps det) (j : Nat) : w.frozen? ⟨bo,j,none⟩ = false := by
 obtain ⟨cs,hc⟩ := own_typed2 (g := bo) h.arr rfl
 exact blk_frozen hc j
theorem Wk.setRow {i b n c : Nat} (h : Wk w base bw p mv vs rs pv ps det) (hv : vs[i]? = some (.slice (some ⟨b,0,none⟩) n c)) {r : List Int} (hr : rs[i]? = some r) (j : Nat) (x : Int) :
  Wk (w.setCell ⟨b,j,none⟩ (.int .u64 x)) base bw p mv vs (rs.set i (r.set j x)) pv ps det := by
 have hi := h.row i _ r hv hr
 obtain ⟨cs,hc⟩ := own_typed2 (g := b) hi rfl
 have hil := (List.getElem?_eq_some_iff.1 hr).1
 refine ⟨h.hbw,(Below.heap_setCell w ⟨b,j,none⟩ _ bw ?_).trans h.box,own_far0 h.arr (own_ne0 h.arr hc (by decide)),by rw [List.length_set];exact h.len,?_,h.apart,own_far0 h.piv (own_ne0 h.piv hc (by decide))⟩
 ·rintro e
  have e2 : bw = b := e
  subst e2
  have hb := h.box
  rw [hc] at hb
  injection hb with hb
  injection hb with _ hb
  exact absurd hb (by decide)
 ·intro k v r' hkv hkr
  by_cases e : i = k
  ·subst e
   rw [hv] at hkv
   obtain rfl := Option.some.inj hkv
   rw [List.getElem?_set_self hil] at hkr
   obtain rfl := Option.some.inj hkr
   have hn : n = r.length := by
    rcases hi.2 with ⟨h1,_⟩|⟨_,_,_,h1,_⟩
    ·simp at h1
    ·simp only [Value.slice.injEq] at h1;exact h1.2.1
   subst hn
   have := (hi.stored j (.int .u64 x)).1
   rw [List.length_set,show nums .u64 (r.set j x) = (nums .u64 r).set j (.int .u64 x) from by simp [nums,List.map_set]]
   exact this
  ·rw [List.getElem?_set_ne e] at hkr
   have hk := h.row k v r' hkv hkr
   refine own_far0 hk ?_
   rintro g hg rfl
   exact e (h.apart i k g _ v hv hkv rfl hg)
theorem Wk.setDet (h : Wk w base bw p mv vs rs pv ps det) (x : Int) : Wk (w.setCell ⟨bw,3,none⟩ (.int .u64 x)) base bw p mv vs rs pv ps x :=
 ⟨h.hbw,blk_put h.box 3 _ rfl,own_far0 h.arr (own_ne0 h.arr h.box (by decide)),h.len,fun k v r hv hr => own_far0 (h.row k v r hv hr) (own_ne0 (h.row k v r hv hr) h.box (by decide)),h.apart,own_far0 h.piv (own_ne0 h.piv h.box (by decide))⟩
theorem Wk.swap {bo m co : Nat} (h : Wk w base bw p (.slice (some ⟨bo,0,none⟩) m co) vs rs pv ps det) (i k : Nat) {u v : Value} (hi : vs[i]? = some u) (hk : vs[k]? = some v) {r s : List Int} (hr : rs[i]? = some r) (hs : rs[k]? = some s) :
  Wk ((w.setCell ⟨bo,i,none⟩ v).setCell ⟨bo,k,none⟩ u) base bw p (.slice (some ⟨bo,0,none⟩) m co) ((vs.set i v).set k u) ((rs.set i s).set k r) pv ps det := by
 obtain ⟨cs,hc⟩ := own_typed2 (g := bo) h.arr rfl
 have hm : m = vs.length := by
  rcases h.arr.2 with ⟨h1,_⟩|⟨_,_,_,h1,_⟩
  ·simp at h1
  ·simp only [Value.slice.injEq] at h1;exact h1.2.1
 subst hm
 have hil := (List.getElem?_eq_some_iff.1 hi).1
 have hkl := (List.getElem?_eq_some_iff.1 hk).1
 have hil2 : i < rs.length := by rw [h.len];exact hil
 have hkl2 : k < rs.length := by rw [h.len];exact hkl
 have a1 := (h.arr.stored i v).1
 have a2 := (a1.stored k u).1
 have hc1 : ∃ cs1,(w.setCell ⟨bo,i,none⟩ v).heap[bo]? = some (.cells cs1 40 (0,0)) := own_typed2 (g := bo) a1 rfl
 obtain ⟨cs1,hc1⟩ := hc1
 have hbb : bw ≠ bo := by
  rintro rfl
  have hb := h.box
  rw [hc] at hb
  injection hb with hb
  injection hb with _ hb
  exact absurd hb (by decide)
 have two : ∀ {e : TypeId} {n : Nat} {v' : Value} {xs : List Value},e ≠ 40 → w.ownsRow base e 1 v' n xs → ((w.setCell ⟨bo,i,none⟩ v).setCell ⟨bo,k,none⟩ u).ownsRow base e 1 v' n xs := by
  intro e n v' xs he ho
  have o1 := own_far0 (g := bo) (j := i) (u := v) ho (own_ne0 ho hc he)
  exact own_far0 (g := bo) (j := k) (u := u) o1 (own_ne0 o1 hc1 he)
 have look : ∀ {α : Type} (l : List α) (a b : α),i < l.length → k < l.length → l[i]? = some b → l[k]? = some a → ∀ q x,((l.set i a).set k b)[q]? = some x → ∃ q',l[q']? = some x ∧ (q' = if q = k then i else if q = i then k else q) := by
  intro α l a b h1 h2 hb ha q x hq
  by_cases e1 : q = k
  ·subst e1
   rw [List.getElem?_set_self (by rw [List.length_set];exact h2)] at hq
   exact ⟨i,by rw [hb,hq],by rw [if_pos rfl]⟩
  ·rw [List.getElem?_set_ne (Ne.symm e1)] at hq
   by_cases e2 : q = i
   ·subst e2
    rw [List.getElem?_set_self h1] at hq
    exact ⟨k,by rw [ha,hq],by rw [if_neg e1,if_pos rfl]⟩
   ·rw [List.getElem?_set_ne (Ne.symm e2)] at hq
    exact ⟨q,hq,by rw [if_neg e1,if_neg e2]⟩
 refine ⟨h.hbw,(Below.heap_setCell _ ⟨bo,k,none⟩ u bw hbb).trans ((Below.heap_setCell w ⟨bo,i,none⟩ v bw hbb).trans h.box),?_,by simp only [List.length_set];exact h.len,?_,?_,two (by decide) h.piv⟩
 ·simp only [List.length_set];exact a2
 ·intro q v' r' hv' hr'
  obtain ⟨q1,h1,e1⟩ := look vs v u hil hkl hi hk q v' hv'
  obtain ⟨q2,h2,e2⟩ := look rs s r hil2 hkl2 hr hs q r' hr'
  rw [← e1] at e2
  subst e2
  exact two (by decide) (h.row q2 v' r' h1 h2)
 ·intro a b g x y hx hy hgx hgy
  obtain ⟨q1,h1,e1⟩ := look vs v u hil hkl hi hk a x hx
  obtain ⟨q2,h2,e2⟩ := look vs v u hil hkl hi hk b y hy
  have := h.apart q1 q2 g x y h1 h2 hgx hgy
  subst this
  rw [e1] at e2
  (repeat' split at e2) <;> omega
theorem Wk.push {pv1 : Value} {c : Int} (h : Wk w base bw p mv vs rs pv ps det) (hg : w.grownBy w1 pv.ownBlock) (hp : w1.ownsRow base 3 1 pv1 (ps ++ [c]).length (nums .i64 (ps ++ [c]))) :
  Wk (w1.setCell ⟨bw,2,none⟩ pv1) base bw p mv vs rs pv1 (ps ++ [c]) det := by
 have hty : ∀ k,pv.ownBlock = some k → ∃ cs,w.heap[k]? = some (.cells cs 3 (0,0)) := fun k hk => own_typed h.piv k hk
 have oth : ∀ {e : TypeId} {n : Nat} {v' : Value} {xs : List Value},e ≠ 3 → w.ownsRow base e 1 v' n xs → w1.ownsRow base e 1 v' n xs := by
  intro e n v' xs he ho
  refine own_grown0 ho hg ?_
  intro k hk e2
  obtain ⟨cs,hc⟩ := hty k e2.symm
  exact own_ne0 ho hc he k hk rfl
 have hb1 : w1.heap[bw]? = some (.cells #[.int .u64 p,mv,pv,.int .u64 det] 84 (0,0)) := by
  refine (hg.block bw (blk_lt h.box) ?_).trans h.box
  intro e2
  obtain ⟨cs,hc⟩ := hty bw e2.symm
  have hb := h.box
  rw [hc] at hb
  injection hb with hb
  injection hb with _ hb
  exact absurd hb (by decide)
 have fin : ∀ {e : TypeId} {n : Nat} {v' : Value} {xs : List Value},e ≠ 84 → w1.ownsRow base e 1 v' n xs → (w1.setCell ⟨bw,2,none⟩ pv1).ownsRow base e 1 v' n xs := fun he ho => own_far0 ho (own_ne0 ho hb1 he)
 exact ⟨h.hbw,blk_put hb1 2 _ rfl,fin (by decide) (oth (by decide) h.arr),h.len,fun k v r hv hr => fin (by decide) (oth (by decide) (h.row k v r hv hr)),h.apart,fin (by decide) hp⟩
end
def HdrAt (w : World) (vs : List Value) (l : List (List Int)) : Prop := vs.length = l.length ∧ ∀ (j : Nat) r,l[j]? = some r → ∃ A c,vs[j]? = some (.slice A r.length c) ∧ r.length ≤ c ∧ Kd.C (Kd.int .u64) w A r.length r
theorem HdrAt.below {w w1 : World} {vs : List Value} {l : List (List Int)} (h : HdrAt w vs l) (hb : Below w.heap.size w w1) : HdrAt w1 vs l :=
 ⟨h.1,fun j r hr => by obtain ⟨A,c,h1,h2,h3⟩ := h.2 j r hr;exact ⟨A,c,h1,h2,Kd.C_below h3 hb⟩⟩
theorem hdrs_of {w : World} {ad : Addr} {l : List (List Int)} (hr : Kd.C (Kd.slice 22 (Kd.int .u64)) w (some ad) l.length l) : ∃ vs,HdrAt w vs l ∧ Kd.C (Kd.raw 1) w (some ad) l.length (vs.map fun v => [v]) := by
 have hg : ∀ (j : Nat) r,l[j]? = some r → ∃ A c,w.cell? (ad.add j) = some (.slice A r.length c) ∧ r.length ≤ c ∧ Kd.C (Kd.int .u64) w A r.length r := by
  intro j r hj
  have hjl := (List.getElem?_eq_some_iff.1 hj).1
  obtain ⟨a2,e,hc⟩ := hr.2.2 (by omega)
  cases e
  obtain ⟨cs,hl,⟨A,c,rfl,h1,h2⟩,hcell⟩ := hc j r hj
  exact ⟨A,c,by have := hcell 0 _ rfl;rwa [show (Kd.slice 22 (Kd.int .u64)).sz = 1 from rfl,Nat.mul_one,Nat.add_zero] at this,h1,h2⟩
 refine ⟨l.mapIdx fun j _ => (w.cell? (ad.add j)).getD (.slice none 0 0),⟨by simp,?_⟩,?_⟩
 ·intro j r hj
  obtain ⟨A,c,h1,h2,h3⟩ := hg j r hj
  refine ⟨A,c,?_,h2,h3⟩
  rw [List.getElem?_mapIdx,hj]
  simp [h1]
 ·refine ⟨by simp,hr.2.1,fun _ => ⟨ad,rfl,fun j p hp => ?_⟩⟩
  rw [List.getElem?_map,List.getElem?_mapIdx] at hp
  obtain ⟨v,hv,rfl⟩ := Option.map_eq_some_iff.1 hp
  obtain ⟨r,hrj,rfl⟩ := Option.map_eq_some_iff.1 hv
  obtain ⟨A,c,h1,h2,h3⟩ := hg j r hrj
  refine ⟨_,rfl,⟨rfl,rfl,?_⟩,?_⟩
  ·intro u hu
   rw [List.mem_singleton.1 hu,h1];rfl
  ·intro i u hu
   rcases i with _|i
   ·simp only [List.getElem?_cons_zero,Option.some.injEq] at hu
    rw [← hu,h1,show (Kd.raw 1).sz = 1 from rfl,Nat.mul_one,Nat.add_zero,h1];rfl
   ·simp at hu
theorem raw_own {e : Nat} {w : World} {base : Nat} {ok : Nat → Prop} {v : Value} {vs : List Value} (h : (Kd.raw 1).R e w base ok v (vs.map fun v => [v])) : w.ownsRow base e 1 v vs.length vs := by
 obtain ⟨_,inner,ho,hr⟩ := h
 have hl : inner.length = vs.length := by have := hr.1;rw [List.length_map,show (Kd.raw 1).sz = 1 from rfl,Nat.mul_one] at this;exact this
 have : inner = vs := by
  apply List.ext_getElem hl
  intro j h1 h2
  have hj : (inner.drop (j * 1)).take 1 = [vs[j]] := (hr.2 j [vs[j]] (by rw [List.getElem?_map,List.getElem?_eq_getElem h2];rfl)).1
  rw [Nat.mul_one,List.drop_eq_getElem_cons h1] at hj
  have hj2 : inner[j] :: (inner.drop (j + 1)).take 0 = [vs[j]] := hj
  exact (List.cons.inj hj2).1
 subst this
 rw [List.length_map] at ho
 exact ho
set_option maxHeartbeats 1000000 in
set_option maxRecDepth 100000 in
theorem clone_rows (A : Option Addr) (c : Nat) (l : List (List Int)) (w : World) (hr : Kd.C (Kd.slice 22 (Kd.int .u64)) w A l.length l) (hc : l.length ≤ c) (h0 : 0 < l.length) (hl : l.length ≤ 1000000) :
  Calls Try.prog 85 #[.slice A l.length c] w fun e w' => ∃ (v0_ : Value) (vs : List Value),e = .returned (v0_) ∧ Aside0 (HdrAt w vs l ∧ w'.ownsRow w.heap.size 40 1 v0_ vs.length vs) ∧ Below w.heap.size w w' := by
 obtain ⟨a,rfl⟩ : ∃ a,A = some a := by
  obtain ⟨a,e,_⟩ := hr.2.2 h0
  exact ⟨a,e⟩
 obtain ⟨vs,hvs,hraw⟩ := hdrs_of hr
 have HV := Aside0.mk hvs
 have HR := Aside0.mk hraw
 clear hr hvs hraw
 have heq : ∀ W : World,(binOp .eql 25 (.slice (some a) l.length c) (.slice none 0 0)).run Try.prog W = .ok (.bool false) W := fun W => Lib.run_eql_slice_nil W 25 40 (some a) l.length c 0 0 Try.underlying25
 go_enter Try.func85,Try.ntmps85
 go_wp2_with (first
  | ((with_reducible refine gate_dst (N := 5) rfl ?_);refine Kd.R_lit (Kd.raw 1) _ 40 ?hg (N := 5) ?hd (xs := ([] : List (List Value))) (inner := []) (ok := fun _ => True) (okp := fun _ => True) ?hr ?hp (fun _ hk => hk) trivial (Below.refl _ _) (Nat.le_refl _) (by simp) ?_;(case hd => rfl);(case hg => rfl);(case hr => first|(go_simp;done)|(go_simp;rfl));(case hp => exact (Reps.none _ _));intro v1 w1 ho1 hb1 hg1 hn1;clear hg1 hn1;have HO1 := Aside0.mk ho1;have HB1 := Aside0.mk hb1;clear ho1 hb1)
  | ((with_reducible refine gate_builtin (b := .append) (xs := #[.tmp 5,.tmp 6]) rfl ?_);at_builtin;refine Kd.R_append_rows (Kd.raw 1) (w0 := w) w.heap.size rfl (.tmp 5) (.tmp 6) 25 40 (.slice none 0 0) 24 rfl Try.underlying25 info40 rfl (by decide) (by omega) v1 [] (vs.map fun v => [v]) _ _ _ (fun _ => True) (fun _ => False) rfl rfl HO1.out (Kd.C_below HR.out HB1.out) (fun _ _ h => h) (fun _ h => h.elim) (fun _ _ => trivial) HB1.out (below_size HB1.out) (by simp;omega) ?_;intro v2 w2 ho2 hb2 hg2 ha2;clear hg2 ha2;have HO2 := Aside0.mk ho2;have HB2 := Aside0.mk hb2;clear ho2 hb2))
 go_ret
 exact ⟨_,vs,rfl,⟨HV.out,raw_own (by simpa using HO2.out)⟩,HB2.out⟩
end Go.Proofs.Ytmdoaijkaaaglaa.Hw
end
section
namespace Go.Proofs.Ytmdoaijkaaaglaa.Hw
open Go.Proofs.Ytmdoaijkaaaglaa.E
def part {α : Type} (new old : List α) (j : Nat) : List α := new.take j ++ old.drop j
section
variable {α : Type} {new old : List α} {j : Nat}
theorem part_len (h : new.length = old.length) (hj : j ≤ old.length) : (part new old j).length = old.length := by
 unfold part;rw [List.length_append,List.length_take,List.length_drop];omega
theorem part_zero : part new old 0 = old := by simp [part]
theorem part_all (h : new.length = old.length) : part new old old.length = new := by unfold part;rw [List.drop_length,List.append_nil,List.take_of_length_le (by omega)]
theorem part_at (h : new.length = old.length) (hj : j < old.length) : (part new old j)[j]? = some old[j] := by
 unfold part
 rw [List.getElem?_append_right (by rw [List.length_take];omega),List.length_take,Nat.min_eq_left (by omega),Nat.sub_self,List.getElem?_drop,Nat.add_zero,List.getElem?_eq_getElem hj]
theorem part_set (h : new.length = old.length) (hj : j < old.length) : (part new old j).set j (new[j]'(by omega)) = part new old (j + 1) := by
 unfold part
 have hjn : j < new.length := by omega
 have hlt : (new.take j).length = j := by rw [List.length_take];omega
 rw [List.set_append_right _ _ (by omega),hlt,Nat.sub_self,List.drop_eq_getElem_cons hj,List.set_cons_zero,List.take_succ_eq_append_getElem hjn,List.append_assoc]
 rfl
theorem part_get (h : new.length = old.length) (hj : j ≤ old.length) (q : Nat) : (part new old j)[q]? = if q < j then new[q]? else old[q]? := by
 unfold part
 have hlt : (new.take j).length = j := by rw [List.length_take];omega
 by_cases e : q < j
 ·rw [if_pos e,List.getElem?_append_left (by omega),List.getElem?_take_of_lt e]
 ·rw [if_neg e,List.getElem?_append_right (by omega),hlt,List.getElem?_drop,show j + (q - j) = q from by omega]
theorem part_same (h : new.length = old.length) (hj : j < old.length) (he : new[j]? = old[j]?) : part new old (j + 1) = part new old j := by
 apply List.ext_getElem?
 intro q
 rw [part_get h (by omega),part_get h (by omega)]
 by_cases e : q = j
 ·subst e
  rw [if_pos (by omega),if_neg (by omega),he]
 ·by_cases e2 : q < j
  ·rw [if_pos (by omega),if_pos e2]
  ·rw [if_neg (by omega),if_neg e2]
theorem set_at {l : List α} {i : Nat} {x : α} (h : l[i]? = some x) : l.set i x = l := by
 apply List.ext_getElem?
 intro q
 by_cases e : i = q
 ·subst e
  rw [List.getElem?_set_self (List.getElem?_eq_some_iff.1 h).1,h]
 ·rw [List.getElem?_set_ne e]
end
def fndP (rs : List (List Int)) (c r : Nat) : Nat := r + (rs.drop r).findIdx (fun row => row.getD c 0 != 0)
theorem fndP_ge (rs : List (List Int)) (c r : Nat) : r ≤ fndP rs c r := Nat.le_add_right _ _
theorem fndP_le (rs : List (List Int)) (c r : Nat) (h : r ≤ rs.length) : fndP rs c r ≤ rs.length := by
 unfold fndP
 have := List.findIdx_le_length (xs := rs.drop r) (p := fun row => row.getD c 0 != 0)
 rw [List.length_drop] at this
 omega
theorem fndP_nz {rs : List (List Int)} {c r : Nat} (h : fndP rs c r < rs.length) : (rs[fndP rs c r]).getD c 0 ≠ 0 := by
 have h1 : (rs.drop r).findIdx (fun row => row.getD c 0 != 0) < (rs.drop r).length := by
  rw [List.length_drop];unfold fndP at h;omega
 have := List.findIdx_getElem (w := h1)
 rw [List.getElem_drop] at this
 simpa [fndP] using this
theorem fndP_zero {rs : List (List Int)} {c r i : Nat} (h0 : r ≤ i) (h1 : i < fndP rs c r) (hi : i < rs.length) : (rs[i]).getD c 0 = 0 := by
 have h2 : i - r < (rs.drop r).findIdx (fun row => row.getD c 0 != 0) := by unfold fndP at h1;omega
 have := List.not_of_lt_findIdx h2
 rw [List.getElem_drop] at this
 simpa [show r + (i - r) = i from by omega] using this
def scaleR (p k : Int) (row : List Int) : List Int := row.map fun v => k * v % p
def elimR (p k : Int) (prow row : List Int) : List Int := List.zipWith (fun a v => (a - k * v % p) % p) row prow
def swapR (rs : List (List Int)) (i k : Nat) : List (List Int) := (rs.set i (rs.getD k [])).set k (rs.getD i [])
def elimRow (p : Int) (c r : Nat) (prow : List Int) (i : Nat) (row : List Int) : List Int := if i = r ∨ row.getD c 0 = 0 then row else elimR p (row.getD c 0) prow row
def elimAll (p : Int) (c r : Nat) (prow : List Int) (rs : List (List Int)) : List (List Int) := rs.mapIdx (elimRow p c r prow)
def redStep (p : Int) (s : List (List Int) × List Int × Int) (c : Nat) : List (List Int) × List Int × Int :=
 if fndP s.1 c s.2.1.length < s.1.length then
  let r := s.2.1.length
  let rs1 := if fndP s.1 c r = r then s.1 else swapR s.1 (fndP s.1 c r) r
  let d1 := if fndP s.1 c r = r then s.2.2 else -s.2.2 % p
  let x := (rs1.getD r []).getD c 0
  let prow := scaleR p (invp p x) (rs1.getD r [])
  (elimAll p c r prow (rs1.set r prow),s.2.1 ++ [(c : Int)],d1 * x % p)
 else s
def red (p : Int) (rs : List (List Int)) (n : Nat) : List (List Int) × List Int × Int := (List.range n).foldl (redStep p) (rs,[],1)
theorem red_succ (p : Int) (rs : List (List Int)) (n : Nat) : red p rs (n + 1) = redStep p (red p rs n) n := by
 unfold red;rw [List.range_succ,List.foldl_append];rfl
def RowsOk (p : Int) (n : Nat) (rs : List (List Int)) : Prop := ∀ r ∈ rs,r.length = n ∧ ∀ x ∈ r,Res p x
theorem RowsOk.at {p : Int} {n : Nat} {rs : List (List Int)} (h : RowsOk p n rs) {i : Nat} (hi : i < rs.length) : rs[i].length = n ∧ ∀ x ∈ rs[i],Res p x := h _ (List.getElem_mem hi)
theorem RowsOk.word {p : Int} {n : Nat} {rs : List (List Int)} (h : RowsOk p n rs) {i c : Nat} (hi : i < rs.length) (hc : c < rs[i].length) : Res p (rs[i][c]) := (h.at hi).2 _ (List.getElem_mem hc)
theorem RowsOk.set {p : Int} {n : Nat} {rs : List (List Int)} (h : RowsOk p n rs) {i : Nat} {r : List Int} (hr : r.length = n ∧ ∀ x ∈ r,Res p x) : RowsOk p n (rs.set i r) := by
 intro y hy
 rcases List.mem_or_eq_of_mem_set hy with h1|rfl
 ·exact h y h1
 ·exact hr
theorem scaleR_len (p k : Int) (row : List Int) : (scaleR p k row).length = row.length := by simp [scaleR]
theorem scaleR_ok {p k : Int} (hp : Supp p) {row : List Int} {n : Nat} (h : row.length = n) : (scaleR p k row).length = n ∧ ∀ x ∈ scaleR p k row,Res p x := by
 refine ⟨by rw [scaleR_len,h],fun x hx => ?_⟩
 obtain ⟨y,_,rfl⟩ := List.mem_map.1 hx
 exact Res.mod hp _
theorem elimR_len {p k : Int} {prow row : List Int} (h : prow.length = row.length) : (elimR p k prow row).length = row.length := by simp [elimR];omega
theorem elimR_ok {p k : Int} (hp : Supp p) {prow row : List Int} {n : Nat} (h1 : prow.length = n) (h2 : row.length = n) : (elimR p k prow row).length = n ∧ ∀ x ∈ elimR p k prow row,Res p x := by
 refine ⟨by rw [elimR_len (by omega),h2],?_⟩
 unfold elimR
 intro x hx
 obtain ⟨i,hi,rfl⟩ := List.getElem_of_mem hx
 rw [List.getElem_zipWith]
 exact Res.mod hp _
theorem elimR_at {p k : Int} {prow row : List Int} {j : Nat} (h1 : j < row.length) (h2 : j < prow.length) : (elimR p k prow row)[j]? = some ((row[j] - k * prow[j] % p) % p) := by
 unfold elimR
 rw [List.getElem?_zipWith,List.getElem?_eq_getElem h1,List.getElem?_eq_getElem h2]
theorem elimAll_len (p : Int) (c r : Nat) (prow : List Int) (rs : List (List Int)) : (elimAll p c r prow rs).length = rs.length := by simp [elimAll]
theorem elimAll_at (p : Int) (c r : Nat) (prow : List Int) (rs : List (List Int)) {i : Nat} (hi : i < rs.length) : (elimAll p c r prow rs)[i]'(by rw [elimAll_len];exact hi) = elimRow p c r prow i rs[i] := by simp [elimAll]
theorem elimRow_ok {p : Int} (hp : Supp p) {c r n i : Nat} {prow row : List Int} (h1 : prow.length = n) (h2 : row.length = n ∧ ∀ x ∈ row,Res p x) : (elimRow p c r prow i row).length = n ∧ ∀ x ∈ elimRow p c r prow i row,Res p x := by
 unfold elimRow
 split
 ·exact h2
 ·exact elimR_ok hp h1 h2.1
theorem elimAll_ok {p : Int} (hp : Supp p) {c r n : Nat} {prow : List Int} {rs : List (List Int)} (h1 : prow.length = n) (h : RowsOk p n rs) : RowsOk p n (elimAll p c r prow rs) := by
 intro x hx
 obtain ⟨i,hi,rfl⟩ := List.getElem_of_mem hx
 have hi2 : i < rs.length := by rw [elimAll_len] at hi;exact hi
 rw [elimAll_at p c r prow rs hi2]
 exact elimRow_ok hp h1 (h.at hi2)
theorem swapR_len (rs : List (List Int)) (i k : Nat) : (swapR rs i k).length = rs.length := by simp [swapR]
theorem getD_row {rs : List (List Int)} {i : Nat} (h : i < rs.length) : rs.getD i [] = rs[i] := by rw [List.getD_eq_getElem?_getD,List.getElem?_eq_getElem h];rfl
theorem swapR_ok {p : Int} {n : Nat} {rs : List (List Int)} {i k : Nat} (h : RowsOk p n rs) (hi : i < rs.length) (hk : k < rs.length) : RowsOk p n (swapR rs i k) := by
 unfold swapR
 rw [getD_row hi,getD_row hk]
 exact (h.set (h.at hk)).set (h.at hi)
theorem swapR_at {rs : List (List Int)} {i k : Nat} (hi : i < rs.length) (hk : k < rs.length) : (swapR rs i k)[k]? = some rs[i] := by
 unfold swapR
 rw [List.getElem?_set_self (by rw [List.length_set];exact hk),getD_row hi]
theorem elimAll_get (p : Int) (c r : Nat) (prow : List Int) (rs : List (List Int)) {i : Nat} (hi : i < rs.length) : (elimAll p c r prow rs)[i]? = some (elimRow p c r prow i rs[i]) := by
 rw [List.getElem?_eq_getElem (by rw [elimAll_len];exact hi),elimAll_at p c r prow rs hi]
structure RedOk (p : Int) (m n : Nat) (s : List (List Int) × List Int × Int) : Prop where
 len : s.1.length = m
 rows : RowsOk p n s.1
 piv : s.2.1.length ≤ m
 det : Res p s.2.2
theorem redStep_ok {p : Int} (hp : Supp p) {m n : Nat} {s : List (List Int) × List Int × Int} (h : RedOk p m n s) (c : Nat) : RedOk p m n (redStep p s c) := by
 unfold redStep
 split
 next hq =>
  have hge := fndP_ge s.1 c s.2.1.length
  have hr : s.2.1.length < s.1.length := by omega
  have hm := h.len
  have ok1 : RowsOk p n (if fndP s.1 c s.2.1.length = s.2.1.length then s.1 else swapR s.1 (fndP s.1 c s.2.1.length) s.2.1.length) ∧ (if fndP s.1 c s.2.1.length = s.2.1.length then s.1 else swapR s.1 (fndP s.1 c s.2.1.length) s.2.1.length).length = m := by
   split
   ·exact ⟨h.rows,h.len⟩
   ·exact ⟨swapR_ok h.rows hq hr,by rw [swapR_len];exact h.len⟩
  obtain ⟨rs1,hrs1⟩ : ∃ x,x = (if fndP s.1 c s.2.1.length = s.2.1.length then s.1 else swapR s.1 (fndP s.1 c s.2.1.length) s.2.1.length) := ⟨_,rfl⟩
  rw [← hrs1] at ok1
  simp only [← hrs1]
  have hr1 : s.2.1.length < rs1.length := by omega
  have hs := scaleR_ok (k := invp p ((rs1.getD s.2.1.length []).getD c 0)) hp (show (rs1.getD s.2.1.length []).length = n from by rw [getD_row hr1];exact (ok1.1.at hr1).1)
  refine ⟨?_,?_,?_,?_⟩
  ·show (elimAll _ _ _ _ _).length = m
   rw [elimAll_len,List.length_set];exact ok1.2
  ·exact elimAll_ok hp hs.1 (ok1.1.set hs)
  ·show (s.2.1 ++ [(c : Int)]).length ≤ m
   rw [List.length_append];simp;omega
  ·exact Res.mod hp _
 next => exact h
theorem red_ok {p : Int} (hp : Supp p) {n : Nat} {rs : List (List Int)} (h : RowsOk p n rs) : ∀ k,RedOk p rs.length n (red p rs k)
 | 0 => ⟨rfl,h,Nat.zero_le _,by have := hp.bd;exact ⟨by show (0 : Int) ≤ 1;decide,by show (1 : Int) < p;omega⟩⟩
 | k + 1 => by rw [red_succ];exact redStep_ok hp (red_ok hp h k) k
end Go.Proofs.Ytmdoaijkaaaglaa.Hw
end
section
namespace Go.Proofs.Ytmdoaijkaaaglaa.Hw
open Go.RowKit Go.Proofs.Ytmdoaijkaaaglaa.Pr Go.Proofs.YtmdoaijkaaaglaaW.PrintWords Go.Proofs.YtmdoaijkaaaglaaW.PrintLast Go.Proofs.YtmdoaijkaaaglaaW.PrintMore Go.Proofs.Ytmdoaijkaaaglaa.E
structure Wk1 (w : World) (base bw : Nat) (p : Int) (mv : Value) (vs0 vs : List Value) (l : List (List Int)) (i : Nat) : Prop where
 hbw : base ≤ bw
 box : w.heap[bw]? = some (.cells #[.int .u64 p,mv,.slice none 0 0,.int .u64 1] 84 (0,0))
 arr : w.ownsRow base 40 1 mv vs.length vs
 len : vs.length = l.length
 old : ∀ j,i ≤ j → vs[j]? = vs0[j]?
 row : ∀ (j : Nat) v r,j < i → vs[j]? = some v → l[j]? = some r → w.ownsRow base 22 1 v r.length (nums .u64 r)
 apart : ∀ (a b g : Nat) u v,a < i → b < i → vs[a]? = some u → vs[b]? = some v → u.ownBlock = some g → v.ownBlock = some g → a = b
section
variable {w w1 : World} {base bw : Nat} {p : Int} {vs0 vs : List Value} {l : List (List Int)} {i : Nat}
theorem Wk1.below {mv : Value} (h : Wk1 w base bw p mv vs0 vs l i) (hb : Below w.heap.size w w1) : Wk1 w1 base bw p mv vs0 vs l i :=
 ⟨h.hbw,blk_below h.box hb,own_below0 h.arr hb,h.len,h.old,fun j v r hj hv hr => own_below0 (h.row j v r hj hv hr) hb,h.apart⟩
theorem Wk1.ahead {bo m co j : Nat} (h : Wk1 w base bw p (.slice (some ⟨bo,0,none⟩) m co) vs0 vs l i) {v : Value} (hv : vs[j]? = some v) : w.cell? ⟨bo,j,none⟩ = some v := by
 have := h.arr.cells (g := bo) rfl j v hv
 rwa [Addr.add_lit,Nat.zero_add] at this
theorem Wk1.afz {bo m co : Nat} (h : Wk1 w base bw p (.slice (some ⟨bo,0,none⟩) m co) vs0 vs l i) (j : Nat) : w.frozen? ⟨bo,j,none⟩ = false := by
 obtain ⟨cs,hc⟩ := own_typed2 (g := bo) h.arr rfl
 exact blk_frozen hc j
theorem Wk1.step {bo m co : Nat} (h : Wk1 w base bw p (.slice (some ⟨bo,0,none⟩) m co) vs0 vs l i) (hb : Below w.heap.size w w1) {v : Value} {r : List Int} (hr : l[i]? = some r) (hv : Kd.R (Kd.int .u64) 22 w1 w.heap.size (fun _ => True) v r) (hbase : base ≤ w.heap.size) :
  Wk1 (w1.setCell ⟨bo,i,none⟩ v) base bw p (.slice (some ⟨bo,0,none⟩) m co) vs0 (vs.set i v) l (i + 1) := by
 have h1 := h.below hb
 have hvo : w1.ownsRow w.heap.size 22 1 v r.length (nums .u64 r) := Kd.own_of_R hv
 have hil : i < vs.length := by rw [h.len];exact (List.getElem?_eq_some_iff.1 hr).1
 have hm : m = vs.length := by
  rcases h.arr.2 with ⟨h1,_⟩|⟨_,_,_,h1,_⟩
  ·simp at h1
  ·simp only [Value.slice.injEq] at h1;exact h1.2.1
 subst hm
 obtain ⟨cs,hc⟩ := own_typed2 (g := bo) h1.arr rfl
 have hbb : bw ≠ bo := by
  rintro rfl
  have hb := h1.box
  rw [hc] at hb
  injection hb with hb
  injection hb with _ hb
  exact absurd hb (by decide)
 have far : ∀ {e : TypeId} {n : Nat} {v' : Value} {xs : List Value},e ≠ 40 → w1.ownsRow base e 1 v' n xs → (w1.setCell ⟨bo,i,none⟩ v).ownsRow base e 1 v' n xs := fun he ho => own_far0 ho (own_ne0 ho hc he)
 have hnew : ∀ g,v.ownBlock = some g → w.heap.size ≤ g := fun g hg => own_base hvo g hg
 have hold : ∀ (j : Nat) u g,j < i → vs[j]? = some u → u.ownBlock = some g → g < w.heap.size := by
  intro j u g hj hu hg
  have hjl : j < l.length := by rw [← h.len];exact (List.getElem?_eq_some_iff.1 hu).1
  exact own_lt (h.row j u _ hj hu (List.getElem?_eq_getElem hjl)) g hg
 refine ⟨h.hbw,(Below.heap_setCell _ ⟨bo,i,none⟩ v bw hbb).trans h1.box,by rw [List.length_set];exact (h1.arr.stored i v).1,by rw [List.length_set];exact h.len,?_,?_,?_⟩
 ·intro j hj
  rw [List.getElem?_set_ne (by omega)]
  exact h.old j (by omega)
 ·intro j u r' hj hu hr'
  by_cases e : i = j
  ·subst e
   rw [List.getElem?_set_self hil] at hu
   rw [hr] at hr'
   obtain rfl := Option.some.inj hu
   obtain rfl := Option.some.inj hr'
   exact far (by decide) (own_weaken hvo hbase)
  ·rw [List.getElem?_set_ne e] at hu
   exact far (by decide) (h1.row j u r' (by omega) hu hr')
 ·intro a b g x y ha hb hx hy hgx hgy
  by_cases e1 : i = a
  ·by_cases e2 : i = b
   ·omega
   ·subst e1
    rw [List.getElem?_set_self hil] at hx
    rw [List.getElem?_set_ne e2] at hy
    obtain rfl := Option.some.inj hx
    have := hnew g hgx
    have := hold b y g (by omega) hy hgy
    omega
  ·by_cases e2 : i = b
   ·subst e2
    rw [List.getElem?_set_self hil] at hy
    rw [List.getElem?_set_ne e1] at hx
    obtain rfl := Option.some.inj hy
    have := hnew g hgy
    have := hold a x g (by omega) hx hgx
    omega
   ·rw [List.getElem?_set_ne e1] at hx
    rw [List.getElem?_set_ne e2] at hy
    exact h.apart a b g x y (by omega) (by omega) hx hy hgx hgy
theorem Wk1.wk {mv : Value} (h : Wk1 w base bw p mv vs0 vs l i) (hi : l.length ≤ i) : Wk w base bw p mv vs l (.slice none 0 0) [] 1 :=
 ⟨h.hbw,h.box,h.arr,h.len.symm,fun j v r hv hr => h.row j v r (by have := (List.getElem?_eq_some_iff.1 hr).1;omega) hv hr,fun a b g x y hx hy hgx hgy => h.apart a b g x y (by have := (List.getElem?_eq_some_iff.1 hx).1;have := h.len;omega) (by have := (List.getElem?_eq_some_iff.1 hy).1;have := h.len;omega) hx hy hgx hgy,World.ownsRow_nil _ _ _ _⟩
end
def FndR (m q : Nat) (v : Value) : Prop := (v = .int .i64 (-1) ∧ q = m) ∨ (v = .int .i64 (q : Int) ∧ q < m)
def FndA (q a : Nat) (v : Value) : Prop := (v = .int .i64 (-1) ∧ a ≤ q) ∨ (v = .int .i64 (q : Int) ∧ q < a)
set_option maxHeartbeats 8000000 in
set_option maxRecDepth 100000 in
theorem reduce_walk (p : Int) (hp : Supp p) (A : Option Addr) (c : Nat) (l : List (List Int)) (n k : Nat) (w : World) (hr : Kd.C (Kd.slice 22 (Kd.int .u64)) w A l.length l) (hc : l.length ≤ c) (h0 : 0 < l.length) (hl : l.length ≤ 1000) (hn0 : 0 < n) (hn : n ≤ 1000) (hok : RowsOk p n l) (hk : k ≤ n) :
  Calls Try.prog 54 #[.int .u64 p,.slice A l.length c,.int .i64 (k : Int)] w fun e w' => Aside0 (∃ bw mv vs pv,e = .returned (.pointer (some ⟨bw,0,none⟩)) ∧ Wk w' w.heap.size bw p mv vs (red p l k).1 pv (red p l k).2.1 (red p l k).2.2) ∧ Below w.heap.size w w' := by
 have HCL := am (clone_rows A c l w hr hc h0 (by omega))
 have HOK := am hok
 have HP := am hp
 clear hr hok
 go_enter Try.func54,Try.ntmps54
 go_wp2_with (first
  | (go_at_call 85;(with_reducible refine HCL.out.mono ?_);rintro e w1 ⟨v1,vs0,rfl,ho1,hb1⟩;have HO1 := ho1;have HB1 := am hb1;clear ho1 hb1;obtain ⟨bo,co,ev1,hbo,_,hco⟩ := own_form0 HO1.out.2 (by rw [HO1.out.1.1];exact h0);rw [HO1.out.1.1] at ev1 hco;subst ev1)
  | ((with_reducible refine gate_dst (N := 27) rfl ?_);refine box_event ?hg (N := 27) ?hd (cs := #[.int .u64 p,.slice (some ⟨bo,0,none⟩) l.length co,.slice none 0 0,.int .u64 1]) (t := 84) ?hr ?_;(case hd => rfl);(case hg => rfl);(case hr => first|(go_simp;done)|(go_simp;rfl));intro bw hbw w2 hbox2 hb2;have HBW := am hbw;have HBX := am hbox2;have HB2 := am (below_step HB1.out hb2);have HW1 := am (show Wk1 w2 w.heap.size bw p (.slice (some ⟨bo,0,none⟩) l.length co) vs0 vs0 l 0 from ⟨by rw [hbw];exact below_size HB1.out,hbox2,by have := own_below0 HO1.out.2 hb2;exact this,HO1.out.1.1,fun j _ => rfl,fun j v r hj => by omega,fun a b g x y ha => by omega⟩);clear hbw hbox2 hb2;have hc1 : w2.cell? ⟨bw,1,none⟩ = some (.slice (some ⟨bo,0,none⟩) l.length co) := (blk_cell HBX.out 1).trans rfl))
 clear HCL HBW HBX
 go_loopg [33] l.length (fun kq v33 w' => ∃ (i : Nat) (vs : List Value),v33 = .int .i64 (i : Int) ∧ Aside0 (kq + i = l.length) ∧ Aside0 (Wk1 w' w.heap.size bw p (.slice (some ⟨bo,0,none⟩) l.length co) vs0 vs l i) ∧ Aside0 (Below w.heap.size w w'))
 case atStart => exact ⟨0,vs0,rfl,⟨rfl⟩,HW1,HB2⟩
 case round =>
  as_aux_lemma =>
   clear HW1 HB1 HB2 hc1
   obtain ⟨i,vs,rfl,HK,HW,HB⟩ := hrel
   by_cases hlt : i < l.length
   ·
    have q1 : ((i : Int) < (l.length : Int)) = True := eq_true (by omega)
    have q2 : decide (i < l.length) = true := decide_eq_true hlt
    have p1 : ((0 : Int) ≤ (i : Int)) = True := eq_true (by omega)
    obtain ⟨Ar,cr,hv0,hcr,hCr⟩ := HO1.out.1.2 i l[i] (List.getElem?_eq_getElem hlt)
    have hri : l[i]? = some l[i] := List.getElem?_eq_getElem hlt
    have hrn := (HOK.out.at hlt).1
    obtain ⟨r,her⟩ : ∃ r,r = l[i] := ⟨_,rfl⟩
    rw [← her] at hv0 hcr hCr hri hrn
    have hvi : vs[i]? = some (.slice Ar r.length cr) := (HW.out.old i (Nat.le_refl _)).trans hv0
    have hx := HW.out.ahead hvi
    have hm : wr.cell? ⟨bw,1,none⟩ = some (.slice (some ⟨bo,0,none⟩) l.length co) := (blk_cell HW.out.box 1).trans rfl
    have HRI := am hri
    have HVI := am hvi
    have HCC := am (clone_u64 Ar cr r wr.drew (Kd.C_drew (Kd.C_below hCr HB.out)) hcr (by omega))
    have HM := am hm
    clear hri hvi hv0 hCr her hrn
    go_wp2
    refine start_ (n := 9) (S := (fun w' => w'.cell? ⟨bw,1,none⟩ = some (.slice (some ⟨bo,0,none⟩) l.length co))) (ds := [8]) (bz 9 0) (by kernel_rfl) rfl rfl hm (fun hHeld => ?_)
    refine pu 0 38 (bz 9 1) ?_
    refine pu 1 39 (bz 9 3) ?_
    refine pu 2 40 (bz 9 7) ?_
    refine tu 3 41 (bz 9 15) hHeld ?_
    refine pu 4 42 (bz 9 31) ?_
    refine pu 5 43 (bz 9 63) ?_
    refine one_ (i := 6) (N := some 44) (bz 9 127) rfl rfl (by kernel_rfl) (by decide) (fun K hK => ?_)
    refine goes_ Try.func76 (by kernel_rfl) rfl #[.slice Ar r.length cr] (by rfl) rfl rfl (by (try simp only [List.map_toArray,List.map_cons,List.map_nil]);first|done|rfl) ?_
    with_reducible refine HCC.out.mono ?_
    rintro e w4 ⟨v4,rfl,ho4,hb4⟩
    refine ⟨_,rfl,?_⟩
    have HB4 := am (show Below wr.heap.size wr w4 from below_step (below_drew (Below.refl _ _)) hb4)
    obtain ⟨A4,cc4,rfl⟩ := Kd.R_slice ho4
    have HO4 := am ho4
    refine hK.out _ _ (pw_cell_below HB4.out HM.out) (fun hHeld => ?_)
    clear hK K
    refine nm 44 ?_
    have HW4 := am (HW.out.step HB4.out HRI.out HO4.out (below_size HB.out))
    have f4 := (HW.out.below HB4.out).afz i
    have c4 := (HW.out.below HB4.out).ahead HVI.out
    clear hb4 ho4 hm hx
    refine pu 7 45 (bz 9 255) ?_
    refine last_ (i := 8) (N := none) (bz 9 511) rfl rfl (by kernel_rfl) (by decide) (fun K hK => ?_)
    refine skip_ (w1 := ?_) (by rfl) rfl ?_ ?_
    rotate_left
    ·go_simp
     rfl
    refine hK.out _ _ ?_
    clear hK K
    refine done_ (by kernel_rfl) ?_
    have HB5 := am ((below_step HB.out HB4.out).setCell (p := ⟨bo,i,none⟩) (by assumption) (.slice A4 r.length cc4))
    go_wp2
    go_roundg (l.length - (i + 1))
    case measure => have := HK.out;omega
    case rel => exact ⟨i + 1,_,by go_num,⟨by omega⟩,HW4,HB5⟩
   ·have q1 : ((i : Int) < (l.length : Int)) = False := eq_false (by omega)
    have q2 : decide (i < l.length) = false := decide_eq_false hlt
    have HWK := am (HW.out.wk (by omega))
    clear HW HK
    go_wp2
    go_loopg [48] k (fun kq v48 w' => ∃ (i : Nat) (vs : List Value) (pv : Value),v48 = .int .i64 (i : Int) ∧ Aside0 (kq + i = k) ∧ Aside0 (Wk w' w.heap.size bw p (.slice (some ⟨bo,0,none⟩) l.length co) vs (red p l i).1 pv (red p l i).2.1 (red p l i).2.2) ∧ Aside0 (Below w.heap.size w w'))
    case atStart => exact ⟨0,vs,_,rfl,⟨rfl⟩,HWK,HB⟩
    case round =>
     as_aux_lemma =>
      clear HWK HB q1 q2 HO1
      obtain ⟨i,vs,pv,rfl,HK,HW,HB⟩ := hrel
      by_cases hik : i < k
      ·have HRO := am (red_ok HP.out HOK.out i)
       obtain ⟨S,hS⟩ : ∃ S,S = red p l i := ⟨_,rfl⟩
       have HS := am (show red p l (i + 1) = redStep p S i by rw [hS,red_succ])
       rw [← hS] at HRO HW
       clear hS
       obtain ⟨rs,ps,det⟩ := S
       obtain ⟨m,hm⟩ : ∃ m,m = l.length := ⟨_,rfl⟩
       have HRL := am (show rs.length = m from HRO.out.len.trans hm.symm)
       have HRW := am (show RowsOk p n rs from HRO.out.rows)
       have hpm : ps.length ≤ m := by have := HRO.out.piv;rw [hm];exact this
       have HDT := am (show Res p det from HRO.out.det)
       have hm0 : 0 < m := by omega
       have hml : m ≤ 1000 := by omega
       rw [← hm] at HW
       have HW : Aside0 (Wk wr w.heap.size bw p (.slice (some ⟨bo,0,none⟩) m co) vs rs pv ps det) := HW
       have HM := am hm
       clear hm HRO
       obtain ⟨Ap,cp,epv⟩ : ∃ Ap cp,pv = .slice Ap ps.length cp := by
        rcases HW.out.piv.2 with ⟨h1,h2⟩|⟨g,cap,cur,h1,_⟩
        ·exact ⟨none,0,by rw [h1,h2]⟩
        ·exact ⟨_,_,h1⟩
       subst epv
       obtain ⟨q,hq⟩ : ∃ q,q = fndP rs i ps.length := ⟨_,rfl⟩
       have hq0 : ps.length ≤ q := by rw [hq];exact fndP_ge _ _ _
       have hq1 : q ≤ m := by rw [hq,← HRL.out];exact fndP_le _ _ _ (by rw [HRL.out];exact hpm)
       have HQ := am hq
       clear hq
       have g0 : decide (i < k) = true := decide_eq_true hik
       have g1 : ((i : Int) < (k : Int)) = True := eq_true (by omega)
       have c1 := HW.out.c1
       have c2 := HW.out.c2
       go_upto_block 4 with fail
       go_cut [12] (fun v12 wc => FndR m q v12 ∧ Aside0 (Wk wc w.heap.size bw p (.slice (some ⟨bo,0,none⟩) m co) vs rs (.slice Ap ps.length cp) ps det) ∧ Aside0 (Below w.heap.size w wc))
       case first =>
        as_aux_lemma =>
         clear c1 c2 g0 g1
         go_wp2_with fail
         go_loopg [12,13] (m - ps.length) (fun kq v12 v13 w' => ∃ (a : Nat),v13 = .int .i64 (a : Int) ∧ FndA q a v12 ∧ Aside0 (kq + a = m) ∧ Aside0 (ps.length ≤ a) ∧ Aside0 (Wk w' w.heap.size bw p (.slice (some ⟨bo,0,none⟩) m co) vs rs (.slice Ap ps.length cp) ps det) ∧ Aside0 (Below w.heap.size w w'))
         case atStart => exact ⟨ps.length,rfl,Or.inl ⟨rfl,hq0⟩,⟨by omega⟩,⟨Nat.le_refl _⟩,HW,HB⟩
         case round =>
          as_aux_lemma =>
           clear HW HB
           obtain ⟨a,rfl,hf,HKa,HA,HW,HB⟩ := hrel
           have c1 := HW.out.c1
           have ham : a ≤ m := by have := HKa.out;omega
           rcases hf with ⟨rfl,haq⟩|⟨rfl,hqa⟩
           ·by_cases hlt : a < m
            ·have q1 : ((a : Int) < (m : Int)) = True := eq_true (by omega)
             have q2 : decide (a < m) = true := decide_eq_true hlt
             have p1 : ((0 : Int) ≤ (a : Int)) = True := eq_true (by omega)
             have hal : a < rs.length := by rw [HRL.out];exact hlt
             have hrn := (HRW.out.at hal).1
             obtain ⟨b,cb,hv,_,_⟩ := HW.out.rform a hal (by omega)
             have hx := HW.out.ahead hv
             have hin : i < rs[a].length := by omega
             have hy := HW.out.rcell hv (List.getElem?_eq_getElem hal) hin
             have p2 : ((i : Int) < (rs[a].length : Int)) = True := eq_true (by omega)
             have p3 : ((0 : Int) ≤ (i : Int)) = True := eq_true (by omega)
             have hgd : (rs[a]).getD i 0 = rs[a][i] := by rw [List.getD_eq_getElem?_getD,List.getElem?_eq_getElem hin];rfl
             have HZ := am (show rs[a][i] = 0 → a ≠ q from fun h e => by
              subst e
              have e2 := HQ.out
              have := fndP_nz (rs := rs) (c := i) (r := ps.length) (by rw [← e2];exact hal)
              simp only [← e2] at this
              exact this (by rw [hgd];exact h))
             have HN := am (show rs[a][i] ≠ 0 → a = q from fun h => by
              by_cases e : a < q
              ·exact absurd (fndP_zero HA.out (by rw [← HQ.out];exact e) hal) (by rw [hgd];exact h)
              ·omega)
             obtain ⟨x,hxx⟩ : ∃ x,x = rs[a][i] := ⟨_,rfl⟩
             rw [← hxx] at hy HZ HN
             clear hxx hgd hrn hv
             by_cases hz : x = 0
             ·have z1 : (x != 0) = false := by simpa using hz
              have hne := HZ.out hz
              clear hz
              go_wp2
              go_roundg (m - (a + 1))
              case measure => have := HKa.out;omega
              case rel => exact ⟨a + 1,by go_num,Or.inl ⟨rfl,by omega⟩,⟨by omega⟩,⟨by have := HA.out;omega⟩,HW,HB⟩
             ·have z1 : (x != 0) = true := by simpa using hz
              have HE := am (HN.out hz)
              clear hz
              go_wp2
              go_roundg (m - (a + 1))
              case measure => have := HKa.out;omega
              case rel => exact ⟨a + 1,by go_num,Or.inr ⟨by rw [HE.out],by have := HE.out;omega⟩,⟨by omega⟩,⟨by have := HA.out;omega⟩,HW,HB⟩
            ·have q1 : ((a : Int) < (m : Int)) = False := eq_false (by omega)
             have q2 : decide (a < m) = false := decide_eq_false hlt
             go_wp2_with fail
             go_meet
             exact ⟨Or.inl ⟨rfl,by omega⟩,HW,HB⟩
           ·have z1 : ((q : Int) < 0) = False := eq_false (by omega)
            have z2 : decide ((q : Int) < 0) = false := decide_eq_false (by omega)
            by_cases hlt : a < m
            ·have q1 : ((a : Int) < (m : Int)) = True := eq_true (by omega)
             have q2 : decide (a < m) = true := decide_eq_true hlt
             go_wp2_with fail
             go_meet
             exact ⟨Or.inr ⟨rfl,by omega⟩,HW,HB⟩
            ·have q1 : ((a : Int) < (m : Int)) = False := eq_false (by omega)
             have q2 : decide (a < m) = false := decide_eq_false hlt
             go_wp2_with fail
             go_meet
             exact ⟨Or.inr ⟨rfl,by omega⟩,HW,HB⟩
       case rest =>
        as_aux_lemma =>
         obtain ⟨hf,HW,HB⟩ := hcut
         clear c1 c2
         rcases hf with ⟨rfl,hqm⟩|⟨rfl,hqm⟩
         ·
          have HSame := am (show redStep p (rs,ps,det) i = (rs,ps,det) from by
           unfold redStep
           rw [if_neg (by show ¬ fndP rs i ps.length < rs.length;rw [← HQ.out,HRL.out];omega)])
          clear hqm
          go_wp2
          go_roundg (k - (i + 1))
          case measure => have := HK.out;omega
          case rel => exact ⟨i + 1,vs,_,by go_num,⟨by omega⟩,by rw [HS.out,HSame.out,← HM.out];exact HW,HB⟩
         ·have hrm : ps.length < m := by omega
          have z1 : ((q : Int) < 0) = False := eq_false (by omega)
          have z2 : decide ((q : Int) < 0) = false := decide_eq_false (by omega)
          obtain ⟨rs1,hrs1⟩ : ∃ x,x = (if fndP rs i ps.length = ps.length then rs else swapR rs (fndP rs i ps.length) ps.length) := ⟨_,rfl⟩
          obtain ⟨d1,hd1⟩ : ∃ x,x = (if fndP rs i ps.length = ps.length then det else -det % p) := ⟨_,rfl⟩
          have HST := am (show redStep p (rs,ps,det) i = (elimAll p i ps.length (scaleR p (invp p ((rs1.getD ps.length []).getD i 0)) (rs1.getD ps.length [])) (rs1.set ps.length (scaleR p (invp p ((rs1.getD ps.length []).getD i 0)) (rs1.getD ps.length []))),ps ++ [(i : Int)],d1 * ((rs1.getD ps.length []).getD i 0) % p) from by
           unfold redStep
           rw [if_pos (by show fndP rs i ps.length < rs.length;rw [← HQ.out,HRL.out];exact hqm)]
           simp only [← hrs1,← hd1])
          have HRS := am hrs1
          have HD1 := am hd1
          clear hrs1 hd1
          go_upto_if 86 with fail
          go_cut [] (fun wc => ∃ vs1 : List Value,Aside0 (Wk wc w.heap.size bw p (.slice (some ⟨bo,0,none⟩) m co) vs1 rs1 (.slice Ap ps.length cp) ps d1) ∧ Aside0 (Below w.heap.size w wc))
          case first =>
           as_aux_lemma =>
            by_cases hqr : q = ps.length
            ·have z3 : ((q : Int) != (ps.length : Int)) = false := by rw [hqr];simp
             have HE := am hqr
             clear hqr
             go_wp2_with fail
             go_meet
             refine ⟨vs,?_,HB⟩
             rw [HRS.out,HD1.out,if_pos (by rw [← HQ.out];exact HE.out),if_pos (by rw [← HQ.out];exact HE.out)]
             exact HW
            ·have z3 : ((q : Int) != (ps.length : Int)) = true := by
              have : ¬ (q : Int) = (ps.length : Int) := by omega
              simpa using this
             have HE := am hqr
             clear hqr
             have p1 : ((0 : Int) ≤ (q : Int)) = True := eq_true (by omega)
             have p2 : ((q : Int) < (m : Int)) = True := eq_true (by omega)
             have p3 : ((0 : Int) ≤ (ps.length : Int)) = True := eq_true (by omega)
             have p4 : ((ps.length : Int) < (m : Int)) = True := eq_true (by omega)
             have p5 : decide (q < m) = true := decide_eq_true hqm
             have p6 : decide (ps.length < m) = true := decide_eq_true hrm
             have hql : q < rs.length := by rw [HRL.out];exact hqm
             have hrl : ps.length < rs.length := by rw [HRL.out];exact hrm
             obtain ⟨bq,cq,hvq,_,_⟩ := HW.out.rform q hql (by have := (HRW.out.at hql).1;omega)
             obtain ⟨br,cr,hvr,_,_⟩ := HW.out.rform ps.length hrl (by have := (HRW.out.at hrl).1;omega)
             have c1 := HW.out.c1
             have hx := HW.out.ahead hvq
             have hy := HW.out.ahead hvr
             rw [(HRW.out.at hql).1] at hx hvq
             rw [(HRW.out.at hrl).1] at hy hvr
             have HWS := am (HW.out.drew.swap q ps.length hvq hvr (List.getElem?_eq_getElem hql) (List.getElem?_eq_getElem hrl))
             have hy2 : (wc.setCell ⟨bo,q,none⟩ (.slice (some ⟨br,0,none⟩) n cr)).cell? ⟨bo,ps.length,none⟩ = some (.slice (some ⟨br,0,none⟩) n cr) := cell_other0 HE.out hy
             have hf1 := HW.out.afz q
             have hf2 := HW.out.afz ps.length
             clear hvq hvr
             go_upto_region 19 with fail
             go_cut [] (fun wd => Aside0 (Wk wd w.heap.size bw p (.slice (some ⟨bo,0,none⟩) m co) ((vs.set q (.slice (some ⟨br,0,none⟩) n cr)).set ps.length (.slice (some ⟨bq,0,none⟩) n cq)) ((rs.set q rs[ps.length]).set ps.length rs[q]) (.slice Ap ps.length cp) ps det) ∧ Aside0 (Below w.heap.size w wd))
             case first =>
              as_aux_lemma =>
               refine start_ (n := 28) (S := (fun w' => w'.cell? ⟨bw,1,none⟩ = some (.slice (some ⟨bo,0,none⟩) m co) ∧ w'.cell? ⟨bo,q,none⟩ = some (.slice (some ⟨bq,0,none⟩) n cq) ∧ w'.cell? ⟨bo,ps.length,none⟩ = some (.slice (some ⟨br,0,none⟩) n cr))) (ds := [25,27]) (bz 28 0) (by kernel_rfl) rfl rfl ⟨c1,hx,hy⟩ (fun hHeld => ?_)
               refine pu 0 87 (bz 28 1) ?_
               refine pu 1 88 (bz 28 3) ?_
               refine pu 2 89 (bz 28 7) ?_
               refine tu 3 90 (bz 28 15) hHeld ?_
               refine pu 4 91 (bz 28 31) ?_
               refine pu 5 92 (bz 28 63) ?_
               refine pu 6 93 (bz 28 127) ?_
               refine pu 7 94 (bz 28 255) ?_
               refine tu 8 95 (bz 28 511) hHeld ?_
               refine pu 9 96 (bz 28 1023) ?_
               refine pu 10 97 (bz 28 2047) ?_
               refine pu 11 98 (bz 28 4095) ?_
               refine pu 12 99 (bz 28 8191) ?_
               refine tu 13 100 (bz 28 16383) hHeld ?_
               refine pu 14 101 (bz 28 32767) ?_
               refine pu 15 102 (bz 28 65535) ?_
               refine tu 16 103 (bz 28 131071) hHeld ?_
               refine pu 17 104 (bz 28 262143) ?_
               refine pu 18 105 (bz 28 524287) ?_
               refine pu 19 106 (bz 28 1048575) ?_
               refine tu 20 107 (bz 28 2097151) hHeld ?_
               refine pu 21 108 (bz 28 4194303) ?_
               refine pu 22 109 (bz 28 8388607) ?_
               refine tu 23 110 (bz 28 16777215) hHeld ?_
               refine pu 24 111 (bz 28 33554431) ?_
               refine last_ (i := 25) (N := none) (bz 28 67108863) rfl rfl (by kernel_rfl) (by decide) (fun K hK => ?_)
               refine skip_ (w1 := ?_) (by rfl) rfl ?_ ?_
               rotate_left
               ·go_simp
                rfl
               refine hK.out _ _ ?_
               clear hK K
               refine pu 26 112 (bz 28 134217727) ?_
               refine last_ (i := 27) (N := none) (bz 28 268435455) rfl rfl (by kernel_rfl) (by decide) (fun K hK => ?_)
               refine skip_ (w1 := ?_) (by rfl) rfl ?_ ?_
               rotate_left
               ·go_simp
                rfl
               refine hK.out _ _ ?_
               clear hK K
               refine done_ (by kernel_rfl) ?_
               go_wp2_with fail
               go_meet
               exact ⟨HWS,⟨((below_drew HB.out).setCell (p := ⟨bo,q,none⟩) hbo _).setCell (p := ⟨bo,ps.length,none⟩) hbo _⟩⟩
             case rest =>
              as_aux_lemma =>
               obtain ⟨HW5,HB5⟩ := hcut
               clear hx hy hy2 hf1 hf2 c1 HWS
               have HE1 := am (show rs1 = (rs.set q rs[ps.length]).set ps.length rs[q] from by
                have e := HRS.out
                rw [if_neg (by rw [← HQ.out];exact HE.out)] at e
                rw [e,← HQ.out]
                unfold swapR
                rw [getD_row hrl,getD_row hql])
               have c3 := HW5.out.c3
               have hfd := HW5.out.fz 3
               have HNG := am (neg_eq HP.out HDT.out)
               go_wp2_with (first|(go_at_call 68;(with_reducible refine (field_Neg.calls p det _ _ HNG.out).mono ?_);rintro e w6 ⟨rfl,⟨nd,rfl⟩⟩))
               go_meet
               refine ⟨(vs.set q (.slice (some ⟨br,0,none⟩) n cr)).set ps.length (.slice (some ⟨bq,0,none⟩) n cq),⟨?_⟩,⟨(pw_below_drewN HB5.out nd).setCell (p := ⟨bw,3,none⟩) HW5.out.hbw _⟩⟩
               rw [HE1.out,HD1.out,if_neg (by rw [← HQ.out];exact HE.out)]
               exact (HW5.out.below (pw_below_drewN (Below.refl _ _) nd)).setDet _
          case rest =>
           as_aux_lemma =>
            obtain ⟨vs1,HW1,HB1⟩ := hcut
            have HR1 := am (show rs1.length = m ∧ RowsOk p n rs1 ∧ Res p d1 ∧ ∃ row,rs1[ps.length]? = some row ∧ row.getD i 0 ≠ 0 from by
             have hql : q < rs.length := by rw [HRL.out];exact hqm
             have hrl : ps.length < rs.length := by rw [HRL.out];exact hrm
             have hnz : (rs[q]).getD i 0 ≠ 0 := by
              have e2 := HQ.out
              have := fndP_nz (rs := rs) (c := i) (r := ps.length) (by rw [← e2];exact hql)
              simp only [← e2] at this
              exact this
             rw [HRS.out,HD1.out,← HQ.out]
             by_cases hh : q = ps.length
             ·rw [if_pos hh,if_pos hh]
              exact ⟨HRL.out,HRW.out,HDT.out,rs[q],by rw [← hh];exact List.getElem?_eq_getElem hql,hnz⟩
             ·rw [if_neg hh,if_neg hh]
              exact ⟨by rw [swapR_len];exact HRL.out,swapR_ok HRW.out hql hrl,Res.mod HP.out _,rs[q],swapR_at hql hrl,hnz⟩)
            clear z1 z2 HRS HD1
            obtain ⟨row,hrow,hxz⟩ := HR1.out.2.2.2
            have hr1 : ps.length < rs1.length := by rw [HR1.out.1];exact hrm
            have hge : row = rs1[ps.length] := by rw [List.getElem?_eq_getElem hr1] at hrow;exact (Option.some.inj hrow).symm
            have hrn : row.length = n := by rw [hge];exact (HR1.out.2.1.at hr1).1
            have hin : i < row.length := by omega
            obtain ⟨b,cb,hv,hcb,hbb⟩ := HW1.out.rform ps.length hr1 (by rw [← hge,hrn];exact hn0)
            rw [← hge,hrn] at hv hcb
            have hgd : row.getD i 0 = row[i] := by rw [List.getD_eq_getElem?_getD,List.getElem?_eq_getElem hin];rfl
            obtain ⟨x,hx⟩ : ∃ x,x = row[i] := ⟨_,rfl⟩
            have HX0 := am (show row[i]'hin = x from hx.symm)
            have HX := am (show Res p x ∧ x ≠ 0 from ⟨by rw [hx];subst hge;exact HR1.out.2.1.word hr1 hin,by rw [hx,← hgd];exact hxz⟩)
            have HST := am (show redStep p (rs,ps,det) i = (elimAll p i ps.length (scaleR p (invp p x) row) (rs1.set ps.length (scaleR p (invp p x) row)),ps ++ [(i : Int)],d1 * x % p) from by
             rw [HST.out,getD_row hr1,← hge,hgd,← hx])
            have hc4 := HW1.out.rcell hv hrow hin
            rw [← hx] at hc4
            have hc3 := HW1.out.ahead hv
            have hc1 := HW1.out.c1
            have hc2 := HW1.out.c3
            have hf3 := HW1.out.fz 3
            have HRN := am hrn
            have HROW := am hrow
            have HV := am hv
            have HRR := am (show ∀ y ∈ row,Res p y from by rw [hge];exact (HR1.out.2.1.at hr1).2)
            have p1 : ((0 : Int) ≤ (ps.length : Int)) = True := eq_true (by omega)
            have p2 : ((ps.length : Int) < (m : Int)) = True := eq_true (by omega)
            have p3 : ((0 : Int) ≤ (i : Int)) = True := eq_true (by omega)
            have p4 : ((i : Int) < (n : Int)) = True := eq_true (by omega)
            have p5 : decide (ps.length < m) = true := decide_eq_true hrm
            have p6 : decide (i < n) = true := decide_eq_true (by omega)
            clear hx hgd hge hrow hxz hr1 hrn hv
            obtain ⟨k1,hk1⟩ := (mul_ev HP.out HR1.out.2.2.1 HX.out.1).rounds
            have HK1 := am hk1
            obtain ⟨d2,hd2⟩ : ∃ d,d = d1 * x % p := ⟨_,rfl⟩
            rw [← hd2] at HK1 HST
            clear hk1 hd2
            go_upto_region 21 with fail
            go_cut [] (fun wd => Aside0 (Wk wd w.heap.size bw p (.slice (some ⟨bo,0,none⟩) m co) vs1 rs1 (.slice Ap ps.length cp) ps d2) ∧ Aside0 (Below w.heap.size w wd))
            case first =>
             as_aux_lemma =>
              refine start_ (n := 20) (S := (fun w' => w'.cell? ⟨bw,1,none⟩ = some (.slice (some ⟨bo,0,none⟩) m co) ∧ w'.cell? ⟨bw,3,none⟩ = some (.int .u64 d1) ∧ w'.cell? ⟨bo,ps.length,none⟩ = some (.slice (some ⟨b,0,none⟩) n cb) ∧ w'.cell? ⟨b,i,none⟩ = some (.int .u64 x))) (ds := [19]) (bz 20 0) (by kernel_rfl) rfl rfl ⟨hc1,hc2,hc3,hc4⟩ (fun hHeld => ?_)
              refine pu 0 122 (bz 20 1) ?_
              refine pu 1 123 (bz 20 3) ?_
              refine pu 2 124 (bz 20 7) ?_
              refine pu 3 125 (bz 20 15) ?_
              refine pu 4 126 (bz 20 31) ?_
              refine tu 5 127 (bz 20 63) hHeld ?_
              refine pu 6 128 (bz 20 127) ?_
              refine pu 7 129 (bz 20 255) ?_
              refine pu 8 130 (bz 20 511) ?_
              refine tu 9 131 (bz 20 1023) hHeld ?_
              refine pu 10 132 (bz 20 2047) ?_
              refine pu 11 133 (bz 20 4095) ?_
              refine tu 12 134 (bz 20 8191) hHeld ?_
              refine pu 13 135 (bz 20 16383) ?_
              refine pu 14 136 (bz 20 32767) ?_
              refine tu 15 137 (bz 20 65535) hHeld ?_
              refine one_ (i := 16) (N := some 138) (bz 20 131071) rfl rfl (by kernel_rfl) (by decide) (fun K hK => ?_)
              refine goes_ Try.func27 (by kernel_rfl) rfl #[.int .u64 p,.int .u64 d1,.int .u64 x] (by rfl) rfl rfl (by (try simp only [List.map_toArray,List.map_cons,List.map_nil]);first|done|rfl) ?_
              with_reducible refine (field_Mul.calls k1 p d1 x d2 _ HK1.out).mono ?_
              rintro e w' ⟨rfl,⟨nd,rfl⟩⟩
              refine ⟨_,rfl,?_⟩
              refine hK.out _ _ ⟨hc1,hc2,hc3,hc4⟩ (fun hHeld => ?_)
              clear hK K
              refine nm 138 ?_
              refine pu 17 139 (bz 20 262143) ?_
              refine pu 18 140 (bz 20 524287) ?_
              refine last_ (i := 19) (N := none) (bz 20 1048575) rfl rfl (by kernel_rfl) (by decide) (fun K hK => ?_)
              refine skip_ (w1 := ?_) (by rfl) rfl ?_ ?_
              rotate_left
              ·go_simp
               rfl
              refine hK.out _ _ ?_
              clear hK K
              refine done_ (by kernel_rfl) ?_
              go_wp2_with fail
              go_meet
              exact ⟨⟨(HW1.out.below (pw_below_drewN (Below.refl _ _) (1 + nd))).setDet _⟩,⟨(pw_below_drewN HB1.out (1 + nd)).setCell (p := ⟨bw,3,none⟩) HW1.out.hbw _⟩⟩
            case rest =>
             as_aux_lemma =>
              obtain ⟨HW2,HB2⟩ := hcut
              clear hc1 hc2 hc3 hc4 hf3
              have hc4 := HW2.out.rcell HV.out HROW.out (show i < row.length by rw [HRN.out];omega)
              have HXE := am (show row[i]'(by rw [HRN.out];omega) = x from HX0.out)
              rw [HXE.out] at hc4
              have hc3 := HW2.out.ahead HV.out
              have hc1 := HW2.out.c1
              obtain ⟨k2,hk2⟩ := (inv_ev HP.out HX.out.1 HX.out.2).rounds
              have HK2 := am hk2
              obtain ⟨iv,hiv⟩ : ∃ y,y = invp p x := ⟨_,rfl⟩
              have HIV := am (show Res p iv from by rw [hiv];exact inv_res HP.out x)
              rw [← hiv] at HK2 HST
              obtain ⟨prow,hpr⟩ : ∃ y,y = scaleR p iv row := ⟨_,rfl⟩
              rw [← hpr] at HST
              have HPL := am (show prow.length = row.length from by rw [hpr];exact scaleR_len _ _ _)
              have HPA := am (show ∀ j (h1 : j < row.length) (h2 : j < prow.length),prow[j] = iv * row[j] % p from by intro j h1 h2;subst hpr;simp [scaleR])
              have HPR := am (show ∀ y ∈ prow,Res p y from by rw [hpr];exact (scaleR_ok HP.out rfl).2)
              have HB2 : Aside0 (Below w.heap.size w wc) := HB2
              have HW3 := am (show Wk wc w.heap.size bw p (.slice (some ⟨bo,0,none⟩) m co) vs1 (rs1.set ps.length (part prow row 0)) (.slice Ap ps.length cp) ps d2 from by
               rw [part_zero,set_at HROW.out];exact HW2.out)
              clear hk2 hiv hpr HW2
              go_wp2_with (first|(go_at_call 86;(with_reducible refine (field_Inverse.calls k2 p x iv 0 _ HK2.out).mono ?_);rintro e w7 ⟨rfl,⟨nd,rfl⟩⟩))
              go_loopg [164] n (fun kq v164 w' => ∃ (j : Nat),v164 = .int .i64 (j : Int) ∧ Aside0 (kq + j = n) ∧ Aside0 (Wk w' w.heap.size bw p (.slice (some ⟨bo,0,none⟩) m co) vs1 (rs1.set ps.length (part prow row j)) (.slice Ap ps.length cp) ps d2) ∧ Aside0 (Below w.heap.size w w'))
              case atStart => exact ⟨0,rfl,⟨rfl⟩,⟨HW3.out.below (pw_below_drewN (Below.refl _ _) nd)⟩,⟨pw_below_drewN HB2.out nd⟩⟩
              case round =>
               as_aux_lemma =>
                clear HW3 HB2 hc1 hc3 hc4
                obtain ⟨j,rfl,HKj,HW,HB⟩ := hrel
                have HPP := am (show (rs1.set ps.length (part prow row j))[ps.length]? = some (part prow row j) from List.getElem?_set_self (by rw [HR1.out.1];exact hrm))
                by_cases hjn : j < n
                ·
                 have q1 : ((j : Int) < (n : Int)) = True := eq_true (by omega)
                 have q2 : decide (j < n) = true := decide_eq_true hjn
                 have q3 : ((0 : Int) ≤ (j : Int)) = True := eq_true (by omega)
                 have hjr : j < row.length := by rw [HRN.out];exact hjn
                 have hpl : (part prow row j).length = row.length := part_len HPL.out (by omega)
                 have hc4 := HW.out.rcell HV.out HPP.out (show j < (part prow row j).length by omega)
                 have hpj : (part prow row j)[j]'(by omega) = row[j] := by
                  have := part_at HPL.out hjr
                  rw [List.getElem?_eq_getElem (by omega)] at this
                  exact Option.some.inj this
                 rw [hpj] at hc4
                 have HY := am (show Res p row[j] from HRR.out _ (List.getElem_mem _))
                 have hpa := HPA.out j hjr (by rw [HPL.out];exact hjr)
                 have HNX := am (show (part prow row j).set j (prow[j]'(by rw [HPL.out];exact hjr)) = part prow row (j + 1) from part_set HPL.out hjr)
                 obtain ⟨y,hy⟩ : ∃ y,y = row[j] := ⟨_,rfl⟩
                 rw [hpa] at HNX
                 rw [← hy] at hc4 HY HNX
                 obtain ⟨k3,hk3⟩ := (mul_ev HP.out HIV.out HY.out).rounds
                 have HK3 := am hk3
                 obtain ⟨z,hz⟩ : ∃ z,z = iv * y % p := ⟨_,rfl⟩
                 rw [← hz] at HK3 HNX
                 have hc3 := HW.out.ahead HV.out
                 have hc1 := HW.out.c1
                 have hf4 := HW.out.rfz HV.out HPP.out j
                 have HC4 := am hc4
                 clear hpa hpj hy hk3 hz hjr hpl
                 go_wp2
                 refine start_ (n := 14) (S := (fun w' => w'.cell? ⟨bw,1,none⟩ = some (.slice (some ⟨bo,0,none⟩) m co) ∧ w'.cell? ⟨bo,ps.length,none⟩ = some (.slice (some ⟨b,0,none⟩) n cb))) (ds := [13]) (bz 14 0) (by kernel_rfl) rfl rfl ⟨hc1,hc3⟩ (fun hHeld => ?_)
                 refine pu 0 169 (bz 14 1) ?_
                 refine pu 1 170 (bz 14 3) ?_
                 refine pu 2 171 (bz 14 7) ?_
                 refine tu 3 172 (bz 14 15) hHeld ?_
                 refine pu 4 173 (bz 14 31) ?_
                 refine pu 5 174 (bz 14 63) ?_
                 refine tu 6 175 (bz 14 127) hHeld ?_
                 refine pu 7 176 (bz 14 255) ?_
                 refine pu 8 177 (bz 14 511) ?_
                 refine pu 9 178 (bz 14 1023) ?_
                 refine pu 10 179 (bz 14 2047) ?_
                 refine one_ (i := 11) (N := some 180) (bz 14 4095) rfl rfl (by kernel_rfl) (by decide) (fun K hK => ?_)
                 refine goes_ Try.func27 (by kernel_rfl) rfl #[.int .u64 p,.int .u64 iv,.int .u64 y] (by rfl) rfl rfl (by (try simp only [List.map_toArray,List.map_cons,List.map_nil]);first|done|rfl) ?_
                 with_reducible refine (field_Mul.calls k3 p iv y z _ HK3.out).mono ?_
                 rintro e w' ⟨rfl,⟨nd,rfl⟩⟩
                 refine ⟨_,rfl,?_⟩
                 refine hK.out _ _ ⟨hc1,hc3⟩ (fun hHeld => ?_)
                 clear hK K
                 refine nm 180 ?_
                 refine pu 12 181 (bz 14 8191) ?_
                 refine last_ (i := 13) (N := none) (bz 14 16383) rfl rfl (by kernel_rfl) (by decide) (fun K hK => ?_)
                 refine skip_ (w1 := ?_) (by rfl) rfl ?_ ?_
                 rotate_left
                 ·go_simp
                  rfl
                 refine hK.out _ _ ?_
                 clear hK K
                 refine done_ (by kernel_rfl) ?_
                 have HW5 := am (show Wk ((wr.drewN (1 + nd)).setCell ⟨b,j,none⟩ (.int .u64 z)) w.heap.size bw p (.slice (some ⟨bo,0,none⟩) m co) vs1 (rs1.set ps.length (part prow row (j + 1))) (.slice Ap ps.length cp) ps d2 from by
                  have := (HW.out.below (pw_below_drewN (Below.refl _ _) (1 + nd))).setRow HV.out HPP.out j z
                  rw [List.set_set,HNX.out] at this
                  exact this)
                 have HB5 := am (show Below w.heap.size w ((wr.drewN (1 + nd)).setCell ⟨b,j,none⟩ (.int .u64 z)) from (pw_below_drewN HB.out (1 + nd)).setCell (p := ⟨b,j,none⟩) hbb _)
                 go_wp2
                 go_roundg (n - (j + 1))
                 case measure => have := HKj.out;omega
                 case rel => exact ⟨j + 1,by go_num,⟨by omega⟩,HW5,HB5⟩
                ·have q1 : ((j : Int) < (n : Int)) = False := eq_false (by omega)
                 have q2 : decide (j < n) = false := decide_eq_false hjn
                 have HF := am (show rs1.set ps.length (part prow row j) = rs1.set ps.length prow from by
                  have e : j = row.length := by rw [HRN.out];have := HKj.out;omega
                  rw [e,part_all HPL.out])
                 rw [HF.out] at HW
                 clear HPP HF HKj
                 have hc1 := HW.out.c1
                 obtain ⟨rs2,hrs2⟩ : ∃ y,y = rs1.set ps.length prow := ⟨_,rfl⟩
                 have H2P := am (show rs2[ps.length]? = some prow from by rw [hrs2];exact List.getElem?_set_self (by rw [HR1.out.1];exact hrm))
                 have H2L := am (show rs2.length = m from by rw [hrs2,List.length_set];exact HR1.out.1)
                 have H2R := am (show RowsOk p n rs2 from by rw [hrs2];exact HR1.out.2.1.set ⟨by rw [HPL.out];exact HRN.out,HPR.out⟩)
                 obtain ⟨E,hE⟩ : ∃ y,y = elimAll p i ps.length prow rs2 := ⟨_,rfl⟩
                 have HEL := am (show E.length = rs2.length from by rw [hE];exact elimAll_len _ _ _ _ _)
                 have HEA := am (show ∀ (a : Nat) (h : a < rs2.length),E[a]? = some (elimRow p i ps.length prow a rs2[a]) from by intro a h;rw [hE];exact elimAll_get _ _ _ _ _ h)
                 rw [← hrs2] at HW HST
                 rw [← hE] at HST
                 have HPN := am (show prow.length = n from by rw [HPL.out];exact HRN.out)
                 have HW9 := am (show Wk wr w.heap.size bw p (.slice (some ⟨bo,0,none⟩) m co) vs1 (part E rs2 0) (.slice Ap ps.length cp) ps d2 from by rw [part_zero];exact HW.out)
                 clear hrs2 hE HW HPA HPL HRN HROW HRR HX HX0 HXE HR1 HIV
                 go_wp2
                 go_loopg [188] m (fun kq v188 w' => ∃ (a : Nat),v188 = .int .i64 (a : Int) ∧ Aside0 (kq + a = m) ∧ Aside0 (Wk w' w.heap.size bw p (.slice (some ⟨bo,0,none⟩) m co) vs1 (part E rs2 a) (.slice Ap ps.length cp) ps d2) ∧ Aside0 (Below w.heap.size w w'))
                 case atStart => exact ⟨0,rfl,⟨rfl⟩,HW9,HB⟩
                 case round =>
                  as_aux_lemma =>
                   clear HW9 HB hc1 q1 q2
                   obtain ⟨a,rfl,HKa,HW,HB⟩ := hrel
                   by_cases ham : a < m
                   ·
                    have q1 : ((a : Int) < (m : Int)) = True := eq_true (by omega)
                    have q2 : decide (a < m) = true := decide_eq_true ham
                    have q3 : ((0 : Int) ≤ (a : Int)) = True := eq_true (by omega)
                    have ha2 : a < rs2.length := by rw [H2L.out];exact ham
                    have HPT := am (show (part E rs2 a)[a]? = some rs2[a] from part_at HEL.out ha2)
                    have HPQ := am (show (part E rs2 a)[ps.length]? = some prow from by
                     rw [part_get HEL.out (by omega)]
                     have hr2 : ps.length < rs2.length := by rw [H2L.out];exact hrm
                     have e2 := H2P.out
                     by_cases e : ps.length < a
                     ·rw [if_pos e,HEA.out ps.length hr2]
                      rw [List.getElem?_eq_getElem hr2] at e2
                      unfold elimRow
                      rw [if_pos (Or.inl rfl)];exact e2
                     ·rw [if_neg e];exact e2)
                    have hal : a < (part E rs2 a).length := (List.getElem?_eq_some_iff.1 HPT.out).1
                    have hge : rs2[a] = (part E rs2 a)[a] := by have := HPT.out;rw [List.getElem?_eq_getElem hal] at this;exact (Option.some.inj this).symm
                    have hrn := (H2R.out.at ha2).1
                    obtain ⟨ba,ca,hva,_,hba⟩ := HW.out.rform a hal (by rw [← hge,hrn];exact hn0)
                    rw [← hge,hrn] at hva
                    obtain ⟨rowa,hra⟩ : ∃ y,y = rs2[a] := ⟨_,rfl⟩
                    have HEa := am (HEA.out a ha2)
                    have HRA := am (show ∀ y ∈ rowa,Res p y from by rw [hra];exact (H2R.out.at ha2).2)
                    have HOA := am (show rs2[a]? = some rowa from by rw [hra];exact List.getElem?_eq_getElem ha2)
                    rw [← hra] at hrn HPT HEa
                    have hia : i < rowa.length := by omega
                    have hc4 := HW.out.rcell hva HPT.out hia
                    have hgd : rowa.getD i 0 = rowa[i] := by rw [List.getD_eq_getElem?_getD,List.getElem?_eq_getElem hia];rfl
                    have HY := am (show Res p rowa[i] from HRA.out _ (List.getElem_mem _))
                    obtain ⟨y,hy⟩ : ∃ y,y = rowa[i] := ⟨_,rfl⟩
                    have HGD := am (show rowa.getD i 0 = y from hgd.trans hy.symm)
                    rw [← hy] at hc4 HY
                    have hc3 := HW.out.ahead hva
                    have hc1 := HW.out.c1
                    have HVA := am hva
                    have HRN := am hrn
                    clear hge hra hgd hy hva hrn
                    by_cases har : a = ps.length
                    ·have z1 : ((a : Int) == (ps.length : Int)) = true := by rw [har];simp
                     have HSM := am (show part E rs2 (a + 1) = part E rs2 a from part_same HEL.out ha2 (by
                      rw [HEa.out,HOA.out];unfold elimRow;rw [if_pos (Or.inl har)]))
                     clear har
                     go_wp2
                     go_roundg (m - (a + 1))
                     case measure => have := HKa.out;omega
                     case rel => exact ⟨a + 1,by go_num,⟨by omega⟩,⟨by rw [HSM.out];exact HW.out⟩,HB⟩
                    ·have z1 : ((a : Int) == (ps.length : Int)) = false := by
                      have : ¬ (a : Int) = (ps.length : Int) := by omega
                      simpa using this
                     by_cases hy0 : y = 0
                     ·have z2 : (y == 0) = true := by simpa using hy0
                      have HSM := am (show part E rs2 (a + 1) = part E rs2 a from part_same HEL.out ha2 (by
                       rw [HEa.out,HOA.out];unfold elimRow;rw [if_pos (Or.inr (by rw [HGD.out];exact hy0))]))
                      clear hy0
                      go_wp2
                      go_roundg (m - (a + 1))
                      case measure => have := HKa.out;omega
                      case rel => exact ⟨a + 1,by go_num,⟨by omega⟩,⟨by rw [HSM.out];exact HW.out⟩,HB⟩
                     ·have z2 : (y == 0) = false := by simpa using hy0
                      obtain ⟨er,her⟩ : ∃ z,z = elimR p y prow rowa := ⟨_,rfl⟩
                      have HER := am (show E[a]? = some er from by
                       rw [HEa.out,her];unfold elimRow;rw [if_neg (by intro h;rcases h with h|h;exact har h;exact hy0 (by rw [← HGD.out];exact h)),HGD.out])
                      have HEL2 := am (show er.length = rowa.length from by rw [her];exact elimR_len (by rw [HPN.out];exact HRN.out.symm))
                      have HEV := am (show ∀ j (h1 : j < rowa.length) (h2 : j < prow.length),er[j]? = some ((rowa[j] - y * prow[j] % p) % p) from by intro j h1 h2;rw [her];exact elimR_at h1 h2)
                      have HNE := am har
                      have HNP := am (show (part E rs2 a).set a er = part E rs2 (a + 1) from by
                       have hae : a < E.length := by rw [HEL.out];exact ha2
                       have e3 : E[a] = er := by have := HER.out;rw [List.getElem?_eq_getElem hae] at this;exact Option.some.inj this
                       rw [← e3];exact part_set HEL.out ha2)
                      have HAL := am hal
                      have HW6 := am (show Wk wr w.heap.size bw p (.slice (some ⟨bo,0,none⟩) m co) vs1 ((part E rs2 a).set a (part er rowa 0)) (.slice Ap ps.length cp) ps d2 from by
                       rw [part_zero,set_at HPT.out];exact HW.out)
                      have hcb := HW.out.ahead HV.out
                      clear her hy0 har HW HEa HEA HOA HGD H2P
                      go_wp2
                      go_loopg [215] n (fun kq v215 w' => ∃ (j : Nat),v215 = .int .i64 (j : Int) ∧ Aside0 (kq + j = n) ∧ Aside0 (Wk w' w.heap.size bw p (.slice (some ⟨bo,0,none⟩) m co) vs1 ((part E rs2 a).set a (part er rowa j)) (.slice Ap ps.length cp) ps d2) ∧ Aside0 (Below w.heap.size w w'))
                      case atStart => exact ⟨0,rfl,⟨rfl⟩,HW6,HB⟩
                      case round =>
                       as_aux_lemma =>
                        clear HW6 HB hc1 hc3 hc4 hcb q1 q2 z1 z2
                        obtain ⟨j,rfl,HKj,HW,HB⟩ := hrel
                        have HPP := am (show ((part E rs2 a).set a (part er rowa j))[a]? = some (part er rowa j) from List.getElem?_set_self HAL.out)
                        by_cases hjn : j < n
                        ·have q1 : ((j : Int) < (n : Int)) = True := eq_true (by omega)
                         have q2 : decide (j < n) = true := decide_eq_true hjn
                         have q4 : ((0 : Int) ≤ (j : Int)) = True := eq_true (by omega)
                         have hjr : j < rowa.length := by rw [HRN.out];exact hjn
                         have hjp : j < prow.length := by rw [HPN.out];exact hjn
                         have hpl : (part er rowa j).length = rowa.length := part_len HEL2.out (by omega)
                         have hd4 := HW.out.rcell HVA.out HPP.out (show j < (part er rowa j).length by omega)
                         have hpj : (part er rowa j)[j]'(by omega) = rowa[j] := by
                          have := part_at HEL2.out hjr
                          rw [List.getElem?_eq_getElem (by omega)] at this
                          exact Option.some.inj this
                         rw [hpj] at hd4
                         have hd5 := HW.out.rcell HV.out (show ((part E rs2 a).set a (part er rowa j))[ps.length]? = some prow from by rw [List.getElem?_set_ne HNE.out];exact HPQ.out) hjp
                         have HY1 := am (show Res p rowa[j] from HRA.out _ (List.getElem_mem _))
                         have HY2 := am (show Res p prow[j] from HPR.out _ (List.getElem_mem _))
                         have hev := HEV.out j hjr hjp
                         have HNX := am (show (part er rowa j).set j (er[j]'(by rw [HEL2.out];exact hjr)) = part er rowa (j + 1) from part_set HEL2.out hjr)
                         have hee : er[j]'(by rw [HEL2.out];exact hjr) = (rowa[j] - y * prow[j] % p) % p := by
                          rw [List.getElem?_eq_getElem (by rw [HEL2.out];exact hjr)] at hev
                          exact Option.some.inj hev
                         rw [hee] at HNX
                         obtain ⟨u,hu⟩ : ∃ u,u = rowa[j] := ⟨_,rfl⟩
                         obtain ⟨v,hvv⟩ : ∃ v,v = prow[j] := ⟨_,rfl⟩
                         rw [← hu] at hd4 HY1 HNX
                         rw [← hvv] at hd5 HY2 HNX
                         obtain ⟨k3,hk3⟩ := (mul_ev HP.out HY.out HY2.out).rounds
                         obtain ⟨k4,hk4⟩ := (sub_ev HP.out HY1.out (Res.mod HP.out (y * v))).rounds
                         obtain ⟨t1,ht1⟩ : ∃ z,z = y * v % p := ⟨_,rfl⟩
                         rw [← ht1] at hk3 hk4 HNX
                         obtain ⟨t2,ht2⟩ : ∃ z,z = (u - t1) % p := ⟨_,rfl⟩
                         rw [← ht2] at hk4 HNX
                         have HK3 := am hk3
                         have HK4 := am hk4
                         have hf4 := HW.out.rfz HVA.out HPP.out j
                         clear hpj hee hev hu hvv hk3 hk4 ht1 ht2 hjr hjp hpl
                         go_wp2
                         refine start_ (n := 14) (S := (fun w' => w'.cell? ⟨ba,j,none⟩ = some (.int .u64 u))) (ds := [13]) (bz 14 0) (by kernel_rfl) rfl rfl hd4 (fun hHeld => ?_)
                         refine pu 0 220 (bz 14 1) ?_
                         refine pu 1 221 (bz 14 3) ?_
                         refine pu 2 222 (bz 14 7) ?_
                         refine pu 3 223 (bz 14 15) ?_
                         refine pu 4 224 (bz 14 31) ?_
                         refine pu 5 225 (bz 14 63) ?_
                         refine tu 6 226 (bz 14 127) hHeld ?_
                         refine pu 7 227 (bz 14 255) ?_
                         refine pu 8 228 (bz 14 511) ?_
                         refine pu 9 229 (bz 14 1023) ?_
                         refine one_ (i := 10) (N := some 230) (bz 14 2047) rfl rfl (by kernel_rfl) (by decide) (fun K hK => ?_)
                         refine goes_ Try.func27 (by kernel_rfl) rfl #[.int .u64 p,.int .u64 y,.int .u64 v] (by rfl) rfl rfl (by (try simp only [List.map_toArray,List.map_cons,List.map_nil]);first|done|rfl) ?_
                         with_reducible refine (field_Mul.calls k3 p y v t1 _ HK3.out).mono ?_
                         rintro e w' ⟨rfl,⟨nd,rfl⟩⟩
                         refine ⟨_,rfl,?_⟩
                         refine hK.out _ _ hd4 (fun hHeld => ?_)
                         clear hK K
                         refine nm 230 ?_
                         refine one_ (i := 11) (N := some 231) (bz 14 4095) rfl rfl (by kernel_rfl) (by decide) (fun K hK => ?_)
                         refine goes_ Try.func44 (by kernel_rfl) rfl #[.int .u64 p,.int .u64 u,.int .u64 t1] (by rfl) rfl rfl (by (try simp only [List.map_toArray,List.map_cons,List.map_nil]);first|done|rfl) ?_
                         with_reducible refine (field_Sub.calls k4 p u t1 t2 _ HK4.out).mono ?_
                         rintro e w' ⟨rfl,⟨nd2,rfl⟩⟩
                         refine ⟨_,rfl,?_⟩
                         refine hK.out _ _ hd4 (fun hHeld => ?_)
                         clear hK K
                         refine nm 231 ?_
                         refine pu 12 232 (bz 14 8191) ?_
                         refine last_ (i := 13) (N := none) (bz 14 16383) rfl rfl (by kernel_rfl) (by decide) (fun K hK => ?_)
                         refine skip_ (w1 := ?_) (by rfl) rfl ?_ ?_
                         rotate_left
                         ·go_simp
                          rfl
                         refine hK.out _ _ ?_
                         clear hK K
                         refine done_ (by kernel_rfl) ?_
                         have HW5 := am (show Wk ((wr.drewN (1 + nd + nd2)).setCell ⟨ba,j,none⟩ (.int .u64 t2)) w.heap.size bw p (.slice (some ⟨bo,0,none⟩) m co) vs1 ((part E rs2 a).set a (part er rowa (j + 1))) (.slice Ap ps.length cp) ps d2 from by
                          have := (HW.out.below (pw_below_drewN (Below.refl _ _) (1 + nd + nd2))).setRow HVA.out HPP.out j t2
                          rw [List.set_set,HNX.out] at this
                          exact this)
                         have HB5 := am (show Below w.heap.size w ((wr.drewN (1 + nd + nd2)).setCell ⟨ba,j,none⟩ (.int .u64 t2)) from (pw_below_drewN HB.out (1 + nd + nd2)).setCell (p := ⟨ba,j,none⟩) hba _)
                         go_wp2
                         go_roundg (n - (j + 1))
                         case measure => have := HKj.out;omega
                         case rel => exact ⟨j + 1,by go_num,⟨by omega⟩,HW5,HB5⟩
                        ·have q1 : ((j : Int) < (n : Int)) = False := eq_false (by omega)
                         have q2 : decide (j < n) = false := decide_eq_false hjn
                         have HF := am (show (part E rs2 a).set a (part er rowa j) = part E rs2 (a + 1) from by
                          have e : j = rowa.length := by rw [HRN.out];have := HKj.out;omega
                          rw [e,part_all HEL2.out,HNP.out])
                         rw [HF.out] at HW
                         clear HPP HF HKj
                         go_wp2
                         go_roundg (m - (a + 1))
                         case measure => have := HKa.out;omega
                         case rel => exact ⟨a + 1,by go_num,⟨by omega⟩,HW,HB⟩
                   ·have q1 : ((a : Int) < (m : Int)) = False := eq_false (by omega)
                    have q2 : decide (a < m) = false := decide_eq_false ham
                    have HF := am (show part E rs2 a = E from by
                     have e : a = rs2.length := by rw [H2L.out];have := HKa.out;omega
                     rw [e,part_all HEL.out])
                    rw [HF.out] at HW
                    clear HF HKa
                    have hc2 := HW.out.c2
                    have HPI := am (show Kd.R (Kd.int .i64) 3 wr w.heap.size (fun _ => True) (.slice Ap ps.length cp) ps from Kd.R_of_own HW.out.piv (fun _ _ => trivial))
                    have hpl : ps.length ≤ 1000 := by omega
                    go_wp2_with (first|((with_reducible refine gate_builtin (b := .append) (xs := #[.tmp 239,.tmp 241]) rfl ?_);at_builtin;refine Kd.R_append (Kd.int .i64) (w0 := w) w.heap.size rfl (.tmp 239) (.tmp 241) 31 3 (.int .i64 0) 8 rfl Try.underlying31 info3 rfl (by decide) (by omega) (.slice Ap ps.length cp) ps (i : Int) [.int .i64 (i : Int)] (fun _ => True) (fun _ => False) rfl rfl ?aP (fun _ hk => hk.elim) ?aF ?aO ?aB ?aS ?aL ?_;(case aP => exact rfl);(case aB => exact HB.out);(case aF => exact (fun _ _ => trivial));(case aO => exact HPI.out);(case aS => exact (below_size HB.out));(case aL => omega);intro v8 w8 ho hb hg hat;have hpv := Kd.own_of_R ho;obtain ⟨A8,c8,ev8⟩ := Kd.R_slice ho;subst ev8;have HW8 := am (show Wk (w8.setCell ⟨bw,2,none⟩ (.slice A8 (ps.length + 1) c8)) w.heap.size bw p (.slice (some ⟨bo,0,none⟩) m co) vs1 E (.slice A8 (ps.length + 1) c8) (ps ++ [(i : Int)]) d2 from by have h9 := HW.out.push hg hpv;rw [List.length_append] at h9;exact h9);have HB8 := am hb;have hb8 : w8.cell? ⟨bw,2,none⟩ = some (.slice Ap ps.length cp) := hg.cell hc2 (by intro e;exact own_ne0 HW.out.piv HW.out.box (by decide) bw e.symm rfl);have hfr8 : w8.frozen? ⟨bw,2,none⟩ = false := (World.frozen?_of_block (hg.block bw (blk_lt HW.out.box) (by intro e;exact own_ne0 HW.out.piv HW.out.box (by decide) bw e.symm rfl))).trans (HW.out.fz 2);have HBW := am HW.out.hbw;clear HPI HW ho hb hg hat hpv hc2))
                    go_roundg (k - (i + 1))
                    case measure => have := HK.out;omega
                    case rel => exact ⟨i + 1,vs1,.slice A8 (ps.length + 1) c8,by go_num,⟨by omega⟩,⟨by rw [HS.out,HST.out,← HM.out];exact HW8.out⟩,⟨HB8.out.setCell (p := ⟨bw,2,none⟩) HBW.out _⟩⟩
      ·have g0 : decide (i < k) = false := decide_eq_false hik
       have g1 : ((i : Int) < (k : Int)) = False := eq_false (by omega)
       have HE := am (show i = k from by have := HK.out;omega)
       clear HK
       go_wp2
       first|go_ret|((try simp only [Exit.inBlock,Exit.then]);refine bodyPost_ret (results_tmp rfl _ _ _) rfl ?_)
       rw [HE.out] at HW
       exact ⟨⟨bw,_,vs,pv,rfl,HW.out⟩,HB.out⟩
end Go.Proofs.Ytmdoaijkaaaglaa.Hw
end
section
namespace Go.Proofs.Ytmdoaijkaaaglaa.Pr
open Go.RowKit Go.Proofs.YtmdoaijkaaaglaaW.PrintWords Go.Proofs.YtmdoaijkaaaglaaW.PrintLast Go.Proofs.YtmdoaijkaaaglaaW.PrintMore
attribute [local go_sem] max2_int min2_int max_two min_two max_three min_three max_four min_four
open Go.Proofs.Ytmdoaijkaaaglaa.Hw
def matrix_cols.f (l0 : List (List Int)) : Option (Int) := if (l0.length : Int) = 0 then (some 0) else (if 0 < (l0.length : Int) then (some ((rd_L2 l0 0).length : Int)) else (none))
set_option maxHeartbeats 8000000 in
set_option maxRecDepth 100000 in
theorem matrix_cols.calls (A0 : Option Addr) (c0 : Nat) (l0 : List (List Int)) (r : Int) (w : World) (hr0 : Kd.C (Kd.slice 22 (Kd.int .u64)) w A0 l0.length l0) (hc0 : l0.length ≤ c0) (h : matrix_cols.f l0 = some r) :
  Calls Try.prog 56 #[.slice A0 l0.length c0] w fun e w' => e = .returned (.int .i64 r) ∧ Drawn0 w w' := by
 have HR0 := am hr0
 have HC0 := am hc0
 clear hr0 hc0
 have H : (if (l0.length : Int) = 0 then (some 0) else (if 0 < (l0.length : Int) then (some ((rd_L2 l0 0).length : Int)) else (none))) = some r := h
 clear h
 by_cases c2 : (l0.length : Int) = 0
 ·rw [if_pos c2] at H
  have c2b0 : ((l0.length : Int) == 0) = true := beq_iff_eq.mpr c2
  have c2b1 : ((l0.length : Int) != 0) = false := bne_eq_false_iff_eq.mpr c2
  clear c2
  obtain rfl := Option.some.inj H
  go_enter Try.func56,Try.ntmps56
  go_wp2
  go_ret
  exact ⟨by first|rfl|(simp;done)|(simp [*];done),by repeat (first|exact Drawn0.refl _|apply Drawn0.step)⟩
 ·rw [if_neg c2] at H
  have c2b0 : ((l0.length : Int) == 0) = false := beq_eq_false_iff_ne.mpr c2
  have c2b1 : ((l0.length : Int) != 0) = true := bne_iff_ne.mpr c2
  have c2b2 : ¬ (l0 = []) := fun h_ => c2 (by rw [h_];rfl)
  by_cases c3 : 0 < (l0.length : Int)
  ·rw [if_pos c3] at H
   have c3b0 : decide (0 < (l0.length : Int)) = true := decide_eq_true c3
   have c3b1 : decide (0 < l0.length) = true := decide_eq_true (by omega)
   clear c3
   obtain rfl := Option.some.inj H
   have p405 : 0 ≤ (0 : Int) := (by omega)
   have q405 : 0 < (l0.length : Int) := od
   obtain ⟨ad405,A405_0,c405_0,e405,hx405_0,hl405_0,hi405_0⟩ := at_L2 HR0.out 0 p405 q405
   cases e405
   have qi405 : (0 < l0.length) = True := eq_true (by omega)
   (try rw [show ((0 : Int)).toNat = 0 from rfl] at hx405_0)
   (try rw [Addr.add_zero'] at hx405_0)
   have HR405_0 := am hi405_0
   have HC405_0 := am hl405_0
   clear hi405_0 hl405_0
   replace p405 := eq_true p405
   replace q405 := eq_true q405
   go_enter Try.func56,Try.ntmps56
   go_wp2
   go_ret
   exact ⟨by first|rfl|(simp;done)|(simp [*];done),by repeat (first|exact Drawn0.refl _|apply Drawn0.step)⟩
  ·rw [if_neg c3] at H
   exact absurd H (by simp)
end Go.Proofs.Ytmdoaijkaaaglaa.Pr
end
