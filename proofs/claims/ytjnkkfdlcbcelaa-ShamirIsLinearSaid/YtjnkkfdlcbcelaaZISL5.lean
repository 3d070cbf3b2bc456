/- Part 5 of the proof's texts, joined in build order. -/
import Derived.Test.YtjnkkfdlcbcelaaZISL4
import Derived.Test.YtjnkkfdlcbcelaaZISL1
import Derived.Deep.RegionHeld3
import Derived.Test.YtjnkkfdlcbcelaaProg
import Derived.MapKept
import Derived.Maps.Own
import Derived.Test.YtjnkkfdlcbcelaaZISL0
set_option linter.unusedVariables false
set_option linter.unusedSimpArgs false
section
namespace Go.Proofs.Ytjnkkfdlcbcelaa.Hw
open Go.RowKit Go.Proofs.Ytjnkkfdlcbcelaa.Pr Go.Proofs.YtjnkkfdlcbcelaaW.PrintWords Go.Proofs.YtjnkkfdlcbcelaaW.PrintLast Go.Proofs.YtjnkkfdlcbcelaaW.PrintMore Go.Proofs.Ytjnkkfdlcbcelaa.E
def lagStep (p a x : Int) (s : Int × Int) (o : Int) : Int × Int := (s.1 * ((a - o) % p) % p,s.2 * ((x - o) % p) % p)
def lagS (p a : Int) (xs : List Int) (i : Nat) : Int × Int := (othersN xs i xs.length).foldl (lagStep p a (rd xs i)) (1,1)
theorem lag_fold {p : Int} (hp : Supp p) {a x : Int} (hx : Res p x) : ∀ (l : List Int) (s : Int × Int),(∀ o ∈ l,Res p o) → Res p s.1 → Res p s.2 →
  Res p (l.foldl (lagStep p a x) s).1 ∧ Res p (l.foldl (lagStep p a x) s).2 ∧ ((∀ o ∈ l,x ≠ o) → s.2 ≠ 0 → (l.foldl (lagStep p a x) s).2 ≠ 0)
 | [],s,_,h1,h2 => ⟨h1,h2,fun _ h => h⟩
 | o :: l,s,hl,h1,h2 => by
  have ih := lag_fold hp (a := a) hx l (lagStep p a x s o) (fun y hy => hl y (List.mem_cons_of_mem _ hy)) (Res.mod hp _) (Res.mod hp _)
  refine ⟨ih.1,ih.2.1,fun hne h0 => ih.2.2 (fun y hy => hne y (List.mem_cons_of_mem _ hy)) ?_⟩
  exact mul_ne' hp h2 h0 (Res.mod hp _) (sub_ne' hp hx (hl o (by simp)) (hne o (by simp)))
theorem othersN_mem {xs : List Int} {i : Nat} : ∀ {n : Nat} {o : Int},o ∈ othersN xs i n → ∃ j,j < n ∧ j ≠ i ∧ o = rd xs j
 | 0,o,h => by cases h
 | n + 1,o,h => by
  unfold othersN at h
  split at h
  ·obtain ⟨j,h1,h2⟩ := othersN_mem h;exact ⟨j,by omega,h2⟩
  ·rcases List.mem_append.1 h with h|h
   ·obtain ⟨j,h1,h2⟩ := othersN_mem h;exact ⟨j,by omega,h2⟩
   ·exact ⟨n,by omega,by assumption,by simpa using h⟩
theorem lagS_ok {p : Int} (hp : Supp p) {a : Int} {xs : List Int} (hx : ∀ x ∈ xs,Res p x) (hn : xs.Nodup) (i : Nat) (hi : i < xs.length) : Res p (lagS p a xs i).1 ∧ Res p (lagS p a xs i).2 ∧ (lagS p a xs i).2 ≠ 0 := by
 have hb := hp.bd
 have h := lag_fold hp (a := a) (rd_res' hx i hi) (othersN xs i xs.length) (1,1) (fun o ho => by
  obtain ⟨j,h1,_,rfl⟩ := othersN_mem ho;exact rd_res' hx j h1) ⟨by omega,by omega⟩ ⟨by omega,by omega⟩
 refine ⟨h.1,h.2.1,h.2.2 (fun o ho => ?_) (by decide)⟩
 obtain ⟨j,h1,h2,rfl⟩ := othersN_mem ho
 rw [rd_nat,rd_nat,getD_in _ _ hi,getD_in _ _ h1]
 intro e
 rw [List.nodup_iff_pairwise_ne,List.pairwise_iff_getElem] at hn
 rcases Nat.lt_trichotomy i j with h3|h3|h3
 ·exact hn i j hi h1 h3 e
 ·exact h2 h3.symm
 ·exact hn j i h1 hi h3 e.symm
structure LagI (wr : World) (bp ba : Nat) (p a x : Int) (s : Int × Int) (w : World) : Prop where
 hp : Box w bp p
 hn : Box w (wr.heap.size + 1) s.1
 ha : Box w ba a
 hd : Box w (wr.heap.size + 1 + 1) s.2
 hx : Box w wr.heap.size x
 r1 : Res p s.1
 r2 : Res p s.2
 below : Below wr.heap.size wr w
end Go.Proofs.Ytjnkkfdlcbcelaa.Hw
end
section
namespace Go.Proofs.Ytjnkkfdlcbcelaa.Pr
open Go.RowKit Go.Proofs.YtjnkkfdlcbcelaaW.PrintWords Go.Proofs.YtjnkkfdlcbcelaaW.PrintLast Go.Proofs.YtjnkkfdlcbcelaaW.PrintMore
attribute [local go_sem] max2_int min2_int max_two min_two max_three min_three max_four min_four
open Go.Proofs.Ytjnkkfdlcbcelaa.Hw
def poly_Eval.l0 : Nat → Int → List Int → Int → Int → Int → Option (Int)
 | 0,_,_,_,_,_ => none
 | k + 1,x0,x1,x2,x7,x8 => if x8 ≥ 0 then ((field_Mul.f k x0 x7 x2).bind fun t135 => (if 0 ≤ x8 then (if x8 < (x1.length : Int) then ((field_Add.f k x0 t135 (rd x1 x8)).bind fun t137 => (poly_Eval.l0 k x0 x1 x2 t137 (wrap64 (x8 - 1)))) else (none)) else (none))) else (some x7)
def poly_Eval.f (k : Nat) (a0 : Int) (l1 : List Int) (a2 : Int) : Option (Int) := poly_Eval.l0 k a0 l1 a2 0 (wrap64 ((l1.length : Int) - 1))
theorem poly_Eval.mono_l : ∀ k,(∀ y0 y1 y2 y3 y4,LeO (poly_Eval.l0 k y0 y1 y2 y3 y4) (poly_Eval.l0 (k + 1) y0 y1 y2 y3 y4))
 | 0 => fun _ _ _ _ _ r h => by simp [poly_Eval.l0] at h
 | k + 1 => by
  have ih0 := poly_Eval.mono_l k
  ·intro y0 y1 y2 y3 y4
   unfold poly_Eval.l0
   repeat' first
   | (with_reducible exact ih0 _ _ _ _ _)
   | (with_reducible exact field_Add.mono _ _ _ _)
   | (with_reducible exact field_Mul.mono _ _ _ _)
   | (with_reducible exact LeO.refl _)
   | (with_reducible exact LeO.none _)
   | (with_reducible refine LeO.ite ?_ ?_)
   | (with_reducible refine LeO.bind ?_ (fun _ => ?_))
   | exact ih0 _ _ _ _ _
   | exact field_Add.mono _ _ _ _
   | exact field_Mul.mono _ _ _ _
   | exact LeO.none _
   | refine LeO.ite ?_ ?_
   | refine LeO.bind ?_ (fun _ => ?_)
theorem poly_Eval.mono : ∀ a0 a1 a2 k,LeO (poly_Eval.f k a0 a1 a2) (poly_Eval.f (k + 1) a0 a1 a2) := by
 intro a0 a1 a2 k
 have ih0 := poly_Eval.mono_l k
 unfold poly_Eval.f
 repeat' first
   | (with_reducible exact ih0 _ _ _ _ _)
   | (with_reducible exact field_Add.mono _ _ _ _)
   | (with_reducible exact field_Mul.mono _ _ _ _)
   | (with_reducible exact LeO.refl _)
   | (with_reducible exact LeO.none _)
   | (with_reducible refine LeO.ite ?_ ?_)
   | (with_reducible refine LeO.bind ?_ (fun _ => ?_))
   | exact ih0 _ _ _ _ _
   | exact field_Add.mono _ _ _ _
   | exact field_Mul.mono _ _ _ _
   | exact LeO.none _
   | refine LeO.ite ?_ ?_
   | refine LeO.bind ?_ (fun _ => ?_)
set_option maxHeartbeats 8000000 in
set_option maxRecDepth 100000 in
theorem poly_Eval.calls (k : Nat) (a0 : Int) (A1 : Option Addr) (c1 : Nat) (l1 : List Int) (a2 : Int) (r : Int) (w : World) (hr1 : Kd.C (Kd.int .u64) w A1 l1.length l1) (hc1 : l1.length ≤ c1) (h : poly_Eval.f k a0 l1 a2 = some r) :
  Calls Try.prog 37 #[.int .u64 a0,.slice A1 l1.length c1,.int .u64 a2] w fun e w' => e = .returned (.int .u64 r) ∧ Drawn0 w w' := by
 have HR1 := am hr1
 have HC1 := am hc1
 clear hr1 hc1
 have H : (poly_Eval.l0 k a0 l1 a2 0 (wrap64 ((l1.length : Int) - 1))) = some r := h
 clear h
 have H' := am H
 clear H
 go_enter Try.func37,Try.ntmps37
 go_wp2
 repeat (go_quiet (fail);try go_wp2)
 go_loopg [7,8] k (fun kq v7 v8 w' => ∃ (x7_1 : Int) (x8_1 : Int),v7 = .int .u64 x7_1 ∧ v8 = .int .i64 x8_1 ∧ Aside0 (poly_Eval.l0 kq a0 l1 a2 x7_1 x8_1 = some r) ∧ Aside0 (kq ≤ k) ∧ Drawn0 w w')
 case atStart => exact ⟨(0),(wrap64 ((l1.length : Int) - 1)),(by first|rfl|(simp;done)|(simp [*];done)),(by first|rfl|(simp;done)|(simp [*];done)),H',⟨Nat.le_refl _⟩,by repeat (first|exact Drawn0.refl _|apply Drawn0.step)⟩
 case round =>
  clear H'
  try clear c1
  try clear p2
  try clear c3
  obtain ⟨x7_1,x8_1,rfl,rfl,HA,HK1,⟨m1,rfl⟩⟩ := hrel
  cases gk with
  | zero => exact absurd HA.out (by simp [poly_Eval.l0])
  | succ k1 =>
   have H := HA.out
   clear HA
   simp only [poly_Eval.l0] at H
   by_cases c4 : x8_1 ≥ 0
   ·rw [if_pos c4] at H
    have c4b0 : decide (0 ≤ x8_1) = true := decide_eq_true c4
    clear c4
    replace H := Option.bind_eq_some_iff.mp H
    obtain ⟨t135,A50,H⟩ := H
    try dsimp only at H
    have A5 := am A50
    clear A50
    by_cases c6 : 0 ≤ x8_1
    ·rw [if_pos c6] at H
     have c6b0 : decide (0 ≤ x8_1) = true := decide_eq_true c6
     clear c6
     by_cases c7 : x8_1 < (l1.length : Int)
     ·rw [if_pos c7] at H
      have c7b0 : decide (x8_1 < (l1.length : Int)) = true := decide_eq_true c7
      clear c7
      replace H := Option.bind_eq_some_iff.mp H
      obtain ⟨t137,A80,H⟩ := H
      try dsimp only at H
      have A8 := am A80
      clear A80
      have H' := am H
      clear H
      go_wp2_with (first|(go_at_call 27;(with_reducible refine (field_Mul.calls k1 a0 x7_1 a2 t135 _ A5.out).mono ?_);rintro e w' ⟨rfl,⟨nd,rfl⟩⟩;(try first|exact ⟨rfl,_,World.drewN_drewN _ _ _⟩|exact ⟨rfl,_,Eq.trans (World.drewN_drewN _ _ _) (congrArg (World.drewN _) (Nat.add_assoc _ _ _))⟩);have p136 : 0 ≤ (x8_1 : Int) := od;have q136 : x8_1 < (l1.length : Int) := od;obtain ⟨ad136,e136,hx136_0⟩ := Kd.at_int HR1.out x8_1 p136 q136;cases e136;replace p136 := eq_true p136;replace q136 := eq_true q136)|(go_at_call 26;(with_reducible refine (field_Add.calls k1 a0 t135 (rd l1 x8_1) t137 _ A8.out).mono ?_);rintro e w' ⟨rfl,⟨nd,rfl⟩⟩;(try first|exact ⟨rfl,_,World.drewN_drewN _ _ _⟩|exact ⟨rfl,_,Eq.trans (World.drewN_drewN _ _ _) (congrArg (World.drewN _) (Nat.add_assoc _ _ _))⟩)))
      repeat (go_quiet (first|(go_at_call 27;(with_reducible refine (field_Mul.calls k1 a0 x7_1 a2 t135 _ A5.out).mono ?_);rintro e w' ⟨rfl,⟨nd,rfl⟩⟩;(try first|exact ⟨rfl,_,World.drewN_drewN _ _ _⟩|exact ⟨rfl,_,Eq.trans (World.drewN_drewN _ _ _) (congrArg (World.drewN _) (Nat.add_assoc _ _ _))⟩);have p136 : 0 ≤ (x8_1 : Int) := od;have q136 : x8_1 < (l1.length : Int) := od;obtain ⟨ad136,e136,hx136_0⟩ := Kd.at_int HR1.out x8_1 p136 q136;cases e136;replace p136 := eq_true p136;replace q136 := eq_true q136)|(go_at_call 26;(with_reducible refine (field_Add.calls k1 a0 t135 (rd l1 x8_1) t137 _ A8.out).mono ?_);rintro e w' ⟨rfl,⟨nd,rfl⟩⟩;(try first|exact ⟨rfl,_,World.drewN_drewN _ _ _⟩|exact ⟨rfl,_,Eq.trans (World.drewN_drewN _ _ _) (congrArg (World.drewN _) (Nat.add_assoc _ _ _))⟩)));try go_wp2_with (first|(go_at_call 27;(with_reducible refine (field_Mul.calls k1 a0 x7_1 a2 t135 _ A5.out).mono ?_);rintro e w' ⟨rfl,⟨nd,rfl⟩⟩;(try first|exact ⟨rfl,_,World.drewN_drewN _ _ _⟩|exact ⟨rfl,_,Eq.trans (World.drewN_drewN _ _ _) (congrArg (World.drewN _) (Nat.add_assoc _ _ _))⟩);have p136 : 0 ≤ (x8_1 : Int) := od;have q136 : x8_1 < (l1.length : Int) := od;obtain ⟨ad136,e136,hx136_0⟩ := Kd.at_int HR1.out x8_1 p136 q136;cases e136;replace p136 := eq_true p136;replace q136 := eq_true q136)|(go_at_call 26;(with_reducible refine (field_Add.calls k1 a0 t135 (rd l1 x8_1) t137 _ A8.out).mono ?_);rintro e w' ⟨rfl,⟨nd,rfl⟩⟩;(try first|exact ⟨rfl,_,World.drewN_drewN _ _ _⟩|exact ⟨rfl,_,Eq.trans (World.drewN_drewN _ _ _) (congrArg (World.drewN _) (Nat.add_assoc _ _ _))⟩))))
      go_roundg k1
      case measure => have := HK1.out;omega
      case rel => exact ⟨(t137),(wrap64 (x8_1 - 1)),(by first|rfl|(simp;done)|(simp [*];done)),(by first|rfl|(simp;done)|(simp [*];done)),H',⟨by have := HK1.out;omega⟩,by repeat (first|exact Drawn0.refl _|apply Drawn0.step)⟩
     ·rw [if_neg c7] at H
      exact absurd H (by simp)
    ·rw [if_neg c6] at H
     exact absurd H (by simp)
   ·rw [if_neg c4] at H
    have c4b0 : decide (0 ≤ x8_1) = false := decide_eq_false c4
    clear c4
    obtain rfl := Option.some.inj H
    go_wp2
    repeat (go_quiet (fail);try go_wp2)
    go_ret
    exact ⟨by first|rfl|(simp;done)|(simp [*];done),by repeat (first|exact Drawn0.refl _|apply Drawn0.step)⟩
def poly_Coefficient.f (l0 : List Int) (a1 : Int) : Option (Int) := if a1 < 0 then (some 0) else (if a1 ≥ (l0.length : Int) then (some 0) else (if 0 ≤ a1 then (if a1 < (l0.length : Int) then (some (rd l0 a1)) else (none)) else (none)))
set_option maxHeartbeats 8000000 in
set_option maxRecDepth 100000 in
theorem poly_Coefficient.calls (A0 : Option Addr) (c0 : Nat) (l0 : List Int) (a1 : Int) (r : Int) (w : World) (hr0 : Kd.C (Kd.int .u64) w A0 l0.length l0) (hc0 : l0.length ≤ c0) (h : poly_Coefficient.f l0 a1 = some r) :
  Calls Try.prog 41 #[.slice A0 l0.length c0,.int .i64 a1] w fun e w' => e = .returned (.int .u64 r) ∧ Drawn0 w w' := by
 have HR0 := am hr0
 have HC0 := am hc0
 clear hr0 hc0
 have H : (if a1 < 0 then (some 0) else (if a1 ≥ (l0.length : Int) then (some 0) else (if 0 ≤ a1 then (if a1 < (l0.length : Int) then (some (rd l0 a1)) else (none)) else (none)))) = some r := h
 clear h
 by_cases c3 : a1 < 0
 ·rw [if_pos c3] at H
  have c3b0 : decide (a1 < 0) = true := decide_eq_true c3
  clear c3
  obtain rfl := Option.some.inj H
  go_enter Try.func41,Try.ntmps41
  go_wp2
  go_ret
  exact ⟨by first|rfl|(simp;done)|(simp [*];done),by repeat (first|exact Drawn0.refl _|apply Drawn0.step)⟩
 ·rw [if_neg c3] at H
  have c3b0 : decide (a1 < 0) = false := decide_eq_false c3
  clear c3
  by_cases c4 : a1 ≥ (l0.length : Int)
  ·rw [if_pos c4] at H
   have c4b0 : decide ((l0.length : Int) ≤ a1) = true := decide_eq_true c4
   clear c4
   obtain rfl := Option.some.inj H
   go_enter Try.func41,Try.ntmps41
   go_wp2
   go_ret
   exact ⟨by first|rfl|(simp;done)|(simp [*];done),by repeat (first|exact Drawn0.refl _|apply Drawn0.step)⟩
  ·rw [if_neg c4] at H
   have c4b0 : decide ((l0.length : Int) ≤ a1) = false := decide_eq_false c4
   clear c4
   by_cases c5 : 0 ≤ a1
   ·rw [if_pos c5] at H
    have c5b0 : decide (0 ≤ a1) = true := decide_eq_true c5
    clear c5
    by_cases c6 : a1 < (l0.length : Int)
    ·rw [if_pos c6] at H
     have c6b0 : decide (a1 < (l0.length : Int)) = true := decide_eq_true c6
     clear c6
     obtain rfl := Option.some.inj H
     have p138 : 0 ≤ (a1 : Int) := od
     have q138 : a1 < (l0.length : Int) := od
     obtain ⟨ad138,e138,hx138_0⟩ := Kd.at_int HR0.out a1 p138 q138
     cases e138
     replace p138 := eq_true p138
     replace q138 := eq_true q138
     go_enter Try.func41,Try.ntmps41
     go_wp2
     go_ret
     exact ⟨by first|rfl|(simp;done)|(simp [*];done),by repeat (first|exact Drawn0.refl _|apply Drawn0.step)⟩
    ·rw [if_neg c6] at H
     exact absurd H (by simp)
   ·rw [if_neg c5] at H
    exact absurd H (by simp)
def privityref05_Same.l0 : Nat → List Int → List Int → Int → Option (Bool)
 | 0,_,_,_ => none
 | k + 1,x0,x1,x5 => if x5 < (x0.length : Int) then (if 0 ≤ x5 then (if x5 < (x1.length : Int) then (if (rd x0 x5) = (rd x1 x5) then (privityref05_Same.l0 k x0 x1 (wrap64 (x5 + 1))) else (some false)) else (none)) else (none)) else (some true)
def privityref05_Same.f (k : Nat) (l0 : List Int) (l1 : List Int) : Option (Bool) := if (l0.length : Int) = (l1.length : Int) then (privityref05_Same.l0 k l0 l1 0) else (some false)
theorem privityref05_Same.mono_l : ∀ k,(∀ y0 y1 y2,LeO (privityref05_Same.l0 k y0 y1 y2) (privityref05_Same.l0 (k + 1) y0 y1 y2))
 | 0 => fun _ _ _ r h => by simp [privityref05_Same.l0] at h
 | k + 1 => by
  have ih0 := privityref05_Same.mono_l k
  ·intro y0 y1 y2
   unfold privityref05_Same.l0
   repeat' first
   | (with_reducible exact ih0 _ _ _)
   | (with_reducible exact LeO.refl _)
   | (with_reducible exact LeO.none _)
   | (with_reducible refine LeO.ite ?_ ?_)
   | (with_reducible refine LeO.bind ?_ (fun _ => ?_))
   | exact ih0 _ _ _
   | exact LeO.none _
   | refine LeO.ite ?_ ?_
   | refine LeO.bind ?_ (fun _ => ?_)
theorem privityref05_Same.mono : ∀ a0 a1 k,LeO (privityref05_Same.f k a0 a1) (privityref05_Same.f (k + 1) a0 a1) := by
 intro a0 a1 k
 have ih0 := privityref05_Same.mono_l k
 unfold privityref05_Same.f
 repeat' first
   | (with_reducible exact ih0 _ _ _)
   | (with_reducible exact LeO.refl _)
   | (with_reducible exact LeO.none _)
   | (with_reducible refine LeO.ite ?_ ?_)
   | (with_reducible refine LeO.bind ?_ (fun _ => ?_))
   | exact ih0 _ _ _
   | exact LeO.none _
   | refine LeO.ite ?_ ?_
   | refine LeO.bind ?_ (fun _ => ?_)
set_option maxHeartbeats 8000000 in
set_option maxRecDepth 100000 in
theorem privityref05_Same.calls (k : Nat) (A0 : Option Addr) (c0 : Nat) (l0 : List Int) (A1 : Option Addr) (c1 : Nat) (l1 : List Int) (r : Bool) (w : World) (hr0 : Kd.C (Kd.int .u64) w A0 l0.length l0) (hc0 : l0.length ≤ c0) (hr1 : Kd.C (Kd.int .u64) w A1 l1.length l1) (hc1 : l1.length ≤ c1) (h : privityref05_Same.f k l0 l1 = some r) :
  Calls Try.prog 31 #[.slice A0 l0.length c0,.slice A1 l1.length c1] w fun e w' => e = .returned (.bool r) ∧ Drawn0 w w' := by
 have HR0 := am hr0
 have HC0 := am hc0
 clear hr0 hc0
 have HR1 := am hr1
 have HC1 := am hc1
 clear hr1 hc1
 have H : (if (l0.length : Int) = (l1.length : Int) then (privityref05_Same.l0 k l0 l1 0) else (some false)) = some r := h
 clear h
 by_cases c3 : (l0.length : Int) = (l1.length : Int)
 ·rw [if_pos c3] at H
  have c3b0 : ((l0.length : Int) == (l1.length : Int)) = true := beq_iff_eq.mpr c3
  have c3b1 : ((l0.length : Int) != (l1.length : Int)) = false := bne_eq_false_iff_eq.mpr c3
  have c3b2 : (l0.length == l1.length) = true := by first|simpa using c3|(simp at c3 ⊢;omega)
  clear c3
  have H' := am H
  clear H
  go_enter Try.func31,Try.ntmps31
  go_wp2
  repeat (go_quiet (fail);try go_wp2)
  go_loopg [5] k (fun kq v5 w' => ∃ (x5_1 : Int),v5 = .int .i64 x5_1 ∧ Aside0 (privityref05_Same.l0 kq l0 l1 x5_1 = some r) ∧ Aside0 (kq ≤ k) ∧ Drawn0 w w')
  case atStart => exact ⟨(0),(by first|rfl|(simp;done)|(simp [*];done)),H',⟨Nat.le_refl _⟩,by repeat (first|exact Drawn0.refl _|apply Drawn0.step)⟩
  case round =>
   clear H'
   try clear c1
   try clear p2
   try clear c3
   try clear c3b0
   try clear c3b1
   try clear c3b2
   obtain ⟨x5_1,rfl,HA,HK1,⟨m1,rfl⟩⟩ := hrel
   cases gk with
   | zero => exact absurd HA.out (by simp [privityref05_Same.l0])
   | succ k1 =>
    have H := HA.out
    clear HA
    simp only [privityref05_Same.l0] at H
    by_cases c4 : x5_1 < (l0.length : Int)
    ·rw [if_pos c4] at H
     have c4b0 : decide (x5_1 < (l0.length : Int)) = true := decide_eq_true c4
     clear c4
     by_cases c5 : 0 ≤ x5_1
     ·rw [if_pos c5] at H
      have c5b0 : decide (0 ≤ x5_1) = true := decide_eq_true c5
      clear c5
      by_cases c6 : x5_1 < (l1.length : Int)
      ·rw [if_pos c6] at H
       have c6b0 : decide (x5_1 < (l1.length : Int)) = true := decide_eq_true c6
       clear c6
       by_cases c7 : (rd l0 x5_1) = (rd l1 x5_1)
       ·rw [if_pos c7] at H
        have c7b0 : ((rd l0 x5_1) == (rd l1 x5_1)) = true := beq_iff_eq.mpr c7
        have c7b1 : ((rd l0 x5_1) != (rd l1 x5_1)) = false := bne_eq_false_iff_eq.mpr c7
        clear c7
        have H' := am H
        clear H
        have p139 : 0 ≤ (x5_1 : Int) := od
        have q139 : x5_1 < (l0.length : Int) := od
        obtain ⟨ad139,e139,hx139_0⟩ := Kd.at_int HR0.out x5_1 p139 q139
        cases e139
        replace p139 := eq_true p139
        replace q139 := eq_true q139
        have p140 : 0 ≤ (x5_1 : Int) := od
        have q140 : x5_1 < (l1.length : Int) := od
        obtain ⟨ad140,e140,hx140_0⟩ := Kd.at_int HR1.out x5_1 p140 q140
        cases e140
        replace p140 := eq_true p140
        replace q140 := eq_true q140
        go_wp2
        repeat (go_quiet (fail);try go_wp2)
        go_roundg k1
        case measure => have := HK1.out;omega
        case rel => exact ⟨(wrap64 (x5_1 + 1)),(by first|rfl|(simp;done)|(simp [*];done)),H',⟨by have := HK1.out;omega⟩,by repeat (first|exact Drawn0.refl _|apply Drawn0.step)⟩
       ·rw [if_neg c7] at H
        have c7b0 : ((rd l0 x5_1) == (rd l1 x5_1)) = false := beq_eq_false_iff_ne.mpr c7
        have c7b1 : ((rd l0 x5_1) != (rd l1 x5_1)) = true := bne_iff_ne.mpr c7
        obtain rfl := Option.some.inj H
        have p139 : 0 ≤ (x5_1 : Int) := od
        have q139 : x5_1 < (l0.length : Int) := od
        obtain ⟨ad139,e139,hx139_0⟩ := Kd.at_int HR0.out x5_1 p139 q139
        cases e139
        replace p139 := eq_true p139
        replace q139 := eq_true q139
        have p140 : 0 ≤ (x5_1 : Int) := od
        have q140 : x5_1 < (l1.length : Int) := od
        obtain ⟨ad140,e140,hx140_0⟩ := Kd.at_int HR1.out x5_1 p140 q140
        cases e140
        replace p140 := eq_true p140
        replace q140 := eq_true q140
        go_wp2
        repeat (go_quiet (fail);try go_wp2)
        go_ret
        exact ⟨by first|rfl|(simp;done)|(simp [*];done),by repeat (first|exact Drawn0.refl _|apply Drawn0.step)⟩
      ·rw [if_neg c6] at H
       exact absurd H (by simp)
     ·rw [if_neg c5] at H
      exact absurd H (by simp)
    ·rw [if_neg c4] at H
     have c4b0 : decide (x5_1 < (l0.length : Int)) = false := decide_eq_false c4
     clear c4
     obtain rfl := Option.some.inj H
     go_wp2
     repeat (go_quiet (fail);try go_wp2)
     go_ret
     exact ⟨by first|rfl|(simp;done)|(simp [*];done),by repeat (first|exact Drawn0.refl _|apply Drawn0.step)⟩
 ·rw [if_neg c3] at H
  have c3b0 : ((l0.length : Int) == (l1.length : Int)) = false := beq_eq_false_iff_ne.mpr c3
  have c3b1 : ((l0.length : Int) != (l1.length : Int)) = true := bne_iff_ne.mpr c3
  have c3b2 : (l0.length == l1.length) = false := by first|simpa using c3|(simp at c3 ⊢;omega)
  obtain rfl := Option.some.inj H
  go_enter Try.func31,Try.ntmps31
  go_wp2
  repeat (go_quiet (fail);try go_wp2)
  go_ret
  exact ⟨by first|rfl|(simp;done)|(simp [*];done),by repeat (first|exact Drawn0.refl _|apply Drawn0.step)⟩
end Go.Proofs.Ytjnkkfdlcbcelaa.Pr
end
section
namespace Go.Proofs.Ytjnkkfdlcbcelaa.E
open Go.RowKit Go.Proofs.Ytjnkkfdlcbcelaa.Pr Go.Proofs.Ytjnkkfdlcbcelaa.Hw Go.Proofs.YtjnkkfdlcbcelaaW.PrintWords Go.Proofs.YtjnkkfdlcbcelaaW.PrintLast Go.Proofs.YtjnkkfdlcbcelaaW.PrintMore
theorem w64' {n : Int} (h0 : -9223372036854775808 ≤ n) (h1 : n < 9223372036854775808) : wrap64 n = n := by unfold wrap64;omega
theorem rd_nat' (l : List Int) (i : Nat) : rd l (i : Int) = l.getD i 0 := by unfold rd;rw [Int.toNat_natCast]
def trimL : List Int → List Int
 | [] => []
 | x :: l => match trimL l with
  | [] => if x = 0 then [] else [x]
  | y :: t => x :: y :: t
theorem trimL_cons (x : Int) (l : List Int) : trimL (x :: l) = if trimL l = [] then (if x = 0 then [] else [x]) else x :: trimL l := by
 rw [trimL]
 split
 ·rename_i h;rw [h,if_pos rfl]
 ·rename_i y t h;rw [h,if_neg (by simp)]
theorem trimL_length (l : List Int) : (trimL l).length ≤ l.length := by
 induction l with
 | nil => simp [trimL]
 | cons x l ih =>
  rw [trimL_cons]
  split
  ·split <;> simp
  ·simp only [List.length_cons];omega
theorem trimL_take (l : List Int) : l.take (trimL l).length = trimL l := by
 induction l with
 | nil => simp [trimL]
 | cons x l ih =>
  rw [trimL_cons]
  split
  ·split <;> simp
  ·simp only [List.length_cons,List.take_succ_cons,ih]
theorem trimL_getD (l : List Int) (i : Nat) : (trimL l).getD i 0 = l.getD i 0 := by
 induction l generalizing i with
 | nil => simp [trimL]
 | cons x l ih =>
  rw [trimL_cons]
  split
  ·rename_i h
   have hz : ∀ j,l.getD j 0 = 0 := fun j => by rw [← ih j,h];simp
   split
   ·rename_i h0
    cases i with
    | zero => simp [h0]
    | succ i => rw [List.getD_cons_succ,hz];simp
   ·cases i with
    | zero => simp
    | succ i => rw [List.getD_cons_succ,List.getD_cons_succ,hz];simp
  ·cases i with
   | zero => simp
   | succ i => rw [List.getD_cons_succ,List.getD_cons_succ];exact ih i
theorem trimL_last (l : List Int) (h : trimL l ≠ []) : (trimL l).getD ((trimL l).length - 1) 0 ≠ 0 := by
 induction l with
 | nil => exact absurd rfl h
 | cons x l ih =>
  rw [trimL_cons] at h ⊢
  by_cases hl : trimL l = []
  ·rw [if_pos hl] at h ⊢
   by_cases h0 : x = 0
   ·rw [if_pos h0] at h;exact absurd rfl h
   ·rw [if_neg h0];simpa using h0
  ·rw [if_neg hl]
   have hp : 0 < (trimL l).length := List.length_pos_iff.2 hl
   rw [List.length_cons,show (trimL l).length + 1 - 1 = (trimL l).length - 1 + 1 from by omega,List.getD_cons_succ]
   exact ih hl
theorem trimL_nil_iff (l : List Int) : trimL l = [] ↔ ∀ i,l.getD i 0 = 0 := by
 constructor
 ·intro h i;rw [← trimL_getD,h];simp
 ·intro h
  refine Classical.byContradiction fun hn => trimL_last l hn ?_
  rw [trimL_getD];exact h _
theorem trimL_mem {l : List Int} {x : Int} (h : x ∈ trimL l) : x ∈ l := by
 rw [← trimL_take] at h;exact List.mem_of_mem_take h
theorem trimL_ext {l m : List Int} (h : ∀ i,l.getD i 0 = m.getD i 0) : trimL l = trimL m := by
 have hlen : ∀ {a b : List Int},(∀ i,a.getD i 0 = b.getD i 0) → (trimL a).length ≤ (trimL b).length := by
  intro a b hab
  by_cases ha : trimL a = []
  ·rw [ha];simp
  ·have h1 := trimL_last a ha
   have hp : 0 < (trimL a).length := List.length_pos_iff.2 ha
   rw [trimL_getD,hab,← trimL_getD b] at h1
   refine Nat.le_of_not_lt fun hlt => h1 ?_
   rw [List.getD_eq_getElem?_getD,List.getElem?_eq_none (by omega)];rfl
 refine List.ext_getElem? fun i => ?_
 have hl : (trimL l).length = (trimL m).length := Nat.le_antisymm (hlen h) (hlen fun i => (h i).symm)
 by_cases hi : i < (trimL l).length
 ·have e1 := trimL_getD l i
  have e2 := trimL_getD m i
  rw [List.getD_eq_getElem?_getD,List.getElem?_eq_getElem hi] at e1
  rw [List.getD_eq_getElem?_getD,List.getElem?_eq_getElem (by omega)] at e2
  rw [List.getElem?_eq_getElem hi,List.getElem?_eq_getElem (by omega)]
  simp only [Option.getD_some] at e1 e2
  rw [e1,e2,h i]
 ·rw [List.getElem?_eq_none (by omega),List.getElem?_eq_none (by omega)]
theorem trimL_trimL (l : List Int) : trimL (trimL l) = trimL l := trimL_ext (trimL_getD l)
theorem degree_l0 (l : List Int) (hl : l.length ≤ 1099511627776) : ∀ (m : Nat),m ≤ l.length → (∀ j,m ≤ j → l.getD j 0 = 0) → Ev (fun k => poly_Degree.l0 k l ((m : Int) - 1)) (((trimL l).length : Int) - 1) := by
 intro m
 induction m with
 | zero =>
  intro _ hz
  have : trimL l = [] := (trimL_nil_iff l).2 fun i => hz i (Nat.zero_le _)
  refine Ev.of (fun k => (poly_Degree.mono_l k) _ _) (k := 1) ?_
  simp only [poly_Degree.l0]
  rw [if_neg (by omega),this]
  rfl
 | succ m ih =>
  intro hm hz
  by_cases h0 : l.getD m 0 = 0
  ·refine Ev.step (fun k => ?_) (ih (by omega) (fun j hj => by
    by_cases e : j = m
    ·rw [e];exact h0
    ·exact hz j (by omega)))
   simp only [poly_Degree.l0]
   rw [show ((m + 1 : Nat) : Int) - 1 = (m : Int) from by omega,if_pos (by omega),if_pos (by omega),if_pos (by omega),rd_nat',if_pos h0,w64' (by omega) (by omega)]
  ·refine Ev.of (fun k => (poly_Degree.mono_l k) _ _) (k := 1) ?_
   simp only [poly_Degree.l0]
   rw [show ((m + 1 : Nat) : Int) - 1 = (m : Int) from by omega,if_pos (by omega),if_pos (by omega),if_pos (by omega),rd_nat',if_neg h0]
   have h1 : (trimL l).length = m + 1 := by
    have hne : trimL l ≠ [] := fun e => h0 ((trimL_nil_iff l).1 e m)
    have hp : 0 < (trimL l).length := List.length_pos_iff.2 hne
    have h2 := trimL_last l hne
    rw [trimL_getD] at h2
    have h3 : (trimL l).length - 1 < m + 1 := Nat.lt_of_not_le fun h => h2 (hz _ h)
    have h4 : m < (trimL l).length := Nat.lt_of_not_le fun h => h0 (by rw [← trimL_getD,List.getD_eq_getElem?_getD,List.getElem?_eq_none h];rfl)
    omega
   rw [h1,show ((m + 1 : Nat) : Int) - 1 = (m : Int) from by omega]
theorem degree_ev (l : List Int) (hl : l.length ≤ 1099511627776) : Ev (fun k => poly_Degree.f k l) (((trimL l).length : Int) - 1) := by
 refine (degree_l0 l hl l.length (Nat.le_refl _) (fun j hj => by rw [List.getD_eq_getElem?_getD,List.getElem?_eq_none hj];rfl)).congr fun k => ?_
 unfold poly_Degree.f
 rw [w64' (by omega) (by omega)]
theorem trim_ev (l : List Int) (hl : l.length ≤ 1099511627776) : Ev (fun k => poly_Trim.f k l) (trimL l) := by
 have h1 := trimL_length l
 refine Ev.bind (degree_ev l hl) ((Ev.now (trimL l)).congr fun k => ?_)
 have e : wrap64 ((((trimL l).length : Int) - 1) + 1) = ((trimL l).length : Int) := by rw [w64' (by omega) (by omega)];omega
 rw [e,if_pos (by omega),if_pos (by omega),if_pos (by simp;omega),Int.toNat_natCast,trimL_take]
 rfl
theorem set_next (l : List Int) (f : Int → Int) (i : Nat) (hi : i < l.length) :
  ((l.take i).map f ++ List.replicate (l.length - i) 0).set i (f (l.getD i 0)) = (l.take (i + 1)).map f ++ List.replicate (l.length - (i + 1)) 0 := by
 have h1 : (l.take i).length = i := by rw [List.length_take];omega
 rw [List.set_append_right _ _ (by simp;omega),List.length_map,h1,Nat.sub_self,show l.length - i = (l.length - (i + 1)) + 1 from by omega,List.replicate_succ,List.set_cons_zero]
 rw [List.take_succ_eq_append_getElem hi,List.map_append,List.append_assoc,List.getD_eq_getElem?_getD,List.getElem?_eq_getElem hi]
 rfl
theorem scale_l0 {p : Int} (hp : Supp p) {kk : Int} (hk : Res p kk) (l : List Int) (hl : ∀ x ∈ l,Res p x) (hll : l.length ≤ 1099511627776) : ∀ (d i : Nat),i + d = l.length →
  Ev (fun k => poly_Scale.l0 k p kk ((l.take i).map (fun v => kk * v % p) ++ List.replicate (l.length - i) 0) l (l.length : Int) (i : Int)) (trimL (l.map fun v => kk * v % p)) := by
 intro d
 induction d with
 | zero =>
  intro i hi
  have : i = l.length := by omega
  subst this
  rw [List.take_length,Nat.sub_self,List.replicate_zero,List.append_nil]
  refine Ev.step (f := fun k => (poly_Trim.f k (l.map fun v => kk * v % p)).bind fun t132 => some t132) (fun k => ?_) (Ev.bind (trim_ev _ (by rw [List.length_map];exact hll)) (Ev.now _))
  simp only [poly_Scale.l0]
  rw [if_neg (by omega)]
 | succ d ih =>
  intro i hi
  have hm := mul_ev hp hk (show Res p (l.getD i 0) from by rw [List.getD_eq_getElem?_getD,List.getElem?_eq_getElem (by omega)];exact hl _ (List.getElem_mem _))
  have h1 := ih (i + 1) (by omega)
  rw [← set_next l (fun v => kk * v % p) i (by omega)] at h1
  refine Ev.step (f := fun k => (field_Mul.f k p kk (l.getD i 0)).bind fun t => poly_Scale.l0 k p kk (((l.take i).map (fun v => kk * v % p) ++ List.replicate (l.length - i) 0).set i t) l (l.length : Int) ((i + 1 : Nat) : Int)) (fun k => ?_) (Ev.bind hm h1)
  simp only [poly_Scale.l0]
  have hlen : ((l.take i).map (fun v => kk * v % p) ++ List.replicate (l.length - i) (0 : Int)).length = l.length := by simp;omega
  rw [if_pos (by omega),if_pos (by omega),if_pos (by omega),rd_nat',w64' (by omega) (by omega),hlen]
  refine congrArg _ (funext fun t => ?_)
  rw [if_pos (by omega),Int.toNat_natCast]
  rfl
theorem scale_ev {p : Int} (hp : Supp p) {kk : Int} (hk : Res p kk) (l : List Int) (hl : ∀ x ∈ l,Res p x) (hll : l.length ≤ 1099511627776) : Ev (fun k => poly_Scale.f k p kk l) (trimL (l.map fun v => kk * v % p)) := by
 have h := scale_l0 hp hk l hl hll l.length 0 (by omega)
 refine h.congr fun k => ?_
 unfold poly_Scale.f
 rw [if_pos (by omega),Int.toNat_natCast,if_pos (by omega)]
 simp
def evI (p x : Int) : List Int → Int
 | [] => 0
 | c :: f => (evI p x f * x % p + c) % p
theorem evI_res {p : Int} (hp : Supp p) (x : Int) : ∀ l,Res p (evI p x l)
 | [] => by have := hp.bd;exact ⟨Int.le_refl 0,by show (0 : Int) < p;omega⟩
 | c :: l => Res.mod hp _
theorem eval_l0 {p : Int} (hp : Supp p) {x : Int} (hx : Res p x) (l : List Int) (hl : ∀ c ∈ l,Res p c) (hll : l.length ≤ 1099511627776) : ∀ m,m ≤ l.length →
  Ev (fun k => poly_Eval.l0 k p l x (evI p x (l.drop m)) ((m : Int) - 1)) (evI p x l) := by
 intro m
 induction m with
 | zero =>
  intro _
  refine Ev.of (fun k => (poly_Eval.mono_l k) _ _ _ _ _) (k := 1) ?_
  simp only [poly_Eval.l0]
  rw [if_neg (by omega),List.drop_zero]
 | succ m ih =>
  intro hm
  have h1 := mul_ev hp (evI_res hp x (l.drop (m + 1))) hx
  have hr : Res p (l.getD m 0) := by rw [List.getD_eq_getElem?_getD,List.getElem?_eq_getElem (by omega)];exact hl _ (List.getElem_mem _)
  have h2 := add_ev hp (Res.mod hp (evI p x (l.drop (m + 1)) * x)) hr
  have e : evI p x (l.drop m) = (evI p x (l.drop (m + 1)) * x % p + l.getD m 0) % p := by
   rw [List.drop_eq_getElem_cons (by omega : m < l.length),evI,List.getD_eq_getElem?_getD,List.getElem?_eq_getElem (by omega)]
   rfl
  have h3 := ih (by omega)
  rw [e] at h3
  refine Ev.step (f := fun k => (field_Mul.f k p (evI p x (l.drop (m + 1))) x).bind fun t => (field_Add.f k p t (l.getD m 0)).bind fun t2 => poly_Eval.l0 k p l x t2 ((m : Int) - 1)) (fun k => ?_) (Ev.bind h1 (Ev.bind h2 h3))
  simp only [poly_Eval.l0]
  rw [show ((m + 1 : Nat) : Int) - 1 = (m : Int) from by omega,if_pos (by omega)]
  refine congrArg _ (funext fun t => ?_)
  rw [if_pos (by omega),if_pos (by omega),rd_nat',w64' (by omega) (by omega)]
theorem eval_ev {p : Int} (hp : Supp p) {x : Int} (hx : Res p x) (l : List Int) (hl : ∀ c ∈ l,Res p c) (hll : l.length ≤ 1099511627776) : Ev (fun k => poly_Eval.f k p l x) (evI p x l) := by
 have h := eval_l0 hp hx l hl hll l.length (Nat.le_refl _)
 rw [List.drop_length] at h
 refine h.congr fun k => ?_
 unfold poly_Eval.f
 rw [w64' (by omega) (by omega)]
 rfl
end Go.Proofs.Ytjnkkfdlcbcelaa.E
end
section
namespace Go.Proofs.Ytjnkkfdlcbcelaa.Hw
open Go.RowKit Go.Proofs.Ytjnkkfdlcbcelaa.Pr Go.Proofs.YtjnkkfdlcbcelaaW.PrintWords Go.Proofs.YtjnkkfdlcbcelaaW.PrintLast Go.Proofs.YtjnkkfdlcbcelaaW.PrintMore Go.Proofs.Ytjnkkfdlcbcelaa.E
structure PolI (wr : World) (bp bf bd bx : Nat) (p X Y : Int) (s : List Int × Int) (w : World) : Prop where
 hp : Box w bp p
 hf : ∃ A c,w.heap[bf]? = some (.cells #[.slice A s.1.length c] 41 (0,0)) ∧ Kd.R (Kd.int .u64) 22 w wr.heap.size (fun k => k ≠ bd) (.slice A s.1.length c) s.1
 hd : Box w bd s.2
 hx : w.heap[bx]? = some (.cells #[.int .u64 X,.int .u64 Y] 49 (0,0))
 r1 : ∀ x ∈ s.1,Res p x
 r2 : Res p s.2
 below : Below wr.heap.size wr w
def polStep (p X : Int) (s : List Int × Int) (o : Int) : List Int × Int := (trimL (mulsL p s.1 [-o % p,1] s.1.length),s.2 * ((X - o) % p) % p)
theorem cell_alloc_of {w : World} {n : Nat} {a : Addr} {v : Value} (h : w.cell? a = some v) (o : Obj) : ((w.drewN n).alloc o).cell? a = some v := (World.cell?_alloc_lt _ _ _ (World.block_lt_of_cell? w _ h)).trans h
theorem pol_keep {w w5 : World} {m b : Nat} {o o2 : Obj} (hb : Below (w.heap.size + 1) ((w.drewN m).alloc o) w5) (h : w.heap[b]? = some o2) : w5.heap[b]? = some o2 := by
 have hlt := blk_lt h
 rw [hb.block b (by omega)]
 exact blk_alloc (blk_drewN h m) o
set_option maxHeartbeats 2000000 in
set_option maxRecDepth 100000 in
theorem polc_calls {p : Int} (hp : Supp p) {X Y o : Int} (hX : Res p X) (ho : Res p o) (bp bf bd bx : Nat) (wr w : World) (s : List Int × Int) (h : PolI wr bp bf bd bx p X Y s w) (hl : s.1.length ≤ 1000000)
  (nf : wr.heap.size ≤ bf) (ndd : wr.heap.size ≤ bd) (n1 : bp ≠ bf) (n2 : bp ≠ bd) (n3 : bf ≠ bd) (n4 : bx ≠ bf) (n5 : bx ≠ bd) :
  Calls Try.prog 54 #[.int .u64 o,.pointer (some ⟨bp,0,none⟩),.pointer (some ⟨bf,0,none⟩),.pointer (some ⟨bd,0,none⟩),.pointer (some ⟨bx,0,none⟩)] w
   fun e w' => e = .returned (.tuple #[]) ∧ Aside0 (PolI wr bp bf bd bx p X Y (polStep p X s o) w') := by
 obtain ⟨f,d⟩ := s
 simp only at hl
 obtain ⟨A,c,hf,hO⟩ := h.hf
 simp only at hf hO
 have c1 := h.hp.cell
 have c2 : w.cell? ⟨bf,0,none⟩ = some (.slice A f.length c) := blk_cell hf 0
 have hneg := am (neg_eq hp ho)
 have HI := am h
 have HF := am hf
 have HO := am hO
 obtain ⟨o',ho'⟩ : ∃ y,y = -o % p := ⟨_,rfl⟩
 rw [← ho'] at hneg
 have HO' := am ho'
 have hor : Res p o' := by rw [HO'.out];exact Res.mod hp _
 have hb := hp.bd
 have hl2 : ∀ x ∈ [o',1],Res p x := by
  intro x hx
  simp only [List.mem_cons,List.not_mem_nil,or_false] at hx
  rcases hx with rfl|rfl
  ·exact hor
  ·exact ⟨by omega,by omega⟩
 obtain ⟨kt,hkt⟩ := (trim_ev (mulsL p f [o',1] f.length) (by have := mulsL_length p f [o',1] f.length;simp at this;omega)).rounds
 have hmul : ∀ m : Nat,Calls Try.prog 55 #[.int .u64 p,.slice A f.length c,.slice (some ⟨w.heap.size,0,none⟩) 2 2] ((w.drewN m).alloc (.cells #[.int .u64 o',.int .u64 1] 22)) fun e w' => ∃ v0_ : Value,e = .returned v0_ ∧ Kd.R (Kd.int .u64) 22 w' (w.heap.size + 1) (fun _ => True) v0_ (trimL (mulsL p f [o',1] f.length)) ∧ Below (w.heap.size + 1) ((w.drewN m).alloc (.cells #[.int .u64 o',.int .u64 1] 22)) w' := by
  intro m
  obtain ⟨A',c',e1,hc1,hC1⟩ := Kd.R_reads hO
  cases e1
  have hC2 := Kd.C_alloc (Kd.C_drewN hC1 m) (.cells #[.int .u64 o',.int .u64 1] 22)
  obtain ⟨A2,c2,e2,hc2,hC3⟩ := Kd.R_reads (R_made (ok := fun _ => True) (own_lit (w.drewN m) w.heap.size 22 .u64 [o',1] (Nat.le_refl _) (by simp)) (fun _ _ => trivial))
  cases e2
  have hm := poly_Mul.walks p hp A c f (some ⟨w.heap.size,0,none⟩) 2 [o',1] h.r1 hl2 (by omega) (by simp) ((w.drewN m).alloc (.cells #[.int .u64 o',.int .u64 1] 22)) hC2 hc1 hC3 (by simp) _ kt hkt
  rw [show ((w.drewN m).alloc (.cells #[.int .u64 o',.int .u64 1] 22)).heap.size = w.heap.size + 1 from Array.size_push _] at hm
  exact hm
 have HMul := am hmul
 clear h hf hO ho' hl2 hkt hmul
 go_enter Try.func54,Try.ntmps54
 go_wp2
 refine start_ (n := 8) (S := (fun w' => w'.cell? ⟨bp,0,none⟩ = some (.int .u64 p) ∧ w'.cell? ⟨bf,0,none⟩ = some (.slice A f.length c))) (ds := [7]) (bz 8 0) (by kernel_rfl) rfl rfl ⟨c1,c2⟩ (fun hHeld => ?_)
 refine tu 0 6 (bz 8 1) hHeld ?_
 refine tu 1 7 (bz 8 3) hHeld ?_
 refine tu 2 8 (bz 8 7) hHeld ?_
 refine pu 3 9 (bz 8 15) ?_
 refine one_ (i := 4) (N := some 10) (bz 8 31) rfl rfl (by kernel_rfl) (by decide) (fun K hK => ?_)
 refine goes_ Try.func42 (by kernel_rfl) rfl #[.int .u64 p,.int .u64 o] (by rfl) rfl rfl (by (try simp only [List.map_toArray,List.map_cons,List.map_nil]);first|done|rfl) ?_
 refine (field_Neg.calls p o o' _ hneg.out).mono ?_
 rintro e w' ⟨rfl,⟨nd,rfl⟩⟩
 refine ⟨_,rfl,?_⟩
 refine hK.out _ _ ⟨c1,c2⟩ (fun hHeld => ?_)
 clear hK K
 refine nm 10 ?_
 refine one_ (i := 5) (N := some 11) (bz 8 63) rfl rfl (by kernel_rfl) (by decide) (fun K hK => ?_)
 refine value_ (v := .slice (some ⟨w.heap.size,0,none⟩) 2 2) (w1 := (w.drewN (1 + nd)).alloc (.cells #[.int .u64 o',.int .u64 1] 22)) (by rfl) rfl (by go_simp) ?_
 refine hK.out _ _ ⟨cell_alloc_of c1 _,cell_alloc_of c2 _⟩ (fun hHeld => ?_)
 clear hK K
 refine nm 11 ?_
 refine one_ (i := 6) (N := some 12) (bz 8 127) rfl rfl (by kernel_rfl) (by decide) (fun K hK => ?_)
 refine goes_ Try.func55 (by kernel_rfl) rfl #[.int .u64 p,.slice A f.length c,.slice (some ⟨w.heap.size,0,none⟩) 2 2] (by rfl) rfl rfl (by (try simp only [List.map_toArray,List.map_cons,List.map_nil]);first|done|rfl) ?_
 refine (HMul.out (1 + nd)).mono ?_
 rintro e w5 ⟨v0,rfl,hv0,hb0⟩
 obtain ⟨A5,q5,rfl⟩ := Kd.R_slice hv0
 have hbf5 := am (pol_keep hb0 HF.out)
 have hc5 := blk_cell hbf5.out 0
 simp only [List.getElem?_toArray,List.getElem?_cons_zero] at hc5
 have hf5 := blk_frozen hbf5.out 0
 have HBp5 := am (show Box w5 bp p from pol_keep hb0 HI.out.hp)
 have HBd5 := am (show Box w5 bd d from pol_keep hb0 HI.out.hd)
 have HBx5 := am (pol_keep hb0 HI.out.hx)
 have hsz := am (show w.heap.size + 1 ≤ w5.heap.size from by have := hb0.size;rwa [show ((w.drewN (1 + nd)).alloc (Obj.cells #[Value.int IntKind.u64 o',Value.int IntKind.u64 1] 22)).heap.size = w.heap.size + 1 from Array.size_push _] at this)
 have HBel5 := am (show Below wr.heap.size wr w5 from (below_then (below_alloc (pw_below_drewN HI.out.below (1 + nd)) (Obj.cells #[Value.int IntKind.u64 o',Value.int IntKind.u64 1] 22)) (below_size (below_alloc (pw_below_drewN HI.out.below (1 + nd)) _)) (by rw [show ((w.drewN (1 + nd)).alloc (Obj.cells #[Value.int IntKind.u64 o',Value.int IntKind.u64 1] 22)).heap.size = w.heap.size + 1 from Array.size_push _];exact hb0)))
 have hv5 := am hv0
 clear hv0 hb0
 refine ⟨_,rfl,?_⟩
 refine hK.out _ _ ⟨HBp5.out.cell,hc5⟩ (fun hHeld => ?_)
 clear hK K
 refine nm 12 ?_
 refine last_ (i := 7) (N := none) (bz 8 255) rfl rfl (by kernel_rfl) (by decide) (fun K hK => ?_)
 refine skip_ (w1 := ?_) (by rfl) rfl ?_ ?_
 rotate_left
 ·go_simp
  rfl
 refine hK.out _ _ ?_
 clear hK K
 refine done_ (by kernel_rfl) ?_
 try go_wp2
 clear hc5 hf5 c1 c2
 obtain ⟨f',hf'⟩ : ∃ y,y = trimL (mulsL p f [o',1] f.length) := ⟨_,rfl⟩
 rw [← hf'] at hv5 ⊢
 have HF' := am hf'
 clear hf'
 obtain ⟨W,hW⟩ : ∃ W,W = w5.setCell ⟨bf,0,none⟩ (.slice A5 f'.length q5) := ⟨_,rfl⟩
 rw [← hW]
 have d1 : W.cell? ⟨bp,0,none⟩ = some (.int .u64 p) := by rw [hW];exact (HBp5.out.far n1 _).cell
 have d2 : W.cell? ⟨bd,0,none⟩ = some (.int .u64 d) := by rw [hW];exact (HBd5.out.far (Ne.symm n3) _).cell
 have d3 : W.cell? ⟨bx,0,none⟩ = some (.int .u64 X) := by rw [hW];exact blk_cell (blk_far (p := ⟨bf,0,none⟩) HBx5.out n4 _) 0
 have g2 : W.frozen? ⟨bd,0,none⟩ = false := by rw [hW];exact (HBd5.out.far (Ne.symm n3) _).frozen
 have HW := am hW
 obtain ⟨k3,hk3⟩ := (sub_ev hp hX ho).rounds
 obtain ⟨k4,hk4⟩ := (mul_ev hp HI.out.r2 (Res.mod hp (X - o))).rounds
 have HK3 := am hk3
 have HK4 := am hk4
 clear hW hk3 hk4
 refine wp_region_quiet_tail_drawn 8 (by kernel_rfl) (by kernel_rfl) ?_
 simp only [List.take_succ_cons,List.take_zero,List.drop_succ_cons,List.drop_zero]
 repeat (quiet_step (first|(go_at_call 25;refine Calls.quiet_of ((field_Sub.calls k3 _ _ _ ((X - o) % p) _ HK3.out).mono fun e w' h => ⟨h.1,h.2.out⟩))|(go_at_call 27;refine Calls.quiet_of ((field_Mul.calls k4 _ _ _ (d * ((X - o) % p) % p) _ HK4.out).mono fun e w' h => ⟨h.1,h.2.out⟩))))
 refine wpQuiet_nil ?_
 rintro _ ⟨nr,rfl⟩
 go_wp2
 go_end0
 have ld := blk_lt HI.out.hd
 have lf := blk_lt HF.out
 refine ⟨rfl,⟨?_⟩⟩
 rw [HW.out]
 refine ⟨?_,⟨A5,q5,?_,?_⟩,?_,?_,?_,Res.mod hp _,?_⟩
 ·exact ((HBp5.out.far n1 _).drewN nr).far n2 _
 ·show _ = some (Obj.cells #[Value.slice A5 (trimL (mulsL p f [-o % p,1] f.length)).length q5] _ _)
  rw [← HO'.out,← HF'.out]
  exact blk_far (p := ⟨bd,0,none⟩) (blk_drewN (blk_put hbf5.out 0 _ rfl) nr) n3 _
 ·show Kd.R _ _ _ _ _ (Value.slice A5 (trimL (mulsL p f [-o % p,1] f.length)).length q5) (trimL (mulsL p f [-o % p,1] f.length))
  rw [← HO'.out,← HF'.out]
  have hb5 : wr.heap.size ≤ w.heap.size + 1 := by have := HI.out.below.size;omega
  have hR := Kd.R_lower (Kd.R_mono (Kd.R_bound hv5.out) (ok' := fun k => k ≠ bd ∧ k ≠ bf) (fun k hk => ⟨by have := hk.2.1;omega,by have := hk.2.1;omega⟩)) hb5
  exact Kd.R_mono (Kd.R_far (Kd.R_drewN (Kd.R_far hR (p := ⟨bf,0,none⟩) (fun k hk => hk.2) _) nr) (p := ⟨bd,0,none⟩) (fun k hk => hk.1) _) (fun k hk => hk.1)
 ·exact ((HBd5.out.far (Ne.symm n3) _).drewN nr).put _
 ·exact blk_far (p := ⟨bd,0,none⟩) (blk_drewN (blk_far (p := ⟨bf,0,none⟩) HBx5.out n4 _) nr) n5 _
 ·exact fun x hx => mulsL_res hp _ _ _ x (trimL_mem hx)
 ·exact Below.setCell (pw_below_drewN (Below.setCell HBel5.out (p := ⟨bf,0,none⟩) nf _) nr) (p := ⟨bd,0,none⟩) ndd _
set_option maxHeartbeats 1000000 in
theorem others_pol {σ : Type} (I : σ → World → Prop) (step : σ → Int → σ) (bp bf bd bx : Nat) (A : Option Addr) (c : Nat) (xs : List Int) (but : Nat) (hb : but < 1099511627776) (hl : xs.length ≤ 1099511627776)
  (hread : ∀ s w,I s w → Kd.C (Kd.int .u64) w A xs.length xs)
  (s : σ) (hcall : ∀ w i,i < xs.length → i ≠ but → I ((othersN xs but i).foldl step s) w → Calls Try.prog 54 #[.int .u64 (rd xs i),.pointer (some ⟨bp,0,none⟩),.pointer (some ⟨bf,0,none⟩),.pointer (some ⟨bd,0,none⟩),.pointer (some ⟨bx,0,none⟩)] w fun e w' => e = .returned (.tuple #[]) ∧ Aside0 (I (step ((othersN xs but i).foldl step s) (rd xs i)) w'))
  (w : World) (hI : I s w) :
  Calls Try.prog 53 #[.slice A xs.length c,.int .i64 (but : Int),.func (.func 54) #[] #[.pointer (some ⟨bp,0,none⟩),.pointer (some ⟨bf,0,none⟩),.pointer (some ⟨bd,0,none⟩),.pointer (some ⟨bx,0,none⟩)]] w
   fun e w' => e = .returned (.tuple #[]) ∧ Aside0 (I ((othersN xs but xs.length).foldl step s) w') := by
 have HI := am hI
 have HR := am hread
 have HC := am hcall
 clear hI hread hcall
 go_enter Try.func53,Try.ntmps53
 go_wp2
 go_loopg [10] xs.length (fun kq v10 w' => ∃ (n : Nat),v10 = .int .i64 n ∧ Aside0 (kq + n = xs.length) ∧ Aside0 (I ((othersN xs but n).foldl step s) w'))
 case atStart => exact ⟨0,rfl,⟨rfl⟩,HI⟩
 case round =>
  obtain ⟨n,rfl,HK,HS⟩ := hrel
  clear HI
  by_cases hlt : n < xs.length
  ·have p1 : ((0 : Int) ≤ (n : Int)) = True := eq_true (by omega)
   have q1 : ((n : Int) < (xs.length : Int)) = True := eq_true (by omega)
   obtain ⟨ad,e1,hx⟩ := Kd.at_int (HR.out _ _ HS.out) (n : Int) (by omega) (by omega)
   cases e1
   rw [Int.toNat_natCast] at hx
   by_cases hnb : n = but
   ·have t1 : ((n : Int) != (but : Int)) = false := by rw [hnb];simp
    have HNB := am hnb
    clear hnb
    go_wp2
    go_roundg (xs.length - (n + 1))
    case measure => have := HK.out;omega
    case rel =>
     refine ⟨n + 1,by go_num,⟨by omega⟩,⟨?_⟩⟩
     rw [othersN,if_pos HNB.out];exact HS.out
   ·have t1 : ((n : Int) != (but : Int)) = true := by rw [bne_iff_ne];omega
    have hc := am (HC.out _ n hlt hnb HS.out)
    go_wp2_with (first|(go_at_call 54;(with_reducible refine hc.out.mono ?_);rintro e w' ⟨rfl,HS2⟩))
    go_roundg (xs.length - (n + 1))
    case measure => have := HK.out;omega
    case rel =>
     refine ⟨n + 1,by go_num,⟨by omega⟩,⟨?_⟩⟩
     rw [othersN,if_neg hnb,List.foldl_append];exact HS2.out
  ·have hd : decide ((n : Int) < (xs.length : Int)) = false := decide_eq_false (by omega)
   have hn : n = xs.length := by have := HK.out;omega
   subst hn
   go_wp2
   go_end0
   exact ⟨rfl,HS⟩
def addP (p : Int) (a b : List Int) : List Int := putsL p (putsL p [] a a.length) b b.length
def xsOf (pts : List S49) : List Int := pts.map fun x => x.f0
def polS (p : Int) (pts : List S49) (i : Nat) : List Int × Int := (othersN (xsOf pts) i pts.length).foldl (polStep p (rd_T49 pts i).f0) ([1],1)
def polTerm (p : Int) (pts : List S49) (i : Nat) : List Int := trimL ((polS p pts i).1.map fun v => ((rd_T49 pts i).f1 * invp p (polS p pts i).2 % p) * v % p)
def polSum (p : Int) (pts : List S49) : Nat → List Int
 | 0 => []
 | n + 1 => trimL (addP p (polSum p pts n) (polTerm p pts n))
def polL (p : Int) (pts : List S49) : List Int := trimL (polSum p pts pts.length)
theorem rdT_nat (pts : List S49) (i : Nat) (h : i < pts.length) : rd_T49 pts (i : Int) = pts[i] := by
 unfold rd_T49;rw [Int.toNat_natCast,List.getD_eq_getElem?_getD,List.getElem?_eq_getElem h];rfl
theorem xsOf_rd (pts : List S49) (i : Nat) (h : i < pts.length) : rd (xsOf pts) (i : Int) = (rd_T49 pts (i : Int)).f0 := by
 rw [rdT_nat _ _ h,rd_nat,getD_in _ _ (by simpa [xsOf] using h)];simp [xsOf]
def PtsOk (p : Int) (pts : List S49) : Prop := ∀ x ∈ pts,Res p x.f0 ∧ Res p x.f1
theorem PtsOk.xs {p : Int} {pts : List S49} (h : PtsOk p pts) : ∀ x ∈ xsOf pts,Res p x := by
 intro x hx
 obtain ⟨y,hy,rfl⟩ := List.mem_map.1 hx
 exact (h y hy).1
theorem PtsOk.at_ {p : Int} {pts : List S49} (h : PtsOk p pts) (i : Nat) (hi : i < pts.length) : Res p (rd_T49 pts (i : Int)).f0 ∧ Res p (rd_T49 pts (i : Int)).f1 := by
 rw [rdT_nat _ _ hi];exact h _ (List.getElem_mem _)
theorem linear_length (p : Int) (f : List Int) (o : Int) : (mulsL p f [o,1] f.length).length ≤ f.length + 2 := mulsL_length p f [o,1] f.length
theorem polFold {p : Int} (hp : Supp p) {X : Int} (hX : Res p X) : ∀ (l : List Int) (s : List Int × Int),(∀ o ∈ l,Res p o) → (∀ x ∈ s.1,Res p x) → Res p s.2 →
  (∀ x ∈ (l.foldl (polStep p X) s).1,Res p x) ∧ Res p (l.foldl (polStep p X) s).2 ∧ (l.foldl (polStep p X) s).1.length ≤ s.1.length + 2 * l.length ∧ ((∀ o ∈ l,X ≠ o) → s.2 ≠ 0 → (l.foldl (polStep p X) s).2 ≠ 0)
 | [],s,_,h1,h2 => ⟨h1,h2,by simp,fun _ h => h⟩
 | o :: l,s,hl,h1,h2 => by
  have ih := polFold hp hX l (polStep p X s o) (fun y hy => hl y (List.mem_cons_of_mem _ hy)) (fun x hx => mulsL_res hp _ _ _ x (trimL_mem hx)) (Res.mod hp _)
  have hlen : (polStep p X s o).1.length ≤ s.1.length + 2 := Nat.le_trans (trimL_length _) (linear_length p s.1 _)
  refine ⟨ih.1,ih.2.1,?_,fun hne h0 => ih.2.2.2 (fun y hy => hne y (List.mem_cons_of_mem _ hy)) ?_⟩
  ·have := ih.2.2.1;simp only [List.foldl_cons,List.length_cons] at *;omega
  ·exact mul_ne' hp h2 h0 (Res.mod hp _) (sub_ne' hp hX (hl o (by simp)) (hne o (by simp)))
theorem xsOf_next (pts : List S49) (n : Nat) (h : n < pts.length) : xsOf (pts.take n) ++ [(rd_T49 pts (n : Int)).f0] = xsOf (pts.take (n + 1)) := by
 rw [rdT_nat _ _ h,List.take_succ_eq_append_getElem h];simp only [xsOf,List.map_append,List.map_cons,List.map_nil]
theorem xsOf_take_length (pts : List S49) (n : Nat) (h : n ≤ pts.length) : (xsOf (pts.take n)).length = n := by simp [xsOf];omega
theorem othersN_length (xs : List Int) (b : Nat) : ∀ n,(othersN xs b n).length ≤ n
 | 0 => Nat.le_refl _
 | n + 1 => by
  have := othersN_length xs b n
  unfold othersN
  split
  ·omega
  ·rw [List.length_append];simp only [List.length_cons,List.length_nil];omega
theorem one_res {p : Int} (hp : Supp p) : ∀ x ∈ [(1 : Int)],Res p x := by
 have := hp.bd
 intro x hx
 simp only [List.mem_cons,List.not_mem_nil,or_false] at hx
 subst hx
 exact ⟨by omega,by omega⟩
theorem alloc_szA (w : World) (o : Obj) : (w.alloc o).heap.size = w.heap.size + 1 := Array.size_push _
theorem pol_inner {p : Int} (hp : Supp p) (A : Option Addr) (c : Nat) (xs : List Int) (X Y : Int) (hX : Res p X) (hx : ∀ x ∈ xs,Res p x) (hl : xs.length ≤ 1000) (bp n : Nat) (hn : n < xs.length) (wr : World) (hr : Kd.C (Kd.int .u64) wr A xs.length xs)
  (hbp : Box wr bp p) :
  Calls Try.prog 53 #[.slice A xs.length c,.int .i64 (n : Int),.func (.func 54) #[] #[.pointer (some ⟨bp,0,none⟩),.pointer (some ⟨wr.heap.size + 1 + 1,0,none⟩),.pointer (some ⟨wr.heap.size + 1 + 1 + 1,0,none⟩),.pointer (some ⟨wr.heap.size,0,none⟩)]]
   ((((wr.alloc (Obj.cells #[Value.int IntKind.u64 X,Value.int IntKind.u64 Y] 49)).alloc (Obj.cells #[Value.int IntKind.u64 1] 22)).alloc (Obj.cells #[Value.slice (some ⟨wr.heap.size + 1,0,none⟩) 1 1] 41)).alloc (Obj.cells #[Value.int IntKind.u64 1] 22))
   fun e w' => e = .returned (.tuple #[]) ∧ Aside0 (PolI wr bp (wr.heap.size + 1 + 1) (wr.heap.size + 1 + 1 + 1) wr.heap.size p X Y ((othersN xs n xs.length).foldl (polStep p X) ([1],1)) w') := by
 have hpb := hp.bd
 have lp := blk_lt hbp
 refine others_pol (PolI wr bp (wr.heap.size + 1 + 1) (wr.heap.size + 1 + 1 + 1) wr.heap.size p X Y) (polStep p X) bp (wr.heap.size + 1 + 1) (wr.heap.size + 1 + 1 + 1) wr.heap.size A c xs n (by omega) (by omega) (fun s w' h => Kd.C_below hr h.below) ([1],1) ?_ _ ?_
 ·intro w' i hi hne h
  have hf := polFold hp hX (othersN xs n i) ([1],1) (fun o ho => by obtain ⟨j,h1,_,rfl⟩ := othersN_mem ho;exact rd_res' hx j (by omega)) (one_res hp) ⟨by omega,by omega⟩
  have ho := othersN_length xs n i
  have hf3 := hf.2.2.1
  simp only [List.length_cons,List.length_nil] at hf3
  exact polc_calls hp hX (rd_res' hx i hi) bp (wr.heap.size + 1 + 1) (wr.heap.size + 1 + 1 + 1) wr.heap.size wr w' _ h (by omega) (by omega) (by omega) (by omega) (by omega) (by omega) (by omega) (by omega)
 ·refine ⟨?_,⟨some ⟨wr.heap.size + 1,0,none⟩,1,?_,?_⟩,?_,?_,one_res hp,⟨by omega,by omega⟩,below_alloc (below_alloc (below_alloc (below_alloc (Below.refl _ _) _) _) _) _⟩
  ·exact blk_alloc (blk_alloc (blk_alloc (blk_alloc hbp _) _) _) _
  ·have h := blk_new ((wr.alloc (Obj.cells #[Value.int IntKind.u64 X,Value.int IntKind.u64 Y] 49)).alloc (Obj.cells #[Value.int IntKind.u64 1] 22)) (Obj.cells #[Value.slice (some ⟨wr.heap.size + 1,0,none⟩) 1 1] 41)
   rw [alloc_szA,alloc_szA] at h
   exact blk_alloc h _
  ·have h := R_made (ok := fun k => k ≠ wr.heap.size + 1 + 1 + 1) (own_lit (wr.alloc (Obj.cells #[Value.int IntKind.u64 X,Value.int IntKind.u64 Y] 49)) wr.heap.size 22 .u64 [1] (by rw [alloc_szA];omega) (by simp)) (by intro b hb;rw [alloc_szA] at hb;have he : wr.heap.size + 1 = b := Option.some.inj hb;exact fun e2 => by omega)
   rw [alloc_szA] at h
   exact Kd.R_alloc (Kd.R_alloc h _) _
  ·have h := blk_new (((wr.alloc (Obj.cells #[Value.int IntKind.u64 X,Value.int IntKind.u64 Y] 49)).alloc (Obj.cells #[Value.int IntKind.u64 1] 22)).alloc (Obj.cells #[Value.slice (some ⟨wr.heap.size + 1,0,none⟩) 1 1] 41)) (Obj.cells #[Value.int IntKind.u64 1] 22)
   rw [alloc_szA,alloc_szA,alloc_szA] at h
   exact h
  ·exact blk_alloc (blk_alloc (blk_alloc (blk_new wr _) _) _) _
theorem addP_length (p : Int) (a b : List Int) : (addP p a b).length = max a.length b.length := by
 unfold addP;rw [putsL_length,putsL_length];simp
theorem addP_res {p : Int} (hp : Supp p) (a b : List Int) : ∀ x ∈ addP p a b,Res p x :=
 putsL_res hp (putsL_res hp (by intro x hx;cases hx) _) _
theorem polTerm_length {p : Int} (hp : Supp p) {pts : List S49} (hx : PtsOk p pts) {n : Nat} (hn : n < pts.length) : (polTerm p pts n).length ≤ 1 + 2 * pts.length := by
 have hpb := hp.bd
 have hxl : (xsOf pts).length = pts.length := by simp [xsOf]
 have h := polFold hp (hx.at_ n hn).1 (othersN (xsOf pts) n pts.length) ([1],1) (fun o ho => by obtain ⟨j,h1,_,rfl⟩ := othersN_mem ho;exact rd_res' hx.xs j (by omega)) (one_res hp) ⟨by omega,by omega⟩
 have hl := othersN_length (xsOf pts) n pts.length
 have h3 := h.2.2.1
 simp only [List.length_cons,List.length_nil] at h3
 refine Nat.le_trans (trimL_length _) ?_
 rw [List.length_map]
 unfold polS
 omega
theorem polS_ok {p : Int} (hp : Supp p) {pts : List S49} (hx : PtsOk p pts) {n : Nat} (hn : n < pts.length) (hnd : (xsOf pts).Nodup) :
  (∀ x ∈ (polS p pts n).1,Res p x) ∧ Res p (polS p pts n).2 ∧ (polS p pts n).1.length ≤ 1 + 2 * pts.length ∧ (polS p pts n).2 ≠ 0 := by
 have hpb := hp.bd
 have hxl : (xsOf pts).length = pts.length := by simp [xsOf]
 have h := polFold hp (hx.at_ n hn).1 (othersN (xsOf pts) n pts.length) ([1],1) (fun o ho => by obtain ⟨j,h1,_,rfl⟩ := othersN_mem ho;exact rd_res' hx.xs j (by omega)) (one_res hp) ⟨by omega,by omega⟩
 have hl := othersN_length (xsOf pts) n pts.length
 refine ⟨h.1,h.2.1,?_,h.2.2.2 (fun o ho => ?_) (by decide)⟩
 ·have := h.2.2.1;simp only [List.length_cons,List.length_nil] at this;unfold polS;omega
 ·obtain ⟨j,h1,h2,rfl⟩ := othersN_mem ho
  rw [← xsOf_rd pts n hn,rd_nat,rd_nat,getD_in _ _ (by omega),getD_in _ _ (by omega)]
  intro e
  rw [List.nodup_iff_pairwise_ne,List.pairwise_iff_getElem] at hnd
  rcases Nat.lt_trichotomy n j with h3|h3|h3
  ·exact hnd n j (by omega) (by omega) h3 e
  ·exact h2 h3.symm
  ·exact hnd j n (by omega) (by omega) h3 e.symm
theorem polSum_ok {p : Int} (hp : Supp p) {pts : List S49} (hx : PtsOk p pts) : ∀ (n : Nat),n ≤ pts.length → (∀ x ∈ polSum p pts n,Res p x) ∧ (polSum p pts n).length ≤ 1 + 2 * pts.length
 | 0,_ => ⟨fun x hx => (by cases hx),by simp [polSum]⟩
 | n + 1,h => by
  have ih := polSum_ok hp hx n (by omega)
  refine ⟨fun x hx => addP_res hp _ _ x (trimL_mem hx),?_⟩
  refine Nat.le_trans (trimL_length _) ?_
  rw [addP_length]
  have := polTerm_length hp hx (n := n) (by omega)
  omega
theorem alloc_size2 (w : World) (o : Obj) : (w.alloc o).heap.size = w.heap.size + 1 := Array.size_push _
set_option maxHeartbeats 2000000 in
set_option maxRecDepth 100000 in
theorem pol_walk {p : Int} (hp : Supp p) (A : Option Addr) (c : Nat) (pts : List S49) (hx : PtsOk p pts) (hl : pts.length ≤ 49) (w : World) (hr : Kd.C k49 w A pts.length pts) (hc : pts.length ≤ c) :
  Calls Try.prog 39 #[.int .u64 p,.slice A pts.length c] w fun e w' => ∃ v0_ : Value,e = .returned (.tuple #[v0_,.int .i64 (if (xsOf pts).Nodup then 0 else 1)]) ∧ Kd.R (Kd.int .u64) 22 w' w.heap.size (fun _ => True) v0_ (if (xsOf pts).Nodup then polL p pts else []) ∧ Below w.heap.size w w' := by
 obtain ⟨xs,hxs⟩ : ∃ y,y = xsOf pts := ⟨_,rfl⟩
 have hxl : xs.length = pts.length := by rw [hxs];simp [xsOf]
 rw [← hxs]
 obtain ⟨r1,hr1⟩ : ∃ y,y = (if xs.Nodup then polL p pts else []) := ⟨_,rfl⟩
 obtain ⟨r2,hr2⟩ : ∃ y : Int,y = (if xs.Nodup then 0 else 1) := ⟨_,rfl⟩
 rw [← hr1,← hr2]
 have HR1 := am hr1
 have HR2 := am hr2
 clear hr1 hr2
 have HXS := am hxs
 have HXL := am hxl
 clear hxs hxl
 have HR := am hr
 have HX := am hx
 have hb1 : Below w.heap.size w (w.alloc (Obj.cells #[Value.int IntKind.u64 p] 22)) := below_alloc (Below.refl _ _) _
 have hbp0 : Box (w.alloc (Obj.cells #[Value.int IntKind.u64 p] 22)) w.heap.size p := blk_new w _
 have HB1 := am hb1
 have HBP := am hbp0
 clear hr hx hb1 hbp0
 go_enter Try.func39,Try.ntmps39
 go_wp2
 go_loopg [6,16] pts.length (fun kq v6 v16 w' => ∃ (n : Nat),v16 = .int .i64 (n : Int) ∧ Aside0 (kq + n = pts.length) ∧ Aside0 (Kd.R (Kd.int .u64) 22 w' w.heap.size (fun k_ => w.heap.size + 1 ≤ k_) v6 (xsOf (pts.take n))) ∧ Aside0 (Box w' w.heap.size p) ∧ Aside0 (Below w.heap.size w w'))
 case atStart => exact ⟨0,rfl,⟨rfl⟩,⟨Kd.R_nil _ _ _ _ _⟩,HBP,HB1⟩
 case round =>
  clear HBP HB1
  obtain ⟨n,rfl,HK,HO,HBx,HB⟩ := hrel
  by_cases hlt : n < pts.length
  ·have p1 : ((0 : Int) ≤ (n : Int)) = True := eq_true (by omega)
   have q1 : ((n : Int) < (pts.length : Int)) = True := eq_true (by omega)
   obtain ⟨ad,e1,hx0,hx1⟩ := at_T49 HR.out (n : Int) (by omega) (by omega)
   cases e1
   replace hx0 := pw_cell_below HB.out hx0
   replace hx1 := pw_cell_below HB.out hx1
   rw [Int.toNat_natCast] at hx0 hx1
   have hlen : (xsOf (pts.take n)).length = n := xsOf_take_length pts n (by omega)
   have hnext := xsOf_next pts n hlt
   obtain ⟨X,hX⟩ : ∃ y,y = (rd_T49 pts (n : Int)).f0 := ⟨_,rfl⟩
   obtain ⟨Y,hY⟩ : ∃ y,y = (rd_T49 pts (n : Int)).f1 := ⟨_,rfl⟩
   rw [← hX] at hx0
   rw [← hY] at hx1
   rw [← hX] at hnext
   have HN := am hnext
   have HL := am hlen
   have hsz := am (show w.heap.size + 1 ≤ wr.heap.size from blk_lt HBx.out)
   have hne : ∀ b,b < w.heap.size + 1 → some b ≠ u6.ownBlock := fun b hb e => by have := HO.out.1 b e.symm;omega
   have HNE := am hne
   clear hnext hlen hX hY hne
   go_wp2_with (first|((with_reducible refine gate_builtin (b := .append) (xs := #[.tmp 20,.tmp 23]) rfl ?_);at_builtin;refine Kd.R_append (Kd.int .u64) (w0 := w) w.heap.size rfl (.tmp 20) (.tmp 23) 41 22 (.int .u64 0) 8 rfl Try.underlying41 info22 rfl (by decide) (by omega) u6 (xsOf (pts.take n)) X [.int .u64 X] (fun k_ => w.heap.size + 1 ≤ k_) (fun _ => False) rfl (by rw [alloc_size2];rfl) rfl (fun _ hk => hk.elim) (fun k hk => Nat.le_trans hsz.out (Nat.le_trans (by rw [alloc_size2];omega) hk)) (Kd.R_alloc HO.out _) (below_alloc HB.out _) (below_size (below_alloc HB.out _)) (by rw [HL.out];omega) ?_;intro v6 w6 ho6 hb6 hg6 ha6;rw [HN.out] at ho6;have HO6 := am ho6;have HB6 := am hb6;have HG6 := am hg6;clear ho6 hb6 hg6 ha6))
   go_roundg (pts.length - (n + 1))
   case measure => have := HK.out;omega
   case rel => exact ⟨n + 1,by go_num,⟨by omega⟩,HO6,⟨blk_grown (blk_alloc HBx.out _) HG6.out (HNE.out _ (by omega))⟩,HB6⟩
  ·have hd : decide ((n : Int) < (pts.length : Int)) = false := decide_eq_false (by omega)
   have hn : n = pts.length := by have := HK.out;omega
   subst hn
   rw [List.take_length] at HO
   rw [← HXS.out] at HO
   obtain ⟨Ax,cx,rfl,hcx,hCx⟩ := Kd.R_reads HO.out
   have HU := am (unlike_big Ax cx xs wr hCx hcx (by rw [HXL.out];exact hl))
   clear hCx hlt hd HK
   by_cases hnd : xs.Nodup
   ·have hd : decide xs.Nodup = true := decide_eq_true hnd
    have hr1 := HR1.out
    have hr2 := HR2.out
    rw [if_pos hnd] at hr1 hr2
    subst hr2
    have HRR := am hr1
    have HND := am hnd
    clear hnd hr1 HR1 HR2
    go_wp2_with (first|(go_at_call 52;(with_reducible refine HU.out.mono ?_);rintro e w1 ⟨rfl,hb3⟩;have HB3 := am (below_step HB.out hb3);have HBx3 := am (show Box w1 w.heap.size p from blk_below HBx.out hb3);have HO3 := am (Kd.R_below HO.out hb3);clear hb3))
    obtain ⟨A3,c3,e3,hc3,hC3⟩ := Kd.R_reads HO3.out
    cases e3
    have HCX := am hC3
    clear hC3 hc3 hd HB HBx HO HU
    go_loopg [9,31] pts.length (fun kq v9 v31 w' => ∃ (n : Nat),v31 = .int .i64 (n : Int) ∧ Aside0 (kq + n = pts.length) ∧ Aside0 (Kd.R (Kd.int .u64) 22 w' w1.heap.size (fun k_ => True) v9 (polSum p pts n)) ∧ Aside0 (Below w1.heap.size w1 w'))
    case atStart => exact ⟨0,rfl,⟨rfl⟩,⟨Kd.R_nil _ _ _ _ _⟩,⟨Below.refl _ _⟩⟩
    case round =>
     obtain ⟨n,rfl,HK,HS,HB⟩ := hrel
     by_cases hlt : n < pts.length
     ·have p1 : ((0 : Int) ≤ (n : Int)) = True := eq_true (by omega)
      have q1 : ((n : Int) < (pts.length : Int)) = True := eq_true (by omega)
      obtain ⟨ad,e1,hx0,hx1⟩ := at_T49 HR.out (n : Int) (by omega) (by omega)
      cases e1
      replace hx0 := pw_cell_below (below_step HB3.out HB.out) hx0
      replace hx1 := pw_cell_below (below_step HB3.out HB.out) hx1
      rw [Int.toNat_natCast] at hx0 hx1
      obtain ⟨hX,hY⟩ := HX.out.at_ n hlt
      have hi := pol_inner hp Ax cx xs (rd_T49 pts (n : Int)).f0 (rd_T49 pts (n : Int)).f1 hX (by rw [HXS.out];exact HX.out.xs) (by rw [HXL.out];omega) w.heap.size n (by rw [HXL.out];exact hlt) wr (Kd.C_below HCX.out HB.out) (blk_below HBx3.out HB.out)
      have hS : (othersN xs n xs.length).foldl (polStep p (rd_T49 pts (n : Int)).f0) ([1],1) = polS p pts n := by rw [HXL.out,HXS.out];rfl
      rw [hS] at hi
      obtain ⟨X,hXX⟩ : ∃ y,y = (rd_T49 pts (n : Int)).f0 := ⟨_,rfl⟩
      obtain ⟨Y,hYY⟩ : ∃ y,y = (rd_T49 pts (n : Int)).f1 := ⟨_,rfl⟩
      obtain ⟨F,hF⟩ : ∃ y,y = (polS p pts n).1 := ⟨_,rfl⟩
      obtain ⟨D,hD⟩ : ∃ y,y = (polS p pts n).2 := ⟨_,rfl⟩
      have hfd : polS p pts n = (F,D) := by rw [hF,hD]
      rw [← hXX] at hx0 hX
      rw [← hYY] at hx1 hY
      rw [hfd,← hXX,← hYY] at hi
      obtain ⟨hr1,hr2,hlen,hD0⟩ := polS_ok hp HX.out hlt (by rw [← HXS.out];exact HND.out)
      rw [← hF] at hr1 hlen
      rw [← hD] at hr2 hD0
      obtain ⟨ko,hko⟩ := (over_ev hp hY hr2 hD0).rounds
      obtain ⟨ks,hks⟩ := (scale_ev hp (Res.mod hp (Y * invp p D)) F hr1 (by omega)).rounds
      have hterm : trimL (F.map fun v => (Y * invp p D % p) * v % p) = polTerm p pts n := by unfold polTerm;rw [← hF,← hD,← hYY]
      rw [hterm] at hks
      have hsum := polSum_ok hp HX.out n (by omega)
      have htl : (polTerm p pts n).length ≤ 1000 := by rw [← hterm];refine Nat.le_trans (trimL_length _) ?_;rw [List.length_map];omega
      have htr : ∀ x ∈ polTerm p pts n,Res p x := by rw [← hterm];intro x hx;obtain ⟨y,_,rfl⟩ := List.mem_map.1 (trimL_mem hx);exact Res.mod hp _
      obtain ⟨ka,hka⟩ := (trim_ev (addP p (polSum p pts n) (polTerm p pts n)) (by have := addP_length p (polSum p pts n) (polTerm p pts n);omega)).rounds
      have HIn := am hi
      have HKO := am hko
      have HKS := am hks
      have HKA := am hka
      have HT := am (And.intro htr htl)
      have HSM := am hsum
      have HF := am hF
      have HD := am hD
      clear hi hko hks hka htr htl hsum hF hD hfd hterm hr1 hr2 hlen hD0 hXX hYY hS hX hY
      go_wp2_with (first
       | (go_at_call 53;(with_reducible refine HIn.out.mono ?_);rintro e w4 ⟨rfl,HI⟩))
      obtain ⟨A9,c9,e9,hc9,hC9⟩ := Kd.R_reads HS.out
      cases e9
      have HC9 := am (Kd.C_below hC9 HI.out.below)
      obtain ⟨Af,cf,hf,hO⟩ := HI.out.hf
      simp only at hf hO
      obtain ⟨Af',cf',ef,hcf,hCf⟩ := Kd.R_reads hO
      cases ef
      have hscale : ∀ m : Nat,Calls Try.prog 57 #[.int .u64 p,.int .u64 (Y * invp p D % p),.slice Af F.length cf] (w4.drew.drewN m) fun e w' => ∃ v0_ : Value,e = .returned v0_ ∧ Kd.R (Kd.int .u64) 22 w' w4.heap.size (fun _ => True) v0_ (polTerm p pts n) ∧ Below w4.heap.size (w4.drew.drewN m) w' :=
       fun m => poly_Scale.calls ks p (Y * invp p D % p) Af cf F (polTerm p pts n) (w4.drew.drewN m) (Kd.C_drewN (show Kd.C (Kd.int .u64) w4.drew Af F.length F from Kd.C_drewN hCf 1) m) hcf HKS.out
      have HSc := am hscale
      have c1 := HI.out.hp.cell
      have c2 := blk_cell HI.out.hx 1
      simp only [List.getElem?_toArray,List.getElem?_cons_zero,List.getElem?_cons_succ] at c2
      have c3 := HI.out.hd.cell
      have c4 := blk_cell hf 0
      simp only [List.getElem?_toArray,List.getElem?_cons_zero] at c4
      clear hf hO hCf hscale hC9
      refine start_ (n := 12) (S := (fun w' => w'.cell? ⟨w.heap.size,0,none⟩ = some (.int .u64 p) ∧ w'.cell? ⟨wr.heap.size,1,none⟩ = some (.int .u64 Y) ∧ w'.cell? ⟨wr.heap.size + 1 + 1 + 1,0,none⟩ = some (.int .u64 D) ∧ w'.cell? ⟨wr.heap.size + 1 + 1,0,none⟩ = some (.slice Af F.length cf))) (ds := []) (bz 12 0) (by kernel_rfl) rfl rfl ⟨c1,c2,c3,c4⟩ (fun hHeld => ?_)
      refine tu 0 41 (bz 12 1) hHeld ?_
      refine pu 1 42 (bz 12 3) ?_
      refine tu 2 43 (bz 12 7) hHeld ?_
      refine tu 3 44 (bz 12 15) hHeld ?_
      refine pu 4 45 (bz 12 31) ?_
      refine tu 5 46 (bz 12 63) hHeld ?_
      refine tu 6 47 (bz 12 127) hHeld ?_
      refine tu 8 49 (bz 12 383) hHeld ?_
      refine one_ (i := 7) (N := some 48) (bz 12 511) rfl rfl (by kernel_rfl) (by decide) (fun K hK => ?_)
      refine goes_ Try.func58 (by kernel_rfl) rfl #[.int .u64 p,.int .u64 Y,.int .u64 D] (by rfl) rfl rfl (by (try simp only [List.map_toArray,List.map_cons,List.map_nil]);first|done|rfl) ?_
      refine (interpolate_over.calls ko p Y D (Y * invp p D % p) _ HKO.out).mono ?_
      rintro e w' ⟨rfl,⟨nd,rfl⟩⟩
      refine ⟨_,rfl,?_⟩
      refine hK.out _ _ ⟨c1,c2,c3,c4⟩ (fun hHeld => ?_)
      clear hK K
      refine nm 48 ?_
      refine one_ (i := 9) (N := some 50) (bz 12 1023) rfl rfl (by kernel_rfl) (by decide) (fun K hK => ?_)
      refine goes_ Try.func57 (by kernel_rfl) rfl #[.int .u64 p,.int .u64 (Y * invp p D % p),.slice Af F.length cf] (by rfl) rfl rfl (by (try simp only [List.map_toArray,List.map_cons,List.map_nil]);first|done|rfl) ?_
      refine (HSc.out nd).mono ?_
      rintro e w5 ⟨v0,rfl,hv0,hb0⟩
      have hsz5 := am (show w4.heap.size ≤ w5.heap.size from hb0.size)
      have hb5 := am (show Below w4.heap.size w4 w5 from below_then (pw_below_drewN (pw_below_drewN (Below.refl w4.heap.size w4) 1) nd) (Nat.le_refl _) hb0)
      obtain ⟨A5,q5,e5,hq5,hC5⟩ := Kd.R_reads hv0
      cases e5
      have HC5 := am hC5
      have HC95 := am (Kd.C_below HC9.out hb5.out)
      have d1 : w5.cell? ⟨w.heap.size,0,none⟩ = some (.int .u64 p) := pw_cell_below hb5.out c1
      have d2 : w5.cell? ⟨wr.heap.size,1,none⟩ = some (.int .u64 Y) := pw_cell_below hb5.out c2
      have d3 : w5.cell? ⟨wr.heap.size + 1 + 1 + 1,0,none⟩ = some (.int .u64 D) := pw_cell_below hb5.out c3
      have d4 : w5.cell? ⟨wr.heap.size + 1 + 1,0,none⟩ = some (.slice Af F.length cf) := pw_cell_below hb5.out c4
      clear hv0 hb0 hC5
      refine ⟨_,rfl,?_⟩
      refine hK.out _ _ ⟨d1,d2,d3,d4⟩ (fun hHeld => ?_)
      clear hK K
      refine nm 50 ?_
      refine one_ (i := 10) (N := some 51) (bz 12 2047) rfl rfl (by kernel_rfl) (by decide) (fun K hK => ?_)
      refine goes_ Try.func56 (by kernel_rfl) rfl #[.int .u64 p,.slice A9 (polSum p pts n).length c9,.slice A5 (polTerm p pts n).length q5] (by rfl) rfl rfl (by (try simp only [List.map_toArray,List.map_cons,List.map_nil]);first|done|rfl) ?_
      refine (poly_Add.walks p hp A9 c9 (polSum p pts n) A5 q5 (polTerm p pts n) HSM.out.1 HT.out.1 (by have := HSM.out.2;omega) (by have := HT.out.2;omega) w5 HC95.out hc9 HC5.out hq5 (polSum p pts (n + 1)) ka HKA.out).mono ?_
      rintro e w6 ⟨v6,rfl,hv6,hb6⟩
      have HV6 := am hv6
      have hb6' := am hb6
      have k1 : w6.cell? ⟨w.heap.size,0,none⟩ = some (.int .u64 p) := pw_cell_below hb6 d1
      have k2 : w6.cell? ⟨wr.heap.size,1,none⟩ = some (.int .u64 Y) := pw_cell_below hb6 d2
      have k3 : w6.cell? ⟨wr.heap.size + 1 + 1 + 1,0,none⟩ = some (.int .u64 D) := pw_cell_below hb6 d3
      have k4 : w6.cell? ⟨wr.heap.size + 1 + 1,0,none⟩ = some (.slice Af F.length cf) := pw_cell_below hb6 d4
      clear hv6 hb6
      refine ⟨_,rfl,?_⟩
      refine hK.out _ _ ⟨k1,k2,k3,k4⟩ (fun hHeld => ?_)
      clear hK K
      refine nm 51 ?_
      refine pu 11 9 (bz 12 4095) ?_
      refine done_ (by kernel_rfl) ?_
      go_wp2
      go_roundg (pts.length - (n + 1))
      case measure => have := HK.out;omega
      case rel =>
       have hbb : Below wr.heap.size wr w6 := below_then (below_then HI.out.below HI.out.below.size hb5.out) (Nat.le_trans HI.out.below.size hsz5.out) hb6'.out
       refine ⟨n + 1,by go_num,⟨by omega⟩,⟨?_⟩,⟨below_then HB.out HB.out.size hbb⟩⟩
       exact Kd.R_lower HV6.out (Nat.le_trans HB.out.size (Nat.le_trans HI.out.below.size hsz5.out))
     ·have hd : decide ((n : Int) < (pts.length : Int)) = false := decide_eq_false (by omega)
      have hn : n = pts.length := by have := HK.out;omega
      subst hn
      obtain ⟨A9,c9,e9,hc9,hC9⟩ := Kd.R_reads HS.out
      cases e9
      have hsum := polSum_ok hp HX.out pts.length (Nat.le_refl _)
      obtain ⟨kt,hkt⟩ := (trim_ev (polSum p pts pts.length) (by omega)).rounds
      have HT := am (show Calls Try.prog 59 #[.slice A9 (polSum p pts pts.length).length c9] wr fun e w' => ∃ v0_ : Value,e = .returned v0_ ∧ Kd.R (Kd.int .u64) 22 w' wr.heap.size (fun _ => True) v0_ (polL p pts) ∧ Below wr.heap.size wr w' from poly_Trim.calls kt A9 c9 (polSum p pts pts.length) (polL p pts) wr hC9 hc9 hkt)
      clear hlt HK hsum hkt hC9
      go_wp2_with (first|(go_at_call 59;(with_reducible refine HT.out.mono ?_);rintro e w4 ⟨v4,rfl,hv4,hb4⟩))
      first|go_ret2|((try simp only [Exit.inBlock,Exit.then]);refine bodyPost_ret (results_tmp rfl _ _ rfl) rfl ?_)
      rw [HRR.out]
      have hb1 := below_step HB3.out HB.out
      exact ⟨_,rfl,Kd.R_lower hv4 hb1.size,below_step hb1 hb4⟩
   ·have hd : decide xs.Nodup = false := decide_eq_false hnd
    have hr1 := HR1.out
    have hr2 := HR2.out
    rw [if_neg hnd] at hr1 hr2
    subst hr1 hr2
    clear hnd HR1 HR2
    go_wp2_with (first|(go_at_call 52;(with_reducible refine HU.out.mono ?_);rintro e w1 ⟨rfl,hb3⟩;have HB3 := am (below_step HB.out hb3);clear hb3))
    first|go_ret2|((try simp only [Exit.inBlock,Exit.then]);refine bodyPost_ret (results_tmp rfl _ _ rfl) rfl ?_)
    exact ⟨_,rfl,Kd.R_nil _ _ _ _ _,HB3.out⟩
def supB (p : Int) : Bool := decide (p = 31) || decide (p = 127) || decide (p = 8191) || decide (p = 131071) || decide (p = 524287) || decide (p = 2147483647) || decide (p = 2305843009213693951)
theorem supB_of {p : Int} (h : supB p = true) : Supp p := by
 simp only [supB,Bool.or_eq_true,decide_eq_true_eq] at h
 rcases h with (((((h|h)|h)|h)|h)|h)|h
 ·exact ⟨5,Or.inl ⟨h,rfl⟩⟩
 ·exact ⟨7,Or.inr (Or.inl ⟨h,rfl⟩)⟩
 ·exact ⟨13,Or.inr (Or.inr (Or.inl ⟨h,rfl⟩))⟩
 ·exact ⟨17,Or.inr (Or.inr (Or.inr (Or.inl ⟨h,rfl⟩)))⟩
 ·exact ⟨19,Or.inr (Or.inr (Or.inr (Or.inr (Or.inl ⟨h,rfl⟩))))⟩
 ·exact ⟨31,Or.inr (Or.inr (Or.inr (Or.inr (Or.inr (Or.inl ⟨h,rfl⟩)))))⟩
 ·exact ⟨61,Or.inr (Or.inr (Or.inr (Or.inr (Or.inr (Or.inr ⟨h,rfl⟩)))))⟩
theorem supB_iff {p : Int} : supB p = true ↔ Supp p := by
 refine ⟨supB_of,fun ⟨q,h⟩ => ?_⟩
 rcases h with ⟨rfl,_⟩|⟨rfl,_⟩|⟨rfl,_⟩|⟨rfl,_⟩|⟨rfl,_⟩|⟨rfl,_⟩|⟨rfl,_⟩ <;> rfl
def resB (p x : Int) : Bool := decide (0 ≤ x) && decide (x < p)
theorem resB_iff {p x : Int} : resB p x = true ↔ Res p x := by simp [resB,Res]
def ressB (p : Int) (l : List Int) : Bool := l.all (resB p)
theorem ressB_iff {p : Int} {l : List Int} : ressB p l = true ↔ ∀ x ∈ l,Res p x := by simp [ressB,resB_iff]
def ptsB (p : Int) (l : List S49) : Bool := l.all fun x => resB p x.f0 && resB p x.f1
theorem ptsB_iff {p : Int} {l : List S49} : ptsB p l = true ↔ PtsOk p l := by simp [ptsB,PtsOk,resB_iff]
theorem ifs {c : Prop} [Decidable c] {α : Type} {x : Option α} {r : α} (h : (if c then x else none) = some r) : c ∧ x = some r := by
 by_cases hc : c
 ·rw [if_pos hc] at h;exact ⟨hc,h⟩
 ·rw [if_neg hc] at h;cases h
def interpolate_Polynomial.f (a0 : Int) (l1 : List S49) : Option (List Int × Int) :=
 if supB a0 = true then (if ptsB a0 l1 = true then (if l1.length ≤ 49 then some (if (xsOf l1).Nodup then polL a0 l1 else [],if (xsOf l1).Nodup then 0 else 1) else none) else none) else none
theorem interpolate_Polynomial.calls (a0 : Int) (A1 : Option Addr) (c1 : Nat) (l1 : List S49) (r1 : List Int) (r2 : Int) (w : World) (hr1 : Kd.C k49 w A1 l1.length l1) (hc1 : l1.length ≤ c1) (h : interpolate_Polynomial.f a0 l1 = some (r1,r2)) :
  Calls Try.prog 39 #[.int .u64 a0,.slice A1 l1.length c1] w fun e w' => ∃ v0_ : Value,e = .returned (.tuple #[v0_,.int .i64 r2]) ∧ Kd.R (Kd.int .u64) 22 w' w.heap.size (fun _ => True) v0_ r1 ∧ Below w.heap.size w w' := by
 unfold interpolate_Polynomial.f at h
 obtain ⟨h1,h⟩ := ifs h
 obtain ⟨h2,h⟩ := ifs h
 obtain ⟨h3,h⟩ := ifs h
 have h := Option.some.inj h
 have e1 := congrArg Prod.fst h
 have e2 := congrArg Prod.snd h
 simp only at e1 e2
 rw [← e1,← e2]
 exact pol_walk (supB_of h1) A1 c1 l1 (ptsB_iff.1 h2) h3 w hr1 hc1
end Go.Proofs.Ytjnkkfdlcbcelaa.Hw
end
section
namespace Go.Proofs.Ytjnkkfdlcbcelaa.Pr
open Go.RowKit Go.Proofs.YtjnkkfdlcbcelaaW.PrintWords Go.Proofs.YtjnkkfdlcbcelaaW.PrintLast Go.Proofs.YtjnkkfdlcbcelaaW.PrintMore
attribute [local go_sem] max2_int min2_int max_two min_two max_three min_three max_four min_four
open Go.Proofs.Ytjnkkfdlcbcelaa.Hw
def privityref01_exps.f  : Option (List Int) := some (([5,7,13,17,19,31,61] : List Int))
set_option maxHeartbeats 8000000 in
set_option maxRecDepth 100000 in
theorem privityref01_exps.calls  (r : List Int) (w : World) (h : privityref01_exps.f  = some r) :
  Calls Try.prog 47 #[] w fun e w' => ∃ v0_ : Value,e = .returned (v0_) ∧ Kd.R (Kd.int .i64) 3 w' w.heap.size (fun _ => True) v0_ r ∧ Below w.heap.size w w' := by
 have HB := am (Below.refl w.heap.size w)
 have H : (some (([5,7,13,17,19,31,61] : List Int))) = some r := h
 clear h
 obtain ⟨y352,hy352⟩ : ∃ y_ : List Int,y_ = (([5,7,13,17,19,31,61] : List Int)) := ⟨_,rfl⟩
 replace H : (some y352) = some r := by first|(rw [hy352];with_reducible exact H)|(have H2_ := (Option.bind_some _ _).symm.trans H;rw [hy352];with_reducible exact H2_)|(have H2_ := (Option.bind_some _ _).symm.trans H;with_reducible exact H2_)|with_reducible exact H|(rw [hy352];exact H)|exact H
 have Ny352 := am hy352
 clear hy352
 obtain rfl := Option.some.inj H
 go_enter Try.func47,Try.ntmps47
 go_wp2_with (first|((with_reducible refine gate_dst (N := 1) rfl ?_);refine Kd.R_lit (Kd.int .i64) _ 3 ?hg (N := 1) ?hd (xs := ([5,7,13,17,19,31,61] : List Int)) (inner := [.int .i64 5,.int .i64 7,.int .i64 13,.int .i64 17,.int .i64 19,.int .i64 31,.int .i64 61]) (ok := fun _ => True) (okp := fun _ => True) ?hr ?hp (fun _ hk => hk) trivial (Below.refl _ _) (Nat.le_refl _) (by simp) ?_;(case hd => rfl);(case hg => rfl);(case hr => first|(go_simp;done)|(go_simp;rfl));(case hp => exact (Reps.one (show Kd.M (Kd.int .i64) _ _ _ 5 [.int .i64 5] from rfl) (Reps.one (show Kd.M (Kd.int .i64) _ _ _ 7 [.int .i64 7] from rfl) (Reps.one (show Kd.M (Kd.int .i64) _ _ _ 13 [.int .i64 13] from rfl) (Reps.one (show Kd.M (Kd.int .i64) _ _ _ 17 [.int .i64 17] from rfl) (Reps.one (show Kd.M (Kd.int .i64) _ _ _ 19 [.int .i64 19] from rfl) (Reps.one (show Kd.M (Kd.int .i64) _ _ _ 31 [.int .i64 31] from rfl) (Reps.one (show Kd.M (Kd.int .i64) _ _ _ 61 [.int .i64 61] from rfl) (Reps.none _ _)))))))));intro v353 w1 ho2 hb hg_ hnew_;clear hg_ hnew_;(first|rw [← Ny352.out] at ho2|(simp only [Int.reduceToNat] at ho2;rw [← Ny352.out] at ho2));have n0_ := am (Kd.R_lower ho2 (below_size (bb HB)));have n1_ := am (below_step (bb HB) hb);clear HB;have HO354 := n0_;have HB := n1_;clear n0_ n1_;clear hb ho2))
 go_ret
 exact ⟨_,by first|rfl|(simp [errW_none,errW_some] <;> rfl)|(simp [*,errW_none,errW_some] <;> rfl),by (with_reducible repeat (first|apply Kd.R_alloc|apply Kd.R_drewN|apply Kd.R_drew));exact HO354.out,bb HB⟩
def privityref01_Exponent.l0 : Nat → Int → List Int → Int → Option (Int)
 | 0,_,_,_ => none
 | k + 1,x0,x3,x4 => if x4 < (x3.length : Int) then (if 0 ≤ x4 then (if 0 ≤ (IntKind.u64.wrap (rd x3 x4)) then (if x0 = (IntKind.u64.wrap ((shl .u64 1 (IntKind.u64.wrap (rd x3 x4))) - 1)) then (some (rd x3 x4)) else (privityref01_Exponent.l0 k x0 x3 (wrap64 (x4 + 1)))) else (none)) else (none)) else (some 0)
def privityref01_Exponent.f (k : Nat) (a0 : Int) : Option (Int) := (privityref01_exps.f).bind fun t355 => (privityref01_Exponent.l0 k a0 t355 0)
theorem privityref01_Exponent.mono_l : ∀ k,(∀ y0 y1 y2,LeO (privityref01_Exponent.l0 k y0 y1 y2) (privityref01_Exponent.l0 (k + 1) y0 y1 y2))
 | 0 => fun _ _ _ r h => by simp [privityref01_Exponent.l0] at h
 | k + 1 => by
  have ih0 := privityref01_Exponent.mono_l k
  ·intro y0 y1 y2
   unfold privityref01_Exponent.l0
   repeat' first
   | (with_reducible exact ih0 _ _ _)
   | (with_reducible exact LeO.refl _)
   | (with_reducible exact LeO.none _)
   | (with_reducible refine LeO.ite ?_ ?_)
   | (with_reducible refine LeO.bind ?_ (fun _ => ?_))
   | exact ih0 _ _ _
   | exact LeO.none _
   | refine LeO.ite ?_ ?_
   | refine LeO.bind ?_ (fun _ => ?_)
theorem privityref01_Exponent.mono : ∀ a0 k,LeO (privityref01_Exponent.f k a0) (privityref01_Exponent.f (k + 1) a0) := by
 intro a0 k
 have ih0 := privityref01_Exponent.mono_l k
 unfold privityref01_Exponent.f
 repeat' first
   | (with_reducible exact ih0 _ _ _)
   | (with_reducible exact LeO.refl _)
   | (with_reducible exact LeO.none _)
   | (with_reducible refine LeO.ite ?_ ?_)
   | (with_reducible refine LeO.bind ?_ (fun _ => ?_))
   | exact ih0 _ _ _
   | exact LeO.none _
   | refine LeO.ite ?_ ?_
   | refine LeO.bind ?_ (fun _ => ?_)
set_option maxHeartbeats 8000000 in
set_option maxRecDepth 100000 in
theorem privityref01_Exponent.calls (k : Nat) (a0 : Int) (r : Int) (w : World) (h : privityref01_Exponent.f k a0 = some r) :
  Calls Try.prog 32 #[.int .u64 a0] w fun e w' => e = .returned (.int .i64 r) ∧ Below w.heap.size w w' := by
 have HB := am (Below.refl w.heap.size w)
 have H : ((privityref01_exps.f).bind fun t355 => (privityref01_Exponent.l0 k a0 t355 0)) = some r := h
 clear h
 replace H := Option.bind_eq_some_iff.mp H
 obtain ⟨t355,A20,H⟩ := H
 try dsimp only at H
 have A2 := am A20
 clear A20
 have H' := am H
 clear H
 go_enter Try.func32,Try.ntmps32
 go_wp2_with (first|((with_reducible refine gate_callee (f := 47) rfl ?_);refine goesL_ (some 5) rfl rfl Try.func47 (by kernel_rfl) rfl #[] rfl (by (try simp only [List.map_toArray,List.map_cons,List.map_nil]);first|done|rfl|(simp only [List.length_drop,List.length_take];rfl)) ?_;(with_reducible refine (privityref01_exps.calls  t355 _ A2.out).mono ?_);rintro e w3 ⟨v356,rfl,ho0,hb⟩;refine ⟨_,rfl,?_⟩;have n0_ := am (Kd.R_lower ho0 (below_size (bb HB)));have n1_ := am (below_step (bb HB) hb);clear HB;have HO357 := n0_;have HB := n1_;clear n0_ n1_;(try clear hb);(try clear hb2);(try clear hk);(try clear hi);(try clear ho0)))
 go_loopg [4] k (fun kq v4 w' => ∃ (x4_1 : Int),v4 = .int .i64 x4_1 ∧ Aside0 (privityref01_Exponent.l0 kq a0 t355 x4_1 = some r) ∧ Aside0 (kq ≤ k) ∧ Aside0 (Kd.R (Kd.int .i64) 3 w' w.heap.size (fun _ => True) v356 t355) ∧ Aside0 (Below w.heap.size w w'))
 case atStart => exact ⟨(0),(by first|rfl|(simp;done)|(simp [*];done)),H',⟨Nat.le_refl _⟩,⟨by (with_reducible repeat (first|apply Kd.R_alloc|apply Kd.R_drewN|apply Kd.R_drew));exact HO357.out⟩,⟨bb HB⟩⟩
 case round =>
  clear H'
  try clear p2
  try clear c3
  obtain ⟨x4_1,rfl,HA,HK1,HO_3,HB⟩ := hrel
  cases gk with
  | zero => exact absurd HA.out (by simp [privityref01_Exponent.l0])
  | succ k1 =>
   have H := HA.out
   clear HA
   simp only [privityref01_Exponent.l0] at H
   by_cases c4 : x4_1 < (t355.length : Int)
   ·rw [if_pos c4] at H
    have c4b0 : decide (x4_1 < (t355.length : Int)) = true := decide_eq_true c4
    clear c4
    by_cases c5 : 0 ≤ x4_1
    ·rw [if_pos c5] at H
     have c5b0 : decide (0 ≤ x4_1) = true := decide_eq_true c5
     clear c5
     obtain ⟨ji6,hji6⟩ : ∃ j_ : Int,(IntKind.u64.wrap (rd t355 x4_1)) = j_ := ⟨_,rfl⟩
     first|rw [hji6] at H|simp only [hji6] at H
     by_cases c7 : 0 ≤ (ji6)
     ·rw [if_pos c7] at H
      have c7b0 := eq_true c7
      have c7b1 : decide (0 ≤ (ji6)) = true := decide_eq_true c7
      clear c7
      obtain ⟨ji8,hji8⟩ : ∃ j_ : Int,(shl .u64 1 (ji6)) = j_ := ⟨_,rfl⟩
      first|rw [hji8] at H|simp only [hji8] at H
      have hji8_ : (IntKind.u64.wrap (1 * 2 ^ min (ji6).toNat 64)) = ji8 := hji8
      have hji8z : (ji6) ≤ 64 → (IntKind.u64.wrap (1 * 2 ^ (ji6).toNat)) = ji8 := shl_small hji8
      have hji8u : (IntKind.u64.wrap (2 ^ min (ji6).toNat 64)) = ji8 := by have h_ := hji8_;rw [Int.one_mul] at h_;exact h_
      have hji8v : (ji6) ≤ 64 → (IntKind.u64.wrap (2 ^ (ji6).toNat)) = ji8 := fun hle_ => by have h_ := hji8z hle_;rw [Int.one_mul] at h_;exact h_
      by_cases c9 : a0 = (IntKind.u64.wrap ((ji8) - 1))
      ·rw [if_pos c9] at H
       have c9b0 : (a0 == (IntKind.u64.wrap ((ji8) - 1))) = true := beq_iff_eq.mpr c9
       have c9b1 : (a0 != (IntKind.u64.wrap ((ji8) - 1))) = false := bne_eq_false_iff_eq.mpr c9
       clear c9
       obtain rfl := Option.some.inj H
       obtain ⟨Ao10,co10,eo10⟩ := Kd.R_slice HO_3.out
       subst eo10
       have p358 : 0 ≤ (x4_1 : Int) := od
       have q358 : x4_1 < (t355.length : Int) := od
       obtain ⟨ad358,e358,hx358_0⟩ := Kd.at_int (Kd.R_reads' HO_3.out).2.2 x4_1 p358 q358
       cases e358
       replace p358 := eq_true p358
       replace q358 := eq_true q358
       have p359 : 0 ≤ (x4_1 : Int) := od
       have q359 : x4_1 < (t355.length : Int) := od
       obtain ⟨ad359,e359,hx359_0⟩ := Kd.at_int (Kd.R_reads' HO_3.out).2.2 x4_1 p359 q359
       obtain rfl : ad358 = ad359 := (by injection e359)
       replace p359 := eq_true p359
       replace q359 := eq_true q359
       go_wp2
       go_ret
       exact ⟨by first|rfl|(simp [errW_none,errW_some] <;> rfl)|(simp only [← hji6,← hji8];first|rfl|(simp [errW_none,errW_some] <;> rfl))|(simp [*,errW_none,errW_some] <;> rfl),bb HB⟩
      ·rw [if_neg c9] at H
       have c9b0 : (a0 == (IntKind.u64.wrap ((ji8) - 1))) = false := beq_eq_false_iff_ne.mpr c9
       have c9b1 : (a0 != (IntKind.u64.wrap ((ji8) - 1))) = true := bne_iff_ne.mpr c9
       have H' := am H
       clear H
       obtain ⟨Ao11,co11,eo11⟩ := Kd.R_slice HO_3.out
       subst eo11
       have p358 : 0 ≤ (x4_1 : Int) := od
       have q358 : x4_1 < (t355.length : Int) := od
       obtain ⟨ad358,e358,hx358_0⟩ := Kd.at_int (Kd.R_reads' HO_3.out).2.2 x4_1 p358 q358
       cases e358
       replace p358 := eq_true p358
       replace q358 := eq_true q358
       go_wp2
       go_roundg k1
       case measure => have := HK1.out;omega
       case rel => exact ⟨(wrap64 (x4_1 + 1)),(by first|rfl|(simp;done)|(simp [*];done)),H',⟨by have := HK1.out;omega⟩,⟨by (with_reducible repeat (first|apply Kd.R_alloc|apply Kd.R_drewN|apply Kd.R_drew));exact HO_3.out⟩,⟨bb HB⟩⟩
     ·rw [if_neg c7] at H
      exact absurd H (by simp)
    ·rw [if_neg c5] at H
     exact absurd H (by simp)
   ·rw [if_neg c4] at H
    have c4b0 : decide (x4_1 < (t355.length : Int)) = false := decide_eq_false c4
    clear c4
    obtain rfl := Option.some.inj H
    obtain ⟨Ao12,co12,eo12⟩ := Kd.R_slice HO_3.out
    subst eo12
    go_wp2
    go_ret
    exact ⟨by first|rfl|(simp [errW_none,errW_some] <;> rfl)|(simp [*,errW_none,errW_some] <;> rfl),bb HB⟩
def privityref01_Supported.f (k : Nat) (a0 : Int) : Option (Bool) := (privityref01_Exponent.f k a0).bind fun t360 => (some (decide (t360 > 0)))
theorem privityref01_Supported.mono : ∀ a0 k,LeO (privityref01_Supported.f k a0) (privityref01_Supported.f (k + 1) a0) := by
 intro a0 k
 unfold privityref01_Supported.f
 repeat' first
   | (with_reducible exact privityref01_Exponent.mono _ _)
   | (with_reducible exact LeO.refl _)
   | (with_reducible exact LeO.none _)
   | (with_reducible refine LeO.ite ?_ ?_)
   | (with_reducible refine LeO.bind ?_ (fun _ => ?_))
   | exact privityref01_Exponent.mono _ _
   | exact LeO.none _
   | refine LeO.ite ?_ ?_
   | refine LeO.bind ?_ (fun _ => ?_)
set_option maxHeartbeats 8000000 in
set_option maxRecDepth 100000 in
theorem privityref01_Supported.calls (k : Nat) (a0 : Int) (r : Bool) (w : World) (h : privityref01_Supported.f k a0 = some r) :
  Calls Try.prog 7 #[.int .u64 a0] w fun e w' => e = .returned (.bool r) ∧ Below w.heap.size w w' := by
 have HB := am (Below.refl w.heap.size w)
 have H : ((privityref01_Exponent.f k a0).bind fun t360 => (some (decide (t360 > 0)))) = some r := h
 clear h
 replace H := Option.bind_eq_some_iff.mp H
 obtain ⟨t360,A20,H⟩ := H
 try dsimp only at H
 have A2 := am A20
 clear A20
 obtain rfl := Option.some.inj H
 go_enter Try.func7,Try.ntmps7
 go_wp2_with (first|((with_reducible refine gate_callee (f := 32) rfl ?_);refine goesL_ (some 4) rfl rfl Try.func32 (by kernel_rfl) rfl #[.int .u64 a0] rfl (by (try simp only [List.map_toArray,List.map_cons,List.map_nil]);first|done|rfl|(simp only [List.length_drop,List.length_take];rfl)) ?_;(with_reducible refine (privityref01_Exponent.calls k a0 t360 _ A2.out).mono ?_);rintro e w3 ⟨rfl,hb⟩;refine ⟨_,rfl,?_⟩;have n0_ := am (below_step (bb HB) hb);clear HB;have HB := n0_;clear n0_;(try clear hb);(try clear hb2);(try clear hk);(try clear hi)))
 go_ret
 exact ⟨by first|rfl|(simp [errW_none,errW_some] <;> rfl)|(simp [*,errW_none,errW_some] <;> rfl),bb HB⟩
def privitylaw09_setups.f (a0_0 : Int) (a0_1 : Int) (a0_2 : Int) : Option (Bool) := if a0_1 ≥ 4 then (if a0_1 ≤ 13 then (if (IntKind.u64.wrap (a0_1)) < a0_0 then (if a0_2 ≥ 1 then (if a0_2 < a0_1 then (some (decide ((wrap64 (3 * a0_2)) < a0_1))) else (some false)) else (some false)) else (some false)) else (some false)) else (some false)
set_option maxHeartbeats 8000000 in
set_option maxRecDepth 100000 in
theorem privitylaw09_setups.calls (a0_0 : Int) (a0_1 : Int) (a0_2 : Int) (r : Bool) (w : World) (h : privitylaw09_setups.f a0_0 a0_1 a0_2 = some r) :
  Calls Try.prog 9 #[.agg #[.int .u64 a0_0,.int .i64 a0_1,.int .i64 a0_2]] w fun e w' => e = .returned (.bool r) ∧ Below w.heap.size w w' := by
 have hu24 := Try.underlying24
 have HB := am (Below.refl w.heap.size w)
 have H : (if a0_1 ≥ 4 then (if a0_1 ≤ 13 then (if (IntKind.u64.wrap (a0_1)) < a0_0 then (if a0_2 ≥ 1 then (if a0_2 < a0_1 then (some (decide ((wrap64 (3 * a0_2)) < a0_1))) else (some false)) else (some false)) else (some false)) else (some false)) else (some false)) = some r := h
 clear h
 by_cases c2 : a0_1 ≥ 4
 ·rw [if_pos c2] at H
  have c2b0 : decide (4 ≤ a0_1) = true := decide_eq_true c2
  clear c2
  by_cases c3 : a0_1 ≤ 13
  ·rw [if_pos c3] at H
   have c3b0 : decide (a0_1 ≤ 13) = true := decide_eq_true c3
   clear c3
   by_cases c4 : (IntKind.u64.wrap (a0_1)) < a0_0
   ·rw [if_pos c4] at H
    have c4b0 : decide ((IntKind.u64.wrap (a0_1)) < a0_0) = true := decide_eq_true c4
    clear c4
    by_cases c5 : a0_2 ≥ 1
    ·rw [if_pos c5] at H
     have c5b0 : decide (1 ≤ a0_2) = true := decide_eq_true c5
     clear c5
     by_cases c6 : a0_2 < a0_1
     ·rw [if_pos c6] at H
      have c6b0 : decide (a0_2 < a0_1) = true := decide_eq_true c6
      clear c6
      obtain rfl := Option.some.inj H
      go_enter Try.func9,Try.ntmps9
      go_wp2_with (first|((with_reducible refine gate_dst (N := 1) rfl ?_);refine box_event ?hg (N := 1) ?hd (cs := #[.int .u64 a0_0,.int .i64 a0_1,.int .i64 a0_2]) (t := 24) ?hr ?_;(case hd => rfl);(case hg => rfl);(case hr => first|(go_simp;done)|(go_simp;rfl));intro gb361 hg w7 hbox hb;have n0_ := am (below_step (bb HB) hb);have n1_ := am (hbox);have n2_ := am ((by rw [hg];exact (below_size (bb HB)) : w.heap.size ≤ gb361));have n3_ := am ((by rw [hg];exact (below_size (bb HB)) : w.heap.size ≤ gb361));clear HB;have HB := n0_;have BK361 := n1_;have GW361 := n2_;have GE361 := n3_;clear n0_ n1_ n2_ n3_;clear hb hbox hg;have hcz8_0 := bc BK361 0;have hcz8_1 := bc BK361 1;have hcz8_2 := bc BK361 2;have hfz8_0 := bf BK361 0;have hfz8_1 := bf BK361 1;have hfz8_2 := bf BK361 2))
      go_ret
      exact ⟨by first|rfl|(simp [errW_none,errW_some] <;> rfl)|(simp [*,errW_none,errW_some] <;> rfl),bg HB GE361⟩
     ·rw [if_neg c6] at H
      have c6b0 : decide (a0_2 < a0_1) = false := decide_eq_false c6
      clear c6
      obtain rfl := Option.some.inj H
      go_enter Try.func9,Try.ntmps9
      go_wp2_with (first|((with_reducible refine gate_dst (N := 1) rfl ?_);refine box_event ?hg (N := 1) ?hd (cs := #[.int .u64 a0_0,.int .i64 a0_1,.int .i64 a0_2]) (t := 24) ?hr ?_;(case hd => rfl);(case hg => rfl);(case hr => first|(go_simp;done)|(go_simp;rfl));intro gb361 hg w9 hbox hb;have n0_ := am (below_step (bb HB) hb);have n1_ := am (hbox);have n2_ := am ((by rw [hg];exact (below_size (bb HB)) : w.heap.size ≤ gb361));have n3_ := am ((by rw [hg];exact (below_size (bb HB)) : w.heap.size ≤ gb361));clear HB;have HB := n0_;have BK361 := n1_;have GW361 := n2_;have GE361 := n3_;clear n0_ n1_ n2_ n3_;clear hb hbox hg;have hcz10_0 := bc BK361 0;have hcz10_1 := bc BK361 1;have hcz10_2 := bc BK361 2;have hfz10_0 := bf BK361 0;have hfz10_1 := bf BK361 1;have hfz10_2 := bf BK361 2))
      go_ret
      exact ⟨by first|rfl|(simp [errW_none,errW_some] <;> rfl)|(simp [*,errW_none,errW_some] <;> rfl),bg HB GE361⟩
    ·rw [if_neg c5] at H
     have c5b0 : decide (1 ≤ a0_2) = false := decide_eq_false c5
     clear c5
     obtain rfl := Option.some.inj H
     go_enter Try.func9,Try.ntmps9
     go_wp2_with (first|((with_reducible refine gate_dst (N := 1) rfl ?_);refine box_event ?hg (N := 1) ?hd (cs := #[.int .u64 a0_0,.int .i64 a0_1,.int .i64 a0_2]) (t := 24) ?hr ?_;(case hd => rfl);(case hg => rfl);(case hr => first|(go_simp;done)|(go_simp;rfl));intro gb361 hg w11 hbox hb;have n0_ := am (below_step (bb HB) hb);have n1_ := am (hbox);have n2_ := am ((by rw [hg];exact (below_size (bb HB)) : w.heap.size ≤ gb361));have n3_ := am ((by rw [hg];exact (below_size (bb HB)) : w.heap.size ≤ gb361));clear HB;have HB := n0_;have BK361 := n1_;have GW361 := n2_;have GE361 := n3_;clear n0_ n1_ n2_ n3_;clear hb hbox hg;have hcz12_0 := bc BK361 0;have hcz12_1 := bc BK361 1;have hcz12_2 := bc BK361 2;have hfz12_0 := bf BK361 0;have hfz12_1 := bf BK361 1;have hfz12_2 := bf BK361 2))
     go_ret
     exact ⟨by first|rfl|(simp [errW_none,errW_some] <;> rfl)|(simp [*,errW_none,errW_some] <;> rfl),bg HB GE361⟩
   ·rw [if_neg c4] at H
    have c4b0 : decide ((IntKind.u64.wrap (a0_1)) < a0_0) = false := decide_eq_false c4
    clear c4
    obtain rfl := Option.some.inj H
    go_enter Try.func9,Try.ntmps9
    go_wp2_with (first|((with_reducible refine gate_dst (N := 1) rfl ?_);refine box_event ?hg (N := 1) ?hd (cs := #[.int .u64 a0_0,.int .i64 a0_1,.int .i64 a0_2]) (t := 24) ?hr ?_;(case hd => rfl);(case hg => rfl);(case hr => first|(go_simp;done)|(go_simp;rfl));intro gb361 hg w13 hbox hb;have n0_ := am (below_step (bb HB) hb);have n1_ := am (hbox);have n2_ := am ((by rw [hg];exact (below_size (bb HB)) : w.heap.size ≤ gb361));have n3_ := am ((by rw [hg];exact (below_size (bb HB)) : w.heap.size ≤ gb361));clear HB;have HB := n0_;have BK361 := n1_;have GW361 := n2_;have GE361 := n3_;clear n0_ n1_ n2_ n3_;clear hb hbox hg;have hcz14_0 := bc BK361 0;have hcz14_1 := bc BK361 1;have hcz14_2 := bc BK361 2;have hfz14_0 := bf BK361 0;have hfz14_1 := bf BK361 1;have hfz14_2 := bf BK361 2))
    go_ret
    exact ⟨by first|rfl|(simp [errW_none,errW_some] <;> rfl)|(simp [*,errW_none,errW_some] <;> rfl),bg HB GE361⟩
  ·rw [if_neg c3] at H
   have c3b0 : decide (a0_1 ≤ 13) = false := decide_eq_false c3
   clear c3
   obtain rfl := Option.some.inj H
   go_enter Try.func9,Try.ntmps9
   go_wp2_with (first|((with_reducible refine gate_dst (N := 1) rfl ?_);refine box_event ?hg (N := 1) ?hd (cs := #[.int .u64 a0_0,.int .i64 a0_1,.int .i64 a0_2]) (t := 24) ?hr ?_;(case hd => rfl);(case hg => rfl);(case hr => first|(go_simp;done)|(go_simp;rfl));intro gb361 hg w15 hbox hb;have n0_ := am (below_step (bb HB) hb);have n1_ := am (hbox);have n2_ := am ((by rw [hg];exact (below_size (bb HB)) : w.heap.size ≤ gb361));have n3_ := am ((by rw [hg];exact (below_size (bb HB)) : w.heap.size ≤ gb361));clear HB;have HB := n0_;have BK361 := n1_;have GW361 := n2_;have GE361 := n3_;clear n0_ n1_ n2_ n3_;clear hb hbox hg;have hcz16_0 := bc BK361 0;have hcz16_1 := bc BK361 1;have hcz16_2 := bc BK361 2;have hfz16_0 := bf BK361 0;have hfz16_1 := bf BK361 1;have hfz16_2 := bf BK361 2))
   go_ret
   exact ⟨by first|rfl|(simp [errW_none,errW_some] <;> rfl)|(simp [*,errW_none,errW_some] <;> rfl),bg HB GE361⟩
 ·rw [if_neg c2] at H
  have c2b0 : decide (4 ≤ a0_1) = false := decide_eq_false c2
  clear c2
  obtain rfl := Option.some.inj H
  go_enter Try.func9,Try.ntmps9
  go_wp2_with (first|((with_reducible refine gate_dst (N := 1) rfl ?_);refine box_event ?hg (N := 1) ?hd (cs := #[.int .u64 a0_0,.int .i64 a0_1,.int .i64 a0_2]) (t := 24) ?hr ?_;(case hd => rfl);(case hg => rfl);(case hr => first|(go_simp;done)|(go_simp;rfl));intro gb361 hg w17 hbox hb;have n0_ := am (below_step (bb HB) hb);have n1_ := am (hbox);have n2_ := am ((by rw [hg];exact (below_size (bb HB)) : w.heap.size ≤ gb361));have n3_ := am ((by rw [hg];exact (below_size (bb HB)) : w.heap.size ≤ gb361));clear HB;have HB := n0_;have BK361 := n1_;have GW361 := n2_;have GE361 := n3_;clear n0_ n1_ n2_ n3_;clear hb hbox hg;have hcz18_0 := bc BK361 0;have hcz18_1 := bc BK361 1;have hcz18_2 := bc BK361 2;have hfz18_0 := bf BK361 0;have hfz18_1 := bf BK361 1;have hfz18_2 := bf BK361 2))
  go_ret
  exact ⟨by first|rfl|(simp [errW_none,errW_some] <;> rfl)|(simp [*,errW_none,errW_some] <;> rfl),bg HB GE361⟩
end Go.Proofs.Ytjnkkfdlcbcelaa.Pr
end
section
namespace Go.Proofs.Ytjnkkfdlcbcelaa.E
open Go.RowKit Go.Proofs.Ytjnkkfdlcbcelaa.Pr Go.Proofs.Ytjnkkfdlcbcelaa.Hw Go.Proofs.YtjnkkfdlcbcelaaW.PrintWords Go.Proofs.YtjnkkfdlcbcelaaW.PrintLast Go.Proofs.YtjnkkfdlcbcelaaW.PrintMore
theorem wcap {n : Int} (h : 0 ≤ n) (h2 : n < 9223372036854775808) : wrap64 n = n := by unfold wrap64;omega
theorem wnat {n : Nat} (h : n < 1099511627776) : wrap64 ((n : Int) + 1) = ((n + 1 : Nat) : Int) := by rw [wcap (by omega) (by omega)];omega
theorem up {Q : Nat → Prop} {n : Nat} (hn : Q n) (hs : ∀ i,i < n → Q (i + 1) → Q i) : Q 0 := by
 have : ∀ d,d ≤ n → Q (n - d) := by
  intro d
  induction d with
  | zero => intro _;exact hn
  | succ d ih =>
   intro h
   have h1 := ih (by omega)
   refine hs (n - (d + 1)) (by omega) ?_
   rwa [show n - (d + 1) + 1 = n - d from by omega]
 have := this n (Nat.le_refl _)
 rwa [Nat.sub_self] at this
theorem exponent_eq (p : Int) : privityref01_Exponent.f 10 p = if p = 31 then some 5 else if p = 127 then some 7 else if p = 8191 then some 13 else if p = 131071 then some 17 else if p = 524287 then some 19 else if p = 2147483647 then some 31 else if p = 2305843009213693951 then some 61 else some 0 := by kernel_rfl
theorem supported_ev (p : Int) : Ev (fun k => privityref01_Supported.f k p) (supB p) := by
 refine Ev.of (fun k => privityref01_Supported.mono _ _) (k := 10) ?_
 show (privityref01_Exponent.f 10 p).bind _ = _
 rw [exponent_eq]
 unfold supB
 by_cases h1 : p = 31
 ·subst h1;rfl
 by_cases h2 : p = 127
 ·subst h2;rfl
 by_cases h3 : p = 8191
 ·subst h3;rfl
 by_cases h4 : p = 131071
 ·subst h4;rfl
 by_cases h5 : p = 524287
 ·subst h5;rfl
 by_cases h6 : p = 2147483647
 ·subst h6;rfl
 by_cases h7 : p = 2305843009213693951
 ·subst h7;rfl
 rw [if_neg h1,if_neg h2,if_neg h3,if_neg h4,if_neg h5,if_neg h6,if_neg h7]
 simp [h1,h2,h3,h4,h5,h6,h7]
end Go.Proofs.Ytjnkkfdlcbcelaa.E
end
section
namespace Go.Proofs.Ytjnkkfdlcbcelaa.Pl
open Go.Proofs.Ytjnkkfdlcbcelaa.Fd
section
variable {p : Nat} [NeZero p]
def ev (x : Fin p) : List (Fin p) → Fin p
 | [] => 0
 | c :: f => c + x * ev x f
def quot (a : Fin p) : List (Fin p) → List (Fin p)
 | [] => []
 | _ :: f => match f with
  | [] => []
  | _ => ev a f :: quot a f
theorem quot_length (a : Fin p) : ∀ f : List (Fin p),(quot a f).length = f.length - 1
 | [] => rfl
 | [_] => rfl
 | _ :: d :: f => by
  have := quot_length a (d :: f)
  simp only [quot,List.length_cons] at *
  omega
theorem quot_spec (a x : Fin p) : ∀ f : List (Fin p),ev x f = (x - a) * ev x (quot a f) + ev a f
 | [] => by simp only [quot,ev];grind
 | [c] => by simp only [quot,ev];grind
 | c :: d :: f => by
  have h := quot_spec a x (d :: f)
  have e : quot a (c :: d :: f) = ev a (d :: f) :: quot a (d :: f) := rfl
  rw [e]
  generalize hq : quot a (d :: f) = q at *
  rw [ev,h]
  show _ = (x - a) * (ev a (d :: f) + x * ev x q) + (c + a * ev a (d :: f))
  grind
theorem zero_of_quot (a : Fin p) : ∀ f : List (Fin p),(∀ c ∈ quot a f,c = 0) → ev a f = 0 → ∀ c ∈ f,c = 0
 | [],_,_ => by simp
 | [c],_,h => by
  intro x hx
  have h : c + a * 0 = 0 := h
  simp only [List.mem_cons,List.not_mem_nil,or_false] at hx
  subst hx;grind
 | c :: d :: f,hq,h => by
  have e : quot a (c :: d :: f) = ev a (d :: f) :: quot a (d :: f) := rfl
  rw [e] at hq
  have h1 : ev a (d :: f) = 0 := hq _ (by simp)
  have ih := zero_of_quot a (d :: f) (fun x hx => hq x (List.mem_cons_of_mem _ hx)) h1
  have h2 : c + a * ev a (d :: f) = 0 := h
  rw [h1] at h2
  have hc : c = 0 := by grind
  intro x hx
  rcases List.mem_cons.1 hx with rfl|hx
  ·exact hc
  ·exact ih x hx
def Dom (p : Nat) [NeZero p] : Prop := ∀ a b : Fin p,a * b = 0 → a = 0 ∨ b = 0
theorem zero_of_roots (hd : Dom p) : ∀ (xs f : List (Fin p)),xs.Nodup → f.length ≤ xs.length → (∀ x ∈ xs,ev x f = 0) → ∀ c ∈ f,c = 0
 | [],f,_,hl,_ => by
  have : f = [] := by cases f with|nil => rfl|cons _ _ => simp at hl
  subst this;simp
 | a :: xs,f,hn,hl,h => by
  have hn' := List.nodup_cons.1 hn
  refine zero_of_quot a f (zero_of_roots hd xs (quot a f) hn'.2 (by rw [quot_length];simp at hl;omega) fun x hx => ?_) (h a (by simp))
  have h1 := quot_spec a x f
  rw [h x (List.mem_cons_of_mem _ hx),h a (by simp)] at h1
  have h2 : (x - a) * ev x (quot a f) = 0 := by grind
  rcases hd _ _ h2 with h3|h3
  ·have : x = a := by grind
   subst this;exact absurd hx hn'.1
  ·exact h3
def sub : List (Fin p) → List (Fin p) → List (Fin p)
 | [],g => g.map fun c => -c
 | f,[] => f
 | c :: f,d :: g => (c - d) :: sub f g
omit [NeZero p] in
theorem sub_length : ∀ f g : List (Fin p),(sub f g).length = max f.length g.length
 | [],g => by simp [sub]
 | _ :: _,[] => by simp [sub]
 | _ :: f,_ :: g => by simp [sub,sub_length f g]
theorem ev_neg (x : Fin p) : ∀ f : List (Fin p),ev x (f.map fun c => -c) = - ev x f
 | [] => by simp only [List.map_nil,ev];grind
 | c :: f => by simp only [List.map_cons,ev,ev_neg x f];grind
theorem ev_sub (x : Fin p) : ∀ f g : List (Fin p),ev x (sub f g) = ev x f - ev x g
 | [],g => by simp only [sub,ev_neg,ev];grind
 | _ :: _,[] => by simp only [sub,ev];grind
 | c :: f,d :: g => by simp only [sub,ev,ev_sub x f g];grind
theorem getD_sub (i : Nat) : ∀ f g : List (Fin p),(sub f g).getD i 0 = f.getD i 0 - g.getD i 0 := by
 induction i with
 | zero =>
  intro f g
  cases f with
  | nil => cases g with
   | nil => simp only [sub,List.map_nil,List.getD_nil];grind
   | cons d g => simp only [sub,List.map_cons,List.getD_cons_zero,List.getD_nil];grind
  | cons c f => cases g with
   | nil => simp only [sub,List.getD_cons_zero,List.getD_nil];grind
   | cons d g => simp only [sub,List.getD_cons_zero]
 | succ i ih =>
  intro f g
  cases f with
  | nil => cases g with
   | nil => simp only [sub,List.map_nil,List.getD_nil];grind
   | cons d g =>
    have := ih [] g
    simp only [sub,List.map_cons,List.getD_cons_succ,List.getD_nil] at *
    exact this
  | cons c f => cases g with
   | nil => simp only [sub,List.getD_cons_succ,List.getD_nil];grind
   | cons d g => simp only [sub,List.getD_cons_succ];exact ih f g
theorem getD_zero {f : List (Fin p)} (h : ∀ c ∈ f,c = 0) (i : Nat) : f.getD i 0 = 0 := by
 rw [List.getD_eq_getElem?_getD]
 by_cases hi : i < f.length
 ·rw [List.getElem?_eq_getElem hi];exact h _ (List.getElem_mem hi)
 ·rw [List.getElem?_eq_none (by omega)];rfl
theorem unique (hd : Dom p) (xs f g : List (Fin p)) (hn : xs.Nodup) (hf : f.length ≤ xs.length) (hg : g.length ≤ xs.length) (h : ∀ x ∈ xs,ev x f = ev x g) (i : Nat) : f.getD i 0 = g.getD i 0 := by
 have h1 := getD_zero (zero_of_roots hd xs (sub f g) hn (by rw [sub_length];omega) fun x hx => by rw [ev_sub,h x hx];grind) i
 rw [getD_sub] at h1
 grind
theorem ev_congr (x : Fin p) : ∀ f g : List (Fin p),(∀ i,f.getD i 0 = g.getD i 0) → ev x f = ev x g := by
 intro f g h
 have : ∀ c ∈ sub f g,c = 0 := by
  intro c hc
  obtain ⟨i,hi,rfl⟩ := List.getElem_of_mem hc
  have := getD_sub i f g
  rw [h i,List.getD_eq_getElem?_getD,List.getElem?_eq_getElem hi] at this
  simp only [Option.getD_some] at this
  rw [this];grind
 have h0 : ∀ l : List (Fin p),(∀ c ∈ l,c = 0) → ev x l = 0 := by
  intro l
  induction l with
  | nil => intro _;rfl
  | cons c l ih => intro hl;rw [ev,ih (fun d hd => hl d (List.mem_cons_of_mem _ hd)),hl c (by simp)];grind
 have h1 := h0 _ this
 rw [ev_sub] at h1
 grind
end
section
variable {p : Nat} [NeZero p]
def mono (x : Fin p) : Nat → Fin p
 | 0 => 1
 | n + 1 => x * mono x n
theorem mono_add (x : Fin p) (a : Nat) : ∀ b,mono x (a + b) = mono x a * mono x b
 | 0 => by simp only [mono,Nat.add_zero];grind
 | b + 1 => by rw [← Nat.add_assoc];simp only [mono];rw [mono_add x a b];grind
theorem ev_append (x : Fin p) : ∀ f g : List (Fin p),ev x (f ++ g) = ev x f + mono x f.length * ev x g
 | [],g => by simp only [List.nil_append,ev,List.length_nil,mono];grind
 | c :: f,g => by simp only [List.cons_append,ev,List.length_cons,mono,ev_append x f g];grind
theorem ev_zeros (x : Fin p) : ∀ n,ev x (List.replicate n 0) = 0
 | 0 => rfl
 | n + 1 => by simp only [List.replicate_succ,ev,ev_zeros x n];grind
theorem ev_set (x v : Fin p) : ∀ (f : List (Fin p)) (i : Nat),i < f.length → ev x (f.set i v) = ev x f + (v - f.getD i 0) * mono x i
 | [],_,h => by simp at h
 | c :: f,0,_ => by simp only [List.set_cons_zero,ev,mono,List.getD_cons_zero];grind
 | c :: f,i + 1,h => by
  have := ev_set x v f i (by simpa using h)
  simp only [List.set_cons_succ,ev,mono,List.getD_cons_succ,this];grind
theorem ev_take_succ (x : Fin p) : ∀ (f : List (Fin p)) (n : Nat),ev x (f.take (n + 1)) = ev x (f.take n) + f.getD n 0 * mono x n
 | [],n => by simp only [List.take_nil,List.getD_nil,ev];grind
 | c :: f,0 => by simp only [List.take_succ_cons,List.take_zero,ev,List.getD_cons_zero,mono];grind
 | c :: f,n + 1 => by
  have := ev_take_succ x f n
  simp only [List.take_succ_cons,ev,List.getD_cons_succ,mono] at *
  rw [this];grind
def tf (p : Nat) [NeZero p] (a : Int) : Fin p := ⟨(a % (p : Int)).toNat,by
 have h : (0 : Int) < p := by have := Nat.pos_of_neZero p;omega
 have := Int.emod_lt_of_pos a h
 have := Int.emod_nonneg a (by omega : (p : Int) ≠ 0)
 omega⟩
theorem tf_val (a : Int) : (((tf p a).val : Nat) : Int) = a % (p : Int) := by
 have h : (0 : Int) < p := by have := Nat.pos_of_neZero p;omega
 show (((a % (p : Int)).toNat : Nat) : Int) = _
 rw [Int.toNat_of_nonneg (Int.emod_nonneg a (by omega))]
theorem tf_eq {a : Int} {x : Fin p} (h : ((x.val : Nat) : Int) = a % (p : Int)) : tf p a = x := by
 apply Fin.ext
 have := tf_val (p := p) a
 omega
theorem tf_of_emod {a b : Int} (h : a % (p : Int) = b % (p : Int)) : tf p a = tf p b := tf_eq (by rw [tf_val,h])
theorem tf_emod (a : Int) : tf p (a % (p : Int)) = tf p a := tf_of_emod (Int.emod_emod_of_dvd _ (Int.dvd_refl _))
theorem tf_add (a b : Int) : tf p (a + b) = tf p a + tf p b := by
 refine tf_eq ?_
 rw [Fin.val_add,Int.natCast_emod,Int.natCast_add,tf_val,tf_val,← Int.add_emod]
theorem tf_mul (a b : Int) : tf p (a * b) = tf p a * tf p b := by
 refine tf_eq ?_
 rw [Fin.val_mul,Int.natCast_emod,Int.natCast_mul,tf_val,tf_val,← Int.mul_emod]
theorem tf_zero : tf p 0 = 0 := tf_eq (by simp)
theorem tf_one : tf p 1 = 1 := by
 refine tf_eq ?_
 rw [show ((1 : Fin p).val) = 1 % p from rfl];simp
theorem tf_neg (a : Int) : tf p (-a) = - tf p a := by
 have h : tf p (-a) + tf p a = 0 := by rw [← tf_add,show -a + a = 0 from by omega,tf_zero]
 grind
theorem tf_sub (a b : Int) : tf p (a - b) = tf p a - tf p b := by rw [Int.sub_eq_add_neg,tf_add,tf_neg];grind
theorem tf_of_val (x : Fin p) : tf p ((x.val : Nat) : Int) = x := tf_eq (by
 have := x.isLt
 rw [← Int.natCast_emod,Nat.mod_eq_of_lt this])
theorem tf_inj {a b : Int} (ha : 0 ≤ a ∧ a < (p : Int)) (hb : 0 ≤ b ∧ b < (p : Int)) (h : tf p a = tf p b) : a = b := by
 have h1 := tf_val (p := p) a
 rw [h,tf_val,Int.emod_eq_of_lt ha.1 ha.2,Int.emod_eq_of_lt hb.1 hb.2] at h1
 exact h1.symm
theorem getD_tf (l : List Int) (i : Nat) : (l.map (tf p)).getD i 0 = tf p (l.getD i 0) := by
 rw [List.getD_eq_getElem?_getD,List.getD_eq_getElem?_getD,List.getElem?_map]
 cases l[i]? with
 | none => simp [tf_zero]
 | some v => rfl
def lin (y : Fin p) : List (Fin p) → Fin p
 | [] => 1
 | o :: l => (y - o) * lin y l
theorem lin_zero {y : Fin p} : ∀ {l : List (Fin p)},y ∈ l → lin y l = 0
 | o :: l,h => by
  rcases List.mem_cons.1 h with h|h
  ·subst h;simp only [lin];grind
  ·simp only [lin];rw [lin_zero h];grind
end
end Go.Proofs.Ytjnkkfdlcbcelaa.Pl
end
section
namespace Go.Proofs.Ytjnkkfdlcbcelaa.E
open Go.RowKit Go.Proofs.Ytjnkkfdlcbcelaa.Pr Go.Proofs.Ytjnkkfdlcbcelaa.Hw Go.Proofs.Ytjnkkfdlcbcelaa.Pl Go.Proofs.YtjnkkfdlcbcelaaW.PrintWords Go.Proofs.YtjnkkfdlcbcelaaW.PrintLast Go.Proofs.YtjnkkfdlcbcelaaW.PrintMore
theorem nz {p : Int} (hp : Supp p) : NeZero p.toNat := ⟨by have := hp.bd;omega⟩
theorem cast_p {p : Int} (hp : Supp p) : ((p.toNat : Nat) : Int) = p := by have := hp.bd;omega
section
variable {p : Int} (hp : Supp p) [NeZero p.toNat]
def T (p : Int) [NeZero p.toNat] (a : Int) : Fin p.toNat := tf p.toNat a
def M (p : Int) [NeZero p.toNat] (l : List Int) : List (Fin p.toNat) := l.map (T p)
include hp in
theorem T_mod (a : Int) : T p (a % p) = T p a := by
 have h := tf_emod (p := p.toNat) a
 rw [cast_p hp] at h;exact h
theorem T_add (a b : Int) : T p (a + b) = T p a + T p b := tf_add a b
theorem T_mul (a b : Int) : T p (a * b) = T p a * T p b := tf_mul a b
theorem T_sub (a b : Int) : T p (a - b) = T p a - T p b := tf_sub a b
theorem T_neg (a : Int) : T p (-a) = - T p a := tf_neg a
theorem T_zero : T p 0 = 0 := tf_zero
theorem T_one : T p 1 = 1 := tf_one
include hp in
theorem T_inj {a b : Int} (ha : Res p a) (hb : Res p b) (h : T p a = T p b) : a = b :=
 tf_inj (p := p.toNat) (by rw [cast_p hp];exact ha) (by rw [cast_p hp];exact hb) h
include hp in
theorem T_inv {a : Int} (ha : Res p a) (h0 : a ≠ 0) : T p a * T p (invp p a) = 1 := by
 rw [← T_mul,← T_one,← T_mod hp (a * invp p a),inv_spec hp ha h0]
include hp in
theorem T_back (x : Fin p.toNat) : Res p ((x.val : Nat) : Int) ∧ T p ((x.val : Nat) : Int) = x := by
 have := x.isLt
 have := cast_p hp
 exact ⟨⟨by omega,by omega⟩,tf_of_val x⟩
include hp in
theorem dom : Dom p.toNat := by
 intro a b h
 obtain ⟨r,e⟩ := T_back hp a
 by_cases h0 : ((a.val : Nat) : Int) = 0
 ·left;rw [← e,h0,T_zero]
 ·right
  have h1 := T_inv hp r h0
  rw [e] at h1
  grind
include hp in
theorem ev_evI (x : Int) : ∀ l,T p (evI p x l) = ev (T p x) (M p l)
 | [] => T_zero
 | c :: l => by
  have := ev_evI x l
  simp only [evI,M,List.map_cons,ev]
  rw [T_mod hp,T_add,T_mod hp,T_mul,this,M]
  grind
theorem M_getD (l : List Int) (i : Nat) : (M p l).getD i 0 = T p (l.getD i 0) := getD_tf l i
theorem M_length (l : List Int) : (M p l).length = l.length := List.length_map _
theorem ev_trimL (x : Fin p.toNat) (l : List Int) : ev x (M p (trimL l)) = ev x (M p l) :=
 ev_congr x _ _ (fun i => by rw [M_getD,M_getD,trimL_getD])
theorem ev_grow (x : Fin p.toNat) (l : List Int) (n : Nat) : ev x (M p (grow l n)) = ev x (M p l) := by
 have : M p (grow l n) = M p l ++ List.replicate (n - l.length) 0 := by
  unfold grow M;rw [List.map_append,List.map_replicate,T_zero]
 rw [this,ev_append,ev_zeros];grind
include hp in
theorem ev_put (x : Fin p.toNat) (l : List Int) (i : Nat) (k : Int) : ev x (M p (putL p l i k)) = ev x (M p l) + T p k * mono x i := by
 have hg : i < (grow l (i + 1)).length := by unfold grow;simp;omega
 have : M p (putL p l i k) = (M p (grow l (i + 1))).set i (T p ((grow l (i + 1)).getD i 0) + T p k) := by
  unfold putL M;rw [List.map_set,T_mod hp,T_add]
 rw [this,ev_set _ _ _ _ (by rw [M_length];exact hg),ev_grow,M_getD]
 grind
include hp in
theorem ev_puts (x : Fin p.toNat) (m l : List Int) : ∀ n,ev x (M p (putsL p m l n)) = ev x (M p m) + ev x ((M p l).take n)
 | 0 => by simp only [putsL,List.take_zero,ev];grind
 | n + 1 => by rw [putsL,ev_put hp,ev_puts x m l n,ev_take_succ,M_getD];grind
theorem M_take_all (l : List Int) : (M p l).take l.length = M p l := by rw [← M_length (p := p) l,List.take_length]
include hp in
theorem ev_addP (x : Fin p.toNat) (a b : List Int) : ev x (M p (addP p a b)) = ev x (M p a) + ev x (M p b) := by
 unfold addP
 rw [ev_puts hp,ev_puts hp,M_take_all,M_take_all]
 show ev x [] + _ + _ = _
 simp only [ev];grind
include hp in
theorem ev_row (x : Fin p.toNat) (m : List Int) (u : Int) (b : List Int) (i : Nat) : ∀ n,ev x (M p (rowL p m u b i n)) = ev x (M p m) + T p u * mono x i * ev x ((M p b).take n)
 | 0 => by simp only [rowL,List.take_zero,ev];grind
 | n + 1 => by
  rw [rowL,ev_put hp,ev_row x m u b i n,ev_take_succ,M_getD,T_mod hp,T_mul,mono_add,rd_nat];grind
include hp in
theorem ev_muls (x : Fin p.toNat) (a b : List Int) : ∀ n,ev x (M p (mulsL p a b n)) = ev x ((M p a).take n) * ev x (M p b)
 | 0 => by simp only [mulsL,List.take_zero,M,List.map_nil,ev];grind
 | n + 1 => by rw [mulsL,ev_row hp,ev_muls x a b n,M_take_all,ev_take_succ,M_getD,rd_nat];grind
include hp in
theorem ev_scaleL (x : Fin p.toNat) (k : Int) : ∀ l,ev x (M p (l.map fun v => k * v % p)) = T p k * ev x (M p l)
 | [] => by simp only [M,List.map_nil,ev];grind
 | c :: l => by
  have := ev_scaleL x k l
  simp only [M,List.map_cons,ev] at *
  rw [this,T_mod hp,T_mul];grind
include hp in
theorem M_nodup : ∀ {xs : List Int},(∀ x ∈ xs,Res p x) → xs.Nodup → (M p xs).Nodup
 | [],_,_ => List.nodup_nil
 | a :: xs,h,hn => by
  have hn' := List.nodup_cons.1 hn
  refine List.nodup_cons.2 ⟨fun hm => ?_,M_nodup (fun x hx => h x (List.mem_cons_of_mem _ hx)) hn'.2⟩
  obtain ⟨b,hb,e⟩ := List.mem_map.1 hm
  have := T_inj hp (h b (List.mem_cons_of_mem _ hb)) (h a (by simp)) e
  exact hn'.1 (this ▸ hb)
end
theorem uniq {p : Int} (hp : Supp p) {xs f g : List Int} (hx : ∀ x ∈ xs,Res p x) (hn : xs.Nodup) (hf : ∀ x ∈ f,Res p x) (hg : ∀ x ∈ g,Res p x) (lf : f.length ≤ xs.length) (lg : g.length ≤ xs.length)
  (h : ∀ x ∈ xs,evI p x f = evI p x g) : trimL f = trimL g := by
 haveI := nz hp
 have hb := hp.bd
 refine trimL_ext fun i => ?_
 have hz : ∀ {l : List Int},(∀ x ∈ l,Res p x) → Res p (l.getD i 0) := by
  intro l hl
  rw [List.getD_eq_getElem?_getD]
  by_cases hi : i < l.length
  ·rw [List.getElem?_eq_getElem hi];exact hl _ (List.getElem_mem hi)
  ·rw [List.getElem?_eq_none (by omega)];exact ⟨Int.le_refl 0,by show (0 : Int) < p;omega⟩
 refine T_inj hp (hz hf) (hz hg) ?_
 rw [← M_getD,← M_getD]
 refine unique (dom hp) (M p xs) (M p f) (M p g) (M_nodup hp hx hn) (by simp only [M_length];exact lf) (by simp only [M_length];exact lg) (fun y hy => ?_) i
 obtain ⟨x,hxx,rfl⟩ := List.mem_map.1 hy
 rw [← ev_evI hp,← ev_evI hp,h x hxx]
theorem mulsL_lin_length {p : Int} (f : List Int) (o : Int) : ∀ n,(mulsL p f [o,1] n).length ≤ n + 1 := by
 intro n
 induction n with
 | zero => simp [mulsL]
 | succ n ih =>
  show (rowL p (mulsL p f [o,1] n) (rd f n) [o,1] n 2).length ≤ _
  simp only [rowL,putL_length,Nat.add_zero];omega
section
variable {p : Int} (hp : Supp p) [NeZero p.toNat]
include hp in
theorem polS_ev (y : Fin p.toNat) (X : Int) : ∀ (l : List Int) (s : List Int × Int),
  ev y (M p (l.foldl (polStep p X) s).1) = ev y (M p s.1) * lin y (M p l) ∧ T p (l.foldl (polStep p X) s).2 = T p s.2 * lin (T p X) (M p l) ∧ (l.foldl (polStep p X) s).1.length ≤ s.1.length + l.length
 | [],s => ⟨by show _ = _ * 1;grind,by show _ = _ * 1;grind,by simp⟩
 | o :: l,s => by
  obtain ⟨h1,h2,h3⟩ := polS_ev y X l (polStep p X s o)
  have e1 : ev y (M p (polStep p X s o).1) = ev y (M p s.1) * (y - T p o) := by
   show ev y (M p (trimL (mulsL p s.1 [-o % p,1] s.1.length))) = _
   rw [ev_trimL,ev_muls hp,M_take_all]
   simp only [M,List.map_cons,List.map_nil,ev,T_mod hp,T_neg,T_one]
   grind
  have e2 : T p (polStep p X s o).2 = T p s.2 * (T p X - T p o) := by
   show T p (s.2 * ((X - o) % p) % p) = _
   rw [T_mod hp,T_mul,T_mod hp,T_sub]
  have e3 : (polStep p X s o).1.length ≤ s.1.length + 1 := Nat.le_trans (trimL_length _) (mulsL_lin_length s.1 _ _)
  simp only [List.foldl_cons,List.length_cons]
  rw [h1,h2,e1,e2]
  refine ⟨?_,?_,by omega⟩
  ·simp only [M,List.map_cons,lin];grind
  ·simp only [M,List.map_cons,lin];grind
end
theorem othersN_len (xs : List Int) (i : Nat) : ∀ n,(othersN xs i n).length = if i < n then n - 1 else n
 | 0 => rfl
 | n + 1 => by
  have ih := othersN_len xs i n
  unfold othersN
  by_cases h : n = i
  ·subst h;rw [if_pos rfl,ih,if_neg (by omega),if_pos (by omega)];omega
  ·rw [if_neg h,List.length_append,ih]
   by_cases h2 : i < n
   ·rw [if_pos h2,if_pos (by omega)];simp;omega
   ·rw [if_neg h2,if_neg (by omega)];simp
theorem othersN_has (xs : List Int) (i j : Nat) (hne : j ≠ i) : ∀ n,j < n → rd xs j ∈ othersN xs i n
 | n + 1,h => by
  unfold othersN
  by_cases hj : j = n
  ·subst hj;rw [if_neg hne];simp
  ·have := othersN_has xs i j hne n (by omega)
   split
   ·exact this
   ·exact List.mem_append_left _ this
section
variable {p : Int} (hp : Supp p) [NeZero p.toNat]
def sumF (f : Nat → Fin p.toNat) : Nat → Fin p.toNat
 | 0 => 0
 | n + 1 => sumF f n + f n
theorem sumF_one {f : Nat → Fin p.toNat} {j : Nat} : ∀ n,(∀ i,i < n → i ≠ j → f i = 0) → sumF f n = if j < n then f j else 0
 | 0,_ => rfl
 | n + 1,h => by
  simp only [sumF]
  rw [sumF_one n (fun i hi => h i (by omega))]
  by_cases hj : j = n
  ·subst hj;rw [if_neg (by omega),if_pos (by omega)];grind
  ·rw [h n (by omega) (fun e => hj e.symm)]
   by_cases h2 : j < n
   ·rw [if_pos h2,if_pos (by omega)];grind
   ·rw [if_neg h2,if_neg (by omega)];grind
def oth (p : Int) [NeZero p.toNat] (xs : List Int) (i : Nat) : List (Fin p.toNat) := M p (othersN xs i xs.length)
def dinv (p : Int) [NeZero p.toNat] (xs : List Int) (i : Nat) : Fin p.toNat := T p (invp p (lagS p 0 xs i).2)
include hp in
theorem lagS_ev (a : Int) (X : Int) : ∀ (l : List Int) (s : Int × Int),
  T p (l.foldl (lagStep p a X) s).1 = T p s.1 * lin (T p a) (M p l) ∧ T p (l.foldl (lagStep p a X) s).2 = T p s.2 * lin (T p X) (M p l)
 | [],s => ⟨by show _ = _ * 1;grind,by show _ = _ * 1;grind⟩
 | o :: l,s => by
  obtain ⟨h1,h2⟩ := lagS_ev a X l (lagStep p a X s o)
  simp only [List.foldl_cons,M,List.map_cons,lin]
  rw [h1,h2]
  simp only [lagStep,M]
  rw [T_mod hp,T_mod hp,T_mul,T_mul,T_mod hp,T_mod hp,T_sub,T_sub]
  constructor <;> grind
include hp in
theorem dinv_spec {xs : List Int} (hx : ∀ x ∈ xs,Res p x) (hn : xs.Nodup) (i : Nat) (hi : i < xs.length) : lin (T p (rd xs i)) (oth p xs i) * dinv p xs i = 1 := by
 have hb := hp.bd
 obtain ⟨h1,h2,h3⟩ := lagS_ok hp (a := 0) hx hn i hi
 have h := (lagS_ev hp 0 (rd xs i) (othersN xs i xs.length) (1,1)).2
 have e := T_inv hp h2 h3
 have h' : T p (lagS p 0 xs i).2 = lin (T p (rd xs i)) (oth p xs i) := by
  unfold lagS oth;rw [h,T_one];grind
 rw [h'] at e
 exact e
include hp in
theorem polTerm_ev {pts : List S49} (hx : PtsOk p pts) (hn : (xsOf pts).Nodup) (i : Nat) (hi : i < pts.length) (y : Fin p.toNat) :
  ev y (M p (polTerm p pts i)) = T p (rd_T49 pts (i : Int)).f1 * (lin y (oth p (xsOf pts) i) * dinv p (xsOf pts) i) := by
 have hl : (xsOf pts).length = pts.length := by simp [xsOf]
 obtain ⟨h1,h2,h3⟩ := polS_ev hp y (rd_T49 pts (i : Int)).f0 (othersN (xsOf pts) i pts.length) ([1],1)
 obtain ⟨hr1,hr2,hlen,hD0⟩ := polS_ok hp hx hi hn
 have d := dinv_spec hp hx.xs hn i (by omega)
 have e := T_inv hp hr2 hD0
 unfold polTerm
 rw [ev_trimL,ev_scaleL hp,T_mod hp,T_mul]
 have e1 : ev y (M p (polS p pts i).1) = lin y (oth p (xsOf pts) i) := by
  unfold polS oth;rw [h1,hl];simp only [M,List.map_cons,List.map_nil,ev,T_one];grind
 have e2 : T p (polS p pts i).2 = lin (T p (rd (xsOf pts) i)) (oth p (xsOf pts) i) := by
  unfold polS oth;rw [h2,T_one,xsOf_rd pts i hi,hl];grind
 rw [e1]
 rw [e2] at e
 generalize lin (T p (rd (xsOf pts) i)) (oth p (xsOf pts) i) = D at *
 have : T p (invp p (polS p pts i).2) = dinv p (xsOf pts) i := by grind
 rw [this];grind
include hp in
theorem polSum_ev {pts : List S49} (hx : PtsOk p pts) (hn : (xsOf pts).Nodup) (y : Fin p.toNat) : ∀ n,n ≤ pts.length →
  ev y (M p (polSum p pts n)) = sumF (fun i => T p (rd_T49 pts (i : Int)).f1 * (lin y (oth p (xsOf pts) i) * dinv p (xsOf pts) i)) n
 | 0,_ => rfl
 | n + 1,h => by
  rw [polSum,ev_trimL,ev_addP hp,polSum_ev hx hn y n (by omega),polTerm_ev hp hx hn n (by omega) y];rfl
include hp in
theorem polTerm_len {pts : List S49} (i : Nat) (hi : i < pts.length) : (polTerm p pts i).length ≤ pts.length := by
 obtain ⟨h1,h2,h3⟩ := polS_ev hp 0 (rd_T49 pts (i : Int)).f0 (othersN (xsOf pts) i pts.length) ([1],1)
 rw [othersN_len,if_pos hi] at h3
 simp only [List.length_cons,List.length_nil] at h3
 refine Nat.le_trans (trimL_length _) ?_
 rw [List.length_map]
 unfold polS
 omega
include hp in
theorem polSum_len {pts : List S49} : ∀ n,n ≤ pts.length → (polSum p pts n).length ≤ pts.length
 | 0,_ => by simp [polSum]
 | n + 1,h => by
  have h1 := polSum_len (pts := pts) n (by omega)
  have h2 := polTerm_len hp (pts := pts) n (by omega)
  refine Nat.le_trans (trimL_length _) ?_
  rw [addP_length];omega
include hp in
theorem polL_ev {pts : List S49} (hx : PtsOk p pts) (hn : (xsOf pts).Nodup) (y : Fin p.toNat) :
  ev y (M p (polL p pts)) = sumF (fun i => T p (rd_T49 pts (i : Int)).f1 * (lin y (oth p (xsOf pts) i) * dinv p (xsOf pts) i)) pts.length := by
 unfold polL;rw [ev_trimL,polSum_ev hp hx hn y pts.length (Nat.le_refl _)]
end
theorem polL_res {p : Int} (hp : Supp p) {pts : List S49} (hx : PtsOk p pts) : ∀ x ∈ polL p pts,Res p x := fun x h => (polSum_ok hp hx pts.length (Nat.le_refl _)).1 x (trimL_mem h)
theorem polL_len {p : Int} (hp : Supp p) {pts : List S49} : (polL p pts).length ≤ pts.length := by
 haveI := nz hp
 exact Nat.le_trans (trimL_length _) (polSum_len hp pts.length (Nat.le_refl _))
theorem polL_trim (p : Int) (pts : List S49) : trimL (polL p pts) = polL p pts := trimL_trimL _
theorem polL_at {p : Int} (hp : Supp p) {pts : List S49} (hx : PtsOk p pts) (hn : (xsOf pts).Nodup) (j : Nat) (hj : j < pts.length) :
  evI p (rd_T49 pts (j : Int)).f0 (polL p pts) = (rd_T49 pts (j : Int)).f1 := by
 haveI := nz hp
 have hl : (xsOf pts).length = pts.length := by simp [xsOf]
 refine T_inj hp (evI_res hp _ _) (hx.at_ j hj).2 ?_
 rw [ev_evI hp,polL_ev hp hx hn,sumF_one (j := j) _ (fun i hi hij => ?_),if_pos hj]
 ·have d := dinv_spec hp hx.xs hn j (by omega)
  rw [xsOf_rd pts j hj] at d
  grind
 ·have : lin (T p (rd_T49 pts (j : Int)).f0) (oth p (xsOf pts) i) = 0 := by
   refine lin_zero ?_
   rw [← xsOf_rd pts j hj]
   exact List.mem_map_of_mem (othersN_has _ _ _ (fun e => hij e.symm) _ (by omega))
  rw [this];grind
theorem polL_char {p : Int} (hp : Supp p) {pts : List S49} (hx : PtsOk p pts) (hn : (xsOf pts).Nodup) {g : List Int} (hg : ∀ x ∈ g,Res p x) (lg : g.length ≤ pts.length)
  (h : ∀ j,j < pts.length → evI p (rd_T49 pts (j : Int)).f0 g = (rd_T49 pts (j : Int)).f1) : polL p pts = trimL g := by
 have hl : (xsOf pts).length = pts.length := by simp [xsOf]
 rw [← polL_trim]
 refine uniq hp hx.xs hn (polL_res hp hx) hg (by rw [hl];exact polL_len hp) (by omega) (fun x hxx => ?_)
 obtain ⟨j,hj,rfl⟩ := List.getElem_of_mem hxx
 have e := xsOf_rd pts j (by omega)
 rw [rd_nat,Hw.getD_in _ _ hj] at e
 rw [e,polL_at hp hx hn j (by omega),h j (by omega)]
def ptsOf (p : Int) (xs : List Int) (f : List Int) : List S49 := xs.map fun x => ⟨x,evI p x f⟩
theorem ptsOf_xs (p : Int) (xs f : List Int) : xsOf (ptsOf p xs f) = xs := by unfold xsOf ptsOf;rw [List.map_map];exact List.map_id _
theorem ptsOf_rd (p : Int) (xs f : List Int) (j : Nat) (hj : j < xs.length) : rd_T49 (ptsOf p xs f) (j : Int) = ⟨rd xs j,evI p (rd xs j) f⟩ := by
 rw [rdT_nat _ _ (by unfold ptsOf;simpa using hj),rd_nat,Hw.getD_in _ _ hj];simp [ptsOf]
theorem ptsOf_ok {p : Int} (hp : Supp p) {xs : List Int} (hx : ∀ x ∈ xs,Res p x) (f : List Int) : PtsOk p (ptsOf p xs f) := by
 intro y hy
 obtain ⟨x,h,rfl⟩ := List.mem_map.1 hy
 exact ⟨hx x h,evI_res hp _ _⟩
theorem ptsOf_length (p : Int) (xs f : List Int) : (ptsOf p xs f).length = xs.length := List.length_map _
theorem polL_ptsOf {p : Int} (hp : Supp p) {xs f : List Int} (hx : ∀ x ∈ xs,Res p x) (hn : xs.Nodup) (hf : ∀ x ∈ f,Res p x) (hl : f.length ≤ xs.length) : polL p (ptsOf p xs f) = trimL f := by
 refine polL_char hp (ptsOf_ok hp hx f) (by rw [ptsOf_xs];exact hn) hf (by rw [ptsOf_length];exact hl) (fun j hj => ?_)
 rw [ptsOf_length] at hj
 rw [ptsOf_rd _ _ _ _ hj]
theorem wf64 {x : Int} (h : (Lit.int .u64 x).wf = true) : 0 ≤ x ∧ x < 18446744073709551616 := by
 have h1 : IntKind.u64.min ≤ x ∧ x ≤ IntKind.u64.max := by simpa [Lit.wf] using h
 have e1 : IntKind.u64.min = 0 := by decide
 have e2 : IntKind.u64.max = 18446744073709551615 := by decide
 omega
theorem ev_now_bind {α β : Type} {x : Option α} {a : α} (hx : x = some a) {f : Nat → α → Option β} {r : β} (h : Ev (fun k => f k a) r) : Ev (fun k => x.bind (f k)) r := by subst hx;exact h
theorem ipol_eq {p : Int} (hp : Supp p) {pts : List S49} (hx : PtsOk p pts) (hl : pts.length ≤ 49) : interpolate_Polynomial.f p pts = some (if (xsOf pts).Nodup then polL p pts else [],if (xsOf pts).Nodup then 0 else 1) := by
 unfold interpolate_Polynomial.f
 rw [if_pos (supB_iff.2 hp),if_pos (ptsB_iff.2 hx),if_pos hl]
theorem evI_addP {p : Int} (hp : Supp p) (x : Int) (a b : List Int) : evI p x (trimL (addP p a b)) = (evI p x a + evI p x b) % p := by
 haveI := nz hp
 refine T_inj hp (evI_res hp _ _) (Res.mod hp _) ?_
 rw [ev_evI hp,ev_trimL,ev_addP hp,T_mod hp,T_add,ev_evI hp,ev_evI hp]
theorem evI_trimL {p : Int} (hp : Supp p) (x : Int) (a : List Int) : evI p x (trimL a) = evI p x a := by
 haveI := nz hp
 refine T_inj hp (evI_res hp _ _) (evI_res hp _ _) ?_
 rw [ev_evI hp,ev_trimL,ev_evI hp]
end Go.Proofs.Ytjnkkfdlcbcelaa.E
end
section
namespace Go.Proofs.Ytjnkkfdlcbcelaa.Pr
open Go.RowKit Go.Proofs.YtjnkkfdlcbcelaaW.PrintWords Go.Proofs.YtjnkkfdlcbcelaaW.PrintLast Go.Proofs.YtjnkkfdlcbcelaaW.PrintMore
attribute [local go_sem] max2_int min2_int max_two min_two max_three min_three max_four min_four
open Go.Proofs.Ytjnkkfdlcbcelaa.Hw
def privityref05_SameRows.l0 : Nat → List (List Int) → List (List Int) → Int → Option (Bool)
 | 0,_,_,_ => none
 | k + 1,x0,x1,x5 => if x5 < (x0.length : Int) then (if 0 ≤ x5 then (if x5 < (x1.length : Int) then ((privityref05_Same.f k (rd_L1 x0 x5) (rd_L1 x1 x5)).bind fun t143 => (if t143 = true then (privityref05_SameRows.l0 k x0 x1 (wrap64 (x5 + 1))) else (some false))) else (none)) else (none)) else (some true)
def privityref05_SameRows.f (k : Nat) (l0 : List (List Int)) (l1 : List (List Int)) : Option (Bool) := if (l0.length : Int) = (l1.length : Int) then (privityref05_SameRows.l0 k l0 l1 0) else (some false)
theorem privityref05_SameRows.mono_l : ∀ k,(∀ y0 y1 y2,LeO (privityref05_SameRows.l0 k y0 y1 y2) (privityref05_SameRows.l0 (k + 1) y0 y1 y2))
 | 0 => fun _ _ _ r h => by simp [privityref05_SameRows.l0] at h
 | k + 1 => by
  have ih0 := privityref05_SameRows.mono_l k
  ·intro y0 y1 y2
   unfold privityref05_SameRows.l0
   repeat' first
   | (with_reducible exact ih0 _ _ _)
   | (with_reducible exact privityref05_Same.mono _ _ _)
   | (with_reducible exact LeO.refl _)
   | (with_reducible exact LeO.none _)
   | (with_reducible refine LeO.ite ?_ ?_)
   | (with_reducible refine LeO.bind ?_ (fun _ => ?_))
   | exact ih0 _ _ _
   | exact privityref05_Same.mono _ _ _
   | exact LeO.none _
   | refine LeO.ite ?_ ?_
   | refine LeO.bind ?_ (fun _ => ?_)
theorem privityref05_SameRows.mono : ∀ a0 a1 k,LeO (privityref05_SameRows.f k a0 a1) (privityref05_SameRows.f (k + 1) a0 a1) := by
 intro a0 a1 k
 have ih0 := privityref05_SameRows.mono_l k
 unfold privityref05_SameRows.f
 repeat' first
   | (with_reducible exact ih0 _ _ _)
   | (with_reducible exact privityref05_Same.mono _ _ _)
   | (with_reducible exact LeO.refl _)
   | (with_reducible exact LeO.none _)
   | (with_reducible refine LeO.ite ?_ ?_)
   | (with_reducible refine LeO.bind ?_ (fun _ => ?_))
   | exact ih0 _ _ _
   | exact privityref05_Same.mono _ _ _
   | exact LeO.none _
   | refine LeO.ite ?_ ?_
   | refine LeO.bind ?_ (fun _ => ?_)
set_option maxHeartbeats 8000000 in
set_option maxRecDepth 100000 in
theorem privityref05_SameRows.calls (k : Nat) (A0 : Option Addr) (c0 : Nat) (l0 : List (List Int)) (A1 : Option Addr) (c1 : Nat) (l1 : List (List Int)) (r : Bool) (w : World) (hr0 : Kd.C (Kd.slice 22 (Kd.int .u64)) w A0 l0.length l0) (hc0 : l0.length ≤ c0) (hr1 : Kd.C (Kd.slice 22 (Kd.int .u64)) w A1 l1.length l1) (hc1 : l1.length ≤ c1) (h : privityref05_SameRows.f k l0 l1 = some r) :
  Calls Try.prog 19 #[.slice A0 l0.length c0,.slice A1 l1.length c1] w fun e w' => e = .returned (.bool r) ∧ Drawn0 w w' := by
 have HR0 := am hr0
 have HC0 := am hc0
 clear hr0 hc0
 have HR1 := am hr1
 have HC1 := am hc1
 clear hr1 hc1
 have H : (if (l0.length : Int) = (l1.length : Int) then (privityref05_SameRows.l0 k l0 l1 0) else (some false)) = some r := h
 clear h
 by_cases c3 : (l0.length : Int) = (l1.length : Int)
 ·rw [if_pos c3] at H
  have c3b0 : ((l0.length : Int) == (l1.length : Int)) = true := beq_iff_eq.mpr c3
  have c3b1 : ((l0.length : Int) != (l1.length : Int)) = false := bne_eq_false_iff_eq.mpr c3
  have c3b2 : (l0.length == l1.length) = true := by first|simpa using c3|(simp at c3 ⊢;omega)
  clear c3
  have H' := am H
  clear H
  go_enter Try.func19,Try.ntmps19
  go_wp2
  repeat (go_quiet (fail);try go_wp2)
  go_loopg [5] k (fun kq v5 w' => ∃ (x5_1 : Int),v5 = .int .i64 x5_1 ∧ Aside0 (privityref05_SameRows.l0 kq l0 l1 x5_1 = some r) ∧ Aside0 (kq ≤ k) ∧ Drawn0 w w')
  case atStart => exact ⟨(0),(by first|rfl|(simp;done)|(simp [*];done)),H',⟨Nat.le_refl _⟩,by repeat (first|exact Drawn0.refl _|apply Drawn0.step)⟩
  case round =>
   clear H'
   try clear c1
   try clear p2
   try clear c3
   try clear c3b0
   try clear c3b1
   try clear c3b2
   obtain ⟨x5_1,rfl,HA,HK1,⟨m1,rfl⟩⟩ := hrel
   cases gk with
   | zero => exact absurd HA.out (by simp [privityref05_SameRows.l0])
   | succ k1 =>
    have H := HA.out
    clear HA
    simp only [privityref05_SameRows.l0] at H
    by_cases c4 : x5_1 < (l0.length : Int)
    ·rw [if_pos c4] at H
     have c4b0 : decide (x5_1 < (l0.length : Int)) = true := decide_eq_true c4
     clear c4
     by_cases c5 : 0 ≤ x5_1
     ·rw [if_pos c5] at H
      have c5b0 : decide (0 ≤ x5_1) = true := decide_eq_true c5
      clear c5
      by_cases c6 : x5_1 < (l1.length : Int)
      ·rw [if_pos c6] at H
       have c6b0 : decide (x5_1 < (l1.length : Int)) = true := decide_eq_true c6
       clear c6
       replace H := Option.bind_eq_some_iff.mp H
       obtain ⟨t143,A70,H⟩ := H
       try dsimp only at H
       have A7 := am A70
       clear A70
       by_cases c8 : t143 = true
       ·subst c8
        rw [if_pos rfl] at H
        have H' := am H
        clear H
        have p141 : 0 ≤ (x5_1 : Int) := od
        have q141 : x5_1 < (l0.length : Int) := od
        obtain ⟨ad141,A141_0,c141_0,e141,hx141_0,hl141_0,hi141_0⟩ := at_L1 HR0.out x5_1 p141 q141
        cases e141
        have HR141_0 := am hi141_0
        have HC141_0 := am hl141_0
        clear hi141_0 hl141_0
        replace p141 := eq_true p141
        replace q141 := eq_true q141
        have p142 : 0 ≤ (x5_1 : Int) := od
        have q142 : x5_1 < (l1.length : Int) := od
        obtain ⟨ad142,A142_0,c142_0,e142,hx142_0,hl142_0,hi142_0⟩ := at_L1 HR1.out x5_1 p142 q142
        cases e142
        have HR142_0 := am hi142_0
        have HC142_0 := am hl142_0
        clear hi142_0 hl142_0
        replace p142 := eq_true p142
        replace q142 := eq_true q142
        go_wp2_with (first|(go_at_call 31;(with_reducible refine (privityref05_Same.calls k1 _ _ (rd_L1 l0 x5_1) _ _ (rd_L1 l1 x5_1) true _ ?side1 ?side2 ?side3 ?side4 A7.out).mono ?_);(case side1 => repeat (first|exact HR141_0.out|(with_reducible refine Kd.C_alloc ?_ _)|(with_reducible refine Kd.C_drewN ?_ _)|(with_reducible refine Kd.C_drew ?_)));(case side2 => exact HC141_0.out);(case side3 => repeat (first|exact HR142_0.out|(with_reducible refine Kd.C_alloc ?_ _)|(with_reducible refine Kd.C_drewN ?_ _)|(with_reducible refine Kd.C_drew ?_)));(case side4 => exact HC142_0.out);rintro e w' ⟨rfl,⟨nd,rfl⟩⟩;(try first|exact ⟨rfl,_,World.drewN_drewN _ _ _⟩|exact ⟨rfl,_,Eq.trans (World.drewN_drewN _ _ _) (congrArg (World.drewN _) (Nat.add_assoc _ _ _))⟩)))
        repeat (go_quiet (first|(go_at_call 31;(with_reducible refine (privityref05_Same.calls k1 _ _ (rd_L1 l0 x5_1) _ _ (rd_L1 l1 x5_1) true _ ?side1 ?side2 ?side3 ?side4 A7.out).mono ?_);(case side1 => repeat (first|exact HR141_0.out|(with_reducible refine Kd.C_alloc ?_ _)|(with_reducible refine Kd.C_drewN ?_ _)|(with_reducible refine Kd.C_drew ?_)));(case side2 => exact HC141_0.out);(case side3 => repeat (first|exact HR142_0.out|(with_reducible refine Kd.C_alloc ?_ _)|(with_reducible refine Kd.C_drewN ?_ _)|(with_reducible refine Kd.C_drew ?_)));(case side4 => exact HC142_0.out);rintro e w' ⟨rfl,⟨nd,rfl⟩⟩;(try first|exact ⟨rfl,_,World.drewN_drewN _ _ _⟩|exact ⟨rfl,_,Eq.trans (World.drewN_drewN _ _ _) (congrArg (World.drewN _) (Nat.add_assoc _ _ _))⟩)));try go_wp2_with (first|(go_at_call 31;(with_reducible refine (privityref05_Same.calls k1 _ _ (rd_L1 l0 x5_1) _ _ (rd_L1 l1 x5_1) true _ ?side1 ?side2 ?side3 ?side4 A7.out).mono ?_);(case side1 => repeat (first|exact HR141_0.out|(with_reducible refine Kd.C_alloc ?_ _)|(with_reducible refine Kd.C_drewN ?_ _)|(with_reducible refine Kd.C_drew ?_)));(case side2 => exact HC141_0.out);(case side3 => repeat (first|exact HR142_0.out|(with_reducible refine Kd.C_alloc ?_ _)|(with_reducible refine Kd.C_drewN ?_ _)|(with_reducible refine Kd.C_drew ?_)));(case side4 => exact HC142_0.out);rintro e w' ⟨rfl,⟨nd,rfl⟩⟩;(try first|exact ⟨rfl,_,World.drewN_drewN _ _ _⟩|exact ⟨rfl,_,Eq.trans (World.drewN_drewN _ _ _) (congrArg (World.drewN _) (Nat.add_assoc _ _ _))⟩))))
        go_roundg k1
        case measure => have := HK1.out;omega
        case rel => exact ⟨(wrap64 (x5_1 + 1)),(by first|rfl|(simp;done)|(simp [*];done)),H',⟨by have := HK1.out;omega⟩,by repeat (first|exact Drawn0.refl _|apply Drawn0.step)⟩
       ·replace c8 := Bool.eq_false_iff.mpr c8
        subst c8
        rw [if_neg (show ¬ (false = true) by decide)] at H
        obtain rfl := Option.some.inj H
        have p141 : 0 ≤ (x5_1 : Int) := od
        have q141 : x5_1 < (l0.length : Int) := od
        obtain ⟨ad141,A141_0,c141_0,e141,hx141_0,hl141_0,hi141_0⟩ := at_L1 HR0.out x5_1 p141 q141
        cases e141
        have HR141_0 := am hi141_0
        have HC141_0 := am hl141_0
        clear hi141_0 hl141_0
        replace p141 := eq_true p141
        replace q141 := eq_true q141
        have p142 : 0 ≤ (x5_1 : Int) := od
        have q142 : x5_1 < (l1.length : Int) := od
        obtain ⟨ad142,A142_0,c142_0,e142,hx142_0,hl142_0,hi142_0⟩ := at_L1 HR1.out x5_1 p142 q142
        cases e142
        have HR142_0 := am hi142_0
        have HC142_0 := am hl142_0
        clear hi142_0 hl142_0
        replace p142 := eq_true p142
        replace q142 := eq_true q142
        go_wp2_with (first|(go_at_call 31;(with_reducible refine (privityref05_Same.calls k1 _ _ (rd_L1 l0 x5_1) _ _ (rd_L1 l1 x5_1) false _ ?side1 ?side2 ?side3 ?side4 A7.out).mono ?_);(case side1 => repeat (first|exact HR141_0.out|(with_reducible refine Kd.C_alloc ?_ _)|(with_reducible refine Kd.C_drewN ?_ _)|(with_reducible refine Kd.C_drew ?_)));(case side2 => exact HC141_0.out);(case side3 => repeat (first|exact HR142_0.out|(with_reducible refine Kd.C_alloc ?_ _)|(with_reducible refine Kd.C_drewN ?_ _)|(with_reducible refine Kd.C_drew ?_)));(case side4 => exact HC142_0.out);rintro e w' ⟨rfl,⟨nd,rfl⟩⟩;(try first|exact ⟨rfl,_,World.drewN_drewN _ _ _⟩|exact ⟨rfl,_,Eq.trans (World.drewN_drewN _ _ _) (congrArg (World.drewN _) (Nat.add_assoc _ _ _))⟩)))
        repeat (go_quiet (first|(go_at_call 31;(with_reducible refine (privityref05_Same.calls k1 _ _ (rd_L1 l0 x5_1) _ _ (rd_L1 l1 x5_1) false _ ?side1 ?side2 ?side3 ?side4 A7.out).mono ?_);(case side1 => repeat (first|exact HR141_0.out|(with_reducible refine Kd.C_alloc ?_ _)|(with_reducible refine Kd.C_drewN ?_ _)|(with_reducible refine Kd.C_drew ?_)));(case side2 => exact HC141_0.out);(case side3 => repeat (first|exact HR142_0.out|(with_reducible refine Kd.C_alloc ?_ _)|(with_reducible refine Kd.C_drewN ?_ _)|(with_reducible refine Kd.C_drew ?_)));(case side4 => exact HC142_0.out);rintro e w' ⟨rfl,⟨nd,rfl⟩⟩;(try first|exact ⟨rfl,_,World.drewN_drewN _ _ _⟩|exact ⟨rfl,_,Eq.trans (World.drewN_drewN _ _ _) (congrArg (World.drewN _) (Nat.add_assoc _ _ _))⟩)));try go_wp2_with (first|(go_at_call 31;(with_reducible refine (privityref05_Same.calls k1 _ _ (rd_L1 l0 x5_1) _ _ (rd_L1 l1 x5_1) false _ ?side1 ?side2 ?side3 ?side4 A7.out).mono ?_);(case side1 => repeat (first|exact HR141_0.out|(with_reducible refine Kd.C_alloc ?_ _)|(with_reducible refine Kd.C_drewN ?_ _)|(with_reducible refine Kd.C_drew ?_)));(case side2 => exact HC141_0.out);(case side3 => repeat (first|exact HR142_0.out|(with_reducible refine Kd.C_alloc ?_ _)|(with_reducible refine Kd.C_drewN ?_ _)|(with_reducible refine Kd.C_drew ?_)));(case side4 => exact HC142_0.out);rintro e w' ⟨rfl,⟨nd,rfl⟩⟩;(try first|exact ⟨rfl,_,World.drewN_drewN _ _ _⟩|exact ⟨rfl,_,Eq.trans (World.drewN_drewN _ _ _) (congrArg (World.drewN _) (Nat.add_assoc _ _ _))⟩))))
        go_ret
        exact ⟨by first|rfl|(simp;done)|(simp [*];done),by repeat (first|exact Drawn0.refl _|apply Drawn0.step)⟩
      ·rw [if_neg c6] at H
       exact absurd H (by simp)
     ·rw [if_neg c5] at H
      exact absurd H (by simp)
    ·rw [if_neg c4] at H
     have c4b0 : decide (x5_1 < (l0.length : Int)) = false := decide_eq_false c4
     clear c4
     obtain rfl := Option.some.inj H
     go_wp2
     repeat (go_quiet (fail);try go_wp2)
     go_ret
     exact ⟨by first|rfl|(simp;done)|(simp [*];done),by repeat (first|exact Drawn0.refl _|apply Drawn0.step)⟩
 ·rw [if_neg c3] at H
  have c3b0 : ((l0.length : Int) == (l1.length : Int)) = false := beq_eq_false_iff_ne.mpr c3
  have c3b1 : ((l0.length : Int) != (l1.length : Int)) = true := bne_iff_ne.mpr c3
  have c3b2 : (l0.length == l1.length) = false := by first|simpa using c3|(simp at c3 ⊢;omega)
  obtain rfl := Option.some.inj H
  go_enter Try.func19,Try.ntmps19
  go_wp2
  repeat (go_quiet (fail);try go_wp2)
  go_ret
  exact ⟨by first|rfl|(simp;done)|(simp [*];done),by repeat (first|exact Drawn0.refl _|apply Drawn0.step)⟩
def privityref09_Same.f (k : Nat) (l0 : List (List Int)) (l1 : List (List Int)) : Option (Bool) := (privityref05_SameRows.f k l0 l1).bind fun t144 => (some t144)
theorem privityref09_Same.mono : ∀ a0 a1 k,LeO (privityref09_Same.f k a0 a1) (privityref09_Same.f (k + 1) a0 a1) := by
 intro a0 a1 k
 unfold privityref09_Same.f
 repeat' first
   | (with_reducible exact privityref05_SameRows.mono _ _ _)
   | (with_reducible exact LeO.refl _)
   | (with_reducible exact LeO.none _)
   | (with_reducible refine LeO.ite ?_ ?_)
   | (with_reducible refine LeO.bind ?_ (fun _ => ?_))
   | exact privityref05_SameRows.mono _ _ _
   | exact LeO.none _
   | refine LeO.ite ?_ ?_
   | refine LeO.bind ?_ (fun _ => ?_)
set_option maxHeartbeats 8000000 in
set_option maxRecDepth 100000 in
theorem privityref09_Same.calls (k : Nat) (A0 : Option Addr) (c0 : Nat) (l0 : List (List Int)) (A1 : Option Addr) (c1 : Nat) (l1 : List (List Int)) (r : Bool) (w : World) (hr0 : Kd.C (Kd.slice 22 (Kd.int .u64)) w A0 l0.length l0) (hc0 : l0.length ≤ c0) (hr1 : Kd.C (Kd.slice 22 (Kd.int .u64)) w A1 l1.length l1) (hc1 : l1.length ≤ c1) (h : privityref09_Same.f k l0 l1 = some r) :
  Calls Try.prog 10 #[.slice A0 l0.length c0,.slice A1 l1.length c1] w fun e w' => e = .returned (.bool r) ∧ Drawn0 w w' := by
 have HR0 := am hr0
 have HC0 := am hc0
 clear hr0 hc0
 have HR1 := am hr1
 have HC1 := am hc1
 clear hr1 hc1
 have H : ((privityref05_SameRows.f k l0 l1).bind fun t144 => (some t144)) = some r := h
 clear h
 replace H := Option.bind_eq_some_iff.mp H
 obtain ⟨t144,A30,H⟩ := H
 try dsimp only at H
 have A3 := am A30
 clear A30
 obtain rfl := Option.some.inj H
 go_enter Try.func10,Try.ntmps10
 go_wp2_with (first|((with_reducible refine gate_callee (f := 19) rfl ?_);refine goesL_ (some 7) rfl rfl Try.func19 (by kernel_rfl) rfl #[.slice A0 l0.length c0,.slice A1 l1.length c1] rfl (by (try simp only [List.map_toArray,List.map_cons,List.map_nil]);first|done|rfl|(simp only [List.length_drop,List.length_take];rfl)) ?_;(with_reducible refine (privityref05_SameRows.calls k _ _ l0 _ _ l1 t144 _ ?side1 ?side2 ?side3 ?side4 A3.out).mono ?_);(case side1 => repeat (first|exact HR0.out|(with_reducible refine Kd.C_alloc ?_ _)|(with_reducible refine Kd.C_drewN ?_ _)|(with_reducible refine Kd.C_drew ?_)));(case side2 => exact HC0.out);(case side3 => repeat (first|exact HR1.out|(with_reducible refine Kd.C_alloc ?_ _)|(with_reducible refine Kd.C_drewN ?_ _)|(with_reducible refine Kd.C_drew ?_)));(case side4 => exact HC1.out);rintro e w' ⟨rfl,⟨nd,rfl⟩⟩;refine ⟨_,rfl,?_⟩))
 go_ret
 exact ⟨by first|rfl|(simp;done)|(simp [*];done),by repeat (first|exact Drawn0.refl _|apply Drawn0.step)⟩
def shamir_Constant.l0 : Nat → Int → List (List Int) → Int → Int → Int → Int → Int → Option ((List (List Int)))
 | 0,_,_,_,_,_,_,_ => none
 | k + 1,x1,x5,x8,x9,x146000,x146001,x146002 => if x9 < x8 then (if 0 ≤ (wrap64 (x146002 + 1)) then (if (wrap64 (x146002 + 1) : Int).toNat ≤ 35184372088832 then ((some (List.replicate (wrap64 (x146002 + 1) : Int).toNat 0 : List Int)).bind fun y146 => (if 0 < (y146.length : Int) then (if x5.length < 5864062014805 then (shamir_Constant.l0 k x1 (x5 ++ [(y146.set (0 : Int).toNat x1)]) x8 (wrap64 (x9 + 1)) x146000 x146001 x146002) else (none)) else (none))) else (none)) else (none)) else (some x5)
def shamir_Constant.f (k : Nat) (a0_0 : Int) (a0_1 : Int) (a0_2 : Int) (a1 : Int) : Option ((List (List Int))) := shamir_Constant.l0 k a1 ([] : List (List Int)) a0_1 0 a0_0 a0_1 a0_2
theorem shamir_Constant.mono_l : ∀ k,(∀ y0 y1 y2 y3 y4 y5 y6,LeO (shamir_Constant.l0 k y0 y1 y2 y3 y4 y5 y6) (shamir_Constant.l0 (k + 1) y0 y1 y2 y3 y4 y5 y6))
 | 0 => fun _ _ _ _ _ _ _ r h => by simp [shamir_Constant.l0] at h
 | k + 1 => by
  have ih0 := shamir_Constant.mono_l k
  ·intro y0 y1 y2 y3 y4 y5 y6
   unfold shamir_Constant.l0
   repeat' first
   | (with_reducible exact ih0 _ _ _ _ _ _ _)
   | (with_reducible exact LeO.refl _)
   | (with_reducible exact LeO.none _)
   | (with_reducible refine LeO.ite ?_ ?_)
   | (with_reducible refine LeO.bind ?_ (fun _ => ?_))
   | exact ih0 _ _ _ _ _ _ _
   | exact LeO.none _
   | refine LeO.ite ?_ ?_
   | refine LeO.bind ?_ (fun _ => ?_)
theorem shamir_Constant.mono : ∀ a0 a1 a2 a3 k,LeO (shamir_Constant.f k a0 a1 a2 a3) (shamir_Constant.f (k + 1) a0 a1 a2 a3) := by
 intro a0 a1 a2 a3 k
 have ih0 := shamir_Constant.mono_l k
 unfold shamir_Constant.f
 repeat' first
   | (with_reducible exact ih0 _ _ _ _ _ _ _)
   | (with_reducible exact LeO.refl _)
   | (with_reducible exact LeO.none _)
   | (with_reducible refine LeO.ite ?_ ?_)
   | (with_reducible refine LeO.bind ?_ (fun _ => ?_))
   | exact ih0 _ _ _ _ _ _ _
   | exact LeO.none _
   | refine LeO.ite ?_ ?_
   | refine LeO.bind ?_ (fun _ => ?_)
set_option maxHeartbeats 8000000 in
set_option maxRecDepth 100000 in
theorem shamir_Constant.calls (k : Nat) (a0_0 : Int) (a0_1 : Int) (a0_2 : Int) (a1 : Int) (r : List (List Int)) (w : World) (h : shamir_Constant.f k a0_0 a0_1 a0_2 a1 = some r) :
  Calls Try.prog 17 #[.agg #[.int .u64 a0_0,.int .i64 a0_1,.int .i64 a0_2],.int .u64 a1] w fun e w' => ∃ v0_ : Value,e = .returned (v0_) ∧ Kd.S (Kd.slice 22 (Kd.int .u64)) 41 w' w.heap.size (fun _ => True) v0_ r ∧ Below w.heap.size w w' := by
 have hu24 := Try.underlying24
 have HB := am (Below.refl w.heap.size w)
 have H : (shamir_Constant.l0 k a1 ([] : List (List Int)) a0_1 0 a0_0 a0_1 a0_2) = some r := h
 clear h
 have H' := am H
 clear H
 go_enter Try.func17,Try.ntmps17
 go_wp2_with (first|((with_reducible refine gate_dst (N := 2) rfl ?_);refine box_event ?hg (N := 2) ?hd (cs := #[.int .u64 a0_0,.int .i64 a0_1,.int .i64 a0_2]) (t := 24) ?hr ?_;(case hd => rfl);(case hg => rfl);(case hr => first|(go_simp;done)|(go_simp;rfl));intro gb145 hg w3 hbox hb;have n0_ := am (below_step (bb HB) hb);have n1_ := am (hbox);have n2_ := am ((by rw [hg];exact (below_size (bb HB)) : w.heap.size ≤ gb145));have n3_ := am ((by rw [hg];exact (below_size (bb HB)) : w.heap.size ≤ gb145));clear HB;have HB := n0_;have BK145 := n1_;have GW145 := n2_;have GE145 := n3_;clear n0_ n1_ n2_ n3_;clear hb hbox hg;have hcz4_0 := bc BK145 0;have hcz4_1 := bc BK145 1;have hcz4_2 := bc BK145 2;have hfz4_0 := bf BK145 0;have hfz4_1 := bf BK145 1;have hfz4_2 := bf BK145 2))
 go_loopg [5,9] k (fun kq v5 v9 w' => ∃ (x5_1 : List (List Int)) (x9_1 : Int),v9 = .int .i64 x9_1 ∧ Aside0 (shamir_Constant.l0 kq a1 x5_1 a0_1 x9_1 a0_0 a0_1 a0_2 = some r) ∧ Aside0 (kq ≤ k) ∧ Aside0 (Kd.S (Kd.slice 22 (Kd.int .u64)) 41 w' w.heap.size (fun _ => True) v5 x5_1) ∧ Aside0 (w'.heap[gb145]? = some (.cells #[.int .u64 a0_0,.int .i64 a0_1,.int .i64 a0_2] 24 (0,0))) ∧ Aside0 (Below w.heap.size w w'))
 case atStart => exact ⟨(([] : List (List Int))),(0),(by first|rfl|(simp;done)|(simp [*];done)),H',⟨Nat.le_refl _⟩,⟨by first|exact Kd.S_nil _ _ _ _ _|exact Kd.N_nil _ _ _ _ _|exact Kd.V_nil _ _ _ _ _|exact Kd.Q_nil _ _ _ _ _|exact Kd.R_nil _ _ _ _ _⟩,⟨kx BK145⟩,⟨bg HB GE145⟩⟩
 case round =>
  clear H'
  try clear c1
  try clear p2
  try clear hcz4_0
  try clear hcz4_1
  try clear hcz4_2
  try clear hfz4_0
  try clear hfz4_1
  try clear hfz4_2
  obtain ⟨x5_1,x9_1,rfl,HA,HK1,HO_5,BK145,HB⟩ := hrel
  cases gk with
  | zero => exact absurd HA.out (by simp [shamir_Constant.l0])
  | succ k1 =>
   have H := HA.out
   clear HA
   simp only [shamir_Constant.l0] at H
   by_cases c5 : x9_1 < a0_1
   ·rw [if_pos c5] at H
    have c5b0 : decide (x9_1 < a0_1) = true := decide_eq_true c5
    clear c5
    obtain ⟨ji6,hji6⟩ : ∃ j_ : Int,(wrap64 (a0_2 + 1)) = j_ := ⟨_,rfl⟩
    first|rw [hji6] at H|simp only [hji6] at H
    have hji6w : (IntKind.i64.wrap (a0_2 + 1)) = ji6 := (i64_w _).trans hji6
    by_cases c7 : 0 ≤ (ji6)
    ·rw [if_pos c7] at H
     have c7b0 := eq_true c7
     have c7b1 : decide (0 ≤ (ji6)) = true := decide_eq_true c7
     clear c7
     by_cases c8 : (ji6 : Int).toNat ≤ 35184372088832
     ·rw [if_pos c8] at H
      have c8b0 := eq_true c8
      have c8b1 : decide ((ji6 : Int).toNat ≤ 35184372088832) = true := decide_eq_true c8
      clear c8
      obtain ⟨y146,hy146⟩ : ∃ y_ : List Int,y_ = (List.replicate (ji6 : Int).toNat 0) := ⟨_,rfl⟩
      replace H : (if 0 < (y146.length : Int) then (if x5_1.length < 5864062014805 then (shamir_Constant.l0 k1 a1 (x5_1 ++ [(y146.set (0 : Int).toNat a1)]) a0_1 (wrap64 (x9_1 + 1)) a0_0 a0_1 a0_2) else (none)) else (none)) = some r := by first|(rw [hy146];with_reducible exact H)|(have H2_ := (Option.bind_some _ _).symm.trans H;rw [hy146];with_reducible exact H2_)|(have H2_ := (Option.bind_some _ _).symm.trans H;with_reducible exact H2_)|with_reducible exact H|(rw [hy146];exact H)|exact H
      have Ny146 := am hy146
      clear hy146
      by_cases c9 : 0 < (y146.length : Int)
      ·rw [if_pos c9] at H
       have c9b0 : decide (0 < (y146.length : Int)) = true := decide_eq_true c9
       have c9b1 : decide (0 < y146.length) = true := decide_eq_true (by omega)
       clear c9
       obtain ⟨y149,hy149⟩ : ∃ y_ : List Int,y_ = (y146.set (0 : Int).toNat a1) := ⟨_,rfl⟩
       replace H : (if x5_1.length < 5864062014805 then (shamir_Constant.l0 k1 a1 (x5_1 ++ [y149]) a0_1 (wrap64 (x9_1 + 1)) a0_0 a0_1 a0_2) else (none)) = some r := by first|(rw [hy149];with_reducible exact H)|(have H2_ := (Option.bind_some _ _).symm.trans H;rw [hy149];with_reducible exact H2_)|(have H2_ := (Option.bind_some _ _).symm.trans H;with_reducible exact H2_)|with_reducible exact H|(rw [hy149];exact H)|exact H
       have Ny149 := am hy149
       clear hy149
       by_cases c11 : x5_1.length < 5864062014805
       ·rw [if_pos c11] at H
        have LMc11 := am c11
        clear c11
        obtain ⟨y150,hy150⟩ : ∃ y_ : List (List Int),y_ = (x5_1 ++ [y149]) := ⟨_,rfl⟩
        replace H : (shamir_Constant.l0 k1 a1 y150 a0_1 (wrap64 (x9_1 + 1)) a0_0 a0_1 a0_2) = some r := by first|(rw [hy150];with_reducible exact H)|(have H2_ := (Option.bind_some _ _).symm.trans H;rw [hy150];with_reducible exact H2_)|(have H2_ := (Option.bind_some _ _).symm.trans H;with_reducible exact H2_)|with_reducible exact H|(rw [hy150];exact H)|exact H
        have Ny150 := am hy150
        clear hy150
        have H' := am H
        clear H
        have hcz12_0 := bc BK145 0
        have hcz12_1 := bc BK145 1
        have hcz12_2 := bc BK145 2
        have hfz12_0 := bf BK145 0
        have hfz12_1 := bf BK145 1
        have hfz12_2 := bf BK145 2
        go_wp2_with (first|((with_reducible refine gate_dst (N := 14) rfl ?_);refine Kd.R_make (Kd.int .u64) _ 22 rfl (N := 14) rfl 41 _ _ rfl ji6 rfl rfl Try.underlying41 (.int .u64 0) 8 info22 rfl (by decide) (by omega) 0 (ok := fun _ => True) (okp := fun _ => True) rfl (fun _ hk => hk) trivial (od) (Nat.le_trans (Nat.mul_le_mul_right _ (od : ji6.toNat ≤ 35184372088832)) (by omega)) (Below.refl _ _) (Nat.le_refl _) ?_;intro v147 w13 ho14 hb hg_ hnew_;clear hg_ hnew_;(first|rw [← Ny146.out] at ho14|(simp only [Int.reduceToNat] at ho14;rw [← Ny146.out] at ho14));have n0_ := am (Kd.S_elder' (by (with_reducible repeat (first|apply Kd.S_alloc|apply Kd.S_drewN|apply Kd.S_drew));exact HO_5.out) (Kd.R_base ho14) hb);have n1_ := am (Kd.R_lower ho14 (below_size (bg HB GE145)));have n2_ := am (kb BK145 hb);have n3_ := am (below_step (bg HB GE145) hb);clear HO_5 BK145 HB;have HO_5 := n0_;have HO148 := n1_;have BK145 := n2_;have HB := n3_;clear n0_ n1_ n2_ n3_;clear hb ho14;have p10 : 0 ≤ (0 : Int) := (by omega);have q10 : (0 : Int) < ((y146.length : Int) : Int) := od;have qi10 : (0 < y146.length) = True := eq_true (by omega);obtain ⟨go10,co10,eo10,gb10,gl10,cl10,HG10⟩ := Kd.R_form HO148.out (by omega);(first|cases eo10|(injection eo10 with ea_ en_ ec_;(first|subst ea_|(injection ea_ with ea_;subst ea_));subst ec_;clear en_));have GB10 := am gb10;have GG10 := am HG10;clear gb10 gl10 HG10;obtain ⟨hx10_0,hf10_0⟩ := Kd.R_celln 0 HO148.out (0 : Int) p10 q10;(try rw [show ((0 : Int)).toNat = 0 from rfl] at hx10_0);(try simp only [Nat.reduceMul,Nat.zero_mul,Nat.zero_add,Nat.reduceAdd] at hx10_0);(try rw [show ((0 : Int)).toNat = 0 from rfl] at hf10_0);(try simp only [Nat.reduceMul,Nat.zero_mul,Nat.zero_add,Nat.reduceAdd] at hf10_0);replace p10 := eq_true p10;replace q10 := eq_true q10;obtain ⟨hy15_,hz15_⟩ := Kd.R_celln 0 HO148.out (0 : Int) (by omega) (od);(try simp only [Int.reduceToNat,Int.toNat_zero,Int.toNat_ofNat,Nat.reduceMul,Nat.zero_mul,Nat.zero_add] at hy15_ hz15_);(try rw [show ((0 : Int)).toNat = 0 from rfl] at hy15_);(try rw [show ((0 : Int)).toNat = 0 from rfl] at hz15_);have HP15 := Kd.R_putg HO148.out (0 : Int) a1)|((with_reducible refine gate_store (t := 22) (p := 17) rfl ?_);refine store_event (t := 22) (p := 17) (v := ?vo_w16) (w1 := (w13.setCell ⟨go10,(0 : Int).toNat,none⟩ (.int .u64 a1))) ?hg ?ho ?hn ?hr ?_;(case ho => rfl);(case hg => rfl);(case hn => rfl);(case hr => first|(go_simp;done)|(go_simp;rfl));intro w16 hw;have hg : w13.grownBy w16 (some go10) := (by rw [hw];exact HP15.2);have hp_ : Kd.R (Kd.int .u64) 22 w16 w.heap.size (fun _ => True) (.slice (some ⟨go10,0,none⟩) y146.length co10) y149 := (by rw [hw,Ny149.out];exact HP15.1);clear HP15;have n0_ := am (Kd.S_after (v := (.slice (some ⟨go10,0,none⟩) y146.length co10)) (v1 := (.slice (some ⟨go10,0,none⟩) y146.length co10)) (ok := (fun _ => True)) (by (with_reducible repeat (first|apply Kd.S_alloc|apply Kd.S_drewN|apply Kd.S_drew));exact HO_5.out) hg (.inl rfl));have n1_ := am (blk_grown (g := gb145) (o := .cells #[.int .u64 a0_0,.int .i64 a0_1,.int .i64 a0_2] 24 (0,0)) (by (with_reducible repeat (first|refine blk_drewN ?_ _|refine blk_drew ?_|refine blk_alloc ?_ _));exact BK145.out) hg (Kd.R_ne HO148.out BK145.out (by decide)));have n2_ := am (hp_);have n3_ := am ((by rw [hw];exact below_set (HB.out) GB10.out : Below w.heap.size w w16));clear HO_5 BK145 HO148 HB;have HO_5 := n0_;have BK145 := n1_;have HO148 := n2_;have HB := n3_;clear n0_ n1_ n2_ n3_;clear hg hw hp_)|((with_reducible refine gate_builtin (b := .append) (xs := #[.tmp 18,.tmp 20]) rfl ?_);at_builtin;refine Kd.S_append (Kd.slice 22 (Kd.int .u64)) (w0 := w) w.heap.size rfl (.tmp 18) (.tmp 20) 26 41 (.slice none 0 0) 24 rfl Try.underlying26 info41 rfl (by decide) (by omega) u5 x5_1 y149 [.slice (some ⟨go10,0,none⟩) y146.length co10] (fun _ => True) (fun k_ => some k_ = (.slice (some ⟨go10,0,none⟩) y146.length co10 : Value).ownBlock) rfl rfl ?aP (fun k_ hk_ => ((Kd.R_mono (ok' := fun k_ => ((fun _ => True)) k_ ∧ some k_ ≠ (u5 : Value).ownBlock) (Kd.R_apart' (HO148.out) (Kd.S_typed HO_5.out) (by decide)) (fun k_ hk => ⟨trivial,hk.2⟩))).1 k_ hk_.symm) ?aF ?aO ?aB ?aS ?aL ?_;(case aP => exact Kd.M_row (Kd.R_mono (Kd.R_tight rfl (Kd.R_mono (ok' := fun k_ => ((fun _ => True)) k_ ∧ some k_ ≠ (u5 : Value).ownBlock) (Kd.R_apart' (HO148.out) (Kd.S_typed HO_5.out) (by decide)) (fun k_ hk => ⟨trivial,hk.2⟩))) (fun _ h_ => h_)));(case aB => exact (bg HB GE145));(case aF => exact (fun _ _ => trivial));(case aO => exact (by (with_reducible repeat (first|apply Kd.S_alloc|apply Kd.S_drewN|apply Kd.S_drew));exact Kd.S_mono HO_5.out (fun k_ hk => ⟨trivial,fun e_ => hk.2 e_⟩)));(case aS => exact (below_size (bg HB GE145)));(case aL => have := LMc11.out;omega);intro v151 w17 ho hb hg hat;rw [← Ny150.out] at ho;have n0_ := am (blk_grown (g := gb145) (o := .cells #[.int .u64 a0_0,.int .i64 a0_1,.int .i64 a0_2] 24 (0,0)) (by (with_reducible repeat (first|refine blk_drewN ?_ _|refine blk_drew ?_|refine blk_alloc ?_ _));exact BK145.out) hg (Kd.S_ne HO_5.out BK145.out (by decide)));have n1_ := am (hb);have n2_ := am (ho);clear BK145 HB HO_5 HO148;have BK145 := n0_;have HB := n1_;have HO152 := n2_;clear n0_ n1_ n2_;clear ho hb hg hat))
        go_roundg k1
        case measure => have := HK1.out;omega
        case rel => exact ⟨(y150),(wrap64 (x9_1 + 1)),(by first|rfl|(simp;done)|(simp [*];done)),H',⟨by have := HK1.out;omega⟩,⟨by (with_reducible repeat (first|apply Kd.S_alloc|apply Kd.S_drewN|apply Kd.S_drew));exact HO152.out⟩,⟨kx BK145⟩,⟨bg HB GE145⟩⟩
       ·rw [if_neg c11] at H
        exact absurd H (by simp)
      ·rw [if_neg c9] at H
       exact absurd H (by simp)
     ·rw [if_neg c8] at H
      exact absurd H (by simp)
    ·rw [if_neg c7] at H
     exact absurd H (by simp)
   ·rw [if_neg c5] at H
    have c5b0 : decide (x9_1 < a0_1) = false := decide_eq_false c5
    clear c5
    obtain rfl := Option.some.inj H
    go_wp2
    go_ret
    exact ⟨_,by first|rfl|(simp [errW_none,errW_some] <;> rfl)|(simp [*,errW_none,errW_some] <;> rfl),by (with_reducible repeat (first|apply Kd.S_alloc|apply Kd.S_drewN|apply Kd.S_drew));exact HO_5.out,bg HB GE145⟩
def shamir_Shares.l0 : Nat → Int → Int → List Int → List Int → Int → Option (List Int)
 | 0,_,_,_,_,_ => none
 | k + 1,x0,x1,x2,x7,x8 => if x8 ≤ x1 then ((poly_Eval.f k x0 x2 (IntKind.u64.wrap (x8))).bind fun t153 => (if x7.length < 17592186044416 then (shamir_Shares.l0 k x0 x1 x2 (x7 ++ [t153]) (wrap64 (x8 + 1))) else (none))) else (some x7)
def shamir_Shares.f (k : Nat) (a0 : Int) (a1 : Int) (l2 : List Int) : Option (List Int) := shamir_Shares.l0 k a0 a1 l2 ([] : List Int) 1
theorem shamir_Shares.mono_l : ∀ k,(∀ y0 y1 y2 y3 y4,LeO (shamir_Shares.l0 k y0 y1 y2 y3 y4) (shamir_Shares.l0 (k + 1) y0 y1 y2 y3 y4))
 | 0 => fun _ _ _ _ _ r h => by simp [shamir_Shares.l0] at h
 | k + 1 => by
  have ih0 := shamir_Shares.mono_l k
  ·intro y0 y1 y2 y3 y4
   unfold shamir_Shares.l0
   repeat' first
   | (with_reducible exact ih0 _ _ _ _ _)
   | (with_reducible exact poly_Eval.mono _ _ _ _)
   | (with_reducible exact LeO.refl _)
   | (with_reducible exact LeO.none _)
   | (with_reducible refine LeO.ite ?_ ?_)
   | (with_reducible refine LeO.bind ?_ (fun _ => ?_))
   | exact ih0 _ _ _ _ _
   | exact poly_Eval.mono _ _ _ _
   | exact LeO.none _
   | refine LeO.ite ?_ ?_
   | refine LeO.bind ?_ (fun _ => ?_)
theorem shamir_Shares.mono : ∀ a0 a1 a2 k,LeO (shamir_Shares.f k a0 a1 a2) (shamir_Shares.f (k + 1) a0 a1 a2) := by
 intro a0 a1 a2 k
 have ih0 := shamir_Shares.mono_l k
 unfold shamir_Shares.f
 repeat' first
   | (with_reducible exact ih0 _ _ _ _ _)
   | (with_reducible exact poly_Eval.mono _ _ _ _)
   | (with_reducible exact LeO.refl _)
   | (with_reducible exact LeO.none _)
   | (with_reducible refine LeO.ite ?_ ?_)
   | (with_reducible refine LeO.bind ?_ (fun _ => ?_))
   | exact ih0 _ _ _ _ _
   | exact poly_Eval.mono _ _ _ _
   | exact LeO.none _
   | refine LeO.ite ?_ ?_
   | refine LeO.bind ?_ (fun _ => ?_)
set_option maxHeartbeats 8000000 in
set_option maxRecDepth 100000 in
theorem shamir_Shares.calls (k : Nat) (a0 : Int) (a1 : Int) (A2 : Option Addr) (c2 : Nat) (l2 : List Int) (r : List Int) (w : World) (hr2 : Kd.C (Kd.int .u64) w A2 l2.length l2) (hc2 : l2.length ≤ c2) (h : shamir_Shares.f k a0 a1 l2 = some r) :
  Calls Try.prog 23 #[.int .u64 a0,.int .i64 a1,.slice A2 l2.length c2] w fun e w' => ∃ v0_ : Value,e = .returned (v0_) ∧ Kd.R (Kd.int .u64) 22 w' w.heap.size (fun _ => True) v0_ r ∧ Below w.heap.size w w' := by
 have HR2 := am hr2
 have HC2 := am hc2
 clear hr2 hc2
 have HB := am (Below.refl w.heap.size w)
 have H : (shamir_Shares.l0 k a0 a1 l2 ([] : List Int) 1) = some r := h
 clear h
 have H' := am H
 clear H
 go_enter Try.func23,Try.ntmps23
 go_wp2
 go_loopg [7,8] k (fun kq v7 v8 w' => ∃ (x7_1 : List Int) (x8_1 : Int),v8 = .int .i64 x8_1 ∧ Aside0 (shamir_Shares.l0 kq a0 a1 l2 x7_1 x8_1 = some r) ∧ Aside0 (kq ≤ k) ∧ Aside0 (Kd.R (Kd.int .u64) 22 w' w.heap.size (fun _ => True) v7 x7_1) ∧ Aside0 (Below w.heap.size w w'))
 case atStart => exact ⟨(([] : List Int)),(1),(by first|rfl|(simp;done)|(simp [*];done)),H',⟨Nat.le_refl _⟩,⟨by first|exact Kd.R_nil _ _ _ _ _|exact Kd.N_nil _ _ _ _ _|exact Kd.V_nil _ _ _ _ _|exact Kd.Q_nil _ _ _ _ _|exact Kd.S_nil _ _ _ _ _⟩,⟨bb HB⟩⟩
 case round =>
  clear H'
  try clear c2
  try clear p2
  obtain ⟨x7_1,x8_1,rfl,HA,HK1,HO_7,HB⟩ := hrel
  cases gk with
  | zero => exact absurd HA.out (by simp [shamir_Shares.l0])
  | succ k1 =>
   have H := HA.out
   clear HA
   simp only [shamir_Shares.l0] at H
   by_cases c4 : x8_1 ≤ a1
   ·rw [if_pos c4] at H
    have c4b0 : decide (x8_1 ≤ a1) = true := decide_eq_true c4
    clear c4
    replace H := Option.bind_eq_some_iff.mp H
    obtain ⟨t153,A50,H⟩ := H
    try dsimp only at H
    have A5 := am A50
    clear A50
    by_cases c6 : x7_1.length < 17592186044416
    ·rw [if_pos c6] at H
     have LMc6 := am c6
     clear c6
     obtain ⟨y154,hy154⟩ : ∃ y_ : List Int,y_ = (x7_1 ++ [t153]) := ⟨_,rfl⟩
     replace H : (shamir_Shares.l0 k1 a0 a1 l2 y154 (wrap64 (x8_1 + 1))) = some r := by first|(rw [hy154];with_reducible exact H)|(have H2_ := (Option.bind_some _ _).symm.trans H;rw [hy154];with_reducible exact H2_)|(have H2_ := (Option.bind_some _ _).symm.trans H;with_reducible exact H2_)|with_reducible exact H|(rw [hy154];exact H)|exact H
     have Ny154 := am hy154
     clear hy154
     have H' := am H
     clear H
     go_wp2_with (first|((with_reducible refine gate_callee (f := 37) rfl ?_);refine goesL_ (some 19) rfl rfl Try.func37 (by kernel_rfl) rfl #[.int .u64 a0,.slice A2 l2.length c2,.int .u64 (IntKind.u64.wrap (x8_1))] rfl (by (try simp only [List.map_toArray,List.map_cons,List.map_nil]);first|done|rfl|(simp only [List.length_drop,List.length_take];rfl)) ?_;(with_reducible refine (poly_Eval.calls k1 a0 _ _ l2 (IntKind.u64.wrap (x8_1)) t153 _ ?side1 ?side2 A5.out).mono ?_);(case side1 => exact cb HR2 HB);(case side2 => exact HC2.out);rintro e w' ⟨rfl,⟨nd,rfl⟩⟩;refine ⟨_,rfl,?_⟩)|((with_reducible refine gate_builtin (b := .append) (xs := #[.tmp 14,.tmp 20]) rfl ?_);at_builtin;refine Kd.R_append (Kd.int .u64) (w0 := w) w.heap.size rfl (.tmp 14) (.tmp 20) 41 22 (.int .u64 0) 8 rfl Try.underlying41 info22 rfl (by decide) (by omega) u7 x7_1 t153 [.int .u64 t153] (fun _ => True) (fun _ => False) rfl rfl ?aP (fun _ hk => hk.elim) ?aF ?aO ?aB ?aS ?aL ?_;(case aP => exact rfl);(case aB => exact (bb HB));(case aF => exact (fun _ _ => trivial));(case aO => exact (rr HO_7));(case aS => exact (below_size (bb HB)));(case aL => have := LMc6.out;omega);intro v155 w7 ho hb hg hat;rw [← Ny154.out] at ho;have n0_ := am (hb);have n1_ := am (ho);clear HB HO_7;have HB := n0_;have HO156 := n1_;clear n0_ n1_;clear ho hb hg hat))
     go_roundg k1
     case measure => have := HK1.out;omega
     case rel => exact ⟨(y154),(wrap64 (x8_1 + 1)),(by first|rfl|(simp;done)|(simp [*];done)),H',⟨by have := HK1.out;omega⟩,⟨by (with_reducible repeat (first|apply Kd.R_alloc|apply Kd.R_drewN|apply Kd.R_drew));exact HO156.out⟩,⟨bb HB⟩⟩
    ·rw [if_neg c6] at H
     exact absurd H (by simp)
   ·rw [if_neg c4] at H
    have c4b0 : decide (x8_1 ≤ a1) = false := decide_eq_false c4
    clear c4
    obtain rfl := Option.some.inj H
    go_wp2
    go_ret
    exact ⟨_,by first|rfl|(simp [errW_none,errW_some] <;> rfl)|(simp [*,errW_none,errW_some] <;> rfl),by (with_reducible repeat (first|apply Kd.R_alloc|apply Kd.R_drewN|apply Kd.R_drew));exact HO_7.out,bb HB⟩
end Go.Proofs.Ytjnkkfdlcbcelaa.Pr
end
section
namespace Go.Proofs.Ytjnkkfdlcbcelaa.Hw
open Go.RowKit Go.MapKept Go.Proofs.YtjnkkfdlcbcelaaW.PrintWords
def ents (L : List Int) : Array MapEntry := (L.mapIdx fun i n => (⟨.int .u64 n,.bool true,i⟩ : MapEntry)).toArray
def SeenAt (w : World) (b : Nat) (L : List Int) : Prop := w.heap[b]? = some (.map (ents L) L.length)
theorem ents_push (L : List Int) (x : Int) : (ents L).push ⟨.int .u64 x,.bool true,L.length⟩ = ents (L ++ [x]) := by
 unfold ents;rw [List.mapIdx_append];simp
theorem ents_key (L : List Int) : ∀ e ∈ (ents L).toList,IsKey (.int .u64) e.key := by
 intro e he
 unfold ents at he
 simp only [List.mem_mapIdx] at he
 obtain ⟨i,h,rfl⟩ := he
 simp [IsKey]
theorem ents_mem (L : List Int) (x : Int) : (∃ e ∈ (ents L).toList,e.key = .int .u64 x) ↔ x ∈ L := by
 unfold ents
 simp only [List.mem_mapIdx]
 constructor
 ·rintro ⟨e,⟨i,h,rfl⟩,he⟩
  simp only [Value.int.injEq,true_and] at he
  rw [← he];exact List.getElem_mem h
 ·intro h
  obtain ⟨i,hi,rfl⟩ := List.getElem_of_mem h
  exact ⟨_,⟨i,hi,rfl⟩,rfl⟩
theorem ents_val (L : List Int) : ∀ e ∈ (ents L).toList,e.val = .bool true := by
 intro e he
 unfold ents at he
 simp only [List.mem_mapIdx] at he
 obtain ⟨i,h,rfl⟩ := he
 rfl
theorem seen_look {P : Program} {t kt et : TypeId} (hm : P.underlying t = some (.map kt et)) (hk : P.underlying kt = some (.int .u64)) {w : World} (hz : (zeroValue et).run P w = .ok (.bool false) w) {b : Nat} {L : List Int} (h : SeenAt w b L) (x : Int) :
  (Instr.lookup t (.map (some b)) (.int .u64 x) false).run P w = .ok (.bool (decide (x ∈ L))) w := by
 have hik : IsKey (.int .u64) (.int .u64 x) := by simp [IsKey]
 rcases findNow_spec hik (ents L).toList 0 (ents_key L) with ⟨h1,h2⟩|⟨j,e,h1,h2,h3⟩
 ·have : x ∉ L := fun hx => by
   obtain ⟨e,he,hk⟩ := (ents_mem L x).2 hx
   exact h2 e he hk
  simp [Instr.lookup,run_underlying hm,Go.MapKept.run_getObj_map (P := P) (show w.heap[b]? = some (.map (ents L) L.length) from h),run_checkKey hk hik,run_findKey hk h1,Result.andThen,hz,this]
 ·have he : e ∈ (ents L).toList := List.mem_of_getElem? h2
  have : x ∈ L := (ents_mem L x).1 ⟨e,he,h3⟩
  have hv := ents_val L e he
  simp [Instr.lookup,run_underlying hm,Go.MapKept.run_getObj_map (P := P) (show w.heap[b]? = some (.map (ents L) L.length) from h),run_checkKey hk hik,run_findKey hk h1,Result.andThen,this,hv]
def putSeen (w : World) (b : Nat) (L : List Int) : World := { w with heap := w.heap.setIfInBounds b (.map (ents L) L.length) }
theorem seen_put {P : Program} {t kt et : TypeId} (hm : P.underlying t = some (.map kt et)) (hk : P.underlying kt = some (.int .u64)) {w : World} {b : Nat} {L : List Int} (h : SeenAt w b L) (x : Int) (hx : x ∉ L) :
  (Instr.mapUpdate t (.map (some b)) (.int .u64 x) (.bool true)).run P w = .ok () (putSeen w b (L ++ [x])) := by
 have hik : IsKey (.int .u64) (.int .u64 x) := by simp [IsKey]
 rcases findNow_spec hik (ents L).toList 0 (ents_key L) with ⟨h1,h2⟩|⟨j,e,h1,h2,h3⟩
 ·simp [Instr.mapUpdate,run_underlying hm,Go.MapKept.run_getObj_map (P := P) (show w.heap[b]? = some (.map (ents L) L.length) from h),run_checkKey hk hik,run_findKey hk h1,Go.MapKept.run_setObj_map (P := P) _ (show w.heap[b]? = some (.map (ents L) L.length) from h),Result.andThen,ents_push,putSeen]
 ·have he : e ∈ (ents L).toList := List.mem_of_getElem? h2
  exact absurd ((ents_mem L x).1 ⟨e,he,h3⟩) hx
theorem putSeen_at {w : World} {b : Nat} {L : List Int} (hb : b < w.heap.size) : SeenAt (putSeen w b L) b L := by
 unfold SeenAt putSeen
 simp [hb]
theorem putSeen_below {base : Nat} {w w1 : World} {b : Nat} {L : List Int} (h : Below base w w1) (hb : base ≤ b) : Below base w (putSeen w1 b L) :=
 ⟨h.os,h.tape,h.output,by show _ ≤ (Array.setIfInBounds _ _ _).size;rw [Array.size_setIfInBounds];exact h.size,fun i hi => by
  show (Array.setIfInBounds _ _ _)[i]? = _
  rw [Array.getElem?_setIfInBounds_ne (by omega)];exact h.block i hi⟩
theorem SeenAt.alloc {w : World} {b : Nat} {L : List Int} (h : SeenAt w b L) (o : Obj) : SeenAt (w.alloc o) b L := by
 have hlt : b < w.heap.size := (Array.getElem?_eq_some_iff.1 h).1
 show (w.heap.push o)[b]? = _
 rw [Array.getElem?_push,if_neg (by omega)];exact h
theorem seen_made (w : World) : SeenAt (w.alloc (.map #[] 0)) w.heap.size [] := by
 show (w.heap.push _)[w.heap.size]? = _
 simp [ents]
end Go.Proofs.Ytjnkkfdlcbcelaa.Hw
end
section
namespace Go.Proofs.Ytjnkkfdlcbcelaa.Hw
open Go.RowKit Go.Proofs.Ytjnkkfdlcbcelaa.Pr Go.Proofs.YtjnkkfdlcbcelaaW.PrintWords Go.Proofs.YtjnkkfdlcbcelaaW.PrintLast Go.Proofs.YtjnkkfdlcbcelaaW.PrintMore Go.Proofs.Ytjnkkfdlcbcelaa.E
theorem zeroB (w : World) : (zeroValue 4).run Try.prog w = .ok (.bool false) w := by kernel_rfl
set_option maxHeartbeats 2000000 in
set_option maxRecDepth 100000 in
theorem placed_walk (A : Option Addr) (c : Nat) (pts : List S49) (hl : pts.length ≤ 1099511627776) (w : World) (hr : Kd.C k49 w A pts.length pts) (hc : pts.length ≤ c) :
  Calls Try.prog 38 #[.slice A pts.length c] w fun e w' => e = .returned (.bool (decide (0 :: xsOf pts).Nodup)) ∧ Below w.heap.size w w' := by
 obtain ⟨r,hr1⟩ : ∃ y,y = decide (0 :: xsOf pts).Nodup := ⟨_,rfl⟩
 rw [← hr1]
 have HR1 := Aside0.mk hr1
 have HR := Aside0.mk hr
 clear hr1 hr
 have hs0 := seen_put Try.underlying78 Try.underlying22 (seen_made w) 0 (by simp)
 have hb0 : Below w.heap.size w (putSeen (w.alloc (.map #[] 0)) w.heap.size [0]) := putSeen_below (below_alloc (Below.refl _ _) _) (Nat.le_refl _)
 have hS0 : SeenAt (putSeen (w.alloc (.map #[] 0)) w.heap.size [0]) w.heap.size [0] := putSeen_at (by show _ < (w.heap.push _).size;simp)
 have HB0 := Aside0.mk hb0
 have HS0 := Aside0.mk hS0
 clear hb0 hS0
 have hmm := @run_makeMap Try.prog
 go_enter Try.func38,Try.ntmps38
 go_wp2
 clear hs0 hmm
 go_loopg [10] pts.length (fun kq v10 w' => ∃ (n : Nat),v10 = .int .i64 (n : Int) ∧ Aside0 (kq + n = pts.length) ∧ Aside0 (SeenAt w' w.heap.size (0 :: xsOf (pts.take n))) ∧ Aside0 ((0 :: xsOf (pts.take n)).Nodup) ∧ Aside0 (Below w.heap.size w w'))
 case atStart => exact ⟨0,rfl,⟨rfl⟩,HS0,⟨by simp [xsOf]⟩,HB0⟩
 case round =>
  clear HS0 HB0
  obtain ⟨n,rfl,HK,HS,HN,HB⟩ := hrel
  by_cases hlt : n < pts.length
  ·have p1 : ((0 : Int) ≤ (n : Int)) = True := eq_true (by omega)
   have q1 : ((n : Int) < (pts.length : Int)) = True := eq_true (by omega)
   obtain ⟨ad,e1,hx0,hx1⟩ := at_T49 HR.out (n : Int) (by omega) (by omega)
   cases e1
   replace hx0 := pw_cell_below HB.out hx0
   replace hx1 := pw_cell_below HB.out hx1
   rw [Int.toNat_natCast] at hx0 hx1
   have hnext := xsOf_next pts n hlt
   obtain ⟨X,hX⟩ : ∃ y,y = (rd_T49 pts (n : Int)).f0 := ⟨_,rfl⟩
   obtain ⟨Y,hY⟩ : ∃ y,y = (rd_T49 pts (n : Int)).f1 := ⟨_,rfl⟩
   rw [← hX] at hx0
   rw [← hY] at hx1
   rw [← hX] at hnext
   obtain ⟨L,hL⟩ : ∃ y,y = 0 :: xsOf (pts.take n) := ⟨_,rfl⟩
   have hL2 : 0 :: xsOf (pts.take (n + 1)) = L ++ [X] := by rw [hL,← hnext];rfl
   rw [← hL] at HS HN
   have HL2 := Aside0.mk hL2
   have hall : ∃ m,0 :: xsOf pts = L ++ [X] ++ m := ⟨xsOf (pts.drop (n + 1)),by
    rw [← hL2];unfold xsOf;rw [List.map_take,List.map_drop,List.cons_append,List.take_append_drop]⟩
   have HAll := Aside0.mk hall
   clear hX hY hnext hL hL2 hall
   have hSA := SeenAt.alloc HS.out (Obj.cells #[Value.int IntKind.u64 X,Value.int IntKind.u64 Y] 49)
   have hlook := seen_look Try.underlying78 Try.underlying22 (zeroB _) hSA X
   by_cases hm : X ∈ L
   ·rw [decide_eq_true hm] at hlook
    have hf : r = false := by
     rw [HR1.out,decide_eq_false]
     obtain ⟨m,e⟩ := HAll.out
     rw [e]
     intro hnd
     have := (List.nodup_append.1 (List.nodup_append.1 hnd).1)
     exact this.2.2 X hm X (by simp) rfl
    have HF := Aside0.mk hf
    clear hm hf hSA
    go_wp2
    first|go_ret2|((try simp only [Exit.inBlock,Exit.then]);refine bodyPost_ret (results_tmp rfl _ _ _) rfl ?_)
    exact ⟨by rw [HF.out] <;> rfl,below_alloc HB.out _⟩
   ·rw [decide_eq_false hm] at hlook
    have hput := seen_put Try.underlying78 Try.underlying22 hSA X hm
    have hlt2 : w.heap.size < (wr.alloc (Obj.cells #[Value.int IntKind.u64 X,Value.int IntKind.u64 Y] 49)).heap.size := by
     have := (Array.getElem?_eq_some_iff.1 hSA).1;exact this
    have HNew := Aside0.mk (putSeen_at (L := L ++ [X]) hlt2)
    have HB2 := Aside0.mk (putSeen_below (L := L ++ [X]) (below_alloc HB.out (Obj.cells #[Value.int IntKind.u64 X,Value.int IntKind.u64 Y] 49)) (Nat.le_refl w.heap.size))
    have hnd : (L ++ [X]).Nodup := List.nodup_append.2 ⟨HN.out,by simp,fun a ha b hb e => by simp only [List.mem_cons,List.not_mem_nil,or_false] at hb;subst hb;subst e;exact hm ha⟩
    have HND := Aside0.mk hnd
    clear hm hnd hSA hlt2
    go_wp2
    go_roundg (pts.length - (n + 1))
    case measure => have := HK.out;omega
    case rel => exact ⟨n + 1,by go_num,⟨by omega⟩,⟨by rw [HL2.out];exact HNew.out⟩,⟨by rw [HL2.out];exact HND.out⟩,HB2⟩
  ·have hd : decide ((n : Int) < (pts.length : Int)) = false := decide_eq_false (by omega)
   have hn : n = pts.length := by have := HK.out;omega
   subst hn
   have hf : r = true := by
    rw [HR1.out];exact decide_eq_true (by have := HN.out;rwa [List.take_length] at this)
   have HF := Aside0.mk hf
   clear hlt HK hf
   go_wp2
   first|go_ret2|((try simp only [Exit.inBlock,Exit.then]);refine bodyPost_ret (results_tmp rfl _ _ _) rfl ?_)
   exact ⟨by rw [HF.out] <;> rfl,HB.out⟩
def shamir_placed.f (l0 : List S49) : Option Bool := if l0.length ≤ 1000000 then some (decide (0 :: xsOf l0).Nodup) else none
theorem shamir_placed.calls (A0 : Option Addr) (c0 : Nat) (l0 : List S49) (r : Bool) (w : World) (hr0 : Kd.C k49 w A0 l0.length l0) (hc0 : l0.length ≤ c0) (h : shamir_placed.f l0 = some r) :
  Calls Try.prog 38 #[.slice A0 l0.length c0] w fun e w' => e = .returned (.bool r) ∧ Below w.heap.size w w' := by
 unfold shamir_placed.f at h
 by_cases hl : l0.length ≤ 1000000
 ·rw [if_pos hl] at h
  rw [← Option.some.inj h]
  exact placed_walk A0 c0 l0 (by omega) w hr0 hc0
 ·rw [if_neg hl] at h;cases h
end Go.Proofs.Ytjnkkfdlcbcelaa.Hw
end
section
namespace Go.Proofs.Ytjnkkfdlcbcelaa.Pr
open Go.RowKit Go.Proofs.YtjnkkfdlcbcelaaW.PrintWords Go.Proofs.YtjnkkfdlcbcelaaW.PrintLast Go.Proofs.YtjnkkfdlcbcelaaW.PrintMore
attribute [local go_sem] max2_int min2_int max_two min_two max_three min_three max_four min_four
open Go.Proofs.Ytjnkkfdlcbcelaa.Hw
def shamir_Reconstruct.j0 : Nat → Int → Int → List (S49) → Bool → Option (Int × Int)
 | 0,_,_,_,_ => none
 | k + 1,x0,x1,x2,x22 => if x22 = true then (some (0,1)) else ((interpolate_Polynomial.f x0 x2).bind fun bt291 => (if bt291.2 = 0 then ((poly_Degree.f k bt291.1).bind fun t295 => (if t295 > x1 then (some (0,9)) else ((poly_Coefficient.f bt291.1 0).bind fun t296 => (some (t296,0))))) else (some (0,bt291.2))))
def shamir_Reconstruct.f (k : Nat) (a0 : Int) (a1 : Int) (l2 : List (S49)) : Option (Int × Int) := if a1 < 0 then (shamir_Reconstruct.j0 k a0 a1 l2 true) else ((shamir_placed.f l2).bind fun t290 => (if t290 = true then (shamir_Reconstruct.j0 k a0 a1 l2 (decide ((l2.length : Int) ≤ a1))) else (shamir_Reconstruct.j0 k a0 a1 l2 true)))
theorem shamir_Reconstruct.mono_l : ∀ k,(∀ y0 y1 y2 y3,LeO (shamir_Reconstruct.j0 k y0 y1 y2 y3) (shamir_Reconstruct.j0 (k + 1) y0 y1 y2 y3))
 | 0 => fun _ _ _ _ r h => by simp [shamir_Reconstruct.j0] at h
 | k + 1 => by
  have ih0 := shamir_Reconstruct.mono_l k
  ·intro y0 y1 y2 y3
   unfold shamir_Reconstruct.j0
   repeat' first
   | (with_reducible exact ih0 _ _ _ _)
   | (with_reducible exact poly_Degree.mono _ _)
   | (with_reducible exact LeO.refl _)
   | (with_reducible exact LeO.none _)
   | (with_reducible refine LeO.ite ?_ ?_)
   | (with_reducible refine LeO.bind ?_ (fun _ => ?_))
   | exact ih0 _ _ _ _
   | exact poly_Degree.mono _ _
   | exact LeO.none _
   | refine LeO.ite ?_ ?_
   | refine LeO.bind ?_ (fun _ => ?_)
theorem shamir_Reconstruct.mono : ∀ a0 a1 a2 k,LeO (shamir_Reconstruct.f k a0 a1 a2) (shamir_Reconstruct.f (k + 1) a0 a1 a2) := by
 intro a0 a1 a2 k
 have ih0 := shamir_Reconstruct.mono_l k
 unfold shamir_Reconstruct.f
 repeat' first
   | (with_reducible exact ih0 _ _ _ _)
   | (with_reducible exact poly_Degree.mono _ _)
   | (with_reducible exact LeO.refl _)
   | (with_reducible exact LeO.none _)
   | (with_reducible refine LeO.ite ?_ ?_)
   | (with_reducible refine LeO.bind ?_ (fun _ => ?_))
   | exact ih0 _ _ _ _
   | exact poly_Degree.mono _ _
   | exact LeO.none _
   | refine LeO.ite ?_ ?_
   | refine LeO.bind ?_ (fun _ => ?_)
set_option maxHeartbeats 8000000 in
set_option maxRecDepth 100000 in
theorem shamir_Reconstruct.calls (k : Nat) (a0 : Int) (a1 : Int) (A2 : Option Addr) (c2 : Nat) (l2 : List (S49)) (r1 : Int) (r2 : Int) (w : World) (hr2 : Kd.C k49 w A2 l2.length l2) (hc2 : l2.length ≤ c2) (h : shamir_Reconstruct.f k a0 a1 l2 = some (r1,r2)) :
  Calls Try.prog 24 #[.int .u64 a0,.int .i64 a1,.slice A2 l2.length c2] w fun e w' => e = .returned (.tuple #[.int .u64 r1,.int .i64 r2]) ∧ Below w.heap.size w w' := by
 have HR2 := am hr2
 have HC2 := am hc2
 clear hr2 hc2
 have HB := am (Below.refl w.heap.size w)
 have H : (if a1 < 0 then (shamir_Reconstruct.j0 k a0 a1 l2 true) else ((shamir_placed.f l2).bind fun t290 => (if t290 = true then (shamir_Reconstruct.j0 k a0 a1 l2 (decide ((l2.length : Int) ≤ a1))) else (shamir_Reconstruct.j0 k a0 a1 l2 true)))) = some (r1,r2) := h
 clear h
 have HC4 := am H
 clear H
 go_enter Try.func24,Try.ntmps24
 go_upto_region 1 with (fail)
 go_cut [22] (fun v22 wc => ∃ (kq : Nat) (x22_3 : Bool),v22 = .bool x22_3 ∧ Aside0 (shamir_Reconstruct.j0 kq a0 a1 l2 x22_3 = some (r1,r2)) ∧ Aside0 (kq ≤ k) ∧ Aside0 (Below w.heap.size w wc))
 case first =>
  have H := HC4.out
  clear HC4
  by_cases c5 : a1 < 0
  ·rw [if_pos c5] at H
   have c5b0 : decide (a1 < 0) = true := decide_eq_true c5
   clear c5
   (first|rw [c5b0]|(simp only [i64_w,i32_w];rw [c5b0])|skip)
   have H' := am H
   clear H
   go_wp2
   go_meet
   case rel => exact ⟨_,(true),(by first|rfl|(simp;done)|(simp [*];done)),H',⟨by first|omega|exact Nat.le_refl _⟩,⟨bb HB⟩⟩
  ·rw [if_neg c5] at H
   have c5b0 : decide (a1 < 0) = false := decide_eq_false c5
   clear c5
   (first|rw [c5b0]|(simp only [i64_w,i32_w];rw [c5b0])|skip)
   replace H := Option.bind_eq_some_iff.mp H
   obtain ⟨t290,A60,H⟩ := H
   try dsimp only at H
   have A6 := am A60
   clear A60
   by_cases c7 : t290 = true
   ·subst c7
    rw [if_pos rfl] at H
    have H' := am H
    clear H
    go_wp2_with (first|(go_at_call 38;(with_reducible refine (shamir_placed.calls _ _ l2 true _ ?side1 ?side2 A6.out).mono ?_);(case side1 => exact cb HR2 HB);(case side2 => exact HC2.out);rintro e w8 ⟨rfl,hb⟩;have n0_ := am (below_step (bb HB) hb);clear HB;have HB := n0_;clear n0_;(try clear hb);(try clear hb2);(try clear hk);(try clear hi)))
    go_meet
    case rel => exact ⟨_,(decide ((l2.length : Int) ≤ a1)),(by first|rfl|(simp;done)|(simp [*];done)),H',⟨by first|omega|exact Nat.le_refl _⟩,⟨bb HB⟩⟩
   ·replace c7 := Bool.eq_false_iff.mpr c7
    subst c7
    rw [if_neg (show ¬ (false = true) by decide)] at H
    have H' := am H
    clear H
    go_wp2_with (first|(go_at_call 38;(with_reducible refine (shamir_placed.calls _ _ l2 false _ ?side1 ?side2 A6.out).mono ?_);(case side1 => exact cb HR2 HB);(case side2 => exact HC2.out);rintro e w9 ⟨rfl,hb⟩;have n0_ := am (below_step (bb HB) hb);clear HB;have HB := n0_;clear n0_;(try clear hb);(try clear hb2);(try clear hk);(try clear hi)))
    go_meet
    case rel => exact ⟨_,(true),(by first|rfl|(simp;done)|(simp [*];done)),H',⟨by first|omega|exact Nat.le_refl _⟩,⟨bb HB⟩⟩
 case rest =>
  clear HC4
  try clear c2
  try clear p2
  try clear c5
  try clear c5b0
  try clear c7
  obtain ⟨kq,x22_3,rfl,HA,HJ3,HB⟩ := hcut
  cases kq with
  | zero => exact absurd HA.out (by simp [shamir_Reconstruct.j0])
  | succ kj3 =>
   have H := HA.out
   clear HA
   simp only [shamir_Reconstruct.j0] at H
   by_cases c10 : x22_3 = true
   ·subst c10
    rw [if_pos rfl] at H
    simp only [Option.some.injEq,Prod.mk.injEq] at H
    obtain ⟨rfl,rfl⟩ := H
    go_wp2
    go_ret2
    exact ⟨by first|rfl|(simp [errW_none,errW_some] <;> rfl)|(simp [*,errW_none,errW_some] <;> rfl),bb HB⟩
   ·replace c10 := Bool.eq_false_iff.mpr c10
    subst c10
    rw [if_neg (show ¬ (false = true) by decide)] at H
    replace H := Option.bind_eq_some_iff.mp H
    obtain ⟨⟨t291,t292⟩,A110,H⟩ := H
    try dsimp only at H
    have A11 := am A110
    clear A110
    by_cases c12 : t292 = 0
    ·rw [if_pos c12] at H
     have c12b0 : (t292 == 0) = true := beq_iff_eq.mpr c12
     have c12b1 : (t292 != 0) = false := bne_eq_false_iff_eq.mpr c12
     clear c12
     replace H := Option.bind_eq_some_iff.mp H
     obtain ⟨t295,A130,H⟩ := H
     try dsimp only at H
     have A13 := am A130
     clear A130
     by_cases c14 : t295 > a1
     ·rw [if_pos c14] at H
      have c14b0 : decide (a1 < t295) = true := decide_eq_true c14
      clear c14
      simp only [Option.some.injEq,Prod.mk.injEq] at H
      obtain ⟨rfl,rfl⟩ := H
      go_wp2_with (first|((with_reducible refine gate_callee (f := 39) rfl ?_);refine goesL_ (some 26) rfl rfl Try.func39 (by kernel_rfl) rfl #[.int .u64 a0,.slice A2 l2.length c2] rfl (by (try simp only [List.map_toArray,List.map_cons,List.map_nil]);first|done|rfl|(simp only [List.length_drop,List.length_take];rfl)) ?_;(with_reducible refine (interpolate_Polynomial.calls a0 _ _ l2 t291 t292 _ ?side1 ?side2 A11.out).mono ?_);(case side1 => exact cb HR2 HB);(case side2 => exact HC2.out);rintro e w15 ⟨v293,rfl,ho0,hb⟩;refine ⟨_,rfl,?_⟩;have n0_ := am (Kd.R_lower ho0 (below_size (bb HB)));have n1_ := am (below_step (bb HB) hb);clear HB;have HO294 := n0_;have HB := n1_;clear n0_ n1_;(try clear hb);(try clear hb2);(try clear hk);(try clear hi);(try clear ho0);obtain ⟨Ao16,co16,eo16⟩ := Kd.R_slice HO294.out;subst eo16)|((with_reducible refine gate_callee (f := 40) rfl ?_);refine goesL_ (some 33) rfl rfl Try.func40 (by kernel_rfl) rfl #[.slice Ao16 t291.length co16] rfl (by (try simp only [List.map_toArray,List.map_cons,List.map_nil]);first|done|rfl|(simp only [List.length_drop,List.length_take];rfl)) ?_;(with_reducible refine (poly_Degree.calls kj3 _ _ t291 t295 _ ?side1 ?side2 A13.out).mono ?_);(case side1 => exact cr HO294);(case side2 => exact (Kd.R_reads' HO294.out).2.1);rintro e w' ⟨rfl,⟨nd,rfl⟩⟩;refine ⟨_,rfl,?_⟩))
      go_ret2
      exact ⟨by first|rfl|(simp [errW_none,errW_some] <;> rfl)|(simp [*,errW_none,errW_some] <;> rfl),bb HB⟩
     ·rw [if_neg c14] at H
      have c14b0 : decide (a1 < t295) = false := decide_eq_false c14
      clear c14
      replace H := Option.bind_eq_some_iff.mp H
      obtain ⟨t296,A170,H⟩ := H
      try dsimp only at H
      have A17 := am A170
      clear A170
      simp only [Option.some.injEq,Prod.mk.injEq] at H
      obtain ⟨rfl,rfl⟩ := H
      go_wp2_with (first|((with_reducible refine gate_callee (f := 39) rfl ?_);refine goesL_ (some 26) rfl rfl Try.func39 (by kernel_rfl) rfl #[.int .u64 a0,.slice A2 l2.length c2] rfl (by (try simp only [List.map_toArray,List.map_cons,List.map_nil]);first|done|rfl|(simp only [List.length_drop,List.length_take];rfl)) ?_;(with_reducible refine (interpolate_Polynomial.calls a0 _ _ l2 t291 t292 _ ?side1 ?side2 A11.out).mono ?_);(case side1 => exact cb HR2 HB);(case side2 => exact HC2.out);rintro e w18 ⟨v293,rfl,ho0,hb⟩;refine ⟨_,rfl,?_⟩;have n0_ := am (Kd.R_lower ho0 (below_size (bb HB)));have n1_ := am (below_step (bb HB) hb);clear HB;have HO294 := n0_;have HB := n1_;clear n0_ n1_;(try clear hb);(try clear hb2);(try clear hk);(try clear hi);(try clear ho0);obtain ⟨Ao19,co19,eo19⟩ := Kd.R_slice HO294.out;subst eo19)|((with_reducible refine gate_callee (f := 40) rfl ?_);refine goesL_ (some 33) rfl rfl Try.func40 (by kernel_rfl) rfl #[.slice Ao19 t291.length co19] rfl (by (try simp only [List.map_toArray,List.map_cons,List.map_nil]);first|done|rfl|(simp only [List.length_drop,List.length_take];rfl)) ?_;(with_reducible refine (poly_Degree.calls kj3 _ _ t291 t295 _ ?side1 ?side2 A13.out).mono ?_);(case side1 => exact cr HO294);(case side2 => exact (Kd.R_reads' HO294.out).2.1);rintro e w' ⟨rfl,⟨nd,rfl⟩⟩;refine ⟨_,rfl,?_⟩)|((with_reducible refine gate_callee (f := 41) rfl ?_);refine goesL_ (some 37) rfl rfl Try.func41 (by kernel_rfl) rfl #[.slice Ao19 t291.length co19,.int .i64 0] rfl (by (try simp only [List.map_toArray,List.map_cons,List.map_nil]);first|done|rfl|(simp only [List.length_drop,List.length_take];rfl)) ?_;(with_reducible refine (poly_Coefficient.calls _ _ t291 0 t296 _ ?side1 ?side2 A17.out).mono ?_);(case side1 => exact cr HO294);(case side2 => exact (Kd.R_reads' HO294.out).2.1);rintro e w' ⟨rfl,⟨nd,rfl⟩⟩;refine ⟨_,rfl,?_⟩))
      go_ret2
      exact ⟨by first|rfl|(simp [errW_none,errW_some] <;> rfl)|(simp [*,errW_none,errW_some] <;> rfl),bb HB⟩
    ·rw [if_neg c12] at H
     have c12b0 : (t292 == 0) = false := beq_eq_false_iff_ne.mpr c12
     have c12b1 : (t292 != 0) = true := bne_iff_ne.mpr c12
     simp only [Option.some.injEq,Prod.mk.injEq] at H
     obtain ⟨rfl,rfl⟩ := H
     go_wp2_with (first|((with_reducible refine gate_callee (f := 39) rfl ?_);refine goesL_ (some 26) rfl rfl Try.func39 (by kernel_rfl) rfl #[.int .u64 a0,.slice A2 l2.length c2] rfl (by (try simp only [List.map_toArray,List.map_cons,List.map_nil]);first|done|rfl|(simp only [List.length_drop,List.length_take];rfl)) ?_;(with_reducible refine (interpolate_Polynomial.calls a0 _ _ l2 t291 t292 _ ?side1 ?side2 A11.out).mono ?_);(case side1 => exact cb HR2 HB);(case side2 => exact HC2.out);rintro e w20 ⟨v293,rfl,ho0,hb⟩;refine ⟨_,rfl,?_⟩;have n0_ := am (Kd.R_lower ho0 (below_size (bb HB)));have n1_ := am (below_step (bb HB) hb);clear HB;have HO294 := n0_;have HB := n1_;clear n0_ n1_;(try clear hb);(try clear hb2);(try clear hk);(try clear hi);(try clear ho0)))
     go_ret2
     exact ⟨by first|rfl|(simp [errW_none,errW_some] <;> rfl)|(simp [*,errW_none,errW_some] <;> rfl),bb HB⟩
end Go.Proofs.Ytjnkkfdlcbcelaa.Pr
end
