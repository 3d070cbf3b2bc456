/- Part 1 of the proof's texts, joined in build order. -/
import Derived.Test.YtmdoaijkaaaglaaZQ710
import Derived.Test.YtmdoaijkaaaglaaProg
import Derived.Below
import Derived.Deep.Draws
import Derived.Deep.AppendLies
import Derived.Maps.AppendAt
import Derived.OwnWalk
import Derived.Laws.BytesArg
import Derived.Laws.MakeOwn
import Derived.Laws.OwnMore
import Derived.Deep.OwnRows
import Derived.Tactics
import Derived.Lib.ConvBytes
import Derived.Laws.Slices
import Derived.WalkKit
import Derived.KernelRfl
import Derived.RowKit3
import Derived.Deep.LoopGhost
import Derived.Deep.QuietTactic
import Derived.BigQuiet
import Derived.WideLaws
import Derived.Deep.DeepCutAuto
import Derived.Deep.CutBlock
import Derived.Deep.RegionHeld3
import Derived.Laws.Rows
import Derived.Lib.AppendStr
import Derived.ArgAppend
import Derived.Laws.IdiomCopy
import Derived.OrdersHeld
import Derived.Laws.BitsLemmas
import Derived.RowKit
import Derived.Test.YtmdoaijkaaaglaaZQ70
import Derived.Test.YtmdoaijkaaaglaaZO70
import Derived.Test.YtmdoaijkaaaglaaZQ71
import Derived.Test.YtmdoaijkaaaglaaZQ76
import Derived.Test.YtmdoaijkaaaglaaZQ79
set_option linter.unusedVariables false
set_option linter.unusedSimpArgs false
section
namespace Go.Proofs.Ytmdoaijkaaaglaa.Pr
open Go.RowKit Go.Proofs.YtmdoaijkaaaglaaW.PrintWords Go.Proofs.YtmdoaijkaaaglaaW.PrintLast Go.Proofs.YtmdoaijkaaaglaaW.PrintMore
attribute [local go_sem] max2_int min2_int max_two min_two max_three min_three max_four min_four
open Go.Proofs.Ytmdoaijkaaaglaa.Hw
theorem info56 : (Try.prog.info? 56).map (fun i => (i.zero,i.size,i.bytes)) = some (some (.agg #[(.int .u64 0),(.int .u64 0)]),2,16) := by kernel_rfl
def matrix_dot.l0 : Nat → Int → List Int → Int → List Int → Int → Int → Option (Int)
 | 0,_,_,_,_,_,_ => none
 | k + 1,x0,x2,x7,x10,x11,x12 => if x12 < x11 then (if 0 ≤ x12 then (if x12 < (x10.length : Int) then (if x12 < (x2.length : Int) then ((field_Mul.f k x0 (rd x10 x12) (rd x2 x12)).bind fun t674 => ((field_Add.f k x0 x7 t674).bind fun t675 => (matrix_dot.l0 k x0 x2 t675 x10 x11 (wrap64 (x12 + 1))))) else (none)) else (none)) else (none)) else (some x7)
def matrix_dot.f (k : Nat) (a0 : Int) (l1 : List Int) (l2 : List Int) : Option (Int) := matrix_dot.l0 k a0 l2 0 l1 (l1.length : Int) 0
set_option maxHeartbeats 8000000 in
set_option maxRecDepth 100000 in
theorem matrix_dot.calls (k : Nat) (a0 : Int) (A1 : Option Addr) (c1 : Nat) (l1 : List Int) (A2 : Option Addr) (c2 : Nat) (l2 : List Int) (r : Int) (w : World) (hr1 : Kd.C (Kd.int .u64) w A1 l1.length l1) (hc1 : l1.length ≤ c1) (hr2 : Kd.C (Kd.int .u64) w A2 l2.length l2) (hc2 : l2.length ≤ c2) (h : matrix_dot.f k a0 l1 l2 = some r) :
  Calls Try.prog 57 #[.int .u64 a0,.slice A1 l1.length c1,.slice A2 l2.length c2] w fun e w' => e = .returned (.int .u64 r) ∧ Drawn0 w w' := by
 have HR1 := am hr1
 have HC1 := am hc1
 clear hr1 hc1
 have HR2 := am hr2
 have HC2 := am hc2
 clear hr2 hc2
 have H : (matrix_dot.l0 k a0 l2 0 l1 (l1.length : Int) 0) = some r := h
 clear h
 have H' := am H
 clear H
 go_enter Try.func57,Try.ntmps57
 go_wp2
 go_loopg [7,12] k (fun kq v7 v12 w' => ∃ (x7_1 : Int) (x12_1 : Int),v7 = .int .u64 x7_1 ∧ v12 = .int .i64 x12_1 ∧ Aside0 (matrix_dot.l0 kq a0 l2 x7_1 l1 (l1.length : Int) x12_1 = some r) ∧ Aside0 (kq ≤ k) ∧ Drawn0 w w')
 case atStart => exact ⟨(0),(0),(by first|rfl|(simp;done)|(simp [*];done)),(by first|rfl|(simp;done)|(simp [*];done)),H',⟨Nat.le_refl _⟩,by repeat (first|exact Drawn0.refl _|apply Drawn0.step)⟩
 case round =>
  clear H'
  try clear c1
  try clear c2
  try clear p2
  obtain ⟨x7_1,x12_1,rfl,rfl,HA,HK1,⟨m1,rfl⟩⟩ := hrel
  cases gk with
  | zero => exact absurd HA.out (by simp [matrix_dot.l0])
  | succ k1 =>
   have H := HA.out
   clear HA
   simp only [matrix_dot.l0] at H
   by_cases c4 : x12_1 < (l1.length : Int)
   ·rw [if_pos c4] at H
    have c4b0 : decide (x12_1 < (l1.length : Int)) = true := decide_eq_true c4
    clear c4
    by_cases c5 : 0 ≤ x12_1
    ·rw [if_pos c5] at H
     have c5b0 : decide (0 ≤ x12_1) = true := decide_eq_true c5
     clear c5
     by_cases c6 : x12_1 < (l1.length : Int)
     ·rw [if_pos c6] at H
      have c6b0 : decide (x12_1 < (l1.length : Int)) = true := decide_eq_true c6
      clear c6
      by_cases c7 : x12_1 < (l2.length : Int)
      ·rw [if_pos c7] at H
       have c7b0 : decide (x12_1 < (l2.length : Int)) = true := decide_eq_true c7
       clear c7
       replace H := Option.bind_eq_some_iff.mp H
       obtain ⟨t674,A80,H⟩ := H
       try dsimp only at H
       have A8 := am A80
       clear A80
       replace H := Option.bind_eq_some_iff.mp H
       obtain ⟨t675,A90,H⟩ := H
       try dsimp only at H
       have A9 := am A90
       clear A90
       have H' := am H
       clear H
       have p672 : 0 ≤ (x12_1 : Int) := od
       have q672 : x12_1 < (l1.length : Int) := od
       obtain ⟨ad672,e672,hx672_0⟩ := Kd.at_int HR1.out x12_1 p672 q672
       cases e672
       replace p672 := eq_true p672
       replace q672 := eq_true q672
       have p673 : 0 ≤ (x12_1 : Int) := od
       have q673 : x12_1 < (l2.length : Int) := od
       obtain ⟨ad673,e673,hx673_0⟩ := Kd.at_int HR2.out x12_1 p673 q673
       cases e673
       replace p673 := eq_true p673
       replace q673 := eq_true q673
       go_wp2_with (first|((with_reducible refine gate_callee (f := 27) rfl ?_);refine goesL_ (some 25) rfl rfl Try.func27 (by kernel_rfl) rfl #[.int .u64 a0,.int .u64 (rd l1 x12_1),.int .u64 (rd l2 x12_1)] rfl (by (try simp only [List.map_toArray,List.map_cons,List.map_nil]);first|done|rfl|(simp only [List.length_drop,List.length_take];rfl)) ?_;(with_reducible refine (field_Mul.calls k1 a0 (rd l1 x12_1) (rd l2 x12_1) t674 _ A8.out).mono ?_);rintro e w' ⟨rfl,⟨nd,rfl⟩⟩;refine ⟨_,rfl,?_⟩)|((with_reducible refine gate_callee (f := 26) rfl ?_);refine goesL_ (some 26) rfl rfl Try.func26 (by kernel_rfl) rfl #[.int .u64 a0,.int .u64 x7_1,.int .u64 t674] rfl (by (try simp only [List.map_toArray,List.map_cons,List.map_nil]);first|done|rfl|(simp only [List.length_drop,List.length_take];rfl)) ?_;(with_reducible refine (field_Add.calls k1 a0 x7_1 t674 t675 _ A9.out).mono ?_);rintro e w' ⟨rfl,⟨nd,rfl⟩⟩;refine ⟨_,rfl,?_⟩))
       go_roundg k1
       case measure => have := HK1.out;omega
       case rel => exact ⟨(t675),(wrap64 (x12_1 + 1)),(by first|rfl|(simp;done)|(simp [*];done)),(by first|rfl|(simp;done)|(simp [*];done)),H',⟨by have := HK1.out;omega⟩,by repeat (first|exact Drawn0.refl _|apply Drawn0.step)⟩
      ·rw [if_neg c7] at H
       exact absurd H (by simp)
     ·rw [if_neg c6] at H
      exact absurd H (by simp)
    ·rw [if_neg c5] at H
     exact absurd H (by simp)
   ·rw [if_neg c4] at H
    have c4b0 : decide (x12_1 < (l1.length : Int)) = false := decide_eq_false c4
    clear c4
    obtain rfl := Option.some.inj H
    go_wp2
    go_ret
    exact ⟨by first|rfl|(simp;done)|(simp [*];done),by repeat (first|exact Drawn0.refl _|apply Drawn0.step)⟩
end Go.Proofs.Ytmdoaijkaaaglaa.Pr
end
section
namespace Go.Proofs.Ytmdoaijkaaaglaa.E
open Go.RowKit Go.Proofs.Ytmdoaijkaaaglaa.Pr Go.Proofs.Ytmdoaijkaaaglaa.Hw Go.Proofs.YtmdoaijkaaaglaaW.PrintWords Go.Proofs.YtmdoaijkaaaglaaW.PrintLast Go.Proofs.YtmdoaijkaaaglaaW.PrintMore
theorem dot_ev {p : Int} (hp : Supp p) {r l : List Int} (hr : ∀ x ∈ r,Res p x) (hl : ∀ x ∈ l,Res p x) (h : r.length ≤ l.length) (hn : r.length ≤ 1000000) : Ev (fun k => matrix_dot.f k p r l) (dotP p r l r.length) := by
 refine (up (Q := fun i => Ev (fun k => matrix_dot.l0 k p l (dotP p r l i) r (r.length : Int) (i : Int)) (dotP p r l r.length)) (n := r.length) ?_ (fun i hi h2 => ?_)).congr fun k => rfl
 ·refine Ev.step (fun k => ?_) (Ev.now _)
  simp only [matrix_dot.l0]
  rw [if_neg (by omega)]
 ·refine Ev.step (f := fun k => (field_Mul.f k p (r.getD i 0) (l.getD i 0)).bind fun t => (field_Add.f k p (dotP p r l i) t).bind fun u => matrix_dot.l0 k p l u r (r.length : Int) ((i + 1 : Nat) : Int)) (fun k => ?_) ?_
  ·simp only [matrix_dot.l0]
   rw [if_pos (by omega),if_pos (by omega),if_pos (by omega),if_pos (by omega),rd_nat,rd_nat,wnat (by omega)]
  ·exact Ev.bind (mul_ev hp (res_at hr hi) (res_at hl (by omega))) (Ev.bind (add_ev hp (dotP_res hp _ _ _) (Res.mod hp _)) h2)
end Go.Proofs.Ytmdoaijkaaaglaa.E
end
section
namespace Go.Proofs.Ytmdoaijkaaaglaa.Hw
open Go.RowKit Go.Proofs.Ytmdoaijkaaaglaa.Pr Go.Proofs.YtmdoaijkaaaglaaW.PrintWords Go.Proofs.YtmdoaijkaaaglaaW.PrintLast Go.Proofs.YtmdoaijkaaaglaaW.PrintMore Go.Proofs.Ytmdoaijkaaaglaa.E
def ptB (p : Int) (l : List S56) : Bool := l.all fun x => (decide (0 ≤ x.f0) && decide (x.f0 < 18446744073709551616)) && resB p x.f1
def cpOkB (p : Int) (m : List (List Int)) (ins outs : List S56) : Bool := supB p && (decide (m.length ≤ 60) && ((m.all fun r => decide (r.length ≤ 60) && ressB p r) && (decide (ins.length ≤ 60) && (decide (outs.length ≤ 60) && (ptB p ins && ptB p outs)))))
theorem ptB_iff {p : Int} {l : List S56} : ptB p l = true ↔ ∀ x ∈ l,(0 ≤ x.f0 ∧ x.f0 < 18446744073709551616) ∧ Res p x.f1 := by
 unfold ptB;simp only [List.all_eq_true,Bool.and_eq_true,decide_eq_true_eq,resB_iff]
theorem cpOkB_iff {p : Int} {m : List (List Int)} {ins outs : List S56} : cpOkB p m ins outs = true ↔ CpOk p m ins outs := by
 unfold cpOkB
 simp only [List.all_eq_true,Bool.and_eq_true,decide_eq_true_eq,supB_iff,ptB_iff,ressB_iff]
 exact ⟨fun h => ⟨h.1,h.2.1,h.2.2.1,h.2.2.2.1,h.2.2.2.2.1,h.2.2.2.2.2.1,h.2.2.2.2.2.2⟩,fun h => ⟨h.hp,h.lm,h.rows,h.li,h.lo,h.pi,h.po⟩⟩
def hyperinvertible_Complete.f (a0 : Int) (l1 : List (List Int)) (l2 l3 : List S56) : Option (List Int × List Int × Int) := if cpOkB a0 l1 l2 l3 = true then some (cpR a0 l1 l2 l3) else none
theorem hyperinvertible_Complete.calls (a0 : Int) (A1 : Option Addr) (c1 : Nat) (l1 : List (List Int)) (A2 : Option Addr) (c2 : Nat) (l2 : List S56) (A3 : Option Addr) (c3 : Nat) (l3 : List S56) (r1 r2 : List Int) (r3 : Int) (w : World) (hr1 : Kd.C (Kd.slice 22 (Kd.int .u64)) w A1 l1.length l1) (hc1 : l1.length ≤ c1) (hr2 : Kd.C k56 w A2 l2.length l2) (hc2 : l2.length ≤ c2) (hr3 : Kd.C k56 w A3 l3.length l3) (hc3 : l3.length ≤ c3) (h : hyperinvertible_Complete.f a0 l1 l2 l3 = some (r1,r2,r3)) :
  Calls Try.prog 22 #[.int .u64 a0,.slice A1 l1.length c1,.slice A2 l2.length c2,.slice A3 l3.length c3] w fun e w' => ∃ v0_ v1_ : Value,e = .returned (.tuple #[v0_,v1_,.int .i64 r3]) ∧ Kd.R (Kd.int .u64) 22 w' w.heap.size (fun _ => True) v0_ r1 ∧ Kd.R (Kd.int .u64) 22 w' w.heap.size (fun _ => True) v1_ r2 ∧ Below w.heap.size w w' := by
 unfold hyperinvertible_Complete.f at h
 obtain ⟨hok,h⟩ := ifs h
 have hk := cpOkB_iff.1 hok
 have hr := Option.some.inj h
 have hcalls : Calls Try.prog 22 #[.int .u64 a0,.slice A1 l1.length c1,.slice A2 l2.length c2,.slice A3 l3.length c3] w fun e w' => CpRet (cpR a0 l1 l2 l3) w e w' ∧ Below w.heap.size w w' := by
  by_cases hg : cpGo l1 l2 l3 = true
  ·exact complete_ok hk A1 c1 A2 c2 A3 c3 w hr1 hc1 hr2 hc2 hr3 hc3 hg
  ·have hg2 := Bool.eq_false_iff.2 hg
   have he : cpR a0 l1 l2 l3 = ([],[],1) := by unfold cpR;rw [if_neg hg]
   rw [he]
   exact complete_err hk A1 c1 A2 c2 A3 c3 w hr1 hc1 hr2 hc2 hr3 hc3 hg2
 refine hcalls.mono ?_
 rintro e w' ⟨⟨v0,v1,he,h1,h2⟩,hb⟩
 rw [hr] at he h1 h2
 exact ⟨v0,v1,he,h1,h2,hb⟩
end Go.Proofs.Ytmdoaijkaaaglaa.Hw
end
section
namespace Go.Proofs.Ytmdoaijkaaaglaa.Pr
open Go.RowKit Go.Proofs.YtmdoaijkaaaglaaW.PrintWords Go.Proofs.YtmdoaijkaaaglaaW.PrintLast Go.Proofs.YtmdoaijkaaaglaaW.PrintMore
attribute [local go_sem] max2_int min2_int max_two min_two max_three min_three max_four min_four
open Go.Proofs.Ytmdoaijkaaaglaa.Hw
def privitylaw07_awake.f (k : Nat)  : Option (Bool) := (hyperinvertible_New.f k 31 1 2).bind fun bt412 => ((hyperinvertible_New.f k 31 16 15).bind fun bt416 => ((hyperinvertible_Complete.f 31 (([(([30,2] : List Int))] : List (List Int))) (([(⟨1,5⟩ : S56)] : List (S56))) (([(⟨0,7⟩ : S56)] : List (S56)))).bind fun bt432 => (if bt412.2 = 0 then ((privityref05_SameRows.f k bt412.1 (([(([30,2] : List Int))] : List (List Int)))).bind fun t445 => (if t445 = true then (if bt416.2 = 2 then (if bt432.2.2 = 0 then ((privityref05_Same.f k bt432.1 (([3,5] : List Int))).bind fun t449 => (if t449 = true then ((privityref05_Same.f k bt432.2.1 (([7] : List Int))).bind fun t453 => (some t453)) else (some false))) else (some false)) else (some false)) else (some false))) else (some false))))
theorem privitylaw07_awake.mono : ∀ k,LeO (privitylaw07_awake.f k ) (privitylaw07_awake.f (k + 1) ) := by
 intro  k
 unfold privitylaw07_awake.f
 repeat' first
   | (with_reducible exact hyperinvertible_New.mono _ _ _ _)
   | (with_reducible exact privityref05_Same.mono _ _ _)
   | (with_reducible exact privityref05_SameRows.mono _ _ _)
   | (with_reducible exact LeO.refl _)
   | (with_reducible exact LeO.none _)
   | (with_reducible refine LeO.ite ?_ ?_)
   | (with_reducible refine LeO.bind ?_ (fun _ => ?_))
   | exact hyperinvertible_New.mono _ _ _ _
   | exact privityref05_Same.mono _ _ _
   | exact privityref05_SameRows.mono _ _ _
   | exact LeO.none _
   | refine LeO.ite ?_ ?_
   | refine LeO.bind ?_ (fun _ => ?_)
theorem privitylaw07_awake.more (k : Nat) : ∀ d,LeO (privitylaw07_awake.f k) (privitylaw07_awake.f (k + d))
 | 0 => fun r h => h
 | d + 1 => fun r h => privitylaw07_awake.mono (k + d) r (privitylaw07_awake.more k d r h)
theorem privitylaw07_awake.is : privitylaw07_awake.f 60 = some true := by kernel_rfl
theorem privitylaw07_awake.one (k : Nat) (r : Bool) (h : privitylaw07_awake.f k = some r) : r = true := by
 have h1 := privitylaw07_awake.more k 60 r h
 have h2 := privitylaw07_awake.more 60 k true privitylaw07_awake.is
 rw [Nat.add_comm,h1] at h2
 exact Option.some.inj h2
set_option maxHeartbeats 8000000 in
set_option maxRecDepth 100000 in
theorem privitylaw07_awake.calls (k : Nat)  (r : Bool) (w : World) (h : privitylaw07_awake.f k  = some r) :
  Calls Try.prog 12 #[] w fun e w' => e = .returned (.bool r) ∧ Below w.heap.size w w' := by
 have HR1 := am (privitylaw07_awake.one k r h)
 have hu56 := Try.underlying56
 have HB := am (Below.refl w.heap.size w)
 have H : ((hyperinvertible_New.f k 31 1 2).bind fun bt412 => ((hyperinvertible_New.f k 31 16 15).bind fun bt416 => ((hyperinvertible_Complete.f 31 (([(([30,2] : List Int))] : List (List Int))) (([(⟨1,5⟩ : S56)] : List (S56))) (([(⟨0,7⟩ : S56)] : List (S56)))).bind fun bt432 => (if bt412.2 = 0 then ((privityref05_SameRows.f k bt412.1 (([(([30,2] : List Int))] : List (List Int)))).bind fun t445 => (if t445 = true then (if bt416.2 = 2 then (if bt432.2.2 = 0 then ((privityref05_Same.f k bt432.1 (([3,5] : List Int))).bind fun t449 => (if t449 = true then ((privityref05_Same.f k bt432.2.1 (([7] : List Int))).bind fun t453 => (some t453)) else (some false))) else (some false)) else (some false)) else (some false))) else (some false))))) = some r := h
 clear h
 replace H := Option.bind_eq_some_iff.mp H
 obtain ⟨⟨t412,t413⟩,A10,H⟩ := H
 try dsimp only at H
 have A1 := am A10
 clear A10
 replace H := Option.bind_eq_some_iff.mp H
 obtain ⟨⟨t416,t417⟩,A20,H⟩ := H
 try dsimp only at H
 have A2 := am A20
 clear A20
 obtain ⟨y420,hy420⟩ : ∃ y_ : List Int,y_ = (([30,2] : List Int)) := ⟨_,rfl⟩
 replace H : ((hyperinvertible_Complete.f 31 (([y420] : List (List Int))) (([(⟨1,5⟩ : S56)] : List (S56))) (([(⟨0,7⟩ : S56)] : List (S56)))).bind fun bt432 => (if t413 = 0 then ((privityref05_SameRows.f k t412 (([(([30,2] : List Int))] : List (List Int)))).bind fun t445 => (if t445 = true then (if t417 = 2 then (if bt432.2.2 = 0 then ((privityref05_Same.f k bt432.1 (([3,5] : List Int))).bind fun t449 => (if t449 = true then ((privityref05_Same.f k bt432.2.1 (([7] : List Int))).bind fun t453 => (some t453)) else (some false))) else (some false)) else (some false)) else (some false))) else (some false))) = some r := by first|(rw [hy420];with_reducible exact H)|(have H2_ := (Option.bind_some _ _).symm.trans H;rw [hy420];with_reducible exact H2_)|(have H2_ := (Option.bind_some _ _).symm.trans H;with_reducible exact H2_)|with_reducible exact H|(rw [hy420];exact H)|exact H
 have Ny420 := am hy420
 clear hy420
 obtain ⟨y423,hy423⟩ : ∃ y_ : List (List Int),y_ = (([y420] : List (List Int))) := ⟨_,rfl⟩
 replace H : ((hyperinvertible_Complete.f 31 y423 (([(⟨1,5⟩ : S56)] : List (S56))) (([(⟨0,7⟩ : S56)] : List (S56)))).bind fun bt432 => (if t413 = 0 then ((privityref05_SameRows.f k t412 (([(([30,2] : List Int))] : List (List Int)))).bind fun t445 => (if t445 = true then (if t417 = 2 then (if bt432.2.2 = 0 then ((privityref05_Same.f k bt432.1 (([3,5] : List Int))).bind fun t449 => (if t449 = true then ((privityref05_Same.f k bt432.2.1 (([7] : List Int))).bind fun t453 => (some t453)) else (some false))) else (some false)) else (some false)) else (some false))) else (some false))) = some r := by first|(rw [hy423];with_reducible exact H)|(have H2_ := (Option.bind_some _ _).symm.trans H;rw [hy423];with_reducible exact H2_)|(have H2_ := (Option.bind_some _ _).symm.trans H;with_reducible exact H2_)|with_reducible exact H|(rw [hy423];exact H)|exact H
 have Ny423 := am hy423
 clear hy423
 obtain ⟨y426,hy426⟩ : ∃ y_ : List (S56),y_ = (([(⟨1,5⟩ : S56)] : List (S56))) := ⟨_,rfl⟩
 replace H : ((hyperinvertible_Complete.f 31 y423 y426 (([(⟨0,7⟩ : S56)] : List (S56)))).bind fun bt432 => (if t413 = 0 then ((privityref05_SameRows.f k t412 (([(([30,2] : List Int))] : List (List Int)))).bind fun t445 => (if t445 = true then (if t417 = 2 then (if bt432.2.2 = 0 then ((privityref05_Same.f k bt432.1 (([3,5] : List Int))).bind fun t449 => (if t449 = true then ((privityref05_Same.f k bt432.2.1 (([7] : List Int))).bind fun t453 => (some t453)) else (some false))) else (some false)) else (some false)) else (some false))) else (some false))) = some r := by first|(rw [hy426];with_reducible exact H)|(have H2_ := (Option.bind_some _ _).symm.trans H;rw [hy426];with_reducible exact H2_)|(have H2_ := (Option.bind_some _ _).symm.trans H;with_reducible exact H2_)|with_reducible exact H|(rw [hy426];exact H)|exact H
 have Ny426 := am hy426
 clear hy426
 obtain ⟨y429,hy429⟩ : ∃ y_ : List (S56),y_ = (([(⟨0,7⟩ : S56)] : List (S56))) := ⟨_,rfl⟩
 replace H : ((hyperinvertible_Complete.f 31 y423 y426 y429).bind fun bt432 => (if t413 = 0 then ((privityref05_SameRows.f k t412 (([(([30,2] : List Int))] : List (List Int)))).bind fun t445 => (if t445 = true then (if t417 = 2 then (if bt432.2.2 = 0 then ((privityref05_Same.f k bt432.1 (([3,5] : List Int))).bind fun t449 => (if t449 = true then ((privityref05_Same.f k bt432.2.1 (([7] : List Int))).bind fun t453 => (some t453)) else (some false))) else (some false)) else (some false)) else (some false))) else (some false))) = some r := by first|(rw [hy429];with_reducible exact H)|(have H2_ := (Option.bind_some _ _).symm.trans H;rw [hy429];with_reducible exact H2_)|(have H2_ := (Option.bind_some _ _).symm.trans H;with_reducible exact H2_)|with_reducible exact H|(rw [hy429];exact H)|exact H
 have Ny429 := am hy429
 clear hy429
 replace H := Option.bind_eq_some_iff.mp H
 obtain ⟨⟨t432,t433,t434⟩,A30,H⟩ := H
 try dsimp only at H
 have A3 := am A30
 clear A30
 by_cases c4 : t413 = 0
 ·rw [if_pos c4] at H
  have c4b0 : (t413 == 0) = true := beq_iff_eq.mpr c4
  have c4b1 : (t413 != 0) = false := bne_eq_false_iff_eq.mpr c4
  clear c4
  obtain ⟨y439,hy439⟩ : ∃ y_ : List Int,y_ = (([30,2] : List Int)) := ⟨_,rfl⟩
  replace H : ((privityref05_SameRows.f k t412 (([y439] : List (List Int)))).bind fun t445 => (if t445 = true then (if t417 = 2 then (if t434 = 0 then ((privityref05_Same.f k t432 (([3,5] : List Int))).bind fun t449 => (if t449 = true then ((privityref05_Same.f k t433 (([7] : List Int))).bind fun t453 => (some t453)) else (some false))) else (some false)) else (some false)) else (some false))) = some r := by first|(rw [hy439];with_reducible exact H)|(have H2_ := (Option.bind_some _ _).symm.trans H;rw [hy439];with_reducible exact H2_)|(have H2_ := (Option.bind_some _ _).symm.trans H;with_reducible exact H2_)|with_reducible exact H|(rw [hy439];exact H)|exact H
  have Ny439 := am hy439
  clear hy439
  obtain ⟨y442,hy442⟩ : ∃ y_ : List (List Int),y_ = (([y439] : List (List Int))) := ⟨_,rfl⟩
  replace H : ((privityref05_SameRows.f k t412 y442).bind fun t445 => (if t445 = true then (if t417 = 2 then (if t434 = 0 then ((privityref05_Same.f k t432 (([3,5] : List Int))).bind fun t449 => (if t449 = true then ((privityref05_Same.f k t433 (([7] : List Int))).bind fun t453 => (some t453)) else (some false))) else (some false)) else (some false)) else (some false))) = some r := by first|(rw [hy442];with_reducible exact H)|(have H2_ := (Option.bind_some _ _).symm.trans H;rw [hy442];with_reducible exact H2_)|(have H2_ := (Option.bind_some _ _).symm.trans H;with_reducible exact H2_)|with_reducible exact H|(rw [hy442];exact H)|exact H
  have Ny442 := am hy442
  clear hy442
  replace H := Option.bind_eq_some_iff.mp H
  obtain ⟨t445,A50,H⟩ := H
  try dsimp only at H
  have A5 := am A50
  clear A50
  by_cases c6 : t445 = true
  ·subst c6
   rw [if_pos rfl] at H
   by_cases c7 : t417 = 2
   ·rw [if_pos c7] at H
    have c7b0 : (t417 == 2) = true := beq_iff_eq.mpr c7
    have c7b1 : (t417 != 2) = false := bne_eq_false_iff_eq.mpr c7
    clear c7
    by_cases c8 : t434 = 0
    ·rw [if_pos c8] at H
     have c8b0 : (t434 == 0) = true := beq_iff_eq.mpr c8
     have c8b1 : (t434 != 0) = false := bne_eq_false_iff_eq.mpr c8
     clear c8
     obtain ⟨y446,hy446⟩ : ∃ y_ : List Int,y_ = (([3,5] : List Int)) := ⟨_,rfl⟩
     replace H : ((privityref05_Same.f k t432 y446).bind fun t449 => (if t449 = true then ((privityref05_Same.f k t433 (([7] : List Int))).bind fun t453 => (some t453)) else (some false))) = some r := by first|(rw [hy446];with_reducible exact H)|(have H2_ := (Option.bind_some _ _).symm.trans H;rw [hy446];with_reducible exact H2_)|(have H2_ := (Option.bind_some _ _).symm.trans H;with_reducible exact H2_)|with_reducible exact H|(rw [hy446];exact H)|exact H
     have Ny446 := am hy446
     clear hy446
     replace H := Option.bind_eq_some_iff.mp H
     obtain ⟨t449,A90,H⟩ := H
     try dsimp only at H
     have A9 := am A90
     clear A90
     by_cases c10 : t449 = true
     ·subst c10
      rw [if_pos rfl] at H
      obtain ⟨y450,hy450⟩ : ∃ y_ : List Int,y_ = (([7] : List Int)) := ⟨_,rfl⟩
      replace H : ((privityref05_Same.f k t433 y450).bind fun t453 => (some t453)) = some r := by first|(rw [hy450];with_reducible exact H)|(have H2_ := (Option.bind_some _ _).symm.trans H;rw [hy450];with_reducible exact H2_)|(have H2_ := (Option.bind_some _ _).symm.trans H;with_reducible exact H2_)|with_reducible exact H|(rw [hy450];exact H)|exact H
      have Ny450 := am hy450
      clear hy450
      replace H := Option.bind_eq_some_iff.mp H
      obtain ⟨t453,A110,H⟩ := H
      try dsimp only at H
      have A11 := am A110
      clear A110
      obtain rfl := Option.some.inj H
      go_enter Try.func12,Try.ntmps12
      go_wp2_with (first|((with_reducible refine gate_callee (f := 14) rfl ?_);refine goesL_ (some 9) rfl rfl Try.func14 (by kernel_rfl) rfl #[.int .u64 31,.int .i64 1,.int .i64 2] rfl (by (try simp only [List.map_toArray,List.map_cons,List.map_nil]);first|done|rfl|(simp only [List.length_drop,List.length_take];rfl)) ?_;(with_reducible refine (hyperinvertible_New.calls k 31 1 2 t412 t413 _ A1.out).mono ?_);rintro e w12 ⟨v414,rfl,ho0,hb⟩;refine ⟨_,rfl,?_⟩;have n0_ := am (Kd.N_lower (Kd.N_mono (ok' := fun k_ => True) (Kd.S_N (Kd.S_bound ho0)) (fun k_ hk_ => trivial)) (below_size (bb HB)));have n1_ := am (below_step (bb HB) hb);clear HB;have HO415 := n0_;have HB := n1_;clear n0_ n1_;(try clear hb);(try clear hb2);(try clear hk);(try clear hi);(try clear ho0))|((with_reducible refine gate_callee (f := 14) rfl ?_);refine goesL_ (some 13) rfl rfl Try.func14 (by kernel_rfl) rfl #[.int .u64 31,.int .i64 16,.int .i64 15] rfl (by (try simp only [List.map_toArray,List.map_cons,List.map_nil]);first|done|rfl|(simp only [List.length_drop,List.length_take];rfl)) ?_;(with_reducible refine (hyperinvertible_New.calls k 31 16 15 t416 t417 _ A2.out).mono ?_);rintro e w13 ⟨v418,rfl,ho0,hb⟩;refine ⟨_,rfl,?_⟩;have n0_ := am (Kd.N_elder' (rn HO415) (by first|exact Kd.N_base ho0|exact Kd.S_base ho0) hb);have n1_ := am (Kd.N_lower (Kd.N_mono (ok' := fun k_ => some k_ ≠ (v414 : Value).ownBlock) (Kd.S_N (Kd.S_bound ho0)) (fun k_ hk_ => (Kd.fresh' (Kd.N_lt (rn HO415)) k_ hk_.2.1))) (below_size (bb HB)));have n2_ := am (below_step (bb HB) hb);clear HO415 HB;have HO415 := n0_;have HO419 := n1_;have HB := n2_;clear n0_ n1_ n2_;(try clear hb);(try clear hb2);(try clear hk);(try clear hi);(try clear ho0))|((with_reducible refine gate_dst (N := 17) rfl ?_);(try (refine gate_guard (by rfl) ?_;dsimp only));refine Kd.R_lit (Kd.int .u64) _ 22 ?hg (N := 17) ?hd (xs := ([30,2] : List Int)) (inner := [.int .u64 30,.int .u64 2]) (ok := fun _ => True) (okp := fun _ => True) ?hr ?hp (fun _ hk => hk) trivial (Below.refl _ _) (Nat.le_refl _) (by simp) ?_;(case hd => rfl);(case hg => rfl);(case hr => first|(go_simp;done)|(go_simp;rfl));(case hp => exact (Reps.one (show Kd.M (Kd.int .u64) _ _ _ 30 [.int .u64 30] from rfl) (Reps.one (show Kd.M (Kd.int .u64) _ _ _ 2 [.int .u64 2] from rfl) (Reps.none _ _))));intro v421 w14 ho15 hb hg_ hnew_;clear hg_ hnew_;(first|rw [← Ny420.out] at ho15|(simp only [Int.reduceToNat] at ho15;rw [← Ny420.out] at ho15));have n0_ := am (Kd.N_elder' (rn HO415) (Kd.R_base ho15) hb);have n1_ := am (Kd.N_elder' (rn HO419) (Kd.R_base ho15) hb);have n2_ := am (Kd.R_lower ho15 (below_size (bb HB)));have n3_ := am (below_step (bb HB) hb);clear HO415 HO419 HB;have HO415 := n0_;have HO419 := n1_;have HO422 := n2_;have HB := n3_;clear n0_ n1_ n2_ n3_;clear hb ho15;obtain ⟨Ao16,co16,eo16⟩ := Kd.R_slice HO422.out;subst eo16)|((with_reducible refine gate_dst (N := 18) rfl ?_);(try (refine gate_guard (by rfl) ?_;dsimp only));refine Kd.N_lit (Kd.slice 22 (Kd.int .u64)) _ 40 ?hg (N' := 18) ?hd (xs := ([y420] : List (List Int))) (inner := [.slice Ao16 y420.length co16]) (ok := (fun k_ => some k_ ≠ (v414 : Value).ownBlock ∧ some k_ ≠ (v418 : Value).ownBlock)) (okp := (fun k_ => some k_ ≠ (v414 : Value).ownBlock ∧ some k_ ≠ (v418 : Value).ownBlock)) ?hr ?hp (fun _ hk => hk) ((show ∀ k_,w14.heap.size ≤ k_ → (fun k_ => some k_ ≠ (v414 : Value).ownBlock ∧ some k_ ≠ (v418 : Value).ownBlock) k_ from fun k_ hk => ⟨Kd.fresh' (Kd.N_lt (rn HO415)) k_ hk,Kd.fresh' (Kd.N_lt (rn HO419)) k_ hk⟩) _ (Nat.le_refl _)) (Below.refl _ _) (Nat.le_refl _) (by simp) ?_;(case hd => rfl);(case hg => rfl);(case hr => first|(go_simp;done)|(go_simp;rfl));(case hp => exact (Reps.one (show Kd.FK (Kd.slice 22 (Kd.int .u64)) _ _ y420 [.slice Ao16 y420.length co16] from (Kd.FK_slice_mk (Kd.R_reads' (Kd.R_mono (ok' := (fun k_ => some k_ ≠ (v414 : Value).ownBlock ∧ some k_ ≠ (v418 : Value).ownBlock)) (Kd.R_apart' (Kd.R_apart' (HO422.out) (Kd.N_typed HO415.out) (by decide)) (Kd.N_typed HO419.out) (by decide)) (fun k_ hk => ⟨hk.1.2,hk.2⟩))).2.1 (Kd.R_F (Kd.R_mono (ok' := (fun k_ => some k_ ≠ (v414 : Value).ownBlock ∧ some k_ ≠ (v418 : Value).ownBlock)) (Kd.R_apart' (Kd.R_apart' (HO422.out) (Kd.N_typed HO415.out) (by decide)) (Kd.N_typed HO419.out) (by decide)) (fun k_ hk => ⟨hk.1.2,hk.2⟩))))) (Reps.none _ _)));intro v424 w17 ho18 hb hg_ hnew_;clear hg_ hnew_;(first|rw [← Ny423.out] at ho18|(simp only [Int.reduceToNat] at ho18;rw [← Ny423.out] at ho18));have n0_ := am (Kd.N_elder' (rn HO415) (Kd.N_base ho18) hb);have n1_ := am (Kd.N_elder' (rn HO419) (Kd.N_base ho18) hb);have n2_ := am (Kd.N_lower ho18 (below_size (bb HB)));have n3_ := am (below_step (bb HB) hb);clear HO415 HO419 HB HO422;have HO415 := n0_;have HO419 := n1_;have HO425 := n2_;have HB := n3_;clear n0_ n1_ n2_ n3_;clear hb ho18)|((with_reducible refine gate_dst (N := 20) rfl ?_);(try (refine gate_guard (by rfl) ?_;dsimp only));refine Kd.R_lit k56 _ 56 ?hg (N := 20) ?hd (xs := ([(⟨1,5⟩ : S56)] : List (S56))) (inner := [.int .u64 1,.int .u64 5]) (ok := fun _ => True) (okp := fun _ => True) ?hr ?hp (fun _ hk => hk) trivial (Below.refl _ _) (Nat.le_refl _) (by simp) ?_;(case hd => rfl);(case hg => rfl);(case hr => first|(go_simp;done)|(go_simp;rfl));(case hp => exact (Reps.c2 (show Kd.M k56 _ _ _ (⟨1,5⟩ : S56) [.int .u64 1,.int .u64 5] from (k56_mkM _ _ _ (⟨1,5⟩ : S56) )) (Reps.none _ _)));intro v427 w19 ho20 hb hg_ hnew_;clear hg_ hnew_;(first|rw [← Ny426.out] at ho20|(simp only [Int.reduceToNat] at ho20;rw [← Ny426.out] at ho20));have n0_ := am (Kd.N_elder' (rn HO415) (Kd.R_base ho20) hb);have n1_ := am (Kd.N_elder' (rn HO419) (Kd.R_base ho20) hb);have n2_ := am (Kd.N_elder' (rn HO425) (Kd.R_base ho20) hb);have n3_ := am (Kd.R_lower ho20 (below_size (bb HB)));have n4_ := am (below_step (bb HB) hb);clear HO415 HO419 HO425 HB;have HO415 := n0_;have HO419 := n1_;have HO425 := n2_;have HO428 := n3_;have HB := n4_;clear n0_ n1_ n2_ n3_ n4_;clear hb ho20)|((with_reducible refine gate_dst (N := 22) rfl ?_);(try (refine gate_guard (by rfl) ?_;dsimp only));refine Kd.R_lit k56 _ 56 ?hg (N := 22) ?hd (xs := ([(⟨0,7⟩ : S56)] : List (S56))) (inner := [.int .u64 0,.int .u64 7]) (ok := fun _ => True) (okp := fun _ => True) ?hr ?hp (fun _ hk => hk) trivial (Below.refl _ _) (Nat.le_refl _) (by simp) ?_;(case hd => rfl);(case hg => rfl);(case hr => first|(go_simp;done)|(go_simp;rfl));(case hp => exact (Reps.c2 (show Kd.M k56 _ _ _ (⟨0,7⟩ : S56) [.int .u64 0,.int .u64 7] from (k56_mkM _ _ _ (⟨0,7⟩ : S56) )) (Reps.none _ _)));intro v430 w21 ho22 hb hg_ hnew_;clear hg_ hnew_;(first|rw [← Ny429.out] at ho22|(simp only [Int.reduceToNat] at ho22;rw [← Ny429.out] at ho22));have n0_ := am (Kd.N_elder' (rn HO415) (Kd.R_base ho22) hb);have n1_ := am (Kd.N_elder' (rn HO419) (Kd.R_base ho22) hb);have n2_ := am (Kd.N_elder' (rn HO425) (Kd.R_base ho22) hb);have n3_ := am (Kd.R_elder' (rr HO428) (Kd.R_base ho22) hb);have n4_ := am (Kd.R_lower (Kd.R_new' ho22 (Kd.R_lt (rr HO428))) (below_size (bb HB)));have n5_ := am (below_step (bb HB) hb);clear HO415 HO419 HO425 HO428 HB;have HO415 := n0_;have HO419 := n1_;have HO425 := n2_;have HO428 := n3_;have HO431 := n4_;have HB := n5_;clear n0_ n1_ n2_ n3_ n4_ n5_;clear hb ho22;obtain ⟨Ao23,co23,eo23⟩ := Kd.N_slice HO425.out;subst eo23;obtain ⟨Ao24,co24,eo24⟩ := Kd.R_slice HO428.out;subst eo24;obtain ⟨Ao25,co25,eo25⟩ := Kd.R_slice HO431.out;subst eo25)|((with_reducible refine gate_callee (f := 22) rfl ?_);refine goesL_ (some 23) rfl rfl Try.func22 (by kernel_rfl) rfl #[.int .u64 31,.slice Ao23 y423.length co23,.slice Ao24 y426.length co24,.slice Ao25 y429.length co25] rfl (by (try simp only [List.map_toArray,List.map_cons,List.map_nil]);first|done|rfl|(simp only [List.length_drop,List.length_take];rfl)) ?_;(with_reducible refine (hyperinvertible_Complete.calls 31 _ _ y423 _ _ y426 _ _ y429 t432 t433 t434 _ ?side1 ?side2 ?side3 ?side4 ?side5 ?side6 A3.out).mono ?_);(case side1 => repeat (first|exact (Kd.N_reads' HO425.out).2.2|(with_reducible refine Kd.C_alloc ?_ _)|(with_reducible refine Kd.C_drewN ?_ _)|(with_reducible refine Kd.C_drew ?_)));(case side2 => exact (Kd.N_reads' HO425.out).2.1);(case side3 => exact cr HO428);(case side4 => exact (Kd.R_reads' HO428.out).2.1);(case side5 => exact cr HO431);(case side6 => exact (Kd.R_reads' HO431.out).2.1);rintro e w26 ⟨v435,v437,rfl,ho0,ho1,hb⟩;refine ⟨_,rfl,?_⟩;have n0_ := am (Kd.N_mono (Kd.N_told (Kd.N_told (Kd.N_old (rn HO415) hb) (Kd.R_base ho0)) (Kd.R_base ho1)) (fun _ h_ => h_.1));have n1_ := am (Kd.N_mono (Kd.N_told (Kd.N_told (Kd.N_old (rn HO419) hb) (Kd.R_base ho0)) (Kd.R_base ho1)) (fun _ h_ => h_.1));have n2_ := am (Kd.N_mono (Kd.N_told (Kd.N_told (Kd.N_old (rn HO425) hb) (Kd.R_base ho0)) (Kd.R_base ho1)) (fun _ h_ => h_.1));have n3_ := am (Kd.R_below (rr HO428) hb);have n4_ := am (Kd.R_below (rr HO431) hb);have n5_ := am (Kd.R_lower ho0 (below_size (bb HB)));have n6_ := am (Kd.R_lower ho1 (below_size (bb HB)));have n7_ := am (below_step (bb HB) hb);clear HO415 HO419 HO425 HO428 HO431 HB;have HO415 := n0_;have HO419 := n1_;have HO425 := n2_;have HO428 := n3_;have HO431 := n4_;have HO436 := n5_;have HO438 := n6_;have HB := n7_;clear n0_ n1_ n2_ n3_ n4_ n5_ n6_ n7_;(try clear hb);(try clear hb2);(try clear hk);(try clear hi);(try clear ho0);(try clear ho1))|((with_reducible refine gate_dst (N := 31) rfl ?_);(try (refine gate_guard (by rfl) ?_;dsimp only));refine Kd.R_lit (Kd.int .u64) _ 22 ?hg (N := 31) ?hd (xs := ([30,2] : List Int)) (inner := [.int .u64 30,.int .u64 2]) (ok := fun _ => True) (okp := fun _ => True) ?hr ?hp (fun _ hk => hk) trivial (Below.refl _ _) (Nat.le_refl _) (by simp) ?_;(case hd => rfl);(case hg => rfl);(case hr => first|(go_simp;done)|(go_simp;rfl));(case hp => exact (Reps.one (show Kd.M (Kd.int .u64) _ _ _ 30 [.int .u64 30] from rfl) (Reps.one (show Kd.M (Kd.int .u64) _ _ _ 2 [.int .u64 2] from rfl) (Reps.none _ _))));intro v440 w27 ho28 hb hg_ hnew_;clear hg_ hnew_;(first|rw [← Ny439.out] at ho28|(simp only [Int.reduceToNat] at ho28;rw [← Ny439.out] at ho28));have n0_ := am (Kd.N_elder' (rn HO415) (Kd.R_base ho28) hb);have n1_ := am (Kd.N_elder' (rn HO419) (Kd.R_base ho28) hb);have n2_ := am (Kd.N_elder' (rn HO425) (Kd.R_base ho28) hb);have n3_ := am (Kd.R_below (rr HO428) hb);have n4_ := am (Kd.R_below (rr HO431) hb);have n5_ := am (Kd.R_elder' (rr HO436) (Kd.R_base ho28) hb);have n6_ := am (Kd.R_elder' (rr HO438) (Kd.R_base ho28) hb);have n7_ := am (Kd.R_lower (Kd.R_new' (Kd.R_new' ho28 (Kd.R_lt (rr HO436))) (Kd.R_lt (rr HO438))) (below_size (bb HB)));have n8_ := am (below_step (bb HB) hb);clear HO415 HO419 HO425 HO428 HO431 HO436 HO438 HB;have HO415 := n0_;have HO419 := n1_;have HO425 := n2_;have HO428 := n3_;have HO431 := n4_;have HO436 := n5_;have HO438 := n6_;have HO441 := n7_;have HB := n8_;clear n0_ n1_ n2_ n3_ n4_ n5_ n6_ n7_ n8_;clear hb ho28;obtain ⟨Ao29,co29,eo29⟩ := Kd.R_slice HO441.out;subst eo29)|((with_reducible refine gate_dst (N := 32) rfl ?_);(try (refine gate_guard (by rfl) ?_;dsimp only));refine Kd.N_lit (Kd.slice 22 (Kd.int .u64)) _ 40 ?hg (N' := 32) ?hd (xs := ([y439] : List (List Int))) (inner := [.slice Ao29 y439.length co29]) (ok := (fun k_ => some k_ ≠ (v414 : Value).ownBlock ∧ some k_ ≠ (v418 : Value).ownBlock ∧ some k_ ≠ (.slice Ao23 y423.length co23 : Value).ownBlock ∧ some k_ ≠ (.slice Ao24 y426.length co24 : Value).ownBlock ∧ some k_ ≠ (.slice Ao25 y429.length co25 : Value).ownBlock ∧ some k_ ≠ (v435 : Value).ownBlock ∧ some k_ ≠ (v437 : Value).ownBlock)) (okp := (fun k_ => some k_ ≠ (v414 : Value).ownBlock ∧ some k_ ≠ (v418 : Value).ownBlock ∧ some k_ ≠ (.slice Ao23 y423.length co23 : Value).ownBlock ∧ some k_ ≠ (.slice Ao24 y426.length co24 : Value).ownBlock ∧ some k_ ≠ (.slice Ao25 y429.length co25 : Value).ownBlock ∧ some k_ ≠ (v435 : Value).ownBlock ∧ some k_ ≠ (v437 : Value).ownBlock)) ?hr ?hp (fun _ hk => hk) ((show ∀ k_,w27.heap.size ≤ k_ → (fun k_ => some k_ ≠ (v414 : Value).ownBlock ∧ some k_ ≠ (v418 : Value).ownBlock ∧ some k_ ≠ (.slice Ao23 y423.length co23 : Value).ownBlock ∧ some k_ ≠ (.slice Ao24 y426.length co24 : Value).ownBlock ∧ some k_ ≠ (.slice Ao25 y429.length co25 : Value).ownBlock ∧ some k_ ≠ (v435 : Value).ownBlock ∧ some k_ ≠ (v437 : Value).ownBlock) k_ from fun k_ hk => ⟨Kd.fresh' (Kd.N_lt (rn HO415)) k_ hk,Kd.fresh' (Kd.N_lt (rn HO419)) k_ hk,Kd.fresh' (Kd.N_lt (rn HO425)) k_ hk,Kd.fresh' (Kd.R_lt (rr HO428)) k_ hk,Kd.fresh' (Kd.R_lt (rr HO431)) k_ hk,Kd.fresh' (Kd.R_lt (rr HO436)) k_ hk,Kd.fresh' (Kd.R_lt (rr HO438)) k_ hk⟩) _ (Nat.le_refl _)) (Below.refl _ _) (Nat.le_refl _) (by simp) ?_;(case hd => rfl);(case hg => rfl);(case hr => first|(go_simp;done)|(go_simp;rfl));(case hp => exact (Reps.one (show Kd.FK (Kd.slice 22 (Kd.int .u64)) _ _ y439 [.slice Ao29 y439.length co29] from (Kd.FK_slice_mk (Kd.R_reads' (Kd.R_mono (ok' := (fun k_ => some k_ ≠ (v414 : Value).ownBlock ∧ some k_ ≠ (v418 : Value).ownBlock ∧ some k_ ≠ (.slice Ao23 y423.length co23 : Value).ownBlock ∧ some k_ ≠ (.slice Ao24 y426.length co24 : Value).ownBlock ∧ some k_ ≠ (.slice Ao25 y429.length co25 : Value).ownBlock ∧ some k_ ≠ (v435 : Value).ownBlock ∧ some k_ ≠ (v437 : Value).ownBlock)) (Kd.R_apart' (Kd.R_apart' (Kd.R_apart' (Kd.R_apart' (Kd.R_apart' (HO441.out) (Kd.N_typed HO415.out) (by decide)) (Kd.N_typed HO419.out) (by decide)) (Kd.N_typed HO425.out) (by decide)) (Kd.R_typed HO428.out) (by decide)) (Kd.R_typed HO431.out) (by decide)) (fun k_ hk => ⟨hk.1.1.1.1.2,⟨hk.1.1.1.2,⟨hk.1.1.2,⟨hk.1.2,⟨hk.2,⟨hk.1.1.1.1.1.1.2,hk.1.1.1.1.1.2⟩⟩⟩⟩⟩⟩))).2.1 (Kd.R_F (Kd.R_mono (ok' := (fun k_ => some k_ ≠ (v414 : Value).ownBlock ∧ some k_ ≠ (v418 : Value).ownBlock ∧ some k_ ≠ (.slice Ao23 y423.length co23 : Value).ownBlock ∧ some k_ ≠ (.slice Ao24 y426.length co24 : Value).ownBlock ∧ some k_ ≠ (.slice Ao25 y429.length co25 : Value).ownBlock ∧ some k_ ≠ (v435 : Value).ownBlock ∧ some k_ ≠ (v437 : Value).ownBlock)) (Kd.R_apart' (Kd.R_apart' (Kd.R_apart' (Kd.R_apart' (Kd.R_apart' (HO441.out) (Kd.N_typed HO415.out) (by decide)) (Kd.N_typed HO419.out) (by decide)) (Kd.N_typed HO425.out) (by decide)) (Kd.R_typed HO428.out) (by decide)) (Kd.R_typed HO431.out) (by decide)) (fun k_ hk => ⟨hk.1.1.1.1.2,⟨hk.1.1.1.2,⟨hk.1.1.2,⟨hk.1.2,⟨hk.2,⟨hk.1.1.1.1.1.1.2,hk.1.1.1.1.1.2⟩⟩⟩⟩⟩⟩))))) (Reps.none _ _)));intro v443 w30 ho31 hb hg_ hnew_;clear hg_ hnew_;(first|rw [← Ny442.out] at ho31|(simp only [Int.reduceToNat] at ho31;rw [← Ny442.out] at ho31));have n0_ := am (Kd.N_elder' (rn HO415) (Kd.N_base ho31) hb);have n1_ := am (Kd.N_elder' (rn HO419) (Kd.N_base ho31) hb);have n2_ := am (Kd.N_elder' (rn HO425) (Kd.N_base ho31) hb);have n3_ := am (Kd.R_below (rr HO428) hb);have n4_ := am (Kd.R_below (rr HO431) hb);have n5_ := am (Kd.R_below (rr HO436) hb);have n6_ := am (Kd.R_below (rr HO438) hb);have n7_ := am (Kd.N_lower ho31 (below_size (bb HB)));have n8_ := am (below_step (bb HB) hb);clear HO415 HO419 HO425 HO428 HO431 HO436 HO438 HB HO441;have HO415 := n0_;have HO419 := n1_;have HO425 := n2_;have HO428 := n3_;have HO431 := n4_;have HO436 := n5_;have HO438 := n6_;have HO444 := n7_;have HB := n8_;clear n0_ n1_ n2_ n3_ n4_ n5_ n6_ n7_ n8_;clear hb ho31;obtain ⟨Ao32,co32,eo32⟩ := Kd.N_slice HO415.out;subst eo32;obtain ⟨Ao33,co33,eo33⟩ := Kd.N_slice HO444.out;subst eo33)|(go_at_call 16;(with_reducible refine (privityref05_SameRows.calls k _ _ t412 _ _ y442 true _ ?side1 ?side2 ?side3 ?side4 A5.out).mono ?_);(case side1 => repeat (first|exact (Kd.N_reads' HO415.out).2.2|(with_reducible refine Kd.C_alloc ?_ _)|(with_reducible refine Kd.C_drewN ?_ _)|(with_reducible refine Kd.C_drew ?_)));(case side2 => exact (Kd.N_reads' HO415.out).2.1);(case side3 => repeat (first|exact (Kd.N_reads' HO444.out).2.2|(with_reducible refine Kd.C_alloc ?_ _)|(with_reducible refine Kd.C_drewN ?_ _)|(with_reducible refine Kd.C_drew ?_)));(case side4 => exact (Kd.N_reads' HO444.out).2.1);rintro e w' ⟨rfl,⟨nd,rfl⟩⟩)|((with_reducible refine gate_dst (N := 45) rfl ?_);(try (refine gate_guard (by rfl) ?_;dsimp only));refine Kd.R_lit (Kd.int .u64) _ 22 ?hg (N := 45) ?hd (xs := ([3,5] : List Int)) (inner := [.int .u64 3,.int .u64 5]) (ok := fun _ => True) (okp := fun _ => True) ?hr ?hp (fun _ hk => hk) trivial (Below.refl _ _) (Nat.le_refl _) (by simp) ?_;(case hd => rfl);(case hg => rfl);(case hr => first|(go_simp;done)|(go_simp;rfl));(case hp => exact (Reps.one (show Kd.M (Kd.int .u64) _ _ _ 3 [.int .u64 3] from rfl) (Reps.one (show Kd.M (Kd.int .u64) _ _ _ 5 [.int .u64 5] from rfl) (Reps.none _ _))));intro v447 w34 ho35 hb hg_ hnew_;clear hg_ hnew_;(first|rw [← Ny446.out] at ho35|(simp only [Int.reduceToNat] at ho35;rw [← Ny446.out] at ho35));have n0_ := am (Kd.N_elder' (rn HO415) (Kd.R_base ho35) hb);have n1_ := am (Kd.N_elder' (rn HO419) (Kd.R_base ho35) hb);have n2_ := am (Kd.N_elder' (rn HO425) (Kd.R_base ho35) hb);have n3_ := am (Kd.R_below (rr HO428) hb);have n4_ := am (Kd.R_below (rr HO431) hb);have n5_ := am (Kd.R_elder' (rr HO436) (Kd.R_base ho35) hb);have n6_ := am (Kd.R_elder' (rr HO438) (Kd.R_base ho35) hb);have n7_ := am (Kd.N_elder' (rn HO444) (Kd.R_base ho35) hb);have n8_ := am (Kd.R_lower (Kd.R_new' (Kd.R_new' ho35 (Kd.R_lt (rr HO436))) (Kd.R_lt (rr HO438))) (below_size (bb HB)));have n9_ := am (below_step (bb HB) hb);clear HO415 HO419 HO425 HO428 HO431 HO436 HO438 HO444 HB;have HO415 := n0_;have HO419 := n1_;have HO425 := n2_;have HO428 := n3_;have HO431 := n4_;have HO436 := n5_;have HO438 := n6_;have HO444 := n7_;have HO448 := n8_;have HB := n9_;clear n0_ n1_ n2_ n3_ n4_ n5_ n6_ n7_ n8_ n9_;clear hb ho35;obtain ⟨Ao36,co36,eo36⟩ := Kd.R_slice HO436.out;subst eo36;obtain ⟨Ao37,co37,eo37⟩ := Kd.R_slice HO448.out;subst eo37)|(go_at_call 24;(with_reducible refine (privityref05_Same.calls k _ _ t432 _ _ y446 true _ ?side1 ?side2 ?side3 ?side4 A9.out).mono ?_);(case side1 => exact cr HO436);(case side2 => exact (Kd.R_reads' HO436.out).2.1);(case side3 => exact cr HO448);(case side4 => exact (Kd.R_reads' HO448.out).2.1);rintro e w' ⟨rfl,⟨nd,rfl⟩⟩)|((with_reducible refine gate_dst (N := 50) rfl ?_);(try (refine gate_guard (by rfl) ?_;dsimp only));refine Kd.R_lit (Kd.int .u64) _ 22 ?hg (N := 50) ?hd (xs := ([7] : List Int)) (inner := [.int .u64 7]) (ok := fun _ => True) (okp := fun _ => True) ?hr ?hp (fun _ hk => hk) trivial (Below.refl _ _) (Nat.le_refl _) (by simp) ?_;(case hd => rfl);(case hg => rfl);(case hr => first|(go_simp;done)|(go_simp;rfl));(case hp => exact (Reps.one (show Kd.M (Kd.int .u64) _ _ _ 7 [.int .u64 7] from rfl) (Reps.none _ _)));intro v451 w38 ho39 hb hg_ hnew_;clear hg_ hnew_;(first|rw [← Ny450.out] at ho39|(simp only [Int.reduceToNat] at ho39;rw [← Ny450.out] at ho39));have n0_ := am (Kd.N_elder' (rn HO415) (Kd.R_base ho39) hb);have n1_ := am (Kd.N_elder' (rn HO419) (Kd.R_base ho39) hb);have n2_ := am (Kd.N_elder' (rn HO425) (Kd.R_base ho39) hb);have n3_ := am (Kd.R_below (rr HO428) hb);have n4_ := am (Kd.R_below (rr HO431) hb);have n5_ := am (Kd.R_elder' (rr HO436) (Kd.R_base ho39) hb);have n6_ := am (Kd.R_elder' (rr HO438) (Kd.R_base ho39) hb);have n7_ := am (Kd.N_elder' (rn HO444) (Kd.R_base ho39) hb);have n8_ := am (Kd.R_elder' (rr HO448) (Kd.R_base ho39) hb);have n9_ := am (Kd.R_lower (Kd.R_new' (Kd.R_new' (Kd.R_new' ho39 (Kd.R_lt (rr HO436))) (Kd.R_lt (rr HO438))) (Kd.R_lt (rr HO448))) (below_size (bb HB)));have n10_ := am (below_step (bb HB) hb);clear HO415 HO419 HO425 HO428 HO431 HO436 HO438 HO444 HO448 HB;have HO415 := n0_;have HO419 := n1_;have HO425 := n2_;have HO428 := n3_;have HO431 := n4_;have HO436 := n5_;have HO438 := n6_;have HO444 := n7_;have HO448 := n8_;have HO452 := n9_;have HB := n10_;clear n0_ n1_ n2_ n3_ n4_ n5_ n6_ n7_ n8_ n9_ n10_;clear hb ho39;obtain ⟨Ao40,co40,eo40⟩ := Kd.R_slice HO438.out;subst eo40;obtain ⟨Ao41,co41,eo41⟩ := Kd.R_slice HO452.out;subst eo41)|(go_at_call 24;(with_reducible refine (privityref05_Same.calls k _ _ t433 _ _ y450 t453 _ ?side1 ?side2 ?side3 ?side4 A11.out).mono ?_);(case side1 => exact cr HO438);(case side2 => exact (Kd.R_reads' HO438.out).2.1);(case side3 => exact cr HO452);(case side4 => exact (Kd.R_reads' HO452.out).2.1);rintro e w' ⟨rfl,⟨nd,rfl⟩⟩))
      go_ret
      exact ⟨by first|rfl|(simp [errW_none,errW_some] <;> rfl)|(simp [*,errW_none,errW_some] <;> rfl),bb HB⟩
     ·replace c10 := Bool.eq_false_iff.mpr c10
      subst c10
      rw [if_neg (show ¬ (false = true) by decide)] at H
      exact absurd (Option.some.inj H) (by rw [HR1.out];simp)
    ·rw [if_neg c8] at H
     have c8b0 : (t434 == 0) = false := beq_eq_false_iff_ne.mpr c8
     have c8b1 : (t434 != 0) = true := bne_iff_ne.mpr c8
     exact absurd (Option.some.inj H) (by rw [HR1.out];simp)
   ·rw [if_neg c7] at H
    have c7b0 : (t417 == 2) = false := beq_eq_false_iff_ne.mpr c7
    have c7b1 : (t417 != 2) = true := bne_iff_ne.mpr c7
    exact absurd (Option.some.inj H) (by rw [HR1.out];simp)
  ·replace c6 := Bool.eq_false_iff.mpr c6
   subst c6
   rw [if_neg (show ¬ (false = true) by decide)] at H
   exact absurd (Option.some.inj H) (by rw [HR1.out];simp)
 ·rw [if_neg c4] at H
  have c4b0 : (t413 == 0) = false := beq_eq_false_iff_ne.mpr c4
  have c4b1 : (t413 != 0) = true := bne_iff_ne.mpr c4
  exact absurd (Option.some.inj H) (by rw [HR1.out];simp)

def privityref05_Below.l0 : Nat → Int → List Int → Int → Option (Bool)
 | 0,_,_,_ => none
 | k + 1,x0,x1,x5 => if x5 < (x1.length : Int) then (if 0 ≤ x5 then (if (rd x1 x5) ≥ x0 then (some false) else (privityref05_Below.l0 k x0 x1 (wrap64 (x5 + 1)))) else (none)) else (some true)
def privityref05_Below.f (k : Nat) (a0 : Int) (l1 : List Int) : Option (Bool) := privityref05_Below.l0 k a0 l1 0
set_option maxHeartbeats 8000000 in
set_option maxRecDepth 100000 in
theorem privityref05_Below.calls (k : Nat) (a0 : Int) (A1 : Option Addr) (c1 : Nat) (l1 : List Int) (r : Bool) (w : World) (hr1 : Kd.C (Kd.int .u64) w A1 l1.length l1) (hc1 : l1.length ≤ c1) (h : privityref05_Below.f k a0 l1 = some r) :
  Calls Try.prog 25 #[.int .u64 a0,.slice A1 l1.length c1] w fun e w' => e = .returned (.bool r) ∧ Drawn0 w w' := by
 have HR1 := am hr1
 have HC1 := am hc1
 clear hr1 hc1
 have H : (privityref05_Below.l0 k a0 l1 0) = some r := h
 clear h
 have H' := am H
 clear H
 go_enter Try.func25,Try.ntmps25
 go_wp2
 go_loopg [5] k (fun kq v5 w' => ∃ (x5_1 : Int),v5 = .int .i64 x5_1 ∧ Aside0 (privityref05_Below.l0 kq a0 l1 x5_1 = some r) ∧ Aside0 (kq ≤ k) ∧ Drawn0 w w')
 case atStart => exact ⟨(0),(by first|rfl|(simp;done)|(simp [*];done)),H',⟨Nat.le_refl _⟩,by repeat (first|exact Drawn0.refl _|apply Drawn0.step)⟩
 case round =>
  clear H'
  try clear c1
  try clear c2
  try clear p2
  obtain ⟨x5_1,rfl,HA,HK1,⟨m1,rfl⟩⟩ := hrel
  cases gk with
  | zero => exact absurd HA.out (by simp [privityref05_Below.l0])
  | succ k1 =>
   have H := HA.out
   clear HA
   simp only [privityref05_Below.l0] at H
   by_cases c3 : x5_1 < (l1.length : Int)
   ·rw [if_pos c3] at H
    have c3b0 : decide (x5_1 < (l1.length : Int)) = true := decide_eq_true c3
    clear c3
    by_cases c4 : 0 ≤ x5_1
    ·rw [if_pos c4] at H
     have c4b0 : decide (0 ≤ x5_1) = true := decide_eq_true c4
     clear c4
     by_cases c5 : (rd l1 x5_1) ≥ a0
     ·rw [if_pos c5] at H
      have c5b0 : decide (a0 ≤ (rd l1 x5_1)) = true := decide_eq_true c5
      clear c5
      obtain rfl := Option.some.inj H
      have p512 : 0 ≤ (x5_1 : Int) := od
      have q512 : x5_1 < (l1.length : Int) := od
      obtain ⟨ad512,e512,hx512_0⟩ := Kd.at_int HR1.out x5_1 p512 q512
      cases e512
      replace p512 := eq_true p512
      replace q512 := eq_true q512
      go_wp2
      go_ret
      exact ⟨by first|rfl|(simp;done)|(simp [*];done),by repeat (first|exact Drawn0.refl _|apply Drawn0.step)⟩
     ·rw [if_neg c5] at H
      have c5b0 : decide (a0 ≤ (rd l1 x5_1)) = false := decide_eq_false c5
      clear c5
      have H' := am H
      clear H
      have p512 : 0 ≤ (x5_1 : Int) := od
      have q512 : x5_1 < (l1.length : Int) := od
      obtain ⟨ad512,e512,hx512_0⟩ := Kd.at_int HR1.out x5_1 p512 q512
      cases e512
      replace p512 := eq_true p512
      replace q512 := eq_true q512
      go_wp2
      go_roundg k1
      case measure => have := HK1.out;omega
      case rel => exact ⟨(wrap64 (x5_1 + 1)),(by first|rfl|(simp;done)|(simp [*];done)),H',⟨by have := HK1.out;omega⟩,by repeat (first|exact Drawn0.refl _|apply Drawn0.step)⟩
    ·rw [if_neg c4] at H
     exact absurd H (by simp)
   ·rw [if_neg c3] at H
    have c3b0 : decide (x5_1 < (l1.length : Int)) = false := decide_eq_false c3
    clear c3
    obtain rfl := Option.some.inj H
    go_wp2
    go_ret
    exact ⟨by first|rfl|(simp;done)|(simp [*];done),by repeat (first|exact Drawn0.refl _|apply Drawn0.step)⟩
def privitylaw07_below.l0 : Nat → Int → List (S56) → Int → Option (Bool)
 | 0,_,_,_ => none
 | k + 1,x0,x1,x5 => if x5 < (x1.length : Int) then (if 0 ≤ x5 then (if ((rd_T56 x1 x5).f1) ≥ x0 then (some false) else (privitylaw07_below.l0 k x0 x1 (wrap64 (x5 + 1)))) else (none)) else (some true)
def privitylaw07_below.f (k : Nat) (a0 : Int) (l1 : List (S56)) : Option (Bool) := privitylaw07_below.l0 k a0 l1 0
set_option maxHeartbeats 8000000 in
set_option maxRecDepth 100000 in
theorem privitylaw07_below.calls (k : Nat) (a0 : Int) (A1 : Option Addr) (c1 : Nat) (l1 : List (S56)) (r : Bool) (w : World) (hr1 : Kd.C k56 w A1 l1.length l1) (hc1 : l1.length ≤ c1) (h : privitylaw07_below.f k a0 l1 = some r) :
  Calls Try.prog 21 #[.int .u64 a0,.slice A1 l1.length c1] w fun e w' => e = .returned (.bool r) ∧ Drawn0 w w' := by
 have HR1 := am hr1
 have HC1 := am hc1
 clear hr1 hc1
 have H : (privitylaw07_below.l0 k a0 l1 0) = some r := h
 clear h
 have H' := am H
 clear H
 go_enter Try.func21,Try.ntmps21
 go_wp2
 go_loopg [5] k (fun kq v5 w' => ∃ (x5_1 : Int),v5 = .int .i64 x5_1 ∧ Aside0 (privitylaw07_below.l0 kq a0 l1 x5_1 = some r) ∧ Aside0 (kq ≤ k) ∧ Drawn0 w w')
 case atStart => exact ⟨(0),(by first|rfl|(simp;done)|(simp [*];done)),H',⟨Nat.le_refl _⟩,by repeat (first|exact Drawn0.refl _|apply Drawn0.step)⟩
 case round =>
  clear H'
  try clear c1
  try clear c2
  try clear p2
  obtain ⟨x5_1,rfl,HA,HK1,⟨m1,rfl⟩⟩ := hrel
  cases gk with
  | zero => exact absurd HA.out (by simp [privitylaw07_below.l0])
  | succ k1 =>
   have H := HA.out
   clear HA
   simp only [privitylaw07_below.l0] at H
   by_cases c3 : x5_1 < (l1.length : Int)
   ·rw [if_pos c3] at H
    have c3b0 : decide (x5_1 < (l1.length : Int)) = true := decide_eq_true c3
    clear c3
    by_cases c4 : 0 ≤ x5_1
    ·rw [if_pos c4] at H
     have c4b0 : decide (0 ≤ x5_1) = true := decide_eq_true c4
     clear c4
     by_cases c5 : ((rd_T56 l1 x5_1).f1) ≥ a0
     ·rw [if_pos c5] at H
      have c5b0 : decide (a0 ≤ ((rd_T56 l1 x5_1).f1)) = true := decide_eq_true c5
      clear c5
      obtain rfl := Option.some.inj H
      have p515 : 0 ≤ (x5_1 : Int) := od
      have q515 : x5_1 < (l1.length : Int) := od
      obtain ⟨ad515,e515,hx515_0,hx515_1⟩ := at_T56 HR1.out x5_1 p515 q515
      cases e515
      replace p515 := eq_true p515
      replace q515 := eq_true q515
      go_wp2
      go_ret
      exact ⟨by first|rfl|(simp;done)|(simp [*];done),by repeat (first|exact Drawn0.refl _|apply Drawn0.step)⟩
     ·rw [if_neg c5] at H
      have c5b0 : decide (a0 ≤ ((rd_T56 l1 x5_1).f1)) = false := decide_eq_false c5
      clear c5
      have H' := am H
      clear H
      have p515 : 0 ≤ (x5_1 : Int) := od
      have q515 : x5_1 < (l1.length : Int) := od
      obtain ⟨ad515,e515,hx515_0,hx515_1⟩ := at_T56 HR1.out x5_1 p515 q515
      cases e515
      replace p515 := eq_true p515
      replace q515 := eq_true q515
      go_wp2
      go_roundg k1
      case measure => have := HK1.out;omega
      case rel => exact ⟨(wrap64 (x5_1 + 1)),(by first|rfl|(simp;done)|(simp [*];done)),H',⟨by have := HK1.out;omega⟩,by repeat (first|exact Drawn0.refl _|apply Drawn0.step)⟩
    ·rw [if_neg c4] at H
     exact absurd H (by simp)
   ·rw [if_neg c3] at H
    have c3b0 : decide (x5_1 < (l1.length : Int)) = false := decide_eq_false c3
    clear c3
    obtain rfl := Option.some.inj H
    go_wp2
    go_ret
    exact ⟨by first|rfl|(simp;done)|(simp [*];done),by repeat (first|exact Drawn0.refl _|apply Drawn0.step)⟩
mutual
def privitylaw07_unlike.l0 : Nat → List Int → Int → Int → Option (Bool)
 | 0,_,_,_ => none
 | k + 1,x0,x1,x5 => if x5 < (x0.length : Int) then (if 0 ≤ x5 then (if (rd x0 x5) < 0 then (privitylaw07_unlike.j1 k x0 x1 x5 true) else (privitylaw07_unlike.j1 k x0 x1 x5 (decide ((rd x0 x5) ≥ x1)))) else (none)) else (some true)
def privitylaw07_unlike.j1 : Nat → List Int → Int → Int → Bool → Option (Bool)
 | 0,_,_,_,_ => none
 | k + 1,x0,x1,x5,x25 => if x25 = true then (some false) else (privitylaw07_unlike.l1 k x0 x1 x5 0)
def privitylaw07_unlike.l1 : Nat → List Int → Int → Int → Int → Option (Bool)
 | 0,_,_,_,_ => none
 | k + 1,x0,x1,x5,x6 => if x6 < x5 then (if 0 ≤ x5 then (if x5 < (x0.length : Int) then (if 0 ≤ x6 then (if x6 < (x0.length : Int) then (if (rd x0 x5) = (rd x0 x6) then (some false) else (privitylaw07_unlike.l1 k x0 x1 x5 (wrap64 (x6 + 1)))) else (none)) else (none)) else (none)) else (none)) else (privitylaw07_unlike.l0 k x0 x1 (wrap64 (x5 + 1)))
end
def privitylaw07_unlike.f (k : Nat) (l0 : List Int) (a1 : Int) : Option (Bool) := privitylaw07_unlike.l0 k l0 a1 0
set_option maxHeartbeats 8000000 in
set_option maxRecDepth 100000 in
theorem privitylaw07_unlike.calls (k : Nat) (A0 : Option Addr) (c0 : Nat) (l0 : List Int) (a1 : Int) (r : Bool) (w : World) (hr0 : Kd.C (Kd.int .i64) w A0 l0.length l0) (hc0 : l0.length ≤ c0) (h : privitylaw07_unlike.f k l0 a1 = some r) :
  Calls Try.prog 29 #[.slice A0 l0.length c0,.int .i64 a1] w fun e w' => e = .returned (.bool r) ∧ Drawn0 w w' := by
 have HR0 := am hr0
 have HC0 := am hc0
 clear hr0 hc0
 have H : (privitylaw07_unlike.l0 k l0 a1 0) = some r := h
 clear h
 have H' := am H
 clear H
 go_enter Try.func29,Try.ntmps29
 go_wp2
 repeat (go_quiet (fail);try go_wp2)
 go_loopg [5] k (fun kq v5 w' => ∃ (x5_1 : Int),v5 = .int .i64 x5_1 ∧ Aside0 (privitylaw07_unlike.l0 kq l0 a1 x5_1 = some r) ∧ Aside0 (kq ≤ k) ∧ Drawn0 w w')
 case atStart => exact ⟨(0),(by first|rfl|(simp;done)|(simp [*];done)),H',⟨Nat.le_refl _⟩,by repeat (first|exact Drawn0.refl _|apply Drawn0.step)⟩
 case round =>
  clear H'
  try clear c2
  try clear p2
  obtain ⟨x5_1,rfl,HA,HK1,⟨m1,rfl⟩⟩ := hrel
  cases gk with
  | zero => exact absurd HA.out (by simp [privitylaw07_unlike.l0])
  | succ k1 =>
   have H := HA.out
   clear HA
   simp only [privitylaw07_unlike.l0] at H
   by_cases c3 : x5_1 < (l0.length : Int)
   ·rw [if_pos c3] at H
    have c3b0 : decide (x5_1 < (l0.length : Int)) = true := decide_eq_true c3
    clear c3
    have HC4 := am H
    clear H
    go_upto_region 4 with (fail)
    repeat (go_quiet (fail);go_upto_region 4 with (fail))
    go_cut [25] (fun v25 wc => ∃ (kq : Nat) (x25_3 : Bool),v25 = .bool x25_3 ∧ Aside0 (privitylaw07_unlike.j1 kq l0 a1 x5_1 x25_3 = some r) ∧ Aside0 (kq ≤ k1) ∧ Drawn0 w wc)
    case first =>
     have H := HC4.out
     clear HC4
     by_cases c5 : 0 ≤ x5_1
     ·rw [if_pos c5] at H
      have c5b0 : decide (0 ≤ x5_1) = true := decide_eq_true c5
      clear c5
      (first|rw [c5b0]|(simp only [i64_w,i32_w];rw [c5b0])|skip)
      by_cases c6 : (rd l0 x5_1) < 0
      ·rw [if_pos c6] at H
       have c6b0 : decide ((rd l0 x5_1) < 0) = true := decide_eq_true c6
       clear c6
       have H' := am H
       clear H
       have p653 : 0 ≤ (x5_1 : Int) := od
       have q653 : x5_1 < (l0.length : Int) := od
       obtain ⟨ad653,e653,hx653_0⟩ := Kd.at_int HR0.out x5_1 p653 q653
       cases e653
       replace p653 := eq_true p653
       replace q653 := eq_true q653
       go_wp2
       repeat (go_quiet (fail);try go_wp2)
       go_meet
       case rel => exact ⟨_,(true),(by first|rfl|(simp;done)|(simp [*];done)),H',⟨by have := HK1.out;first|omega|exact Nat.le_refl _⟩,by repeat (first|exact Drawn0.refl _|apply Drawn0.step)⟩
      ·rw [if_neg c6] at H
       have c6b0 : decide ((rd l0 x5_1) < 0) = false := decide_eq_false c6
       clear c6
       have H' := am H
       clear H
       have p653 : 0 ≤ (x5_1 : Int) := od
       have q653 : x5_1 < (l0.length : Int) := od
       obtain ⟨ad653,e653,hx653_0⟩ := Kd.at_int HR0.out x5_1 p653 q653
       cases e653
       replace p653 := eq_true p653
       replace q653 := eq_true q653
       have p654 : 0 ≤ (x5_1 : Int) := od
       have q654 : x5_1 < (l0.length : Int) := od
       obtain ⟨ad654,e654,hx654_0⟩ := Kd.at_int HR0.out x5_1 p654 q654
       obtain rfl : ad653 = ad654 := (by injection e654)
       replace p654 := eq_true p654
       replace q654 := eq_true q654
       go_wp2
       repeat (go_quiet (fail);try go_wp2)
       go_meet
       case rel => exact ⟨_,(decide ((rd l0 x5_1) ≥ a1)),(by first|rfl|(simp;done)|(simp [*];done)),H',⟨by have := HK1.out;first|omega|exact Nat.le_refl _⟩,by repeat (first|exact Drawn0.refl _|apply Drawn0.step)⟩
     ·rw [if_neg c5] at H
      exact absurd H (by simp)
    case rest =>
     clear HC4
     try clear c2
     try clear p2
     try clear c3
     try clear c3b0
     try clear c5
     try clear c5b0
     try clear c6
     try clear c6b0
     try clear p6
     try clear q6
     try clear hx6
     try clear hx653_0
     try clear hx654_0
     try clear p2
     try clear p653
     try clear p654
     try clear q653
     try clear q654
     obtain ⟨kq,x25_3,rfl,HA,HJ3,⟨mc3,rfl⟩⟩ := hcut
     cases kq with
     | zero => exact absurd HA.out (by simp [privitylaw07_unlike.j1])
     | succ kj3 =>
      have H := HA.out
      clear HA
      simp only [privitylaw07_unlike.j1] at H
      by_cases c7 : x25_3 = true
      ·subst c7
       rw [if_pos rfl] at H
       obtain rfl := Option.some.inj H
       go_wp2
       repeat (go_quiet (fail);try go_wp2)
       go_ret
       exact ⟨by first|rfl|(simp;done)|(simp [*];done),by repeat (first|exact Drawn0.refl _|apply Drawn0.step)⟩
      ·replace c7 := Bool.eq_false_iff.mpr c7
       subst c7
       rw [if_neg (show ¬ (false = true) by decide)] at H
       have H' := am H
       clear H
       go_wp2
       repeat (go_quiet (fail);try go_wp2)
       go_loopg [6] kj3 (fun kq v6 w' => ∃ (x6_3 : Int),v6 = .int .i64 x6_3 ∧ Aside0 (privitylaw07_unlike.l1 kq l0 a1 x5_1 x6_3 = some r) ∧ Aside0 (kq ≤ kj3) ∧ Drawn0 w w')
       case atStart => exact ⟨(0),(by first|rfl|(simp;done)|(simp [*];done)),H',⟨Nat.le_refl _⟩,by repeat (first|exact Drawn0.refl _|apply Drawn0.step)⟩
       case round =>
        clear H'
        try clear c2
        try clear p2
        try clear c3
        try clear c3b0
        try clear c5
        try clear c5b0
        try clear c6
        try clear c6b0
        try clear p6
        try clear q6
        try clear hx6
        try clear c7
        try clear hx653_0
        try clear hx654_0
        try clear p2
        try clear p6
        try clear p653
        try clear p654
        try clear q6
        try clear q653
        try clear q654
        obtain ⟨x6_3,rfl,HA,HK3,⟨m3,rfl⟩⟩ := hrel
        cases gk with
        | zero => exact absurd HA.out (by simp [privitylaw07_unlike.l1])
        | succ k3 =>
         have H := HA.out
         clear HA
         simp only [privitylaw07_unlike.l1] at H
         by_cases c8 : x6_3 < x5_1
         ·rw [if_pos c8] at H
          have c8b0 : decide (x6_3 < x5_1) = true := decide_eq_true c8
          clear c8
          by_cases c9 : 0 ≤ x5_1
          ·rw [if_pos c9] at H
           have c9b0 : decide (0 ≤ x5_1) = true := decide_eq_true c9
           clear c9
           by_cases c10 : x5_1 < (l0.length : Int)
           ·rw [if_pos c10] at H
            have c10b0 : decide (x5_1 < (l0.length : Int)) = true := decide_eq_true c10
            clear c10
            by_cases c11 : 0 ≤ x6_3
            ·rw [if_pos c11] at H
             have c11b0 : decide (0 ≤ x6_3) = true := decide_eq_true c11
             clear c11
             by_cases c12 : x6_3 < (l0.length : Int)
             ·rw [if_pos c12] at H
              have c12b0 : decide (x6_3 < (l0.length : Int)) = true := decide_eq_true c12
              clear c12
              by_cases c13 : (rd l0 x5_1) = (rd l0 x6_3)
              ·rw [if_pos c13] at H
               have c13b0 : ((rd l0 x5_1) == (rd l0 x6_3)) = true := beq_iff_eq.mpr c13
               have c13b1 : ((rd l0 x5_1) != (rd l0 x6_3)) = false := bne_eq_false_iff_eq.mpr c13
               clear c13
               obtain rfl := Option.some.inj H
               have p655 : 0 ≤ (x5_1 : Int) := od
               have q655 : x5_1 < (l0.length : Int) := od
               obtain ⟨ad655,e655,hx655_0⟩ := Kd.at_int HR0.out x5_1 p655 q655
               cases e655
               replace p655 := eq_true p655
               replace q655 := eq_true q655
               have p656 : 0 ≤ (x6_3 : Int) := od
               have q656 : x6_3 < (l0.length : Int) := od
               obtain ⟨ad656,e656,hx656_0⟩ := Kd.at_int HR0.out x6_3 p656 q656
               obtain rfl : ad655 = ad656 := (by injection e656)
               replace p656 := eq_true p656
               replace q656 := eq_true q656
               go_wp2
               repeat (go_quiet (fail);try go_wp2)
               go_ret
               exact ⟨by first|rfl|(simp;done)|(simp [*];done),by repeat (first|exact Drawn0.refl _|apply Drawn0.step)⟩
              ·rw [if_neg c13] at H
               have c13b0 : ((rd l0 x5_1) == (rd l0 x6_3)) = false := beq_eq_false_iff_ne.mpr c13
               have c13b1 : ((rd l0 x5_1) != (rd l0 x6_3)) = true := bne_iff_ne.mpr c13
               have H' := am H
               clear H
               have p655 : 0 ≤ (x5_1 : Int) := od
               have q655 : x5_1 < (l0.length : Int) := od
               obtain ⟨ad655,e655,hx655_0⟩ := Kd.at_int HR0.out x5_1 p655 q655
               cases e655
               replace p655 := eq_true p655
               replace q655 := eq_true q655
               have p656 : 0 ≤ (x6_3 : Int) := od
               have q656 : x6_3 < (l0.length : Int) := od
               obtain ⟨ad656,e656,hx656_0⟩ := Kd.at_int HR0.out x6_3 p656 q656
               obtain rfl : ad655 = ad656 := (by injection e656)
               replace p656 := eq_true p656
               replace q656 := eq_true q656
               go_wp2
               repeat (go_quiet (fail);try go_wp2)
               go_roundg k3
               case measure => have := HK1.out;have := HJ3.out;have := HK3.out;omega
               case rel => exact ⟨(wrap64 (x6_3 + 1)),(by first|rfl|(simp;done)|(simp [*];done)),H',⟨by have := HK1.out;have := HJ3.out;have := HK3.out;omega⟩,by repeat (first|exact Drawn0.refl _|apply Drawn0.step)⟩
             ·rw [if_neg c12] at H
              exact absurd H (by simp)
            ·rw [if_neg c11] at H
             exact absurd H (by simp)
           ·rw [if_neg c10] at H
            exact absurd H (by simp)
          ·rw [if_neg c9] at H
           exact absurd H (by simp)
         ·rw [if_neg c8] at H
          have c8b0 : decide (x6_3 < x5_1) = false := decide_eq_false c8
          clear c8
          have H' := am H
          clear H
          go_wp2
          repeat (go_quiet (fail);try go_wp2)
          go_roundg k3
          case measure => have := HK1.out;have := HJ3.out;have := HK3.out;omega
          case rel => exact ⟨(wrap64 (x5_1 + 1)),(by first|rfl|(simp;done)|(simp [*];done)),H',⟨by have := HK1.out;have := HJ3.out;have := HK3.out;omega⟩,by repeat (first|exact Drawn0.refl _|apply Drawn0.step)⟩
   ·rw [if_neg c3] at H
    have c3b0 : decide (x5_1 < (l0.length : Int)) = false := decide_eq_false c3
    clear c3
    obtain rfl := Option.some.inj H
    go_wp2
    repeat (go_quiet (fail);try go_wp2)
    go_ret
    exact ⟨by first|rfl|(simp;done)|(simp [*];done),by repeat (first|exact Drawn0.refl _|apply Drawn0.step)⟩
mutual
def matrix_Apply.j0 : Nat → Int → List (List Int) → List Int → Bool → Option (List Int × Int)
 | 0,_,_,_,_ => none
 | k + 1,x0,x1,x2,x20 => if x20 = true then (some (([] : List Int),1)) else (matrix_Apply.l0 k x0 x2 ([] : List Int) x1 (x1.length : Int) 0)
def matrix_Apply.l0 : Nat → Int → List Int → List Int → List (List Int) → Int → Int → Option (List Int × Int)
 | 0,_,_,_,_,_,_ => none
 | k + 1,x0,x2,x8,x21,x22,x23 => if x23 < x22 then (if 0 ≤ x23 then (if x23 < (x21.length : Int) then ((matrix_dot.f k x0 (rd_L2 x21 x23) x2).bind fun t679 => (if x8.length < 17592186044416 then (matrix_Apply.l0 k x0 x2 (x8 ++ [t679]) x21 x22 (wrap64 (x23 + 1))) else (none))) else (none)) else (none)) else (some (x8,0))
end
def matrix_Apply.f (k : Nat) (a0 : Int) (l1 : List (List Int)) (l2 : List Int) : Option (List Int × Int) := (matrix_rect.f l1).bind fun t676 => (if t676 = true then ((matrix_cols.f l1).bind fun t677 => (matrix_Apply.j0 k a0 l1 l2 (t677 != (l2.length : Int)))) else (matrix_Apply.j0 k a0 l1 l2 true))
set_option maxHeartbeats 8000000 in
set_option maxRecDepth 100000 in
theorem matrix_Apply.calls (k : Nat) (a0 : Int) (A1 : Option Addr) (c1 : Nat) (l1 : List (List Int)) (A2 : Option Addr) (c2 : Nat) (l2 : List Int) (r1 : List Int) (r2 : Int) (w : World) (hr1 : Kd.C (Kd.slice 22 (Kd.int .u64)) w A1 l1.length l1) (hc1 : l1.length ≤ c1) (hr2 : Kd.C (Kd.int .u64) w A2 l2.length l2) (hc2 : l2.length ≤ c2) (h : matrix_Apply.f k a0 l1 l2 = some (r1,r2)) :
  Calls Try.prog 31 #[.int .u64 a0,.slice A1 l1.length c1,.slice A2 l2.length c2] w fun e w' => ∃ v0_ : Value,e = .returned (.tuple #[v0_,.int .i64 r2]) ∧ Kd.R (Kd.int .u64) 22 w' w.heap.size (fun _ => True) v0_ r1 ∧ Below w.heap.size w w' := by
 have HR1 := am hr1
 have HC1 := am hc1
 clear hr1 hc1
 have HR2 := am hr2
 have HC2 := am hc2
 clear hr2 hc2
 have HB := am (Below.refl w.heap.size w)
 have H : ((matrix_rect.f l1).bind fun t676 => (if t676 = true then ((matrix_cols.f l1).bind fun t677 => (matrix_Apply.j0 k a0 l1 l2 (t677 != (l2.length : Int)))) else (matrix_Apply.j0 k a0 l1 l2 true))) = some (r1,r2) := h
 clear h
 have HC4 := am H
 clear H
 go_enter Try.func31,Try.ntmps31
 go_upto_region 1 with (fail)
 go_cut [20] (fun v20 wc => ∃ (kq : Nat) (x20_3 : Bool),v20 = .bool x20_3 ∧ Aside0 (matrix_Apply.j0 kq a0 l1 l2 x20_3 = some (r1,r2)) ∧ Aside0 (kq ≤ k) ∧ Aside0 (Below w.heap.size w wc))
 case first =>
  have H := HC4.out
  clear HC4
  replace H := Option.bind_eq_some_iff.mp H
  obtain ⟨t676,A50,H⟩ := H
  try dsimp only at H
  have A5 := am A50
  clear A50
  by_cases c6 : t676 = true
  ·subst c6
   rw [if_pos rfl] at H
   replace H := Option.bind_eq_some_iff.mp H
   obtain ⟨t677,A70,H⟩ := H
   try dsimp only at H
   have A7 := am A70
   clear A70
   have H' := am H
   clear H
   go_wp2_with (first|((with_reducible refine gate_callee (f := 55) rfl ?_);refine goesL_ (some 12) rfl rfl Try.func55 (by kernel_rfl) rfl #[.slice A1 l1.length c1] rfl (by (try simp only [List.map_toArray,List.map_cons,List.map_nil]);first|done|rfl|(simp only [List.length_drop,List.length_take];rfl)) ?_;(with_reducible refine (matrix_rect.calls _ _ l1 true _ ?side1 ?side2 A5.out).mono ?_);(case side1 => exact cb HR1 HB);(case side2 => exact HC1.out);rintro e w8 ⟨rfl,hb⟩;refine ⟨_,rfl,?_⟩;have n0_ := am (below_step (bb HB) hb);clear HB;have HB := n0_;clear n0_;(try clear hb);(try clear hb2);(try clear hk);(try clear hi))|(go_at_call 56;(with_reducible refine (matrix_cols.calls _ _ l1 t677 _ ?side1 ?side2 A7.out).mono ?_);(case side1 => exact cb HR1 HB);(case side2 => exact HC1.out);rintro e w' ⟨rfl,⟨nd,rfl⟩⟩))
   go_meet
   case rel => exact ⟨_,((t677 != (l2.length : Int))),(by first|rfl|(simp;done)|(simp [*];done)),H',⟨by first|omega|exact Nat.le_refl _⟩,⟨bb HB⟩⟩
  ·replace c6 := Bool.eq_false_iff.mpr c6
   subst c6
   rw [if_neg (show ¬ (false = true) by decide)] at H
   have H' := am H
   clear H
   go_wp2_with (first|((with_reducible refine gate_callee (f := 55) rfl ?_);refine goesL_ (some 12) rfl rfl Try.func55 (by kernel_rfl) rfl #[.slice A1 l1.length c1] rfl (by (try simp only [List.map_toArray,List.map_cons,List.map_nil]);first|done|rfl|(simp only [List.length_drop,List.length_take];rfl)) ?_;(with_reducible refine (matrix_rect.calls _ _ l1 false _ ?side1 ?side2 A5.out).mono ?_);(case side1 => exact cb HR1 HB);(case side2 => exact HC1.out);rintro e w9 ⟨rfl,hb⟩;refine ⟨_,rfl,?_⟩;have n0_ := am (below_step (bb HB) hb);clear HB;have HB := n0_;clear n0_;(try clear hb);(try clear hb2);(try clear hk);(try clear hi)))
   go_meet
   case rel => exact ⟨_,(true),(by first|rfl|(simp;done)|(simp [*];done)),H',⟨by first|omega|exact Nat.le_refl _⟩,⟨bb HB⟩⟩
 case rest =>
  clear HC4
  try clear c1
  try clear c2
  try clear p2
  try clear c3
  try clear c5
  try clear c6
  obtain ⟨kq,x20_3,rfl,HA,HJ3,HB⟩ := hcut
  cases kq with
  | zero => exact absurd HA.out (by simp [matrix_Apply.j0])
  | succ kj3 =>
   have H := HA.out
   clear HA
   simp only [matrix_Apply.j0] at H
   by_cases c10 : x20_3 = true
   ·subst c10
    rw [if_pos rfl] at H
    simp only [Option.some.injEq,Prod.mk.injEq] at H
    obtain ⟨rfl,rfl⟩ := H
    go_wp2
    go_ret2
    exact ⟨_,by first|rfl|(simp [errW_none,errW_some] <;> rfl)|(simp [*,errW_none,errW_some] <;> rfl),by first|exact Kd.R_nil _ _ _ _ _|exact Kd.N_nil _ _ _ _ _|exact Kd.V_nil _ _ _ _ _|exact Kd.Q_nil _ _ _ _ _|exact Kd.S_nil _ _ _ _ _,bb HB⟩
   ·replace c10 := Bool.eq_false_iff.mpr c10
    subst c10
    rw [if_neg (show ¬ (false = true) by decide)] at H
    have H' := am H
    clear H
    go_wp2
    go_loopg [8,23] kj3 (fun kq v8 v23 w' => ∃ (x8_2 : List Int) (x23_2 : Int),v23 = .int .i64 x23_2 ∧ Aside0 (matrix_Apply.l0 kq a0 l2 x8_2 l1 (l1.length : Int) x23_2 = some (r1,r2)) ∧ Aside0 (kq ≤ kj3) ∧ Aside0 (Kd.R (Kd.int .u64) 22 w' w.heap.size (fun _ => True) v8 x8_2) ∧ Aside0 (Below w.heap.size w w'))
    case atStart => exact ⟨(([] : List Int)),(0),(by first|rfl|(simp;done)|(simp [*];done)),H',⟨Nat.le_refl _⟩,⟨by first|exact Kd.R_nil _ _ _ _ _|exact Kd.N_nil _ _ _ _ _|exact Kd.V_nil _ _ _ _ _|exact Kd.Q_nil _ _ _ _ _|exact Kd.S_nil _ _ _ _ _⟩,⟨bb HB⟩⟩
    case round =>
     clear H'
     try clear c1
     try clear c2
     try clear p2
     try clear c3
     try clear c5
     try clear c6
     try clear c10
     try clear p2
     obtain ⟨x8_2,x23_2,rfl,HA,HK2,HO_8,HB⟩ := hrel
     cases gk with
     | zero => exact absurd HA.out (by simp [matrix_Apply.l0])
     | succ k2 =>
      have H := HA.out
      clear HA
      simp only [matrix_Apply.l0] at H
      by_cases c11 : x23_2 < (l1.length : Int)
      ·rw [if_pos c11] at H
       have c11b0 : decide (x23_2 < (l1.length : Int)) = true := decide_eq_true c11
       clear c11
       by_cases c12 : 0 ≤ x23_2
       ·rw [if_pos c12] at H
        have c12b0 : decide (0 ≤ x23_2) = true := decide_eq_true c12
        clear c12
        by_cases c13 : x23_2 < (l1.length : Int)
        ·rw [if_pos c13] at H
         have c13b0 : decide (x23_2 < (l1.length : Int)) = true := decide_eq_true c13
         clear c13
         replace H := Option.bind_eq_some_iff.mp H
         obtain ⟨t679,A140,H⟩ := H
         try dsimp only at H
         have A14 := am A140
         clear A140
         by_cases c15 : x8_2.length < 17592186044416
         ·rw [if_pos c15] at H
          have LMc15 := am c15
          clear c15
          obtain ⟨y680,hy680⟩ : ∃ y_ : List Int,y_ = (x8_2 ++ [t679]) := ⟨_,rfl⟩
          replace H : (matrix_Apply.l0 k2 a0 l2 y680 l1 (l1.length : Int) (wrap64 (x23_2 + 1))) = some (r1,r2) := by first|(rw [hy680];with_reducible exact H)|(have H2_ := (Option.bind_some _ _).symm.trans H;rw [hy680];with_reducible exact H2_)|(have H2_ := (Option.bind_some _ _).symm.trans H;with_reducible exact H2_)|with_reducible exact H|(rw [hy680];exact H)|exact H
          have Ny680 := am hy680
          clear hy680
          have H' := am H
          clear H
          have p678 : 0 ≤ (x23_2 : Int) := od
          have q678 : x23_2 < (l1.length : Int) := od
          obtain ⟨ad678,A678_0,c678_0,e678,hx678_0,hl678_0,hi678_0⟩ := at_L2 HR1.out x23_2 p678 q678
          cases e678
          replace hx678_0 := (HB.out.cell (World.block_lt_of_cell? w _ hx678_0)).trans hx678_0
          have HR678_0 := am hi678_0
          have HC678_0 := am hl678_0
          clear hi678_0 hl678_0
          replace p678 := eq_true p678
          replace q678 := eq_true q678
          go_wp2_with (first|((with_reducible refine gate_callee (f := 57) rfl ?_);refine goesL_ (some 31) rfl rfl Try.func57 (by kernel_rfl) rfl #[.int .u64 a0,.slice A678_0 (rd_L2 l1 x23_2).length c678_0,.slice A2 l2.length c2] rfl (by (try simp only [List.map_toArray,List.map_cons,List.map_nil]);first|done|rfl|(simp only [List.length_drop,List.length_take];rfl)) ?_;(with_reducible refine (matrix_dot.calls k2 a0 _ _ (rd_L2 l1 x23_2) _ _ l2 t679 _ ?side1 ?side2 ?side3 ?side4 A14.out).mono ?_);(case side1 => exact cb HR678_0 HB);(case side2 => exact HC678_0.out);(case side3 => exact cb HR2 HB);(case side4 => exact HC2.out);rintro e w' ⟨rfl,⟨nd,rfl⟩⟩;refine ⟨_,rfl,?_⟩)|((with_reducible refine gate_builtin (b := .append) (xs := #[.tmp 27,.tmp 32]) rfl ?_);(try (refine gate_guard (by rfl) ?_;dsimp only));at_builtin;refine Kd.R_append (Kd.int .u64) (w0 := w) w.heap.size rfl (.tmp 27) (.tmp 32) 40 22 (.int .u64 0) 8 rfl Try.underlying40 info22 rfl (by decide) (by omega) u8 x8_2 t679 [.int .u64 t679] (fun _ => True) (fun _ => False) rfl rfl ?aP (fun _ hk => hk.elim) ?aF ?aO ?aB ?aS ?aL ?_;(case aP => exact rfl);(case aB => exact (bb HB));(case aF => exact (fun _ _ => trivial));(case aO => exact (rr HO_8));(case aS => exact (below_size (bb HB)));(case aL => have := LMc15.out;omega);intro v681 w16 ho hb hg hat;rw [← Ny680.out] at ho;have n0_ := am (hb);have n1_ := am (ho);clear HB HO_8;have HB := n0_;have HO682 := n1_;clear n0_ n1_;clear ho hb hg hat))
          go_roundg k2
          case measure => have := HJ3.out;have := HK2.out;omega
          case rel => exact ⟨(y680),(wrap64 (x23_2 + 1)),(by first|rfl|(simp;done)|(simp [*];done)),H',⟨by have := HJ3.out;have := HK2.out;omega⟩,⟨by (with_reducible repeat (first|apply Kd.R_alloc|apply Kd.R_drewN|apply Kd.R_drew));exact HO682.out⟩,⟨bb HB⟩⟩
         ·rw [if_neg c15] at H
          exact absurd H (by simp)
        ·rw [if_neg c13] at H
         exact absurd H (by simp)
       ·rw [if_neg c12] at H
        exact absurd H (by simp)
      ·rw [if_neg c11] at H
       have c11b0 : decide (x23_2 < (l1.length : Int)) = false := decide_eq_false c11
       clear c11
       simp only [Option.some.injEq,Prod.mk.injEq] at H
       obtain ⟨rfl,rfl⟩ := H
       go_wp2
       go_ret2
       exact ⟨_,by first|rfl|(simp [errW_none,errW_some] <;> rfl)|(simp [*,errW_none,errW_some] <;> rfl),by (with_reducible repeat (first|apply Kd.R_alloc|apply Kd.R_drewN|apply Kd.R_drew));exact HO_8.out,bb HB⟩
mutual
def privitylaw07_HyperinvertibleOutputsAreFree.j0 : Nat → Int → List Int → List (S56) → Bool → Option (Bool)
 | 0,_,_,_,_ => none
 | k + 1,x0,x1,x2,x57 => if x57 = true then (some true) else (privitylaw07_HyperinvertibleOutputsAreFree.l0 k x0 x1 x2 ([] : List (S56)) 0)
def privitylaw07_HyperinvertibleOutputsAreFree.l0 : Nat → Int → List Int → List (S56) → List (S56) → Int → Option (Bool)
 | 0,_,_,_,_,_ => none
 | k + 1,x0,x1,x2,x7,x9 => if x9 < (x1.length : Int) then (if 0 ≤ x9 then (if x7.length < 8796093022208 then (privitylaw07_HyperinvertibleOutputsAreFree.l0 k x0 x1 x2 (x7 ++ [(⟨IntKind.u64.wrap (x9),rd x1 x9⟩ : S56)]) (wrap64 (x9 + 1))) else (none)) else (none)) else (privitylaw07_HyperinvertibleOutputsAreFree.l1 k x0 x1 x2 x7 ([] : List Int) 0)
def privitylaw07_HyperinvertibleOutputsAreFree.l1 : Nat → Int → List Int → List (S56) → List (S56) → List Int → Int → Option (Bool)
 | 0,_,_,_,_,_,_ => none
 | k + 1,x0,x1,x2,x7,x8,x10 => if x10 < (x2.length : Int) then (if 0 ≤ x10 then (if ((rd_T56 x2 x10).f0) > 5 then (some true) else (if x8.length < 17592186044416 then (privitylaw07_HyperinvertibleOutputsAreFree.l1 k x0 x1 x2 x7 (x8 ++ [wrap64 ((rd_T56 x2 x10).f0)]) (wrap64 (x10 + 1))) else (none))) else (none)) else ((privitylaw07_unlike.f k x8 6).bind fun t696 => (if t696 = true then ((hyperinvertible_New.f k x0 6 (wrap64 ((x1.length : Int) + (x2.length : Int)))).bind fun bt697 => ((hyperinvertible_Complete.f x0 bt697.1 x7 x2).bind fun bt701 => (if bt697.2 = 0 then (if bt701.2.2 = 0 then (if (bt701.1.length : Int) = (wrap64 ((x1.length : Int) + (x2.length : Int))) then (privitylaw07_HyperinvertibleOutputsAreFree.j3 k x0 x1 x2 x8 bt697.1 bt701.1 bt701.2.1 ((bt701.2.1.length : Int) != 6)) else (privitylaw07_HyperinvertibleOutputsAreFree.j3 k x0 x1 x2 x8 bt697.1 bt701.1 bt701.2.1 true)) else (privitylaw07_HyperinvertibleOutputsAreFree.j3 k x0 x1 x2 x8 bt697.1 bt701.1 bt701.2.1 true)) else (privitylaw07_HyperinvertibleOutputsAreFree.j3 k x0 x1 x2 x8 bt697.1 bt701.1 bt701.2.1 true)))) else (some true)))
def privitylaw07_HyperinvertibleOutputsAreFree.j3 : Nat → Int → List Int → List (S56) → List Int → List (List Int) → List Int → List Int → Bool → Option (Bool)
 | 0,_,_,_,_,_,_,_,_ => none
 | k + 1,x0,x1,x2,x8,x11,x13,x14,x137 => if x137 = true then (some false) else (privitylaw07_HyperinvertibleOutputsAreFree.l2 k x0 x1 x2 x8 x11 x13 x14 0)
def privitylaw07_HyperinvertibleOutputsAreFree.l2 : Nat → Int → List Int → List (S56) → List Int → List (List Int) → List Int → List Int → Int → Option (Bool)
 | 0,_,_,_,_,_,_,_,_ => none
 | k + 1,x0,x1,x2,x8,x11,x13,x14,x16 => if x16 < (x1.length : Int) then (if 0 ≤ x16 then (if x16 < (x13.length : Int) then (if (rd x13 x16) = (rd x1 x16) then (privitylaw07_HyperinvertibleOutputsAreFree.l2 k x0 x1 x2 x8 x11 x13 x14 (wrap64 (x16 + 1))) else (some false)) else (none)) else (none)) else (privitylaw07_HyperinvertibleOutputsAreFree.l3 k x0 x2 x8 x11 x13 x14 0)
def privitylaw07_HyperinvertibleOutputsAreFree.l3 : Nat → Int → List (S56) → List Int → List (List Int) → List Int → List Int → Int → Option (Bool)
 | 0,_,_,_,_,_,_,_ => none
 | k + 1,x0,x2,x8,x11,x13,x14,x17 => if x17 < (x2.length : Int) then (if 0 ≤ x17 then (if x17 < (x8.length : Int) then (if 0 ≤ (rd x8 x17) then (if (rd x8 x17) < (x14.length : Int) then (if (rd x14 (rd x8 x17)) = ((rd_T56 x2 x17).f1) then (privitylaw07_HyperinvertibleOutputsAreFree.l3 k x0 x2 x8 x11 x13 x14 (wrap64 (x17 + 1))) else (some false)) else (none)) else (none)) else (none)) else (none)) else ((matrix_Apply.f k x0 x11 x13).bind fun bt713 => (if bt713.2 = 0 then ((privityref05_Same.f k bt713.1 x14).bind fun t717 => (some t717)) else (some false)))
end
def privitylaw07_HyperinvertibleOutputsAreFree.f (k : Nat) (a0 : Int) (l1 : List Int) (l2 : List (S56)) : Option (Bool) := (privitylaw07_awake.f k).bind fun t683 => (if t683 = true then ((privityref01_Supported.f k a0).bind fun t684 => (if t684 = true then (if (l2.length : Int) > 6 then (privitylaw07_HyperinvertibleOutputsAreFree.j0 k a0 l1 l2 true) else (if (wrap64 ((l1.length : Int) + (l2.length : Int))) > 7 then (privitylaw07_HyperinvertibleOutputsAreFree.j0 k a0 l1 l2 true) else (if (wrap64 ((l1.length : Int) + (l2.length : Int))) < 1 then (privitylaw07_HyperinvertibleOutputsAreFree.j0 k a0 l1 l2 true) else ((privityref05_Below.f k a0 l1).bind fun t685 => (if t685 = true then ((privitylaw07_below.f k a0 l2).bind fun t686 => (privitylaw07_HyperinvertibleOutputsAreFree.j0 k a0 l1 l2 (!t686))) else (privitylaw07_HyperinvertibleOutputsAreFree.j0 k a0 l1 l2 true)))))) else (privitylaw07_HyperinvertibleOutputsAreFree.j0 k a0 l1 l2 true))) else (some false))
set_option maxHeartbeats 8000000 in
set_option maxRecDepth 100000 in
theorem privitylaw07_HyperinvertibleOutputsAreFree.calls (k : Nat) (a0 : Int) (A1 : Option Addr) (c1 : Nat) (l1 : List Int) (A2 : Option Addr) (c2 : Nat) (l2 : List (S56)) (r : Bool) (w : World) (hr1 : Kd.C (Kd.int .u64) w A1 l1.length l1) (hc1 : l1.length ≤ c1) (hr2 : Kd.C k56 w A2 l2.length l2) (hc2 : l2.length ≤ c2) (hr1_ : r = true) (h : privitylaw07_HyperinvertibleOutputsAreFree.f k a0 l1 l2 = some r) :
  Calls Try.prog 8 #[.int .u64 a0,.slice A1 l1.length c1,.slice A2 l2.length c2] w fun e w' => e = .returned (.bool r) ∧ Below w.heap.size w w' := by
 have HRT_ := am hr1_
 clear hr1_
 have hu56 := Try.underlying56
 have HR1 := am hr1
 have HC1 := am hc1
 clear hr1 hc1
 have HR2 := am hr2
 have HC2 := am hc2
 clear hr2 hc2
 have HB := am (Below.refl w.heap.size w)
 have H : ((privitylaw07_awake.f k).bind fun t683 => (if t683 = true then ((privityref01_Supported.f k a0).bind fun t684 => (if t684 = true then (if (l2.length : Int) > 6 then (privitylaw07_HyperinvertibleOutputsAreFree.j0 k a0 l1 l2 true) else (if (wrap64 ((l1.length : Int) + (l2.length : Int))) > 7 then (privitylaw07_HyperinvertibleOutputsAreFree.j0 k a0 l1 l2 true) else (if (wrap64 ((l1.length : Int) + (l2.length : Int))) < 1 then (privitylaw07_HyperinvertibleOutputsAreFree.j0 k a0 l1 l2 true) else ((privityref05_Below.f k a0 l1).bind fun t685 => (if t685 = true then ((privitylaw07_below.f k a0 l2).bind fun t686 => (privitylaw07_HyperinvertibleOutputsAreFree.j0 k a0 l1 l2 (!t686))) else (privitylaw07_HyperinvertibleOutputsAreFree.j0 k a0 l1 l2 true)))))) else (privitylaw07_HyperinvertibleOutputsAreFree.j0 k a0 l1 l2 true))) else (some false))) = some r := h
 clear h
 replace H := Option.bind_eq_some_iff.mp H
 obtain ⟨t683,A40,H⟩ := H
 try dsimp only at H
 have A4 := am A40
 clear A40
 by_cases c5 : t683 = true
 ·subst c5
  rw [if_pos rfl] at H
  have HC6 := am H
  clear H
  go_enter Try.func8,Try.ntmps8
  go_upto_region 3 with (first|(go_at_call 12;(with_reducible refine (privitylaw07_awake.calls k  true _ A4.out).mono ?_);rintro e w7 ⟨rfl,hb⟩;have n0_ := am (below_step (bb HB) hb);clear HB;have HB := n0_;clear n0_;(try clear hb);(try clear hb2);(try clear hk);(try clear hi)))
  repeat (go_quiet (first|(go_at_call 12;(with_reducible refine (privitylaw07_awake.calls k  true _ A4.out).mono ?_);rintro e w7 ⟨rfl,hb⟩;have n0_ := am (below_step (bb HB) hb);clear HB;have HB := n0_;clear n0_;(try clear hb);(try clear hb2);(try clear hk);(try clear hi)));go_upto_region 3 with (first|(go_at_call 12;(with_reducible refine (privitylaw07_awake.calls k  true _ A4.out).mono ?_);rintro e w7 ⟨rfl,hb⟩;have n0_ := am (below_step (bb HB) hb);clear HB;have HB := n0_;clear n0_;(try clear hb);(try clear hb2);(try clear hk);(try clear hi))))
  (try simp only [Act.put,List.setIfInBounds_toArray,List.set_cons_zero,List.set_cons_succ])
  go_cut [57] (fun v57 wc => ∃ (kq : Nat) (x57_5 : Bool),v57 = .bool x57_5 ∧ Aside0 (privitylaw07_HyperinvertibleOutputsAreFree.j0 kq a0 l1 l2 x57_5 = some r) ∧ Aside0 (kq ≤ k) ∧ Aside0 (Below w.heap.size w wc))
  case first =>
   have H := HC6.out
   clear HC6
   replace H := Option.bind_eq_some_iff.mp H
   obtain ⟨t684,A80,H⟩ := H
   try dsimp only at H
   have A8 := am A80
   clear A80
   by_cases c9 : t684 = true
   ·subst c9
    rw [if_pos rfl] at H
    by_cases c10 : (l2.length : Int) > 6
    ·rw [if_pos c10] at H
     have c10b0 : decide (6 < (l2.length : Int)) = true := decide_eq_true c10
     have c10b1 : decide (6 < l2.length) = true := decide_eq_true (by omega)
     clear c10
     (first|rw [c10b0]|(simp only [i64_w,i32_w];rw [c10b0])|skip)
     have H' := am H
     clear H
     go_wp2_with (first|(go_at_call 13;(with_reducible refine (privityref01_Supported.calls k a0 true _ A8.out).mono ?_);rintro e w11 ⟨rfl,hb⟩;have n0_ := am (below_step (bb HB) hb);clear HB;have HB := n0_;clear n0_;(try clear hb);(try clear hb2);(try clear hk);(try clear hi)))
     repeat (go_quiet (first|(go_at_call 13;(with_reducible refine (privityref01_Supported.calls k a0 true _ A8.out).mono ?_);rintro e w11 ⟨rfl,hb⟩;have n0_ := am (below_step (bb HB) hb);clear HB;have HB := n0_;clear n0_;(try clear hb);(try clear hb2);(try clear hk);(try clear hi)));try go_wp2_with (first|(go_at_call 13;(with_reducible refine (privityref01_Supported.calls k a0 true _ A8.out).mono ?_);rintro e w11 ⟨rfl,hb⟩;have n0_ := am (below_step (bb HB) hb);clear HB;have HB := n0_;clear n0_;(try clear hb);(try clear hb2);(try clear hk);(try clear hi))))
     go_meet
     case rel => exact ⟨_,(true),(by first|rfl|(simp;done)|(simp [*];done)),H',⟨by first|omega|exact Nat.le_refl _⟩,⟨bb HB⟩⟩
    ·rw [if_neg c10] at H
     have c10b0 : decide (6 < (l2.length : Int)) = false := decide_eq_false c10
     have c10b1 : decide (6 < l2.length) = false := decide_eq_false (by omega)
     clear c10
     (first|rw [c10b0]|(simp only [i64_w,i32_w];rw [c10b0])|skip)
     by_cases c12 : (wrap64 ((l1.length : Int) + (l2.length : Int))) > 7
     ·rw [if_pos c12] at H
      have c12b0 : decide (7 < (wrap64 ((l1.length : Int) + (l2.length : Int)))) = true := decide_eq_true c12
      clear c12
      have H' := am H
      clear H
      go_wp2_with (first|(go_at_call 13;(with_reducible refine (privityref01_Supported.calls k a0 true _ A8.out).mono ?_);rintro e w13 ⟨rfl,hb⟩;have n0_ := am (below_step (bb HB) hb);clear HB;have HB := n0_;clear n0_;(try clear hb);(try clear hb2);(try clear hk);(try clear hi)))
      repeat (go_quiet (first|(go_at_call 13;(with_reducible refine (privityref01_Supported.calls k a0 true _ A8.out).mono ?_);rintro e w13 ⟨rfl,hb⟩;have n0_ := am (below_step (bb HB) hb);clear HB;have HB := n0_;clear n0_;(try clear hb);(try clear hb2);(try clear hk);(try clear hi)));try go_wp2_with (first|(go_at_call 13;(with_reducible refine (privityref01_Supported.calls k a0 true _ A8.out).mono ?_);rintro e w13 ⟨rfl,hb⟩;have n0_ := am (below_step (bb HB) hb);clear HB;have HB := n0_;clear n0_;(try clear hb);(try clear hb2);(try clear hk);(try clear hi))))
      go_meet
      case rel => exact ⟨_,(true),(by first|rfl|(simp;done)|(simp [*];done)),H',⟨by first|omega|exact Nat.le_refl _⟩,⟨bb HB⟩⟩
     ·rw [if_neg c12] at H
      have c12b0 : decide (7 < (wrap64 ((l1.length : Int) + (l2.length : Int)))) = false := decide_eq_false c12
      clear c12
      by_cases c14 : (wrap64 ((l1.length : Int) + (l2.length : Int))) < 1
      ·rw [if_pos c14] at H
       have c14b0 : decide ((wrap64 ((l1.length : Int) + (l2.length : Int))) < 1) = true := decide_eq_true c14
       clear c14
       have H' := am H
       clear H
       go_wp2_with (first|(go_at_call 13;(with_reducible refine (privityref01_Supported.calls k a0 true _ A8.out).mono ?_);rintro e w15 ⟨rfl,hb⟩;have n0_ := am (below_step (bb HB) hb);clear HB;have HB := n0_;clear n0_;(try clear hb);(try clear hb2);(try clear hk);(try clear hi)))
       repeat (go_quiet (first|(go_at_call 13;(with_reducible refine (privityref01_Supported.calls k a0 true _ A8.out).mono ?_);rintro e w15 ⟨rfl,hb⟩;have n0_ := am (below_step (bb HB) hb);clear HB;have HB := n0_;clear n0_;(try clear hb);(try clear hb2);(try clear hk);(try clear hi)));try go_wp2_with (first|(go_at_call 13;(with_reducible refine (privityref01_Supported.calls k a0 true _ A8.out).mono ?_);rintro e w15 ⟨rfl,hb⟩;have n0_ := am (below_step (bb HB) hb);clear HB;have HB := n0_;clear n0_;(try clear hb);(try clear hb2);(try clear hk);(try clear hi))))
       go_meet
       case rel => exact ⟨_,(true),(by first|rfl|(simp;done)|(simp [*];done)),H',⟨by first|omega|exact Nat.le_refl _⟩,⟨bb HB⟩⟩
      ·rw [if_neg c14] at H
       have c14b0 : decide ((wrap64 ((l1.length : Int) + (l2.length : Int))) < 1) = false := decide_eq_false c14
       clear c14
       replace H := Option.bind_eq_some_iff.mp H
       obtain ⟨t685,A160,H⟩ := H
       try dsimp only at H
       have A16 := am A160
       clear A160
       by_cases c17 : t685 = true
       ·subst c17
        rw [if_pos rfl] at H
        replace H := Option.bind_eq_some_iff.mp H
        obtain ⟨t686,A180,H⟩ := H
        try dsimp only at H
        have A18 := am A180
        clear A180
        have H' := am H
        clear H
        go_wp2_with (first|(go_at_call 13;(with_reducible refine (privityref01_Supported.calls k a0 true _ A8.out).mono ?_);rintro e w19 ⟨rfl,hb⟩;have n0_ := am (below_step (bb HB) hb);clear HB;have HB := n0_;clear n0_;(try clear hb);(try clear hb2);(try clear hk);(try clear hi))|(go_at_call 25;(with_reducible refine (privityref05_Below.calls k a0 _ _ l1 true _ ?side1 ?side2 A16.out).mono ?_);(case side1 => exact cb HR1 HB);(case side2 => exact HC1.out);rintro e w' ⟨rfl,⟨nd,rfl⟩⟩;(try first|exact ⟨rfl,_,World.drewN_drewN _ _ _⟩|exact ⟨rfl,_,Eq.trans (World.drewN_drewN _ _ _) (congrArg (World.drewN _) (Nat.add_assoc _ _ _))⟩))|(go_at_call 21;(with_reducible refine (privitylaw07_below.calls k a0 _ _ l2 t686 _ ?side1 ?side2 A18.out).mono ?_);(case side1 => repeat (first|exact (Kd.C_below HR2.out (bb HB))|(with_reducible refine Kd.C_alloc ?_ _)|(with_reducible refine Kd.C_drewN ?_ _)|(with_reducible refine Kd.C_drew ?_)));(case side2 => exact HC2.out);rintro e w' ⟨rfl,⟨nd,rfl⟩⟩;(try first|exact ⟨rfl,_,World.drewN_drewN _ _ _⟩|exact ⟨rfl,_,Eq.trans (World.drewN_drewN _ _ _) (congrArg (World.drewN _) (Nat.add_assoc _ _ _))⟩)))
        repeat (go_quiet (first|(go_at_call 13;(with_reducible refine (privityref01_Supported.calls k a0 true _ A8.out).mono ?_);rintro e w19 ⟨rfl,hb⟩;have n0_ := am (below_step (bb HB) hb);clear HB;have HB := n0_;clear n0_;(try clear hb);(try clear hb2);(try clear hk);(try clear hi))|(go_at_call 25;(with_reducible refine (privityref05_Below.calls k a0 _ _ l1 true _ ?side1 ?side2 A16.out).mono ?_);(case side1 => exact cb HR1 HB);(case side2 => exact HC1.out);rintro e w' ⟨rfl,⟨nd,rfl⟩⟩;(try first|exact ⟨rfl,_,World.drewN_drewN _ _ _⟩|exact ⟨rfl,_,Eq.trans (World.drewN_drewN _ _ _) (congrArg (World.drewN _) (Nat.add_assoc _ _ _))⟩))|(go_at_call 21;(with_reducible refine (privitylaw07_below.calls k a0 _ _ l2 t686 _ ?side1 ?side2 A18.out).mono ?_);(case side1 => repeat (first|exact (Kd.C_below HR2.out (bb HB))|(with_reducible refine Kd.C_alloc ?_ _)|(with_reducible refine Kd.C_drewN ?_ _)|(with_reducible refine Kd.C_drew ?_)));(case side2 => exact HC2.out);rintro e w' ⟨rfl,⟨nd,rfl⟩⟩;(try first|exact ⟨rfl,_,World.drewN_drewN _ _ _⟩|exact ⟨rfl,_,Eq.trans (World.drewN_drewN _ _ _) (congrArg (World.drewN _) (Nat.add_assoc _ _ _))⟩)));try go_wp2_with (first|(go_at_call 13;(with_reducible refine (privityref01_Supported.calls k a0 true _ A8.out).mono ?_);rintro e w19 ⟨rfl,hb⟩;have n0_ := am (below_step (bb HB) hb);clear HB;have HB := n0_;clear n0_;(try clear hb);(try clear hb2);(try clear hk);(try clear hi))|(go_at_call 25;(with_reducible refine (privityref05_Below.calls k a0 _ _ l1 true _ ?side1 ?side2 A16.out).mono ?_);(case side1 => exact cb HR1 HB);(case side2 => exact HC1.out);rintro e w' ⟨rfl,⟨nd,rfl⟩⟩;(try first|exact ⟨rfl,_,World.drewN_drewN _ _ _⟩|exact ⟨rfl,_,Eq.trans (World.drewN_drewN _ _ _) (congrArg (World.drewN _) (Nat.add_assoc _ _ _))⟩))|(go_at_call 21;(with_reducible refine (privitylaw07_below.calls k a0 _ _ l2 t686 _ ?side1 ?side2 A18.out).mono ?_);(case side1 => repeat (first|exact (Kd.C_below HR2.out (bb HB))|(with_reducible refine Kd.C_alloc ?_ _)|(with_reducible refine Kd.C_drewN ?_ _)|(with_reducible refine Kd.C_drew ?_)));(case side2 => exact HC2.out);rintro e w' ⟨rfl,⟨nd,rfl⟩⟩;(try first|exact ⟨rfl,_,World.drewN_drewN _ _ _⟩|exact ⟨rfl,_,Eq.trans (World.drewN_drewN _ _ _) (congrArg (World.drewN _) (Nat.add_assoc _ _ _))⟩))))
        go_meet
        case rel => exact ⟨_,(!t686),(by first|rfl|(simp;done)|(simp [*];done)),H',⟨by first|omega|exact Nat.le_refl _⟩,⟨bb HB⟩⟩
       ·replace c17 := Bool.eq_false_iff.mpr c17
        subst c17
        rw [if_neg (show ¬ (false = true) by decide)] at H
        have H' := am H
        clear H
        go_wp2_with (first|(go_at_call 13;(with_reducible refine (privityref01_Supported.calls k a0 true _ A8.out).mono ?_);rintro e w20 ⟨rfl,hb⟩;have n0_ := am (below_step (bb HB) hb);clear HB;have HB := n0_;clear n0_;(try clear hb);(try clear hb2);(try clear hk);(try clear hi))|(go_at_call 25;(with_reducible refine (privityref05_Below.calls k a0 _ _ l1 false _ ?side1 ?side2 A16.out).mono ?_);(case side1 => exact cb HR1 HB);(case side2 => exact HC1.out);rintro e w' ⟨rfl,⟨nd,rfl⟩⟩;(try first|exact ⟨rfl,_,World.drewN_drewN _ _ _⟩|exact ⟨rfl,_,Eq.trans (World.drewN_drewN _ _ _) (congrArg (World.drewN _) (Nat.add_assoc _ _ _))⟩)))
        repeat (go_quiet (first|(go_at_call 13;(with_reducible refine (privityref01_Supported.calls k a0 true _ A8.out).mono ?_);rintro e w20 ⟨rfl,hb⟩;have n0_ := am (below_step (bb HB) hb);clear HB;have HB := n0_;clear n0_;(try clear hb);(try clear hb2);(try clear hk);(try clear hi))|(go_at_call 25;(with_reducible refine (privityref05_Below.calls k a0 _ _ l1 false _ ?side1 ?side2 A16.out).mono ?_);(case side1 => exact cb HR1 HB);(case side2 => exact HC1.out);rintro e w' ⟨rfl,⟨nd,rfl⟩⟩;(try first|exact ⟨rfl,_,World.drewN_drewN _ _ _⟩|exact ⟨rfl,_,Eq.trans (World.drewN_drewN _ _ _) (congrArg (World.drewN _) (Nat.add_assoc _ _ _))⟩)));try go_wp2_with (first|(go_at_call 13;(with_reducible refine (privityref01_Supported.calls k a0 true _ A8.out).mono ?_);rintro e w20 ⟨rfl,hb⟩;have n0_ := am (below_step (bb HB) hb);clear HB;have HB := n0_;clear n0_;(try clear hb);(try clear hb2);(try clear hk);(try clear hi))|(go_at_call 25;(with_reducible refine (privityref05_Below.calls k a0 _ _ l1 false _ ?side1 ?side2 A16.out).mono ?_);(case side1 => exact cb HR1 HB);(case side2 => exact HC1.out);rintro e w' ⟨rfl,⟨nd,rfl⟩⟩;(try first|exact ⟨rfl,_,World.drewN_drewN _ _ _⟩|exact ⟨rfl,_,Eq.trans (World.drewN_drewN _ _ _) (congrArg (World.drewN _) (Nat.add_assoc _ _ _))⟩))))
        go_meet
        case rel => exact ⟨_,(true),(by first|rfl|(simp;done)|(simp [*];done)),H',⟨by first|omega|exact Nat.le_refl _⟩,⟨bb HB⟩⟩
   ·replace c9 := Bool.eq_false_iff.mpr c9
    subst c9
    rw [if_neg (show ¬ (false = true) by decide)] at H
    have H' := am H
    clear H
    go_wp2_with (first|(go_at_call 13;(with_reducible refine (privityref01_Supported.calls k a0 false _ A8.out).mono ?_);rintro e w21 ⟨rfl,hb⟩;have n0_ := am (below_step (bb HB) hb);clear HB;have HB := n0_;clear n0_;(try clear hb);(try clear hb2);(try clear hk);(try clear hi)))
    repeat (go_quiet (first|(go_at_call 13;(with_reducible refine (privityref01_Supported.calls k a0 false _ A8.out).mono ?_);rintro e w21 ⟨rfl,hb⟩;have n0_ := am (below_step (bb HB) hb);clear HB;have HB := n0_;clear n0_;(try clear hb);(try clear hb2);(try clear hk);(try clear hi)));try go_wp2_with (first|(go_at_call 13;(with_reducible refine (privityref01_Supported.calls k a0 false _ A8.out).mono ?_);rintro e w21 ⟨rfl,hb⟩;have n0_ := am (below_step (bb HB) hb);clear HB;have HB := n0_;clear n0_;(try clear hb);(try clear hb2);(try clear hk);(try clear hi))))
    go_meet
    case rel => exact ⟨_,(true),(by first|rfl|(simp;done)|(simp [*];done)),H',⟨by first|omega|exact Nat.le_refl _⟩,⟨bb HB⟩⟩
  case rest =>
   clear HC6
   try clear c1
   try clear c2
   try clear p2
   try clear c5
   try clear p6
   try clear c8
   try clear c9
   try clear c10
   try clear c10b0
   try clear c10b1
   try clear c12
   try clear c12b0
   try clear c14
   try clear c14b0
   try clear c17
   obtain ⟨kq,x57_5,rfl,HA,HJ5,HB⟩ := hcut
   cases kq with
   | zero => exact absurd HA.out (by simp [privitylaw07_HyperinvertibleOutputsAreFree.j0])
   | succ kj5 =>
    have H := HA.out
    clear HA
    simp only [privitylaw07_HyperinvertibleOutputsAreFree.j0] at H
    by_cases c22 : x57_5 = true
    ·subst c22
     rw [if_pos rfl] at H
     obtain rfl := Option.some.inj H
     go_wp2
     repeat (go_quiet (fail);try go_wp2)
     go_ret
     exact ⟨by first|rfl|(simp [errW_none,errW_some] <;> rfl)|(simp [*,errW_none,errW_some] <;> rfl),bb HB⟩
    ·replace c22 := Bool.eq_false_iff.mpr c22
     subst c22
     rw [if_neg (show ¬ (false = true) by decide)] at H
     have H' := am H
     clear H
     go_wp2
     repeat (go_quiet (fail);try go_wp2)
     go_loopg [7,9] kj5 (fun kq v7 v9 w' => ∃ (x7_2 : List (S56)) (x9_2 : Int),v9 = .int .i64 x9_2 ∧ Aside0 (privitylaw07_HyperinvertibleOutputsAreFree.l0 kq a0 l1 l2 x7_2 x9_2 = some r) ∧ Aside0 (kq ≤ kj5) ∧ Aside0 (Kd.R k56 56 w' w.heap.size (fun _ => True) v7 x7_2) ∧ Aside0 (Below w.heap.size w w'))
     case atStart => exact ⟨(([] : List (S56))),(0),(by first|rfl|(simp;done)|(simp [*];done)),H',⟨Nat.le_refl _⟩,⟨by first|exact Kd.R_nil _ _ _ _ _|exact Kd.N_nil _ _ _ _ _|exact Kd.V_nil _ _ _ _ _|exact Kd.Q_nil _ _ _ _ _|exact Kd.S_nil _ _ _ _ _⟩,⟨bb HB⟩⟩
     case round =>
      clear H'
      try clear c1
      try clear c2
      try clear p2
      try clear c5
      try clear p6
      try clear c8
      try clear c9
      try clear c10
      try clear c10b0
      try clear c10b1
      try clear c12
      try clear c12b0
      try clear c14
      try clear c14b0
      try clear c17
      try clear c22
      try clear p2
      try clear p6
      obtain ⟨x7_2,x9_2,rfl,HA,HK2,HO_7,HB⟩ := hrel
      cases gk with
      | zero => exact absurd HA.out (by simp [privitylaw07_HyperinvertibleOutputsAreFree.l0])
      | succ k2 =>
       have H := HA.out
       clear HA
       simp only [privitylaw07_HyperinvertibleOutputsAreFree.l0] at H
       by_cases c23 : x9_2 < (l1.length : Int)
       ·rw [if_pos c23] at H
        have c23b0 : decide (x9_2 < (l1.length : Int)) = true := decide_eq_true c23
        clear c23
        by_cases c24 : 0 ≤ x9_2
        ·rw [if_pos c24] at H
         have c24b0 : decide (0 ≤ x9_2) = true := decide_eq_true c24
         clear c24
         by_cases c25 : x7_2.length < 8796093022208
         ·rw [if_pos c25] at H
          have LMc25 := am c25
          clear c25
          obtain ⟨y688,hy688⟩ : ∃ y_ : List (S56),y_ = (x7_2 ++ [(⟨IntKind.u64.wrap (x9_2),rd l1 x9_2⟩ : S56)]) := ⟨_,rfl⟩
          replace H : (privitylaw07_HyperinvertibleOutputsAreFree.l0 k2 a0 l1 l2 y688 (wrap64 (x9_2 + 1))) = some r := by first|(rw [hy688];with_reducible exact H)|(have H2_ := (Option.bind_some _ _).symm.trans H;rw [hy688];with_reducible exact H2_)|(have H2_ := (Option.bind_some _ _).symm.trans H;with_reducible exact H2_)|with_reducible exact H|(rw [hy688];exact H)|exact H
          have Ny688 := am hy688
          clear hy688
          have H' := am H
          clear H
          have p687 : 0 ≤ (x9_2 : Int) := od
          have q687 : x9_2 < (l1.length : Int) := od
          obtain ⟨ad687,e687,hx687_0⟩ := Kd.at_int HR1.out x9_2 p687 q687
          cases e687
          replace hx687_0 := (HB.out.cell (World.block_lt_of_cell? w _ hx687_0)).trans hx687_0
          replace p687 := eq_true p687
          replace q687 := eq_true q687
          go_wp2_with (first|((with_reducible refine gate_builtin (b := .append) (xs := #[.tmp 64,.tmp 72]) rfl ?_);(try (refine gate_guard (by rfl) ?_;dsimp only));at_builtin;refine Kd.R_append k56 (w0 := w) w.heap.size rfl (.tmp 64) (.tmp 72) 35 56 (.agg #[(.int .u64 0),(.int .u64 0)]) 16 rfl Try.underlying35 info56 rfl (by decide) (by omega) u7 x7_2 (⟨IntKind.u64.wrap (x9_2),rd l1 x9_2⟩ : S56) [.int .u64 (IntKind.u64.wrap (x9_2)),.int .u64 (rd l1 x9_2)] (fun _ => True) (fun _ => False) rfl rfl ?aP (fun _ hk => hk.elim) ?aF ?aO ?aB ?aS ?aL ?_;(case aP => exact k56_mkM _ _ _ (⟨IntKind.u64.wrap (x9_2),rd l1 x9_2⟩ : S56));(case aB => exact (bb HB));(case aF => exact (fun _ _ => trivial));(case aO => exact (rr HO_7));(case aS => exact (below_size (bb HB)));(case aL => have := LMc25.out;omega);intro v689 w26 ho hb hg hat;rw [← Ny688.out] at ho;have n0_ := am (hb);have n1_ := am (ho);clear HB HO_7;have HB := n0_;have HO690 := n1_;clear n0_ n1_;clear ho hb hg hat))
          repeat (go_quiet (first|((with_reducible refine gate_builtin (b := .append) (xs := #[.tmp 64,.tmp 72]) rfl ?_);(try (refine gate_guard (by rfl) ?_;dsimp only));at_builtin;refine Kd.R_append k56 (w0 := w) w.heap.size rfl (.tmp 64) (.tmp 72) 35 56 (.agg #[(.int .u64 0),(.int .u64 0)]) 16 rfl Try.underlying35 info56 rfl (by decide) (by omega) u7 x7_2 (⟨IntKind.u64.wrap (x9_2),rd l1 x9_2⟩ : S56) [.int .u64 (IntKind.u64.wrap (x9_2)),.int .u64 (rd l1 x9_2)] (fun _ => True) (fun _ => False) rfl rfl ?aP (fun _ hk => hk.elim) ?aF ?aO ?aB ?aS ?aL ?_;(case aP => exact k56_mkM _ _ _ (⟨IntKind.u64.wrap (x9_2),rd l1 x9_2⟩ : S56));(case aB => exact (bb HB));(case aF => exact (fun _ _ => trivial));(case aO => exact (rr HO_7));(case aS => exact (below_size (bb HB)));(case aL => have := LMc25.out;omega);intro v689 w26 ho hb hg hat;rw [← Ny688.out] at ho;have n0_ := am (hb);have n1_ := am (ho);clear HB HO_7;have HB := n0_;have HO690 := n1_;clear n0_ n1_;clear ho hb hg hat));try go_wp2_with (first|((with_reducible refine gate_builtin (b := .append) (xs := #[.tmp 64,.tmp 72]) rfl ?_);(try (refine gate_guard (by rfl) ?_;dsimp only));at_builtin;refine Kd.R_append k56 (w0 := w) w.heap.size rfl (.tmp 64) (.tmp 72) 35 56 (.agg #[(.int .u64 0),(.int .u64 0)]) 16 rfl Try.underlying35 info56 rfl (by decide) (by omega) u7 x7_2 (⟨IntKind.u64.wrap (x9_2),rd l1 x9_2⟩ : S56) [.int .u64 (IntKind.u64.wrap (x9_2)),.int .u64 (rd l1 x9_2)] (fun _ => True) (fun _ => False) rfl rfl ?aP (fun _ hk => hk.elim) ?aF ?aO ?aB ?aS ?aL ?_;(case aP => exact k56_mkM _ _ _ (⟨IntKind.u64.wrap (x9_2),rd l1 x9_2⟩ : S56));(case aB => exact (bb HB));(case aF => exact (fun _ _ => trivial));(case aO => exact (rr HO_7));(case aS => exact (below_size (bb HB)));(case aL => have := LMc25.out;omega);intro v689 w26 ho hb hg hat;rw [← Ny688.out] at ho;have n0_ := am (hb);have n1_ := am (ho);clear HB HO_7;have HB := n0_;have HO690 := n1_;clear n0_ n1_;clear ho hb hg hat)))
          go_roundg k2
          case measure => have := HJ5.out;have := HK2.out;omega
          case rel => exact ⟨(y688),(wrap64 (x9_2 + 1)),(by first|rfl|(simp;done)|(simp [*];done)),H',⟨by have := HJ5.out;have := HK2.out;omega⟩,⟨by (with_reducible repeat (first|apply Kd.R_alloc|apply Kd.R_drewN|apply Kd.R_drew));exact HO690.out⟩,⟨bb HB⟩⟩
         ·rw [if_neg c25] at H
          exact absurd H (by simp)
        ·rw [if_neg c24] at H
         exact absurd H (by simp)
       ·rw [if_neg c23] at H
        have c23b0 : decide (x9_2 < (l1.length : Int)) = false := decide_eq_false c23
        clear c23
        have H' := am H
        clear H
        go_wp2
        repeat (go_quiet (fail);try go_wp2)
        go_loopg [8,10] k2 (fun kq v8 v10 w' => ∃ (x8_3 : List Int) (x10_3 : Int),v10 = .int .i64 x10_3 ∧ Aside0 (privitylaw07_HyperinvertibleOutputsAreFree.l1 kq a0 l1 l2 x7_2 x8_3 x10_3 = some r) ∧ Aside0 (kq ≤ k2) ∧ Aside0 (Kd.R k56 56 w' w.heap.size (fun _ => True) u7 x7_2) ∧ Aside0 (Kd.R (Kd.int .i64) 3 w' w.heap.size (fun _ => True) v8 x8_3) ∧ Aside0 (Below w.heap.size w w'))
        case atStart => exact ⟨(([] : List Int)),(0),(by first|rfl|(simp;done)|(simp [*];done)),H',⟨Nat.le_refl _⟩,⟨by (with_reducible repeat (first|apply Kd.R_alloc|apply Kd.R_drewN|apply Kd.R_drew));exact HO_7.out⟩,⟨by first|exact Kd.R_nil _ _ _ _ _|exact Kd.N_nil _ _ _ _ _|exact Kd.V_nil _ _ _ _ _|exact Kd.Q_nil _ _ _ _ _|exact Kd.S_nil _ _ _ _ _⟩,⟨bb HB⟩⟩
        case round =>
         clear H'
         try clear c1
         try clear c2
         try clear p2
         try clear c5
         try clear p6
         try clear q6
         try clear hx6
         try clear c8
         try clear c9
         try clear c10
         try clear c10b0
         try clear c10b1
         try clear c12
         try clear c12b0
         try clear c14
         try clear c14b0
         try clear c17
         try clear c22
         try clear c23
         try clear c23b0
         try clear c24
         try clear c24b0
         try clear c25
         try clear hx687_0
         try clear p2
         try clear p6
         try clear p687
         try clear q687
         obtain ⟨x8_3,x10_3,rfl,HA,HK3,HO_7,HO_8,HB⟩ := hrel
         cases gk with
         | zero => exact absurd HA.out (by simp [privitylaw07_HyperinvertibleOutputsAreFree.l1])
         | succ k3 =>
          have H := HA.out
          clear HA
          simp only [privitylaw07_HyperinvertibleOutputsAreFree.l1] at H
          by_cases c27 : x10_3 < (l2.length : Int)
          ·rw [if_pos c27] at H
           have c27b0 : decide (x10_3 < (l2.length : Int)) = true := decide_eq_true c27
           clear c27
           by_cases c28 : 0 ≤ x10_3
           ·rw [if_pos c28] at H
            have c28b0 : decide (0 ≤ x10_3) = true := decide_eq_true c28
            clear c28
            by_cases c29 : ((rd_T56 l2 x10_3).f0) > 5
            ·rw [if_pos c29] at H
             have c29b0 : decide (5 < ((rd_T56 l2 x10_3).f0)) = true := decide_eq_true c29
             clear c29
             obtain rfl := Option.some.inj H
             have p691 : 0 ≤ (x10_3 : Int) := od
             have q691 : x10_3 < (l2.length : Int) := od
             obtain ⟨ad691,e691,hx691_0,hx691_1⟩ := at_T56 HR2.out x10_3 p691 q691
             cases e691
             replace hx691_0 := (HB.out.cell (World.block_lt_of_cell? w _ hx691_0)).trans hx691_0
             replace hx691_1 := (HB.out.cell (World.block_lt_of_cell? w _ hx691_1)).trans hx691_1
             replace p691 := eq_true p691
             replace q691 := eq_true q691
             go_wp2
             repeat (go_quiet (fail);try go_wp2)
             go_ret
             exact ⟨by first|rfl|(simp [errW_none,errW_some] <;> rfl)|(simp [*,errW_none,errW_some] <;> rfl),bb HB⟩
            ·rw [if_neg c29] at H
             have c29b0 : decide (5 < ((rd_T56 l2 x10_3).f0)) = false := decide_eq_false c29
             clear c29
             by_cases c30 : x8_3.length < 17592186044416
             ·rw [if_pos c30] at H
              have LMc30 := am c30
              clear c30
              obtain ⟨y693,hy693⟩ : ∃ y_ : List Int,y_ = (x8_3 ++ [wrap64 ((rd_T56 l2 x10_3).f0)]) := ⟨_,rfl⟩
              replace H : (privitylaw07_HyperinvertibleOutputsAreFree.l1 k3 a0 l1 l2 x7_2 y693 (wrap64 (x10_3 + 1))) = some r := by first|(rw [hy693];with_reducible exact H)|(have H2_ := (Option.bind_some _ _).symm.trans H;rw [hy693];with_reducible exact H2_)|(have H2_ := (Option.bind_some _ _).symm.trans H;with_reducible exact H2_)|with_reducible exact H|(rw [hy693];exact H)|exact H
              have Ny693 := am hy693
              clear hy693
              have H' := am H
              clear H
              have p691 : 0 ≤ (x10_3 : Int) := od
              have q691 : x10_3 < (l2.length : Int) := od
              obtain ⟨ad691,e691,hx691_0,hx691_1⟩ := at_T56 HR2.out x10_3 p691 q691
              cases e691
              replace hx691_0 := (HB.out.cell (World.block_lt_of_cell? w _ hx691_0)).trans hx691_0
              replace hx691_1 := (HB.out.cell (World.block_lt_of_cell? w _ hx691_1)).trans hx691_1
              replace p691 := eq_true p691
              replace q691 := eq_true q691
              have p692 : 0 ≤ (x10_3 : Int) := od
              have q692 : x10_3 < (l2.length : Int) := od
              obtain ⟨ad692,e692,hx692_0,hx692_1⟩ := at_T56 HR2.out x10_3 p692 q692
              obtain rfl : ad691 = ad692 := (by injection e692)
              replace hx692_0 := (HB.out.cell (World.block_lt_of_cell? w _ hx692_0)).trans hx692_0
              replace hx692_1 := (HB.out.cell (World.block_lt_of_cell? w _ hx692_1)).trans hx692_1
              replace p692 := eq_true p692
              replace q692 := eq_true q692
              go_wp2_with (first|((with_reducible refine gate_builtin (b := .append) (xs := #[.tmp 86,.tmp 93]) rfl ?_);(try (refine gate_guard (by rfl) ?_;dsimp only));at_builtin;refine Kd.R_append (Kd.int .i64) (w0 := w) w.heap.size rfl (.tmp 86) (.tmp 93) 31 3 (.int .i64 0) 8 rfl Try.underlying31 info3 rfl (by decide) (by omega) u8 x8_3 (wrap64 ((rd_T56 l2 x10_3).f0)) [.int .i64 (wrap64 ((rd_T56 l2 x10_3).f0))] (fun _ => True) (fun _ => False) rfl rfl ?aP (fun _ hk => hk.elim) ?aF ?aO ?aB ?aS ?aL ?_;(case aP => exact rfl);(case aB => exact (bb HB));(case aF => exact (fun _ _ => trivial));(case aO => exact (rr HO_8));(case aS => exact (below_size (bb HB)));(case aL => have := LMc30.out;omega);intro v694 w31 ho hb hg hat;rw [← Ny693.out] at ho;have n0_ := am (Kd.R_over' (rr HO_7) (Kd.R_typed (rr HO_8)) (by decide) hg);have n1_ := am (hb);have n2_ := am (ho);clear HO_7 HB HO_8;have HO_7 := n0_;have HB := n1_;have HO695 := n2_;clear n0_ n1_ n2_;clear ho hb hg hat))
              repeat (go_quiet (first|((with_reducible refine gate_builtin (b := .append) (xs := #[.tmp 86,.tmp 93]) rfl ?_);(try (refine gate_guard (by rfl) ?_;dsimp only));at_builtin;refine Kd.R_append (Kd.int .i64) (w0 := w) w.heap.size rfl (.tmp 86) (.tmp 93) 31 3 (.int .i64 0) 8 rfl Try.underlying31 info3 rfl (by decide) (by omega) u8 x8_3 (wrap64 ((rd_T56 l2 x10_3).f0)) [.int .i64 (wrap64 ((rd_T56 l2 x10_3).f0))] (fun _ => True) (fun _ => False) rfl rfl ?aP (fun _ hk => hk.elim) ?aF ?aO ?aB ?aS ?aL ?_;(case aP => exact rfl);(case aB => exact (bb HB));(case aF => exact (fun _ _ => trivial));(case aO => exact (rr HO_8));(case aS => exact (below_size (bb HB)));(case aL => have := LMc30.out;omega);intro v694 w31 ho hb hg hat;rw [← Ny693.out] at ho;have n0_ := am (Kd.R_over' (rr HO_7) (Kd.R_typed (rr HO_8)) (by decide) hg);have n1_ := am (hb);have n2_ := am (ho);clear HO_7 HB HO_8;have HO_7 := n0_;have HB := n1_;have HO695 := n2_;clear n0_ n1_ n2_;clear ho hb hg hat));try go_wp2_with (first|((with_reducible refine gate_builtin (b := .append) (xs := #[.tmp 86,.tmp 93]) rfl ?_);(try (refine gate_guard (by rfl) ?_;dsimp only));at_builtin;refine Kd.R_append (Kd.int .i64) (w0 := w) w.heap.size rfl (.tmp 86) (.tmp 93) 31 3 (.int .i64 0) 8 rfl Try.underlying31 info3 rfl (by decide) (by omega) u8 x8_3 (wrap64 ((rd_T56 l2 x10_3).f0)) [.int .i64 (wrap64 ((rd_T56 l2 x10_3).f0))] (fun _ => True) (fun _ => False) rfl rfl ?aP (fun _ hk => hk.elim) ?aF ?aO ?aB ?aS ?aL ?_;(case aP => exact rfl);(case aB => exact (bb HB));(case aF => exact (fun _ _ => trivial));(case aO => exact (rr HO_8));(case aS => exact (below_size (bb HB)));(case aL => have := LMc30.out;omega);intro v694 w31 ho hb hg hat;rw [← Ny693.out] at ho;have n0_ := am (Kd.R_over' (rr HO_7) (Kd.R_typed (rr HO_8)) (by decide) hg);have n1_ := am (hb);have n2_ := am (ho);clear HO_7 HB HO_8;have HO_7 := n0_;have HB := n1_;have HO695 := n2_;clear n0_ n1_ n2_;clear ho hb hg hat)))
              go_roundg k3
              case measure => have := HJ5.out;have := HK2.out;have := HK3.out;omega
              case rel => exact ⟨(y693),(wrap64 (x10_3 + 1)),(by first|rfl|(simp;done)|(simp [*];done)),H',⟨by have := HJ5.out;have := HK2.out;have := HK3.out;omega⟩,⟨by (with_reducible repeat (first|apply Kd.R_alloc|apply Kd.R_drewN|apply Kd.R_drew));exact HO_7.out⟩,⟨by (with_reducible repeat (first|apply Kd.R_alloc|apply Kd.R_drewN|apply Kd.R_drew));exact HO695.out⟩,⟨bb HB⟩⟩
             ·rw [if_neg c30] at H
              exact absurd H (by simp)
           ·rw [if_neg c28] at H
            exact absurd H (by simp)
          ·rw [if_neg c27] at H
           have c27b0 : decide (x10_3 < (l2.length : Int)) = false := decide_eq_false c27
           clear c27
           replace H := Option.bind_eq_some_iff.mp H
           obtain ⟨t696,A320,H⟩ := H
           try dsimp only at H
           have A32 := am A320
           clear A320
           by_cases c33 : t696 = true
           ·subst c33
            rw [if_pos rfl] at H
            replace H := Option.bind_eq_some_iff.mp H
            obtain ⟨⟨t697,t698⟩,A340,H⟩ := H
            try dsimp only at H
            have A34 := am A340
            clear A340
            replace H := Option.bind_eq_some_iff.mp H
            obtain ⟨⟨t701,t702,t703⟩,A350,H⟩ := H
            try dsimp only at H
            have A35 := am A350
            clear A350
            have HC36 := am H
            clear H
            obtain ⟨Ao37,co37,eo37⟩ := Kd.R_slice HO_8.out
            subst eo37
            go_upto_region 21 with (first|(go_at_call 29;(with_reducible refine (privitylaw07_unlike.calls k3 _ _ x8_3 6 true _ ?side1 ?side2 A32.out).mono ?_);(case side1 => exact cr HO_8);(case side2 => exact (Kd.R_reads' HO_8.out).2.1);rintro e w' ⟨rfl,⟨nd,rfl⟩⟩;(try first|exact ⟨rfl,_,World.drewN_drewN _ _ _⟩|exact ⟨rfl,_,Eq.trans (World.drewN_drewN _ _ _) (congrArg (World.drewN _) (Nat.add_assoc _ _ _))⟩))|(go_at_call 14;(with_reducible refine (hyperinvertible_New.calls k3 a0 6 (wrap64 ((l1.length : Int) + (l2.length : Int))) t697 t698 _ A34.out).mono ?_);rintro e w38 ⟨v699,rfl,ho0,hb⟩;have n0_ := am (Kd.R_below (rr HO_7) hb);have n1_ := am (Kd.R_below (rr HO_8) hb);have n2_ := am (Kd.S_lower ho0 (below_size (bb HB)));have n3_ := am (below_step (bb HB) hb);clear HO_7 HO_8 HB;have HO_7 := n0_;have HO_8 := n1_;have HO700 := n2_;have HB := n3_;clear n0_ n1_ n2_ n3_;(try clear hb);(try clear hb2);(try clear hk);(try clear hi);(try clear ho0);obtain ⟨Ao39,co39,eo39⟩ := Kd.S_slice HO700.out;subst eo39;obtain ⟨Ao40,co40,eo40⟩ := Kd.R_slice HO_7.out;subst eo40)|(go_at_call 22;(with_reducible refine (hyperinvertible_Complete.calls a0 _ _ t697 _ _ x7_2 _ _ l2 t701 t702 t703 _ ?side1 ?side2 ?side3 ?side4 ?side5 ?side6 A35.out).mono ?_);(case side1 => repeat (first|exact (Kd.S_reads' HO700.out).2.2|(with_reducible refine Kd.C_alloc ?_ _)|(with_reducible refine Kd.C_drewN ?_ _)|(with_reducible refine Kd.C_drew ?_)));(case side2 => exact (Kd.S_reads' HO700.out).2.1);(case side3 => exact cr HO_7);(case side4 => exact (Kd.R_reads' HO_7.out).2.1);(case side5 => exact cb HR2 HB);(case side6 => exact HC2.out);rintro e w41 ⟨v704,v706,rfl,ho0,ho1,hb⟩;have n0_ := am (Kd.R_below (rr HO_7) hb);have n1_ := am (Kd.R_below (rr HO_8) hb);have n2_ := am (Kd.S_mono (Kd.S_told (Kd.S_told (Kd.S_old (by (with_reducible repeat (first|apply Kd.S_alloc|apply Kd.S_drewN|apply Kd.S_drew));exact HO700.out) hb) (Kd.R_base ho0)) (Kd.R_base ho1)) (fun _ h_ => h_.1));have n3_ := am (Kd.R_lower ho0 (below_size (bb HB)));have n4_ := am (Kd.R_lower ho1 (below_size (bb HB)));have n5_ := am (below_step (bb HB) hb);clear HO_7 HO_8 HO700 HB;have HO_7 := n0_;have HO_8 := n1_;have HO700 := n2_;have HO705 := n3_;have HO707 := n4_;have HB := n5_;clear n0_ n1_ n2_ n3_ n4_ n5_;(try clear hb);(try clear hb2);(try clear hk);(try clear hi);(try clear ho0);(try clear ho1)))
            repeat (go_quiet (first|(go_at_call 29;(with_reducible refine (privitylaw07_unlike.calls k3 _ _ x8_3 6 true _ ?side1 ?side2 A32.out).mono ?_);(case side1 => exact cr HO_8);(case side2 => exact (Kd.R_reads' HO_8.out).2.1);rintro e w' ⟨rfl,⟨nd,rfl⟩⟩;(try first|exact ⟨rfl,_,World.drewN_drewN _ _ _⟩|exact ⟨rfl,_,Eq.trans (World.drewN_drewN _ _ _) (congrArg (World.drewN _) (Nat.add_assoc _ _ _))⟩))|(go_at_call 14;(with_reducible refine (hyperinvertible_New.calls k3 a0 6 (wrap64 ((l1.length : Int) + (l2.length : Int))) t697 t698 _ A34.out).mono ?_);rintro e w38 ⟨v699,rfl,ho0,hb⟩;have n0_ := am (Kd.R_below (rr HO_7) hb);have n1_ := am (Kd.R_below (rr HO_8) hb);have n2_ := am (Kd.S_lower ho0 (below_size (bb HB)));have n3_ := am (below_step (bb HB) hb);clear HO_7 HO_8 HB;have HO_7 := n0_;have HO_8 := n1_;have HO700 := n2_;have HB := n3_;clear n0_ n1_ n2_ n3_;(try clear hb);(try clear hb2);(try clear hk);(try clear hi);(try clear ho0);obtain ⟨Ao39,co39,eo39⟩ := Kd.S_slice HO700.out;subst eo39;obtain ⟨Ao40,co40,eo40⟩ := Kd.R_slice HO_7.out;subst eo40)|(go_at_call 22;(with_reducible refine (hyperinvertible_Complete.calls a0 _ _ t697 _ _ x7_2 _ _ l2 t701 t702 t703 _ ?side1 ?side2 ?side3 ?side4 ?side5 ?side6 A35.out).mono ?_);(case side1 => repeat (first|exact (Kd.S_reads' HO700.out).2.2|(with_reducible refine Kd.C_alloc ?_ _)|(with_reducible refine Kd.C_drewN ?_ _)|(with_reducible refine Kd.C_drew ?_)));(case side2 => exact (Kd.S_reads' HO700.out).2.1);(case side3 => exact cr HO_7);(case side4 => exact (Kd.R_reads' HO_7.out).2.1);(case side5 => exact cb HR2 HB);(case side6 => exact HC2.out);rintro e w41 ⟨v704,v706,rfl,ho0,ho1,hb⟩;have n0_ := am (Kd.R_below (rr HO_7) hb);have n1_ := am (Kd.R_below (rr HO_8) hb);have n2_ := am (Kd.S_mono (Kd.S_told (Kd.S_told (Kd.S_old (by (with_reducible repeat (first|apply Kd.S_alloc|apply Kd.S_drewN|apply Kd.S_drew));exact HO700.out) hb) (Kd.R_base ho0)) (Kd.R_base ho1)) (fun _ h_ => h_.1));have n3_ := am (Kd.R_lower ho0 (below_size (bb HB)));have n4_ := am (Kd.R_lower ho1 (below_size (bb HB)));have n5_ := am (below_step (bb HB) hb);clear HO_7 HO_8 HO700 HB;have HO_7 := n0_;have HO_8 := n1_;have HO700 := n2_;have HO705 := n3_;have HO707 := n4_;have HB := n5_;clear n0_ n1_ n2_ n3_ n4_ n5_;(try clear hb);(try clear hb2);(try clear hk);(try clear hi);(try clear ho0);(try clear ho1)));go_upto_region 21 with (first|(go_at_call 29;(with_reducible refine (privitylaw07_unlike.calls k3 _ _ x8_3 6 true _ ?side1 ?side2 A32.out).mono ?_);(case side1 => exact cr HO_8);(case side2 => exact (Kd.R_reads' HO_8.out).2.1);rintro e w' ⟨rfl,⟨nd,rfl⟩⟩;(try first|exact ⟨rfl,_,World.drewN_drewN _ _ _⟩|exact ⟨rfl,_,Eq.trans (World.drewN_drewN _ _ _) (congrArg (World.drewN _) (Nat.add_assoc _ _ _))⟩))|(go_at_call 14;(with_reducible refine (hyperinvertible_New.calls k3 a0 6 (wrap64 ((l1.length : Int) + (l2.length : Int))) t697 t698 _ A34.out).mono ?_);rintro e w38 ⟨v699,rfl,ho0,hb⟩;have n0_ := am (Kd.R_below (rr HO_7) hb);have n1_ := am (Kd.R_below (rr HO_8) hb);have n2_ := am (Kd.S_lower ho0 (below_size (bb HB)));have n3_ := am (below_step (bb HB) hb);clear HO_7 HO_8 HB;have HO_7 := n0_;have HO_8 := n1_;have HO700 := n2_;have HB := n3_;clear n0_ n1_ n2_ n3_;(try clear hb);(try clear hb2);(try clear hk);(try clear hi);(try clear ho0);obtain ⟨Ao39,co39,eo39⟩ := Kd.S_slice HO700.out;subst eo39;obtain ⟨Ao40,co40,eo40⟩ := Kd.R_slice HO_7.out;subst eo40)|(go_at_call 22;(with_reducible refine (hyperinvertible_Complete.calls a0 _ _ t697 _ _ x7_2 _ _ l2 t701 t702 t703 _ ?side1 ?side2 ?side3 ?side4 ?side5 ?side6 A35.out).mono ?_);(case side1 => repeat (first|exact (Kd.S_reads' HO700.out).2.2|(with_reducible refine Kd.C_alloc ?_ _)|(with_reducible refine Kd.C_drewN ?_ _)|(with_reducible refine Kd.C_drew ?_)));(case side2 => exact (Kd.S_reads' HO700.out).2.1);(case side3 => exact cr HO_7);(case side4 => exact (Kd.R_reads' HO_7.out).2.1);(case side5 => exact cb HR2 HB);(case side6 => exact HC2.out);rintro e w41 ⟨v704,v706,rfl,ho0,ho1,hb⟩;have n0_ := am (Kd.R_below (rr HO_7) hb);have n1_ := am (Kd.R_below (rr HO_8) hb);have n2_ := am (Kd.S_mono (Kd.S_told (Kd.S_told (Kd.S_old (by (with_reducible repeat (first|apply Kd.S_alloc|apply Kd.S_drewN|apply Kd.S_drew));exact HO700.out) hb) (Kd.R_base ho0)) (Kd.R_base ho1)) (fun _ h_ => h_.1));have n3_ := am (Kd.R_lower ho0 (below_size (bb HB)));have n4_ := am (Kd.R_lower ho1 (below_size (bb HB)));have n5_ := am (below_step (bb HB) hb);clear HO_7 HO_8 HO700 HB;have HO_7 := n0_;have HO_8 := n1_;have HO700 := n2_;have HO705 := n3_;have HO707 := n4_;have HB := n5_;clear n0_ n1_ n2_ n3_ n4_ n5_;(try clear hb);(try clear hb2);(try clear hk);(try clear hi);(try clear ho0);(try clear ho1))))
            (try simp only [Act.put,List.setIfInBounds_toArray,List.set_cons_zero,List.set_cons_succ])
            go_cut [137] (fun v137 wc => ∃ (kq : Nat) (x137_35 : Bool),v137 = .bool x137_35 ∧ Aside0 (privitylaw07_HyperinvertibleOutputsAreFree.j3 kq a0 l1 l2 x8_3 t697 t701 t702 x137_35 = some r) ∧ Aside0 (kq ≤ k3) ∧ Aside0 (Kd.R (Kd.int .i64) 3 wc w.heap.size (fun _ => True) (.slice Ao37 x8_3.length co37) x8_3) ∧ Aside0 (Kd.S (Kd.slice 22 (Kd.int .u64)) 40 wc w.heap.size (fun k_ => some k_ ≠ (v704 : Value).ownBlock ∧ some k_ ≠ (v706 : Value).ownBlock) (.slice Ao39 t697.length co39) t697) ∧ Aside0 (Kd.R (Kd.int .u64) 22 wc w.heap.size (fun _ => True) v704 t701) ∧ Aside0 (Kd.R (Kd.int .u64) 22 wc w.heap.size (fun _ => True) v706 t702) ∧ Aside0 (Below w.heap.size w wc))
            case first =>
             have H := HC36.out
             clear HC36
             by_cases c42 : t698 = 0
             ·rw [if_pos c42] at H
              have c42b0 : (t698 == 0) = true := beq_iff_eq.mpr c42
              have c42b1 : (t698 != 0) = false := bne_eq_false_iff_eq.mpr c42
              clear c42
              (first|rw [c42b0]|(simp only [i64_w,i32_w];rw [c42b0])|skip)
              by_cases c43 : t703 = 0
              ·rw [if_pos c43] at H
               have c43b0 : (t703 == 0) = true := beq_iff_eq.mpr c43
               have c43b1 : (t703 != 0) = false := bne_eq_false_iff_eq.mpr c43
               clear c43
               by_cases c44 : (t701.length : Int) = (wrap64 ((l1.length : Int) + (l2.length : Int)))
               ·rw [if_pos c44] at H
                have c44b0 : ((t701.length : Int) == (wrap64 ((l1.length : Int) + (l2.length : Int)))) = true := beq_iff_eq.mpr c44
                have c44b1 : ((t701.length : Int) != (wrap64 ((l1.length : Int) + (l2.length : Int)))) = false := bne_eq_false_iff_eq.mpr c44
                clear c44
                have H' := am H
                clear H
                obtain ⟨Ao45,co45,eo45⟩ := Kd.R_slice HO705.out
                subst eo45
                obtain ⟨Ao46,co46,eo46⟩ := Kd.R_slice HO707.out
                subst eo46
                go_wp2
                repeat (go_quiet (fail);try go_wp2)
                go_meet
                case rel => exact ⟨_,(((t702.length : Int) != 6)),(by first|rfl|(simp;done)|(simp [*];done)),H',⟨by have := HJ5.out;have := HK2.out;have := HK3.out;first|omega|exact Nat.le_refl _⟩,⟨by (with_reducible repeat (first|apply Kd.R_alloc|apply Kd.R_drewN|apply Kd.R_drew));exact HO_8.out⟩,⟨by (with_reducible repeat (first|apply Kd.S_alloc|apply Kd.S_drewN|apply Kd.S_drew));exact Kd.S_mono HO700.out (fun _ hk => ⟨hk.1.2,hk.2⟩)⟩,⟨by (with_reducible repeat (first|apply Kd.R_alloc|apply Kd.R_drewN|apply Kd.R_drew));exact HO705.out⟩,⟨by (with_reducible repeat (first|apply Kd.R_alloc|apply Kd.R_drewN|apply Kd.R_drew));exact HO707.out⟩,⟨bb HB⟩⟩
               ·rw [if_neg c44] at H
                have c44b0 : ((t701.length : Int) == (wrap64 ((l1.length : Int) + (l2.length : Int)))) = false := beq_eq_false_iff_ne.mpr c44
                have c44b1 : ((t701.length : Int) != (wrap64 ((l1.length : Int) + (l2.length : Int)))) = true := bne_iff_ne.mpr c44
                have H' := am H
                clear H
                obtain ⟨Ao47,co47,eo47⟩ := Kd.R_slice HO705.out
                subst eo47
                go_wp2
                repeat (go_quiet (fail);try go_wp2)
                go_meet
                case rel => exact ⟨_,(true),(by first|rfl|(simp;done)|(simp [*];done)),H',⟨by have := HJ5.out;have := HK2.out;have := HK3.out;first|omega|exact Nat.le_refl _⟩,⟨by (with_reducible repeat (first|apply Kd.R_alloc|apply Kd.R_drewN|apply Kd.R_drew));exact HO_8.out⟩,⟨by (with_reducible repeat (first|apply Kd.S_alloc|apply Kd.S_drewN|apply Kd.S_drew));exact Kd.S_mono HO700.out (fun _ hk => ⟨hk.1.2,hk.2⟩)⟩,⟨by (with_reducible repeat (first|apply Kd.R_alloc|apply Kd.R_drewN|apply Kd.R_drew));exact HO705.out⟩,⟨by (with_reducible repeat (first|apply Kd.R_alloc|apply Kd.R_drewN|apply Kd.R_drew));exact HO707.out⟩,⟨bb HB⟩⟩
              ·rw [if_neg c43] at H
               have c43b0 : (t703 == 0) = false := beq_eq_false_iff_ne.mpr c43
               have c43b1 : (t703 != 0) = true := bne_iff_ne.mpr c43
               have H' := am H
               clear H
               go_wp2
               repeat (go_quiet (fail);try go_wp2)
               go_meet
               case rel => exact ⟨_,(true),(by first|rfl|(simp;done)|(simp [*];done)),H',⟨by have := HJ5.out;have := HK2.out;have := HK3.out;first|omega|exact Nat.le_refl _⟩,⟨by (with_reducible repeat (first|apply Kd.R_alloc|apply Kd.R_drewN|apply Kd.R_drew));exact HO_8.out⟩,⟨by (with_reducible repeat (first|apply Kd.S_alloc|apply Kd.S_drewN|apply Kd.S_drew));exact Kd.S_mono HO700.out (fun _ hk => ⟨hk.1.2,hk.2⟩)⟩,⟨by (with_reducible repeat (first|apply Kd.R_alloc|apply Kd.R_drewN|apply Kd.R_drew));exact HO705.out⟩,⟨by (with_reducible repeat (first|apply Kd.R_alloc|apply Kd.R_drewN|apply Kd.R_drew));exact HO707.out⟩,⟨bb HB⟩⟩
             ·rw [if_neg c42] at H
              have c42b0 : (t698 == 0) = false := beq_eq_false_iff_ne.mpr c42
              have c42b1 : (t698 != 0) = true := bne_iff_ne.mpr c42
              (first|rw [c42b0]|(simp only [i64_w,i32_w];rw [c42b0])|skip)
              have H' := am H
              clear H
              go_wp2
              repeat (go_quiet (fail);try go_wp2)
              go_meet
              case rel => exact ⟨_,(true),(by first|rfl|(simp;done)|(simp [*];done)),H',⟨by have := HJ5.out;have := HK2.out;have := HK3.out;first|omega|exact Nat.le_refl _⟩,⟨by (with_reducible repeat (first|apply Kd.R_alloc|apply Kd.R_drewN|apply Kd.R_drew));exact HO_8.out⟩,⟨by (with_reducible repeat (first|apply Kd.S_alloc|apply Kd.S_drewN|apply Kd.S_drew));exact Kd.S_mono HO700.out (fun _ hk => ⟨hk.1.2,hk.2⟩)⟩,⟨by (with_reducible repeat (first|apply Kd.R_alloc|apply Kd.R_drewN|apply Kd.R_drew));exact HO705.out⟩,⟨by (with_reducible repeat (first|apply Kd.R_alloc|apply Kd.R_drewN|apply Kd.R_drew));exact HO707.out⟩,⟨bb HB⟩⟩
            case rest =>
             clear HC36
             try clear c1
             try clear c2
             try clear p2
             try clear c3
             try clear c4
             try clear c5
             try clear p6
             try clear q6
             try clear hx6
             try clear c8
             try clear c9
             try clear c10
             try clear c10b0
             try clear c10b1
             try clear c12
             try clear c12b0
             try clear c14
             try clear c14b0
             try clear c17
             try clear c22
             try clear c23
             try clear c23b0
             try clear c24
             try clear c24b0
             try clear c25
             try clear c27
             try clear c27b0
             try clear c28
             try clear c28b0
             try clear c29
             try clear c29b0
             try clear c30
             try clear c33
             try clear c42
             try clear c42b0
             try clear c42b1
             try clear c43
             try clear c43b0
             try clear c43b1
             try clear c44
             try clear c44b0
             try clear c44b1
             try clear hx687_0
             try clear hx691_0
             try clear hx691_1
             try clear hx692_0
             try clear hx692_1
             try clear p2
             try clear p6
             try clear p687
             try clear p691
             try clear p692
             try clear q6
             try clear q687
             try clear q691
             try clear q692
             obtain ⟨kq,x137_35,rfl,HA,HJ35,HO_8,HO_11,HO_13,HO_14,HB⟩ := hcut
             cases kq with
             | zero => exact absurd HA.out (by simp [privitylaw07_HyperinvertibleOutputsAreFree.j3])
             | succ kj35 =>
              have H := HA.out
              clear HA
              simp only [privitylaw07_HyperinvertibleOutputsAreFree.j3] at H
              by_cases c48 : x137_35 = true
              ·subst c48
               rw [if_pos rfl] at H
               exact absurd (Option.some.inj H) (by rw [HRT_.out];simp)
              ·replace c48 := Bool.eq_false_iff.mpr c48
               subst c48
               rw [if_neg (show ¬ (false = true) by decide)] at H
               have H' := am H
               clear H
               go_wp2
               repeat (go_quiet (fail);try go_wp2)
               go_loopg [16] kj35 (fun kq v16 w' => ∃ (x16_5 : Int),v16 = .int .i64 x16_5 ∧ Aside0 (privitylaw07_HyperinvertibleOutputsAreFree.l2 kq a0 l1 l2 x8_3 t697 t701 t702 x16_5 = some r) ∧ Aside0 (kq ≤ kj35) ∧ Aside0 (Kd.R (Kd.int .i64) 3 w' w.heap.size (fun _ => True) (.slice Ao37 x8_3.length co37) x8_3) ∧ Aside0 (Kd.S (Kd.slice 22 (Kd.int .u64)) 40 w' w.heap.size (fun k_ => some k_ ≠ (v704 : Value).ownBlock ∧ some k_ ≠ (v706 : Value).ownBlock) (.slice Ao39 t697.length co39) t697) ∧ Aside0 (Kd.R (Kd.int .u64) 22 w' w.heap.size (fun _ => True) v704 t701) ∧ Aside0 (Kd.R (Kd.int .u64) 22 w' w.heap.size (fun _ => True) v706 t702) ∧ Aside0 (Below w.heap.size w w'))
               case atStart => exact ⟨(0),(by first|rfl|(simp;done)|(simp [*];done)),H',⟨Nat.le_refl _⟩,⟨by (with_reducible repeat (first|apply Kd.R_alloc|apply Kd.R_drewN|apply Kd.R_drew));exact HO_8.out⟩,⟨by (with_reducible repeat (first|apply Kd.S_alloc|apply Kd.S_drewN|apply Kd.S_drew));exact HO_11.out⟩,⟨by (with_reducible repeat (first|apply Kd.R_alloc|apply Kd.R_drewN|apply Kd.R_drew));exact HO_13.out⟩,⟨by (with_reducible repeat (first|apply Kd.R_alloc|apply Kd.R_drewN|apply Kd.R_drew));exact HO_14.out⟩,⟨bb HB⟩⟩
               case round =>
                clear H'
                try clear c1
                try clear c2
                try clear p2
                try clear c3
                try clear c4
                try clear c5
                try clear p6
                try clear q6
                try clear hx6
                try clear c8
                try clear c9
                try clear c10
                try clear c10b0
                try clear c10b1
                try clear c12
                try clear c12b0
                try clear c14
                try clear c14b0
                try clear c17
                try clear c22
                try clear c23
                try clear c23b0
                try clear c24
                try clear c24b0
                try clear c25
                try clear c27
                try clear c27b0
                try clear c28
                try clear c28b0
                try clear c29
                try clear c29b0
                try clear c30
                try clear c33
                try clear c42
                try clear c42b0
                try clear c42b1
                try clear c43
                try clear c43b0
                try clear c43b1
                try clear c44
                try clear c44b0
                try clear c44b1
                try clear c48
                try clear hx687_0
                try clear hx691_0
                try clear hx691_1
                try clear hx692_0
                try clear hx692_1
                try clear p2
                try clear p6
                try clear p687
                try clear p691
                try clear p692
                try clear q6
                try clear q687
                try clear q691
                try clear q692
                obtain ⟨x16_5,rfl,HA,HK5,HO_8,HO_11,HO_13,HO_14,HB⟩ := hrel
                cases gk with
                | zero => exact absurd HA.out (by simp [privitylaw07_HyperinvertibleOutputsAreFree.l2])
                | succ k5 =>
                 have H := HA.out
                 clear HA
                 simp only [privitylaw07_HyperinvertibleOutputsAreFree.l2] at H
                 by_cases c49 : x16_5 < (l1.length : Int)
                 ·rw [if_pos c49] at H
                  have c49b0 : decide (x16_5 < (l1.length : Int)) = true := decide_eq_true c49
                  clear c49
                  by_cases c50 : 0 ≤ x16_5
                  ·rw [if_pos c50] at H
                   have c50b0 : decide (0 ≤ x16_5) = true := decide_eq_true c50
                   clear c50
                   by_cases c51 : x16_5 < (t701.length : Int)
                   ·rw [if_pos c51] at H
                    have c51b0 : decide (x16_5 < (t701.length : Int)) = true := decide_eq_true c51
                    clear c51
                    by_cases c52 : (rd t701 x16_5) = (rd l1 x16_5)
                    ·rw [if_pos c52] at H
                     have c52b0 : ((rd t701 x16_5) == (rd l1 x16_5)) = true := beq_iff_eq.mpr c52
                     have c52b1 : ((rd t701 x16_5) != (rd l1 x16_5)) = false := bne_eq_false_iff_eq.mpr c52
                     clear c52
                     have H' := am H
                     clear H
                     obtain ⟨Ao53,co53,eo53⟩ := Kd.R_slice HO_13.out
                     subst eo53
                     have p708 : 0 ≤ (x16_5 : Int) := od
                     have q708 : x16_5 < (t701.length : Int) := od
                     obtain ⟨ad708,e708,hx708_0⟩ := Kd.at_int (Kd.R_reads' HO_13.out).2.2 x16_5 p708 q708
                     cases e708
                     replace p708 := eq_true p708
                     replace q708 := eq_true q708
                     have p709 : 0 ≤ (x16_5 : Int) := od
                     have q709 : x16_5 < (l1.length : Int) := od
                     obtain ⟨ad709,e709,hx709_0⟩ := Kd.at_int HR1.out x16_5 p709 q709
                     cases e709
                     replace hx709_0 := (HB.out.cell (World.block_lt_of_cell? w _ hx709_0)).trans hx709_0
                     replace p709 := eq_true p709
                     replace q709 := eq_true q709
                     go_wp2
                     repeat (go_quiet (fail);try go_wp2)
                     go_roundg k5
                     case measure => have := HJ5.out;have := HK2.out;have := HK3.out;have := HJ35.out;have := HK5.out;omega
                     case rel => exact ⟨(wrap64 (x16_5 + 1)),(by first|rfl|(simp;done)|(simp [*];done)),H',⟨by have := HJ5.out;have := HK2.out;have := HK3.out;have := HJ35.out;have := HK5.out;omega⟩,⟨by (with_reducible repeat (first|apply Kd.R_alloc|apply Kd.R_drewN|apply Kd.R_drew));exact HO_8.out⟩,⟨by (with_reducible repeat (first|apply Kd.S_alloc|apply Kd.S_drewN|apply Kd.S_drew));exact HO_11.out⟩,⟨by (with_reducible repeat (first|apply Kd.R_alloc|apply Kd.R_drewN|apply Kd.R_drew));exact HO_13.out⟩,⟨by (with_reducible repeat (first|apply Kd.R_alloc|apply Kd.R_drewN|apply Kd.R_drew));exact HO_14.out⟩,⟨bb HB⟩⟩
                    ·rw [if_neg c52] at H
                     have c52b0 : ((rd t701 x16_5) == (rd l1 x16_5)) = false := beq_eq_false_iff_ne.mpr c52
                     have c52b1 : ((rd t701 x16_5) != (rd l1 x16_5)) = true := bne_iff_ne.mpr c52
                     obtain rfl := Option.some.inj H
                     obtain ⟨Ao54,co54,eo54⟩ := Kd.R_slice HO_13.out
                     subst eo54
                     have p708 : 0 ≤ (x16_5 : Int) := od
                     have q708 : x16_5 < (t701.length : Int) := od
                     obtain ⟨ad708,e708,hx708_0⟩ := Kd.at_int (Kd.R_reads' HO_13.out).2.2 x16_5 p708 q708
                     cases e708
                     replace p708 := eq_true p708
                     replace q708 := eq_true q708
                     have p709 : 0 ≤ (x16_5 : Int) := od
                     have q709 : x16_5 < (l1.length : Int) := od
                     obtain ⟨ad709,e709,hx709_0⟩ := Kd.at_int HR1.out x16_5 p709 q709
                     cases e709
                     replace hx709_0 := (HB.out.cell (World.block_lt_of_cell? w _ hx709_0)).trans hx709_0
                     replace p709 := eq_true p709
                     replace q709 := eq_true q709
                     go_wp2
                     repeat (go_quiet (fail);try go_wp2)
                     go_ret
                     exact ⟨by first|rfl|(simp [errW_none,errW_some] <;> rfl)|(simp [*,errW_none,errW_some] <;> rfl),bb HB⟩
                   ·rw [if_neg c51] at H
                    exact absurd H (by simp)
                  ·rw [if_neg c50] at H
                   exact absurd H (by simp)
                 ·rw [if_neg c49] at H
                  have c49b0 : decide (x16_5 < (l1.length : Int)) = false := decide_eq_false c49
                  clear c49
                  have H' := am H
                  clear H
                  go_wp2
                  repeat (go_quiet (fail);try go_wp2)
                  go_loopg [17] k5 (fun kq v17 w' => ∃ (x17_6 : Int),v17 = .int .i64 x17_6 ∧ Aside0 (privitylaw07_HyperinvertibleOutputsAreFree.l3 kq a0 l2 x8_3 t697 t701 t702 x17_6 = some r) ∧ Aside0 (kq ≤ k5) ∧ Aside0 (Kd.R (Kd.int .i64) 3 w' w.heap.size (fun _ => True) (.slice Ao37 x8_3.length co37) x8_3) ∧ Aside0 (Kd.S (Kd.slice 22 (Kd.int .u64)) 40 w' w.heap.size (fun k_ => some k_ ≠ (v704 : Value).ownBlock ∧ some k_ ≠ (v706 : Value).ownBlock) (.slice Ao39 t697.length co39) t697) ∧ Aside0 (Kd.R (Kd.int .u64) 22 w' w.heap.size (fun _ => True) v704 t701) ∧ Aside0 (Kd.R (Kd.int .u64) 22 w' w.heap.size (fun _ => True) v706 t702) ∧ Aside0 (Below w.heap.size w w'))
                  case atStart => exact ⟨(0),(by first|rfl|(simp;done)|(simp [*];done)),H',⟨Nat.le_refl _⟩,⟨by (with_reducible repeat (first|apply Kd.R_alloc|apply Kd.R_drewN|apply Kd.R_drew));exact HO_8.out⟩,⟨by (with_reducible repeat (first|apply Kd.S_alloc|apply Kd.S_drewN|apply Kd.S_drew));exact HO_11.out⟩,⟨by (with_reducible repeat (first|apply Kd.R_alloc|apply Kd.R_drewN|apply Kd.R_drew));exact HO_13.out⟩,⟨by (with_reducible repeat (first|apply Kd.R_alloc|apply Kd.R_drewN|apply Kd.R_drew));exact HO_14.out⟩,⟨bb HB⟩⟩
                  case round =>
                   clear H'
                   try clear c1
                   try clear c2
                   try clear p2
                   try clear c3
                   try clear c4
                   try clear c5
                   try clear p6
                   try clear q6
                   try clear hx6
                   try clear p7
                   try clear q7
                   try clear hx7
                   try clear c8
                   try clear c9
                   try clear c10
                   try clear c10b0
                   try clear c10b1
                   try clear c12
                   try clear c12b0
                   try clear c14
                   try clear c14b0
                   try clear c17
                   try clear c22
                   try clear c23
                   try clear c23b0
                   try clear c24
                   try clear c24b0
                   try clear c25
                   try clear c27
                   try clear c27b0
                   try clear c28
                   try clear c28b0
                   try clear c29
                   try clear c29b0
                   try clear c30
                   try clear c33
                   try clear c42
                   try clear c42b0
                   try clear c42b1
                   try clear c43
                   try clear c43b0
                   try clear c43b1
                   try clear c44
                   try clear c44b0
                   try clear c44b1
                   try clear c48
                   try clear c49
                   try clear c49b0
                   try clear c50
                   try clear c50b0
                   try clear c51
                   try clear c51b0
                   try clear c52
                   try clear c52b0
                   try clear c52b1
                   try clear hx687_0
                   try clear hx691_0
                   try clear hx691_1
                   try clear hx692_0
                   try clear hx692_1
                   try clear hx708_0
                   try clear hx709_0
                   try clear p2
                   try clear p6
                   try clear p687
                   try clear p691
                   try clear p692
                   try clear p708
                   try clear p709
                   try clear q6
                   try clear q687
                   try clear q691
                   try clear q692
                   try clear q708
                   try clear q709
                   obtain ⟨x17_6,rfl,HA,HK6,HO_8,HO_11,HO_13,HO_14,HB⟩ := hrel
                   cases gk with
                   | zero => exact absurd HA.out (by simp [privitylaw07_HyperinvertibleOutputsAreFree.l3])
                   | succ k6 =>
                    have H := HA.out
                    clear HA
                    simp only [privitylaw07_HyperinvertibleOutputsAreFree.l3] at H
                    by_cases c55 : x17_6 < (l2.length : Int)
                    ·rw [if_pos c55] at H
                     have c55b0 : decide (x17_6 < (l2.length : Int)) = true := decide_eq_true c55
                     clear c55
                     by_cases c56 : 0 ≤ x17_6
                     ·rw [if_pos c56] at H
                      have c56b0 : decide (0 ≤ x17_6) = true := decide_eq_true c56
                      clear c56
                      by_cases c57 : x17_6 < (x8_3.length : Int)
                      ·rw [if_pos c57] at H
                       have c57b0 : decide (x17_6 < (x8_3.length : Int)) = true := decide_eq_true c57
                       clear c57
                       by_cases c58 : 0 ≤ (rd x8_3 x17_6)
                       ·rw [if_pos c58] at H
                        have c58b0 : decide (0 ≤ (rd x8_3 x17_6)) = true := decide_eq_true c58
                        clear c58
                        by_cases c59 : (rd x8_3 x17_6) < (t702.length : Int)
                        ·rw [if_pos c59] at H
                         have c59b0 : decide ((rd x8_3 x17_6) < (t702.length : Int)) = true := decide_eq_true c59
                         clear c59
                         by_cases c60 : (rd t702 (rd x8_3 x17_6)) = ((rd_T56 l2 x17_6).f1)
                         ·rw [if_pos c60] at H
                          have c60b0 : ((rd t702 (rd x8_3 x17_6)) == ((rd_T56 l2 x17_6).f1)) = true := beq_iff_eq.mpr c60
                          have c60b1 : ((rd t702 (rd x8_3 x17_6)) != ((rd_T56 l2 x17_6).f1)) = false := bne_eq_false_iff_eq.mpr c60
                          clear c60
                          have H' := am H
                          clear H
                          have p710 : 0 ≤ (x17_6 : Int) := od
                          have q710 : x17_6 < (x8_3.length : Int) := od
                          obtain ⟨ad710,e710,hx710_0⟩ := Kd.at_int (Kd.R_reads' HO_8.out).2.2 x17_6 p710 q710
                          cases e710
                          replace p710 := eq_true p710
                          replace q710 := eq_true q710
                          obtain ⟨Ao61,co61,eo61⟩ := Kd.R_slice HO_14.out
                          subst eo61
                          have p711 : 0 ≤ ((rd x8_3 x17_6) : Int) := od
                          have q711 : (rd x8_3 x17_6) < (t702.length : Int) := od
                          obtain ⟨ad711,e711,hx711_0⟩ := Kd.at_int (Kd.R_reads' HO_14.out).2.2 (rd x8_3 x17_6) p711 q711
                          cases e711
                          replace p711 := eq_true p711
                          replace q711 := eq_true q711
                          have p712 : 0 ≤ (x17_6 : Int) := od
                          have q712 : x17_6 < (l2.length : Int) := od
                          obtain ⟨ad712,e712,hx712_0,hx712_1⟩ := at_T56 HR2.out x17_6 p712 q712
                          cases e712
                          replace hx712_0 := (HB.out.cell (World.block_lt_of_cell? w _ hx712_0)).trans hx712_0
                          replace hx712_1 := (HB.out.cell (World.block_lt_of_cell? w _ hx712_1)).trans hx712_1
                          replace p712 := eq_true p712
                          replace q712 := eq_true q712
                          go_wp2
                          repeat (go_quiet (fail);try go_wp2)
                          go_roundg k6
                          case measure => have := HJ5.out;have := HK2.out;have := HK3.out;have := HJ35.out;have := HK5.out;have := HK6.out;omega
                          case rel => exact ⟨(wrap64 (x17_6 + 1)),(by first|rfl|(simp;done)|(simp [*];done)),H',⟨by have := HJ5.out;have := HK2.out;have := HK3.out;have := HJ35.out;have := HK5.out;have := HK6.out;omega⟩,⟨by (with_reducible repeat (first|apply Kd.R_alloc|apply Kd.R_drewN|apply Kd.R_drew));exact HO_8.out⟩,⟨by (with_reducible repeat (first|apply Kd.S_alloc|apply Kd.S_drewN|apply Kd.S_drew));exact HO_11.out⟩,⟨by (with_reducible repeat (first|apply Kd.R_alloc|apply Kd.R_drewN|apply Kd.R_drew));exact HO_13.out⟩,⟨by (with_reducible repeat (first|apply Kd.R_alloc|apply Kd.R_drewN|apply Kd.R_drew));exact HO_14.out⟩,⟨bb HB⟩⟩
                         ·rw [if_neg c60] at H
                          have c60b0 : ((rd t702 (rd x8_3 x17_6)) == ((rd_T56 l2 x17_6).f1)) = false := beq_eq_false_iff_ne.mpr c60
                          have c60b1 : ((rd t702 (rd x8_3 x17_6)) != ((rd_T56 l2 x17_6).f1)) = true := bne_iff_ne.mpr c60
                          obtain rfl := Option.some.inj H
                          have p710 : 0 ≤ (x17_6 : Int) := od
                          have q710 : x17_6 < (x8_3.length : Int) := od
                          obtain ⟨ad710,e710,hx710_0⟩ := Kd.at_int (Kd.R_reads' HO_8.out).2.2 x17_6 p710 q710
                          cases e710
                          replace p710 := eq_true p710
                          replace q710 := eq_true q710
                          obtain ⟨Ao62,co62,eo62⟩ := Kd.R_slice HO_14.out
                          subst eo62
                          have p711 : 0 ≤ ((rd x8_3 x17_6) : Int) := od
                          have q711 : (rd x8_3 x17_6) < (t702.length : Int) := od
                          obtain ⟨ad711,e711,hx711_0⟩ := Kd.at_int (Kd.R_reads' HO_14.out).2.2 (rd x8_3 x17_6) p711 q711
                          cases e711
                          replace p711 := eq_true p711
                          replace q711 := eq_true q711
                          have p712 : 0 ≤ (x17_6 : Int) := od
                          have q712 : x17_6 < (l2.length : Int) := od
                          obtain ⟨ad712,e712,hx712_0,hx712_1⟩ := at_T56 HR2.out x17_6 p712 q712
                          cases e712
                          replace hx712_0 := (HB.out.cell (World.block_lt_of_cell? w _ hx712_0)).trans hx712_0
                          replace hx712_1 := (HB.out.cell (World.block_lt_of_cell? w _ hx712_1)).trans hx712_1
                          replace p712 := eq_true p712
                          replace q712 := eq_true q712
                          go_wp2
                          repeat (go_quiet (fail);try go_wp2)
                          go_ret
                          exact ⟨by first|rfl|(simp [errW_none,errW_some] <;> rfl)|(simp [*,errW_none,errW_some] <;> rfl),bb HB⟩
                        ·rw [if_neg c59] at H
                         exact absurd H (by simp)
                       ·rw [if_neg c58] at H
                        exact absurd H (by simp)
                      ·rw [if_neg c57] at H
                       exact absurd H (by simp)
                     ·rw [if_neg c56] at H
                      exact absurd H (by simp)
                    ·rw [if_neg c55] at H
                     have c55b0 : decide (x17_6 < (l2.length : Int)) = false := decide_eq_false c55
                     clear c55
                     replace H := Option.bind_eq_some_iff.mp H
                     obtain ⟨⟨t713,t714⟩,A630,H⟩ := H
                     try dsimp only at H
                     have A63 := am A630
                     clear A630
                     by_cases c64 : t714 = 0
                     ·rw [if_pos c64] at H
                      have c64b0 : (t714 == 0) = true := beq_iff_eq.mpr c64
                      have c64b1 : (t714 != 0) = false := bne_eq_false_iff_eq.mpr c64
                      clear c64
                      replace H := Option.bind_eq_some_iff.mp H
                      obtain ⟨t717,A650,H⟩ := H
                      try dsimp only at H
                      have A65 := am A650
                      clear A650
                      obtain rfl := Option.some.inj H
                      obtain ⟨Ao66,co66,eo66⟩ := Kd.R_slice HO_13.out
                      subst eo66
                      go_wp2_with (first|(go_at_call 31;(with_reducible refine (matrix_Apply.calls k6 a0 _ _ t697 _ _ t701 t713 t714 _ ?side1 ?side2 ?side3 ?side4 A63.out).mono ?_);(case side1 => repeat (first|exact (Kd.S_reads' HO_11.out).2.2|(with_reducible refine Kd.C_alloc ?_ _)|(with_reducible refine Kd.C_drewN ?_ _)|(with_reducible refine Kd.C_drew ?_)));(case side2 => exact (Kd.S_reads' HO_11.out).2.1);(case side3 => exact cr HO_13);(case side4 => exact (Kd.R_reads' HO_13.out).2.1);rintro e w67 ⟨v715,rfl,ho0,hb⟩;have n0_ := am (Kd.R_below (rr HO_8) hb);have n1_ := am (Kd.S_elder' (by (with_reducible repeat (first|apply Kd.S_alloc|apply Kd.S_drewN|apply Kd.S_drew));exact HO_11.out) (Kd.R_base ho0) hb);have n2_ := am (Kd.R_elder' (rr HO_13) (Kd.R_base ho0) hb);have n3_ := am (Kd.R_elder' (rr HO_14) (Kd.R_base ho0) hb);have n4_ := am (Kd.R_lower (Kd.R_new' (Kd.R_new' ho0 (Kd.R_lt (rr HO_13))) (Kd.R_lt (rr HO_14))) (below_size (bb HB)));have n5_ := am (below_step (bb HB) hb);clear HO_8 HO_11 HO_13 HO_14 HB;have HO_8 := n0_;have HO_11 := n1_;have HO_13 := n2_;have HO_14 := n3_;have HO716 := n4_;have HB := n5_;clear n0_ n1_ n2_ n3_ n4_ n5_;(try clear hb);(try clear hb2);(try clear hk);(try clear hi);(try clear ho0);obtain ⟨Ao68,co68,eo68⟩ := Kd.R_slice HO716.out;subst eo68;obtain ⟨Ao69,co69,eo69⟩ := Kd.R_slice HO_14.out;subst eo69)|(go_at_call 24;(with_reducible refine (privityref05_Same.calls k6 _ _ t713 _ _ t702 t717 _ ?side1 ?side2 ?side3 ?side4 A65.out).mono ?_);(case side1 => exact cr HO716);(case side2 => exact (Kd.R_reads' HO716.out).2.1);(case side3 => exact cr HO_14);(case side4 => exact (Kd.R_reads' HO_14.out).2.1);rintro e w' ⟨rfl,⟨nd,rfl⟩⟩;(try first|exact ⟨rfl,_,World.drewN_drewN _ _ _⟩|exact ⟨rfl,_,Eq.trans (World.drewN_drewN _ _ _) (congrArg (World.drewN _) (Nat.add_assoc _ _ _))⟩)))
                      repeat (go_quiet (first|(go_at_call 31;(with_reducible refine (matrix_Apply.calls k6 a0 _ _ t697 _ _ t701 t713 t714 _ ?side1 ?side2 ?side3 ?side4 A63.out).mono ?_);(case side1 => repeat (first|exact (Kd.S_reads' HO_11.out).2.2|(with_reducible refine Kd.C_alloc ?_ _)|(with_reducible refine Kd.C_drewN ?_ _)|(with_reducible refine Kd.C_drew ?_)));(case side2 => exact (Kd.S_reads' HO_11.out).2.1);(case side3 => exact cr HO_13);(case side4 => exact (Kd.R_reads' HO_13.out).2.1);rintro e w67 ⟨v715,rfl,ho0,hb⟩;have n0_ := am (Kd.R_below (rr HO_8) hb);have n1_ := am (Kd.S_elder' (by (with_reducible repeat (first|apply Kd.S_alloc|apply Kd.S_drewN|apply Kd.S_drew));exact HO_11.out) (Kd.R_base ho0) hb);have n2_ := am (Kd.R_elder' (rr HO_13) (Kd.R_base ho0) hb);have n3_ := am (Kd.R_elder' (rr HO_14) (Kd.R_base ho0) hb);have n4_ := am (Kd.R_lower (Kd.R_new' (Kd.R_new' ho0 (Kd.R_lt (rr HO_13))) (Kd.R_lt (rr HO_14))) (below_size (bb HB)));have n5_ := am (below_step (bb HB) hb);clear HO_8 HO_11 HO_13 HO_14 HB;have HO_8 := n0_;have HO_11 := n1_;have HO_13 := n2_;have HO_14 := n3_;have HO716 := n4_;have HB := n5_;clear n0_ n1_ n2_ n3_ n4_ n5_;(try clear hb);(try clear hb2);(try clear hk);(try clear hi);(try clear ho0);obtain ⟨Ao68,co68,eo68⟩ := Kd.R_slice HO716.out;subst eo68;obtain ⟨Ao69,co69,eo69⟩ := Kd.R_slice HO_14.out;subst eo69)|(go_at_call 24;(with_reducible refine (privityref05_Same.calls k6 _ _ t713 _ _ t702 t717 _ ?side1 ?side2 ?side3 ?side4 A65.out).mono ?_);(case side1 => exact cr HO716);(case side2 => exact (Kd.R_reads' HO716.out).2.1);(case side3 => exact cr HO_14);(case side4 => exact (Kd.R_reads' HO_14.out).2.1);rintro e w' ⟨rfl,⟨nd,rfl⟩⟩;(try first|exact ⟨rfl,_,World.drewN_drewN _ _ _⟩|exact ⟨rfl,_,Eq.trans (World.drewN_drewN _ _ _) (congrArg (World.drewN _) (Nat.add_assoc _ _ _))⟩)));try go_wp2_with (first|(go_at_call 31;(with_reducible refine (matrix_Apply.calls k6 a0 _ _ t697 _ _ t701 t713 t714 _ ?side1 ?side2 ?side3 ?side4 A63.out).mono ?_);(case side1 => repeat (first|exact (Kd.S_reads' HO_11.out).2.2|(with_reducible refine Kd.C_alloc ?_ _)|(with_reducible refine Kd.C_drewN ?_ _)|(with_reducible refine Kd.C_drew ?_)));(case side2 => exact (Kd.S_reads' HO_11.out).2.1);(case side3 => exact cr HO_13);(case side4 => exact (Kd.R_reads' HO_13.out).2.1);rintro e w67 ⟨v715,rfl,ho0,hb⟩;have n0_ := am (Kd.R_below (rr HO_8) hb);have n1_ := am (Kd.S_elder' (by (with_reducible repeat (first|apply Kd.S_alloc|apply Kd.S_drewN|apply Kd.S_drew));exact HO_11.out) (Kd.R_base ho0) hb);have n2_ := am (Kd.R_elder' (rr HO_13) (Kd.R_base ho0) hb);have n3_ := am (Kd.R_elder' (rr HO_14) (Kd.R_base ho0) hb);have n4_ := am (Kd.R_lower (Kd.R_new' (Kd.R_new' ho0 (Kd.R_lt (rr HO_13))) (Kd.R_lt (rr HO_14))) (below_size (bb HB)));have n5_ := am (below_step (bb HB) hb);clear HO_8 HO_11 HO_13 HO_14 HB;have HO_8 := n0_;have HO_11 := n1_;have HO_13 := n2_;have HO_14 := n3_;have HO716 := n4_;have HB := n5_;clear n0_ n1_ n2_ n3_ n4_ n5_;(try clear hb);(try clear hb2);(try clear hk);(try clear hi);(try clear ho0);obtain ⟨Ao68,co68,eo68⟩ := Kd.R_slice HO716.out;subst eo68;obtain ⟨Ao69,co69,eo69⟩ := Kd.R_slice HO_14.out;subst eo69)|(go_at_call 24;(with_reducible refine (privityref05_Same.calls k6 _ _ t713 _ _ t702 t717 _ ?side1 ?side2 ?side3 ?side4 A65.out).mono ?_);(case side1 => exact cr HO716);(case side2 => exact (Kd.R_reads' HO716.out).2.1);(case side3 => exact cr HO_14);(case side4 => exact (Kd.R_reads' HO_14.out).2.1);rintro e w' ⟨rfl,⟨nd,rfl⟩⟩;(try first|exact ⟨rfl,_,World.drewN_drewN _ _ _⟩|exact ⟨rfl,_,Eq.trans (World.drewN_drewN _ _ _) (congrArg (World.drewN _) (Nat.add_assoc _ _ _))⟩))))
                      go_ret
                      exact ⟨by first|rfl|(simp [errW_none,errW_some] <;> rfl)|(simp [*,errW_none,errW_some] <;> rfl),bb HB⟩
                     ·rw [if_neg c64] at H
                      have c64b0 : (t714 == 0) = false := beq_eq_false_iff_ne.mpr c64
                      have c64b1 : (t714 != 0) = true := bne_iff_ne.mpr c64
                      exact absurd (Option.some.inj H) (by rw [HRT_.out];simp)
           ·replace c33 := Bool.eq_false_iff.mpr c33
            subst c33
            rw [if_neg (show ¬ (false = true) by decide)] at H
            obtain rfl := Option.some.inj H
            obtain ⟨Ao72,co72,eo72⟩ := Kd.R_slice HO_8.out
            subst eo72
            go_wp2_with (first|(go_at_call 29;(with_reducible refine (privitylaw07_unlike.calls k3 _ _ x8_3 6 false _ ?side1 ?side2 A32.out).mono ?_);(case side1 => exact cr HO_8);(case side2 => exact (Kd.R_reads' HO_8.out).2.1);rintro e w' ⟨rfl,⟨nd,rfl⟩⟩;(try first|exact ⟨rfl,_,World.drewN_drewN _ _ _⟩|exact ⟨rfl,_,Eq.trans (World.drewN_drewN _ _ _) (congrArg (World.drewN _) (Nat.add_assoc _ _ _))⟩)))
            repeat (go_quiet (first|(go_at_call 29;(with_reducible refine (privitylaw07_unlike.calls k3 _ _ x8_3 6 false _ ?side1 ?side2 A32.out).mono ?_);(case side1 => exact cr HO_8);(case side2 => exact (Kd.R_reads' HO_8.out).2.1);rintro e w' ⟨rfl,⟨nd,rfl⟩⟩;(try first|exact ⟨rfl,_,World.drewN_drewN _ _ _⟩|exact ⟨rfl,_,Eq.trans (World.drewN_drewN _ _ _) (congrArg (World.drewN _) (Nat.add_assoc _ _ _))⟩)));try go_wp2_with (first|(go_at_call 29;(with_reducible refine (privitylaw07_unlike.calls k3 _ _ x8_3 6 false _ ?side1 ?side2 A32.out).mono ?_);(case side1 => exact cr HO_8);(case side2 => exact (Kd.R_reads' HO_8.out).2.1);rintro e w' ⟨rfl,⟨nd,rfl⟩⟩;(try first|exact ⟨rfl,_,World.drewN_drewN _ _ _⟩|exact ⟨rfl,_,Eq.trans (World.drewN_drewN _ _ _) (congrArg (World.drewN _) (Nat.add_assoc _ _ _))⟩))))
            go_ret
            exact ⟨by first|rfl|(simp [errW_none,errW_some] <;> rfl)|(simp [*,errW_none,errW_some] <;> rfl),bb HB⟩
 ·replace c5 := Bool.eq_false_iff.mpr c5
  subst c5
  rw [if_neg (show ¬ (false = true) by decide)] at H
  exact absurd (Option.some.inj H) (by rw [HRT_.out];simp)
end Go.Proofs.Ytmdoaijkaaaglaa.Pr
end
section
namespace Go.Proofs.Ytmdoaijkaaaglaa.Pl
open Go.Proofs.Ytmdoaijkaaaglaa.Fd
section
variable {p : Nat} [NeZero p]
def ev (x : Fin p) : List (Fin p) → Fin p
 | [] => 0
 | c :: f => c + x * ev x f
def quot (a : Fin p) : List (Fin p) → List (Fin p)
 | [] => []
 | _ :: f => match f with
  | [] => []
  | _ => ev a f :: quot a f
theorem quot_length (a : Fin p) : ∀ f : List (Fin p),(quot a f).length = f.length - 1
 | [] => rfl
 | [_] => rfl
 | _ :: d :: f => by
  have := quot_length a (d :: f)
  simp only [quot,List.length_cons] at *
  omega
theorem quot_spec (a x : Fin p) : ∀ f : List (Fin p),ev x f = (x - a) * ev x (quot a f) + ev a f
 | [] => by simp only [quot,ev];grind
 | [c] => by simp only [quot,ev];grind
 | c :: d :: f => by
  have h := quot_spec a x (d :: f)
  have e : quot a (c :: d :: f) = ev a (d :: f) :: quot a (d :: f) := rfl
  rw [e]
  generalize hq : quot a (d :: f) = q at *
  rw [ev,h]
  show _ = (x - a) * (ev a (d :: f) + x * ev x q) + (c + a * ev a (d :: f))
  grind
theorem zero_of_quot (a : Fin p) : ∀ f : List (Fin p),(∀ c ∈ quot a f,c = 0) → ev a f = 0 → ∀ c ∈ f,c = 0
 | [],_,_ => by simp
 | [c],_,h => by
  intro x hx
  have h : c + a * 0 = 0 := h
  simp only [List.mem_cons,List.not_mem_nil,or_false] at hx
  subst hx;grind
 | c :: d :: f,hq,h => by
  have e : quot a (c :: d :: f) = ev a (d :: f) :: quot a (d :: f) := rfl
  rw [e] at hq
  have h1 : ev a (d :: f) = 0 := hq _ (by simp)
  have ih := zero_of_quot a (d :: f) (fun x hx => hq x (List.mem_cons_of_mem _ hx)) h1
  have h2 : c + a * ev a (d :: f) = 0 := h
  rw [h1] at h2
  have hc : c = 0 := by grind
  intro x hx
  rcases List.mem_cons.1 hx with rfl|hx
  ·exact hc
  ·exact ih x hx
def Dom (p : Nat) [NeZero p] : Prop := ∀ a b : Fin p,a * b = 0 → a = 0 ∨ b = 0
theorem zero_of_roots (hd : Dom p) : ∀ (xs f : List (Fin p)),xs.Nodup → f.length ≤ xs.length → (∀ x ∈ xs,ev x f = 0) → ∀ c ∈ f,c = 0
 | [],f,_,hl,_ => by
  have : f = [] := by cases f with|nil => rfl|cons _ _ => simp at hl
  subst this;simp
 | a :: xs,f,hn,hl,h => by
  have hn' := List.nodup_cons.1 hn
  refine zero_of_quot a f (zero_of_roots hd xs (quot a f) hn'.2 (by rw [quot_length];simp at hl;omega) fun x hx => ?_) (h a (by simp))
  have h1 := quot_spec a x f
  rw [h x (List.mem_cons_of_mem _ hx),h a (by simp)] at h1
  have h2 : (x - a) * ev x (quot a f) = 0 := by grind
  rcases hd _ _ h2 with h3|h3
  ·have : x = a := by grind
   subst this;exact absurd hx hn'.1
  ·exact h3
def sub : List (Fin p) → List (Fin p) → List (Fin p)
 | [],g => g.map fun c => -c
 | f,[] => f
 | c :: f,d :: g => (c - d) :: sub f g
omit [NeZero p] in
theorem sub_length : ∀ f g : List (Fin p),(sub f g).length = max f.length g.length
 | [],g => by simp [sub]
 | _ :: _,[] => by simp [sub]
 | _ :: f,_ :: g => by simp [sub,sub_length f g]
theorem ev_neg (x : Fin p) : ∀ f : List (Fin p),ev x (f.map fun c => -c) = - ev x f
 | [] => by simp only [List.map_nil,ev];grind
 | c :: f => by simp only [List.map_cons,ev,ev_neg x f];grind
theorem ev_sub (x : Fin p) : ∀ f g : List (Fin p),ev x (sub f g) = ev x f - ev x g
 | [],g => by simp only [sub,ev_neg,ev];grind
 | _ :: _,[] => by simp only [sub,ev];grind
 | c :: f,d :: g => by simp only [sub,ev,ev_sub x f g];grind
theorem getD_sub (i : Nat) : ∀ f g : List (Fin p),(sub f g).getD i 0 = f.getD i 0 - g.getD i 0 := by
 induction i with
 | zero =>
  intro f g
  cases f with
  | nil => cases g with
   | nil => simp only [sub,List.map_nil,List.getD_nil];grind
   | cons d g => simp only [sub,List.map_cons,List.getD_cons_zero,List.getD_nil];grind
  | cons c f => cases g with
   | nil => simp only [sub,List.getD_cons_zero,List.getD_nil];grind
   | cons d g => simp only [sub,List.getD_cons_zero]
 | succ i ih =>
  intro f g
  cases f with
  | nil => cases g with
   | nil => simp only [sub,List.map_nil,List.getD_nil];grind
   | cons d g =>
    have := ih [] g
    simp only [sub,List.map_cons,List.getD_cons_succ,List.getD_nil] at *
    exact this
  | cons c f => cases g with
   | nil => simp only [sub,List.getD_cons_succ,List.getD_nil];grind
   | cons d g => simp only [sub,List.getD_cons_succ];exact ih f g
theorem getD_zero {f : List (Fin p)} (h : ∀ c ∈ f,c = 0) (i : Nat) : f.getD i 0 = 0 := by
 rw [List.getD_eq_getElem?_getD]
 by_cases hi : i < f.length
 ·rw [List.getElem?_eq_getElem hi];exact h _ (List.getElem_mem hi)
 ·rw [List.getElem?_eq_none (by omega)];rfl
theorem unique (hd : Dom p) (xs f g : List (Fin p)) (hn : xs.Nodup) (hf : f.length ≤ xs.length) (hg : g.length ≤ xs.length) (h : ∀ x ∈ xs,ev x f = ev x g) (i : Nat) : f.getD i 0 = g.getD i 0 := by
 have h1 := getD_zero (zero_of_roots hd xs (sub f g) hn (by rw [sub_length];omega) fun x hx => by rw [ev_sub,h x hx];grind) i
 rw [getD_sub] at h1
 grind
theorem ev_congr (x : Fin p) : ∀ f g : List (Fin p),(∀ i,f.getD i 0 = g.getD i 0) → ev x f = ev x g := by
 intro f g h
 have : ∀ c ∈ sub f g,c = 0 := by
  intro c hc
  obtain ⟨i,hi,rfl⟩ := List.getElem_of_mem hc
  have := getD_sub i f g
  rw [h i,List.getD_eq_getElem?_getD,List.getElem?_eq_getElem hi] at this
  simp only [Option.getD_some] at this
  rw [this];grind
 have h0 : ∀ l : List (Fin p),(∀ c ∈ l,c = 0) → ev x l = 0 := by
  intro l
  induction l with
  | nil => intro _;rfl
  | cons c l ih => intro hl;rw [ev,ih (fun d hd => hl d (List.mem_cons_of_mem _ hd)),hl c (by simp)];grind
 have h1 := h0 _ this
 rw [ev_sub] at h1
 grind
end
section
variable {p : Nat} [NeZero p]
def mono (x : Fin p) : Nat → Fin p
 | 0 => 1
 | n + 1 => x * mono x n
theorem mono_add (x : Fin p) (a : Nat) : ∀ b,mono x (a + b) = mono x a * mono x b
 | 0 => by simp only [mono,Nat.add_zero];grind
 | b + 1 => by rw [← Nat.add_assoc];simp only [mono];rw [mono_add x a b];grind
theorem ev_append (x : Fin p) : ∀ f g : List (Fin p),ev x (f ++ g) = ev x f + mono x f.length * ev x g
 | [],g => by simp only [List.nil_append,ev,List.length_nil,mono];grind
 | c :: f,g => by simp only [List.cons_append,ev,List.length_cons,mono,ev_append x f g];grind
theorem ev_zeros (x : Fin p) : ∀ n,ev x (List.replicate n 0) = 0
 | 0 => rfl
 | n + 1 => by simp only [List.replicate_succ,ev,ev_zeros x n];grind
theorem ev_set (x v : Fin p) : ∀ (f : List (Fin p)) (i : Nat),i < f.length → ev x (f.set i v) = ev x f + (v - f.getD i 0) * mono x i
 | [],_,h => by simp at h
 | c :: f,0,_ => by simp only [List.set_cons_zero,ev,mono,List.getD_cons_zero];grind
 | c :: f,i + 1,h => by
  have := ev_set x v f i (by simpa using h)
  simp only [List.set_cons_succ,ev,mono,List.getD_cons_succ,this];grind
theorem ev_take_succ (x : Fin p) : ∀ (f : List (Fin p)) (n : Nat),ev x (f.take (n + 1)) = ev x (f.take n) + f.getD n 0 * mono x n
 | [],n => by simp only [List.take_nil,List.getD_nil,ev];grind
 | c :: f,0 => by simp only [List.take_succ_cons,List.take_zero,ev,List.getD_cons_zero,mono];grind
 | c :: f,n + 1 => by
  have := ev_take_succ x f n
  simp only [List.take_succ_cons,ev,List.getD_cons_succ,mono] at *
  rw [this];grind
def tf (p : Nat) [NeZero p] (a : Int) : Fin p := ⟨(a % (p : Int)).toNat,by
 have h : (0 : Int) < p := by have := Nat.pos_of_neZero p;omega
 have := Int.emod_lt_of_pos a h
 have := Int.emod_nonneg a (by omega : (p : Int) ≠ 0)
 omega⟩
theorem tf_val (a : Int) : (((tf p a).val : Nat) : Int) = a % (p : Int) := by
 have h : (0 : Int) < p := by have := Nat.pos_of_neZero p;omega
 show (((a % (p : Int)).toNat : Nat) : Int) = _
 rw [Int.toNat_of_nonneg (Int.emod_nonneg a (by omega))]
theorem tf_eq {a : Int} {x : Fin p} (h : ((x.val : Nat) : Int) = a % (p : Int)) : tf p a = x := by
 apply Fin.ext
 have := tf_val (p := p) a
 omega
theorem tf_of_emod {a b : Int} (h : a % (p : Int) = b % (p : Int)) : tf p a = tf p b := tf_eq (by rw [tf_val,h])
theorem tf_emod (a : Int) : tf p (a % (p : Int)) = tf p a := tf_of_emod (Int.emod_emod_of_dvd _ (Int.dvd_refl _))
theorem tf_add (a b : Int) : tf p (a + b) = tf p a + tf p b := by
 refine tf_eq ?_
 rw [Fin.val_add,Int.natCast_emod,Int.natCast_add,tf_val,tf_val,← Int.add_emod]
theorem tf_mul (a b : Int) : tf p (a * b) = tf p a * tf p b := by
 refine tf_eq ?_
 rw [Fin.val_mul,Int.natCast_emod,Int.natCast_mul,tf_val,tf_val,← Int.mul_emod]
theorem tf_zero : tf p 0 = 0 := tf_eq (by simp)
theorem tf_one : tf p 1 = 1 := by
 refine tf_eq ?_
 rw [show ((1 : Fin p).val) = 1 % p from rfl];simp
theorem tf_neg (a : Int) : tf p (-a) = - tf p a := by
 have h : tf p (-a) + tf p a = 0 := by rw [← tf_add,show -a + a = 0 from by omega,tf_zero]
 grind
theorem tf_sub (a b : Int) : tf p (a - b) = tf p a - tf p b := by rw [Int.sub_eq_add_neg,tf_add,tf_neg];grind
theorem tf_of_val (x : Fin p) : tf p ((x.val : Nat) : Int) = x := tf_eq (by
 have := x.isLt
 rw [← Int.natCast_emod,Nat.mod_eq_of_lt this])
theorem tf_inj {a b : Int} (ha : 0 ≤ a ∧ a < (p : Int)) (hb : 0 ≤ b ∧ b < (p : Int)) (h : tf p a = tf p b) : a = b := by
 have h1 := tf_val (p := p) a
 rw [h,tf_val,Int.emod_eq_of_lt ha.1 ha.2,Int.emod_eq_of_lt hb.1 hb.2] at h1
 exact h1.symm
theorem getD_tf (l : List Int) (i : Nat) : (l.map (tf p)).getD i 0 = tf p (l.getD i 0) := by
 rw [List.getD_eq_getElem?_getD,List.getD_eq_getElem?_getD,List.getElem?_map]
 cases l[i]? with
 | none => simp [tf_zero]
 | some v => rfl
def lin (y : Fin p) : List (Fin p) → Fin p
 | [] => 1
 | o :: l => (y - o) * lin y l
theorem lin_zero {y : Fin p} : ∀ {l : List (Fin p)},y ∈ l → lin y l = 0
 | o :: l,h => by
  rcases List.mem_cons.1 h with h|h
  ·subst h;simp only [lin];grind
  ·simp only [lin];rw [lin_zero h];grind
end
end Go.Proofs.Ytmdoaijkaaaglaa.Pl
end
section
namespace Go.Proofs.Ytmdoaijkaaaglaa.E
open Go.RowKit Go.Proofs.Ytmdoaijkaaaglaa.Pr Go.Proofs.Ytmdoaijkaaaglaa.Hw Go.Proofs.Ytmdoaijkaaaglaa.Pl Go.Proofs.YtmdoaijkaaaglaaW.PrintWords Go.Proofs.YtmdoaijkaaaglaaW.PrintLast Go.Proofs.YtmdoaijkaaaglaaW.PrintMore
theorem nz {p : Int} (hp : Supp p) : NeZero p.toNat := ⟨by have := hp.bd;omega⟩
theorem cast_p {p : Int} (hp : Supp p) : ((p.toNat : Nat) : Int) = p := by have := hp.bd;omega
section
variable {p : Int} (hp : Supp p) [NeZero p.toNat]
def T (p : Int) [NeZero p.toNat] (a : Int) : Fin p.toNat := tf p.toNat a
def M (p : Int) [NeZero p.toNat] (l : List Int) : List (Fin p.toNat) := l.map (T p)
include hp in
theorem T_mod (a : Int) : T p (a % p) = T p a := by
 have h := tf_emod (p := p.toNat) a
 rw [cast_p hp] at h;exact h
theorem T_add (a b : Int) : T p (a + b) = T p a + T p b := tf_add a b
theorem T_mul (a b : Int) : T p (a * b) = T p a * T p b := tf_mul a b
theorem T_sub (a b : Int) : T p (a - b) = T p a - T p b := tf_sub a b
theorem T_neg (a : Int) : T p (-a) = - T p a := tf_neg a
theorem T_zero : T p 0 = 0 := tf_zero
theorem T_one : T p 1 = 1 := tf_one
include hp in
theorem T_inj {a b : Int} (ha : Res p a) (hb : Res p b) (h : T p a = T p b) : a = b :=
 tf_inj (p := p.toNat) (by rw [cast_p hp];exact ha) (by rw [cast_p hp];exact hb) h
include hp in
theorem T_inv {a : Int} (ha : Res p a) (h0 : a ≠ 0) : T p a * T p (invp p a) = 1 := by
 rw [← T_mul,← T_one,← T_mod hp (a * invp p a),inv_spec hp ha h0]
include hp in
theorem T_back (x : Fin p.toNat) : Res p ((x.val : Nat) : Int) ∧ T p ((x.val : Nat) : Int) = x := by
 have := x.isLt
 have := cast_p hp
 exact ⟨⟨by omega,by omega⟩,tf_of_val x⟩
include hp in
theorem dom : Dom p.toNat := by
 intro a b h
 obtain ⟨r,e⟩ := T_back hp a
 by_cases h0 : ((a.val : Nat) : Int) = 0
 ·left;rw [← e,h0,T_zero]
 ·right
  have h1 := T_inv hp r h0
  rw [e] at h1
  grind
include hp in
theorem one_ne : (1 : Fin p.toNat) ≠ 0 := by
 intro h
 rw [← T_one,← T_zero] at h
 have hb := hp.bd
 have := T_inj hp (a := 1) (b := 0) ⟨by omega,by omega⟩ ⟨by omega,by omega⟩ h
 omega
include hp in
theorem ev_evI (x : Int) : ∀ l,T p (evI p x l) = ev (T p x) (M p l)
 | [] => T_zero
 | c :: l => by
  have := ev_evI x l
  simp only [evI,M,List.map_cons,ev]
  rw [T_mod hp,T_add,T_mod hp,T_mul,this,M]
  grind
theorem M_getD (l : List Int) (i : Nat) : (M p l).getD i 0 = T p (l.getD i 0) := getD_tf l i
theorem M_length (l : List Int) : (M p l).length = l.length := List.length_map _
theorem ev_trimL (x : Fin p.toNat) (l : List Int) : ev x (M p (trimL l)) = ev x (M p l) :=
 ev_congr x _ _ (fun i => by rw [M_getD,M_getD,trimL_getD])
theorem ev_grow (x : Fin p.toNat) (l : List Int) (n : Nat) : ev x (M p (grow l n)) = ev x (M p l) := by
 have : M p (grow l n) = M p l ++ List.replicate (n - l.length) 0 := by
  unfold grow M;rw [List.map_append,List.map_replicate,T_zero]
 rw [this,ev_append,ev_zeros];grind
include hp in
theorem ev_put (x : Fin p.toNat) (l : List Int) (i : Nat) (k : Int) : ev x (M p (putL p l i k)) = ev x (M p l) + T p k * mono x i := by
 have hg : i < (grow l (i + 1)).length := by unfold grow;simp;omega
 have : M p (putL p l i k) = (M p (grow l (i + 1))).set i (T p ((grow l (i + 1)).getD i 0) + T p k) := by
  unfold putL M;rw [List.map_set,T_mod hp,T_add]
 rw [this,ev_set _ _ _ _ (by rw [M_length];exact hg),ev_grow,M_getD]
 grind
include hp in
theorem ev_puts (x : Fin p.toNat) (m l : List Int) : ∀ n,ev x (M p (putsL p m l n)) = ev x (M p m) + ev x ((M p l).take n)
 | 0 => by simp only [putsL,List.take_zero,ev];grind
 | n + 1 => by rw [putsL,ev_put hp,ev_puts x m l n,ev_take_succ,M_getD];grind
theorem M_take_all (l : List Int) : (M p l).take l.length = M p l := by rw [← M_length (p := p) l,List.take_length]
include hp in
theorem ev_addP (x : Fin p.toNat) (a b : List Int) : ev x (M p (addP p a b)) = ev x (M p a) + ev x (M p b) := by
 unfold addP
 rw [ev_puts hp,ev_puts hp,M_take_all,M_take_all]
 show ev x [] + _ + _ = _
 simp only [ev];grind
include hp in
theorem ev_row (x : Fin p.toNat) (m : List Int) (u : Int) (b : List Int) (i : Nat) : ∀ n,ev x (M p (rowL p m u b i n)) = ev x (M p m) + T p u * mono x i * ev x ((M p b).take n)
 | 0 => by simp only [rowL,List.take_zero,ev];grind
 | n + 1 => by
  rw [rowL,ev_put hp,ev_row x m u b i n,ev_take_succ,M_getD,T_mod hp,T_mul,mono_add,rd_nat];grind
include hp in
theorem ev_muls (x : Fin p.toNat) (a b : List Int) : ∀ n,ev x (M p (mulsL p a b n)) = ev x ((M p a).take n) * ev x (M p b)
 | 0 => by simp only [mulsL,List.take_zero,M,List.map_nil,ev];grind
 | n + 1 => by rw [mulsL,ev_row hp,ev_muls x a b n,M_take_all,ev_take_succ,M_getD,rd_nat];grind
include hp in
theorem ev_scaleL (x : Fin p.toNat) (k : Int) : ∀ l,ev x (M p (l.map fun v => k * v % p)) = T p k * ev x (M p l)
 | [] => by simp only [M,List.map_nil,ev];grind
 | c :: l => by
  have := ev_scaleL x k l
  simp only [M,List.map_cons,ev] at *
  rw [this,T_mod hp,T_mul];grind
include hp in
theorem M_nodup : ∀ {xs : List Int},(∀ x ∈ xs,Res p x) → xs.Nodup → (M p xs).Nodup
 | [],_,_ => List.nodup_nil
 | a :: xs,h,hn => by
  have hn' := List.nodup_cons.1 hn
  refine List.nodup_cons.2 ⟨fun hm => ?_,M_nodup (fun x hx => h x (List.mem_cons_of_mem _ hx)) hn'.2⟩
  obtain ⟨b,hb,e⟩ := List.mem_map.1 hm
  have := T_inj hp (h b (List.mem_cons_of_mem _ hb)) (h a (by simp)) e
  exact hn'.1 (this ▸ hb)
end
theorem uniq {p : Int} (hp : Supp p) {xs f g : List Int} (hx : ∀ x ∈ xs,Res p x) (hn : xs.Nodup) (hf : ∀ x ∈ f,Res p x) (hg : ∀ x ∈ g,Res p x) (lf : f.length ≤ xs.length) (lg : g.length ≤ xs.length)
  (h : ∀ x ∈ xs,evI p x f = evI p x g) : trimL f = trimL g := by
 haveI := nz hp
 have hb := hp.bd
 refine trimL_ext fun i => ?_
 have hz : ∀ {l : List Int},(∀ x ∈ l,Res p x) → Res p (l.getD i 0) := by
  intro l hl
  rw [List.getD_eq_getElem?_getD]
  by_cases hi : i < l.length
  ·rw [List.getElem?_eq_getElem hi];exact hl _ (List.getElem_mem hi)
  ·rw [List.getElem?_eq_none (by omega)];exact ⟨Int.le_refl 0,by show (0 : Int) < p;omega⟩
 refine T_inj hp (hz hf) (hz hg) ?_
 rw [← M_getD,← M_getD]
 refine unique (dom hp) (M p xs) (M p f) (M p g) (M_nodup hp hx hn) (by simp only [M_length];exact lf) (by simp only [M_length];exact lg) (fun y hy => ?_) i
 obtain ⟨x,hxx,rfl⟩ := List.mem_map.1 hy
 rw [← ev_evI hp,← ev_evI hp,h x hxx]
theorem mulsL_lin_length {p : Int} (f : List Int) (o : Int) : ∀ n,(mulsL p f [o,1] n).length ≤ n + 1 := by
 intro n
 induction n with
 | zero => simp [mulsL]
 | succ n ih =>
  show (rowL p (mulsL p f [o,1] n) (rd f n) [o,1] n 2).length ≤ _
  simp only [rowL,putL_length,Nat.add_zero];omega
section
variable {p : Int} (hp : Supp p) [NeZero p.toNat]
include hp in
theorem polS_ev (y : Fin p.toNat) (X : Int) : ∀ (l : List Int) (s : List Int × Int),
  ev y (M p (l.foldl (polStep p X) s).1) = ev y (M p s.1) * lin y (M p l) ∧ T p (l.foldl (polStep p X) s).2 = T p s.2 * lin (T p X) (M p l) ∧ (l.foldl (polStep p X) s).1.length ≤ s.1.length + l.length
 | [],s => ⟨by show _ = _ * 1;grind,by show _ = _ * 1;grind,by simp⟩
 | o :: l,s => by
  obtain ⟨h1,h2,h3⟩ := polS_ev y X l (polStep p X s o)
  have e1 : ev y (M p (polStep p X s o).1) = ev y (M p s.1) * (y - T p o) := by
   show ev y (M p (trimL (mulsL p s.1 [-o % p,1] s.1.length))) = _
   rw [ev_trimL,ev_muls hp,M_take_all]
   simp only [M,List.map_cons,List.map_nil,ev,T_mod hp,T_neg,T_one]
   grind
  have e2 : T p (polStep p X s o).2 = T p s.2 * (T p X - T p o) := by
   show T p (s.2 * ((X - o) % p) % p) = _
   rw [T_mod hp,T_mul,T_mod hp,T_sub]
  have e3 : (polStep p X s o).1.length ≤ s.1.length + 1 := Nat.le_trans (trimL_length _) (mulsL_lin_length s.1 _ _)
  simp only [List.foldl_cons,List.length_cons]
  rw [h1,h2,e1,e2]
  refine ⟨?_,?_,by omega⟩
  ·simp only [M,List.map_cons,lin];grind
  ·simp only [M,List.map_cons,lin];grind
end
theorem othersN_len (xs : List Int) (i : Nat) : ∀ n,(othersN xs i n).length = if i < n then n - 1 else n
 | 0 => rfl
 | n + 1 => by
  have ih := othersN_len xs i n
  unfold othersN
  by_cases h : n = i
  ·subst h;rw [if_pos rfl,ih,if_neg (by omega),if_pos (by omega)];omega
  ·rw [if_neg h,List.length_append,ih]
   by_cases h2 : i < n
   ·rw [if_pos h2,if_pos (by omega)];simp;omega
   ·rw [if_neg h2,if_neg (by omega)];simp
theorem othersN_has (xs : List Int) (i j : Nat) (hne : j ≠ i) : ∀ n,j < n → rd xs j ∈ othersN xs i n
 | n + 1,h => by
  unfold othersN
  by_cases hj : j = n
  ·subst hj;rw [if_neg hne];simp
  ·have := othersN_has xs i j hne n (by omega)
   split
   ·exact this
   ·exact List.mem_append_left _ this
section
variable {p : Int} (hp : Supp p) [NeZero p.toNat]
def sumF (f : Nat → Fin p.toNat) : Nat → Fin p.toNat
 | 0 => 0
 | n + 1 => sumF f n + f n
theorem sumF_congr {f g : Nat → Fin p.toNat} : ∀ n,(∀ i,i < n → f i = g i) → sumF f n = sumF g n
 | 0,_ => rfl
 | n + 1,h => by simp only [sumF];rw [sumF_congr n (fun i hi => h i (by omega)),h n (by omega)]
theorem sumF_one {f : Nat → Fin p.toNat} {j : Nat} : ∀ n,(∀ i,i < n → i ≠ j → f i = 0) → sumF f n = if j < n then f j else 0
 | 0,_ => rfl
 | n + 1,h => by
  simp only [sumF]
  rw [sumF_one n (fun i hi => h i (by omega))]
  by_cases hj : j = n
  ·subst hj;rw [if_neg (by omega),if_pos (by omega)];grind
  ·rw [h n (by omega) (fun e => hj e.symm)]
   by_cases h2 : j < n
   ·rw [if_pos h2,if_pos (by omega)];grind
   ·rw [if_neg h2,if_neg (by omega)];grind
def oth (p : Int) [NeZero p.toNat] (xs : List Int) (i : Nat) : List (Fin p.toNat) := M p (othersN xs i xs.length)
def dinv (p : Int) [NeZero p.toNat] (xs : List Int) (i : Nat) : Fin p.toNat := T p (invp p (lagS p 0 xs i).2)
include hp in
theorem lagS_ev (a : Int) (X : Int) : ∀ (l : List Int) (s : Int × Int),
  T p (l.foldl (lagStep p a X) s).1 = T p s.1 * lin (T p a) (M p l) ∧ T p (l.foldl (lagStep p a X) s).2 = T p s.2 * lin (T p X) (M p l)
 | [],s => ⟨by show _ = _ * 1;grind,by show _ = _ * 1;grind⟩
 | o :: l,s => by
  obtain ⟨h1,h2⟩ := lagS_ev a X l (lagStep p a X s o)
  simp only [List.foldl_cons,M,List.map_cons,lin]
  rw [h1,h2]
  simp only [lagStep,M]
  rw [T_mod hp,T_mod hp,T_mul,T_mul,T_mod hp,T_mod hp,T_sub,T_sub]
  constructor <;> grind
include hp in
theorem dinv_spec {xs : List Int} (hx : ∀ x ∈ xs,Res p x) (hn : xs.Nodup) (i : Nat) (hi : i < xs.length) : lin (T p (rd xs i)) (oth p xs i) * dinv p xs i = 1 := by
 have hb := hp.bd
 obtain ⟨h1,h2,h3⟩ := lagS_ok hp (a := 0) hx hn i hi
 have h := (lagS_ev hp 0 (rd xs i) (othersN xs i xs.length) (1,1)).2
 have e := T_inv hp h2 h3
 have h' : T p (lagS p 0 xs i).2 = lin (T p (rd xs i)) (oth p xs i) := by
  unfold lagS oth;rw [h,T_one];grind
 rw [h'] at e
 exact e
include hp in
theorem lagW_ev (a : Int) {xs : List Int} (hx : ∀ x ∈ xs,Res p x) (hn : xs.Nodup) (i : Nat) (hi : i < xs.length) : T p (lagW p a xs i) = lin (T p a) (oth p xs i) * dinv p xs i := by
 obtain ⟨h1,h2,h3⟩ := lagS_ok hp (a := a) hx hn i hi
 have h := lagS_ev hp a (rd xs i) (othersN xs i xs.length) (1,1)
 have e := T_inv hp h2 h3
 have d := dinv_spec hp hx hn i hi
 have e1 : T p (lagS p a xs i).1 = lin (T p a) (oth p xs i) := by unfold lagS oth;rw [h.1,T_one];grind
 have e2 : T p (lagS p a xs i).2 = lin (T p (rd xs i)) (oth p xs i) := by unfold lagS oth;rw [h.2,T_one];grind
 unfold lagW
 rw [T_mod hp,T_mul,e1]
 rw [e2] at e
 generalize lin (T p (rd xs i)) (oth p xs i) = D at *
 have : T p (invp p (lagS p a xs i).2) = dinv p xs i := by grind
 rw [this]
include hp in
theorem polTerm_ev {pts : List S56} (hx : PtsOk p pts) (hn : (xsOf pts).Nodup) (i : Nat) (hi : i < pts.length) (y : Fin p.toNat) :
  ev y (M p (polTerm p pts i)) = T p (rd_T56 pts (i : Int)).f1 * (lin y (oth p (xsOf pts) i) * dinv p (xsOf pts) i) := by
 have hl : (xsOf pts).length = pts.length := by simp [xsOf]
 obtain ⟨h1,h2,h3⟩ := polS_ev hp y (rd_T56 pts (i : Int)).f0 (othersN (xsOf pts) i pts.length) ([1],1)
 obtain ⟨hr1,hr2,hlen,hD0⟩ := polS_ok hp hx hi hn
 have d := dinv_spec hp hx.xs hn i (by omega)
 have e := T_inv hp hr2 hD0
 unfold polTerm
 rw [ev_trimL,ev_scaleL hp,T_mod hp,T_mul]
 have e1 : ev y (M p (polS p pts i).1) = lin y (oth p (xsOf pts) i) := by
  unfold polS oth;rw [h1,hl];simp only [M,List.map_cons,List.map_nil,ev,T_one];grind
 have e2 : T p (polS p pts i).2 = lin (T p (rd (xsOf pts) i)) (oth p (xsOf pts) i) := by
  unfold polS oth;rw [h2,T_one,xsOf_rd pts i hi,hl];grind
 rw [e1]
 rw [e2] at e
 generalize lin (T p (rd (xsOf pts) i)) (oth p (xsOf pts) i) = D at *
 have : T p (invp p (polS p pts i).2) = dinv p (xsOf pts) i := by grind
 rw [this];grind
include hp in
theorem polSum_ev {pts : List S56} (hx : PtsOk p pts) (hn : (xsOf pts).Nodup) (y : Fin p.toNat) : ∀ n,n ≤ pts.length →
  ev y (M p (polSum p pts n)) = sumF (fun i => T p (rd_T56 pts (i : Int)).f1 * (lin y (oth p (xsOf pts) i) * dinv p (xsOf pts) i)) n
 | 0,_ => rfl
 | n + 1,h => by
  rw [polSum,ev_trimL,ev_addP hp,polSum_ev hx hn y n (by omega),polTerm_ev hp hx hn n (by omega) y];rfl
include hp in
theorem polTerm_len {pts : List S56} (i : Nat) (hi : i < pts.length) : (polTerm p pts i).length ≤ pts.length := by
 obtain ⟨h1,h2,h3⟩ := polS_ev hp 0 (rd_T56 pts (i : Int)).f0 (othersN (xsOf pts) i pts.length) ([1],1)
 rw [othersN_len,if_pos hi] at h3
 simp only [List.length_cons,List.length_nil] at h3
 refine Nat.le_trans (trimL_length _) ?_
 rw [List.length_map]
 unfold polS
 omega
include hp in
theorem polSum_len {pts : List S56} : ∀ n,n ≤ pts.length → (polSum p pts n).length ≤ pts.length
 | 0,_ => by simp [polSum]
 | n + 1,h => by
  have h1 := polSum_len (pts := pts) n (by omega)
  have h2 := polTerm_len hp (pts := pts) n (by omega)
  refine Nat.le_trans (trimL_length _) ?_
  rw [addP_length];omega
include hp in
theorem polL_ev {pts : List S56} (hx : PtsOk p pts) (hn : (xsOf pts).Nodup) (y : Fin p.toNat) :
  ev y (M p (polL p pts)) = sumF (fun i => T p (rd_T56 pts (i : Int)).f1 * (lin y (oth p (xsOf pts) i) * dinv p (xsOf pts) i)) pts.length := by
 unfold polL;rw [ev_trimL,polSum_ev hp hx hn y pts.length (Nat.le_refl _)]
end
theorem polL_res {p : Int} (hp : Supp p) {pts : List S56} (hx : PtsOk p pts) : ∀ x ∈ polL p pts,Res p x := fun x h => (polSum_ok hp hx pts.length (Nat.le_refl _)).1 x (trimL_mem h)
theorem polL_len {p : Int} (hp : Supp p) {pts : List S56} : (polL p pts).length ≤ pts.length := by
 haveI := nz hp
 exact Nat.le_trans (trimL_length _) (polSum_len hp pts.length (Nat.le_refl _))
theorem polL_trim (p : Int) (pts : List S56) : trimL (polL p pts) = polL p pts := trimL_trimL _
theorem polL_at {p : Int} (hp : Supp p) {pts : List S56} (hx : PtsOk p pts) (hn : (xsOf pts).Nodup) (j : Nat) (hj : j < pts.length) :
  evI p (rd_T56 pts (j : Int)).f0 (polL p pts) = (rd_T56 pts (j : Int)).f1 := by
 haveI := nz hp
 have hl : (xsOf pts).length = pts.length := by simp [xsOf]
 refine T_inj hp (evI_res hp _ _) (hx.at_ j hj).2 ?_
 rw [ev_evI hp,polL_ev hp hx hn,sumF_one (j := j) _ (fun i hi hij => ?_),if_pos hj]
 ·have d := dinv_spec hp hx.xs hn j (by omega)
  rw [xsOf_rd pts j hj] at d
  grind
 ·have : lin (T p (rd_T56 pts (j : Int)).f0) (oth p (xsOf pts) i) = 0 := by
   refine lin_zero ?_
   rw [← xsOf_rd pts j hj]
   exact List.mem_map_of_mem (othersN_has _ _ _ (fun e => hij e.symm) _ (by omega))
  rw [this];grind
theorem polL_char {p : Int} (hp : Supp p) {pts : List S56} (hx : PtsOk p pts) (hn : (xsOf pts).Nodup) {g : List Int} (hg : ∀ x ∈ g,Res p x) (lg : g.length ≤ pts.length)
  (h : ∀ j,j < pts.length → evI p (rd_T56 pts (j : Int)).f0 g = (rd_T56 pts (j : Int)).f1) : polL p pts = trimL g := by
 have hl : (xsOf pts).length = pts.length := by simp [xsOf]
 rw [← polL_trim]
 refine uniq hp hx.xs hn (polL_res hp hx) hg (by rw [hl];exact polL_len hp) (by omega) (fun x hxx => ?_)
 obtain ⟨j,hj,rfl⟩ := List.getElem_of_mem hxx
 have e := xsOf_rd pts j (by omega)
 rw [rd_nat,Hw.getD_in _ _ hj] at e
 rw [e,polL_at hp hx hn j (by omega),h j (by omega)]
def ptsOf (p : Int) (xs : List Int) (f : List Int) : List S56 := xs.map fun x => ⟨x,evI p x f⟩
theorem ptsOf_xs (p : Int) (xs f : List Int) : xsOf (ptsOf p xs f) = xs := by unfold xsOf ptsOf;rw [List.map_map];exact List.map_id _
theorem ptsOf_rd (p : Int) (xs f : List Int) (j : Nat) (hj : j < xs.length) : rd_T56 (ptsOf p xs f) (j : Int) = ⟨rd xs j,evI p (rd xs j) f⟩ := by
 rw [rdT_nat _ _ (by unfold ptsOf;simpa using hj),rd_nat,Hw.getD_in _ _ hj];simp [ptsOf]
theorem ptsOf_ok {p : Int} (hp : Supp p) {xs : List Int} (hx : ∀ x ∈ xs,Res p x) (f : List Int) : PtsOk p (ptsOf p xs f) := by
 intro y hy
 obtain ⟨x,h,rfl⟩ := List.mem_map.1 hy
 exact ⟨hx x h,evI_res hp _ _⟩
theorem ptsOf_length (p : Int) (xs f : List Int) : (ptsOf p xs f).length = xs.length := List.length_map _
theorem polL_ptsOf {p : Int} (hp : Supp p) {xs f : List Int} (hx : ∀ x ∈ xs,Res p x) (hn : xs.Nodup) (hf : ∀ x ∈ f,Res p x) (hl : f.length ≤ xs.length) : polL p (ptsOf p xs f) = trimL f := by
 refine polL_char hp (ptsOf_ok hp hx f) (by rw [ptsOf_xs];exact hn) hf (by rw [ptsOf_length];exact hl) (fun j hj => ?_)
 rw [ptsOf_length] at hj
 rw [ptsOf_rd _ _ _ _ hj]
theorem lagW_sum {p : Int} (hp : Supp p) [NeZero p.toNat] {xs f : List Int} (hx : ∀ x ∈ xs,Res p x) (hn : xs.Nodup) (hf : ∀ x ∈ f,Res p x) (hl : f.length ≤ xs.length) (a : Int) :
  sumF (fun i => T p (lagW p a xs i) * T p (evI p (rd xs i) f)) xs.length = T p (evI p a f) := by
 rw [ev_evI hp,← ev_trimL,← polL_ptsOf hp hx hn hf hl,polL_ev hp (ptsOf_ok hp hx f) (by rw [ptsOf_xs];exact hn),ptsOf_length,ptsOf_xs]
 refine sumF_congr _ fun i hi => ?_
 rw [ptsOf_rd _ _ _ _ hi,lagW_ev hp a hx hn i hi]
 grind
end Go.Proofs.Ytmdoaijkaaaglaa.E
end
section
namespace Go.Proofs.Ytmdoaijkaaaglaa.Pr
open Go.RowKit Go.Proofs.YtmdoaijkaaaglaaW.PrintWords Go.Proofs.YtmdoaijkaaaglaaW.PrintLast Go.Proofs.YtmdoaijkaaaglaaW.PrintMore
attribute [local go_sem] max2_int min2_int max_two min_two max_three min_three max_four min_four
open Go.Proofs.Ytmdoaijkaaaglaa.Hw


end Go.Proofs.Ytmdoaijkaaaglaa.Pr
end
section
namespace Go.Proofs.Ytmdoaijkaaaglaa.E
open Go.RowKit Go.Proofs.Ytmdoaijkaaaglaa.Pr Go.Proofs.Ytmdoaijkaaaglaa.Hw Go.Proofs.Ytmdoaijkaaaglaa.Pl Go.Proofs.YtmdoaijkaaaglaaW.PrintWords Go.Proofs.YtmdoaijkaaaglaaW.PrintLast Go.Proofs.YtmdoaijkaaaglaaW.PrintMore
theorem getD_out (l : List Int) (j : Nat) (h : l.length ≤ j) : l.getD j 0 = 0 := by rw [List.getD_eq_getElem?_getD,List.getElem?_eq_none h];rfl
theorem list_ext_getD {a b : List Int} (hl : a.length = b.length) (h : ∀ i,a.getD i 0 = b.getD i 0) : a = b := by
 apply List.ext_getElem hl
 intro i h1 h2
 have := h i
 rwa [Hw.getD_in _ _ h1,Hw.getD_in _ _ h2] at this
end Go.Proofs.Ytmdoaijkaaaglaa.E
end
section
namespace Go.Proofs.Ytmdoaijkaaaglaa.Pr
open Go.RowKit Go.Proofs.YtmdoaijkaaaglaaW.PrintWords Go.Proofs.YtmdoaijkaaaglaaW.PrintLast Go.Proofs.YtmdoaijkaaaglaaW.PrintMore
attribute [local go_sem] max2_int min2_int max_two min_two max_three min_three max_four min_four
open Go.Proofs.Ytmdoaijkaaaglaa.Hw

end Go.Proofs.Ytmdoaijkaaaglaa.Pr
end
section
namespace Go.Proofs.Ytmdoaijkaaaglaa.E
open Go.RowKit Go.Proofs.Ytmdoaijkaaaglaa.Pr Go.Proofs.Ytmdoaijkaaaglaa.Hw Go.Proofs.Ytmdoaijkaaaglaa.Pl Go.Proofs.YtmdoaijkaaaglaaW.PrintWords Go.Proofs.YtmdoaijkaaaglaaW.PrintLast Go.Proofs.YtmdoaijkaaaglaaW.PrintMore
theorem allLoop {F : Nat → Int → Option Bool} {n : Nat} {Q : Nat → Prop} [DecidablePred Q] (hend : ∀ k,F (k + 1) (n : Int) = some true) (hyes : ∀ i,i < n → Q i → ∀ r,Ev (fun k => F k ((i + 1 : Nat) : Int)) r → Ev (fun k => F k (i : Int)) r)
  (hno : ∀ i,i < n → ¬ Q i → Ev (fun k => F k (i : Int)) false) (r : Bool) (hr : r = true ↔ ∀ i,i < n → Q i) : Ev (fun k => F k ((0 : Nat) : Int)) r := by
 have main : ∀ d i,i + d = n → ∀ r : Bool,(r = true ↔ ∀ j,i ≤ j → j < n → Q j) → Ev (fun k => F k (i : Int)) r := by
  intro d
  induction d with
  | zero =>
   intro i hi r hr
   have : i = n := by omega
   subst this
   have : r = true := hr.2 (fun j h1 h2 => by omega)
   subst this
   exact Ev.step (fun k => hend k) (Ev.now _)
  | succ d ih =>
   intro i hi r hr
   by_cases h : Q i
   ·refine hyes i (by omega) h r (ih (i + 1) (by omega) r ⟨fun e j h1 h2 => hr.1 e j (by omega) h2,fun e => hr.2 fun j h1 h2 => ?_⟩)
    by_cases e2 : j = i
    ·rw [e2];exact h
    ·exact e j (by omega) h2
   ·have : r = false := by
     cases r with
     | false => rfl
     | true => exact absurd (hr.1 rfl i (Nat.le_refl _) (by omega)) h
    subst this
    exact hno i (by omega) h
 exact main n 0 (by omega) r ⟨fun e j _ h2 => hr.1 e j h2,fun e => hr.2 fun j h => e j (Nat.zero_le _) h⟩
theorem same_ev (a b : List Int) (ha : a.length ≤ 1000000000) : Ev (fun k => privityref05_Same.f k a b) (decide (a = b)) := by
 by_cases hl : a.length = b.length
 ·have h := allLoop (F := fun k i => privityref05_Same.l0 k a b i) (n := a.length) (Q := fun i => a.getD i 0 = b.getD i 0) (fun k => ?_) (fun i hi hq r h => ?_) (fun i hi hq => ?_) (decide (a = b)) ?_
  ·refine h.congr fun k => ?_
   unfold privityref05_Same.f
   rw [if_pos (by omega)];rfl
  ·simp only [privityref05_Same.l0]
   rw [if_neg (by omega)]
  ·refine Ev.step (fun k => ?_) h
   simp only [privityref05_Same.l0]
   rw [if_pos (by omega),if_pos (by omega),if_pos (by omega),rd_nat,rd_nat,if_pos hq,wnat (by omega)]
  ·refine Ev.step (fun k => ?_) (Ev.now _)
   simp only [privityref05_Same.l0]
   rw [if_pos (by omega),if_pos (by omega),if_pos (by omega),rd_nat,rd_nat,if_neg hq]
  ·rw [decide_eq_true_iff]
   refine ⟨fun e i _ => by rw [e],fun h => list_ext_getD hl fun i => ?_⟩
   by_cases hi : i < a.length
   ·exact h i hi
   ·rw [getD_out a i (by omega),getD_out b i (by omega)]
 ·have : decide (a = b) = false := decide_eq_false fun e => hl (by rw [e])
  rw [this]
  refine Ev.congr (fun k => ?_) (Ev.now _)
  unfold privityref05_Same.f
  rw [if_neg (by omega)]
def belowB (p : Int) (l : List Int) : Bool := l.all fun x => decide (x < p)
theorem below_ev (p : Int) (l : List Int) (hl : l.length ≤ 1000000000) : Ev (fun k => privityref05_Below.f k p l) (belowB p l) := by
 have h := allLoop (F := fun k i => privityref05_Below.l0 k p l i) (n := l.length) (Q := fun i => l.getD i 0 < p) (fun k => ?_) (fun i hi hq r h => ?_) (fun i hi hq => ?_) (belowB p l) ?_
 ·exact h
 ·simp only [privityref05_Below.l0]
  rw [if_neg (by omega)]
 ·refine Ev.step (fun k => ?_) h
  simp only [privityref05_Below.l0]
  rw [if_pos (by omega),if_pos (by omega),rd_nat,if_neg (by omega),wnat (by omega)]
 ·refine Ev.step (fun k => ?_) (Ev.now _)
  simp only [privityref05_Below.l0]
  rw [if_pos (by omega),if_pos (by omega),rd_nat,if_pos (by omega)]
 ·unfold belowB
  rw [List.all_eq_true]
  refine ⟨fun h i hi => ?_,fun h x hx => ?_⟩
  ·rw [Hw.getD_in _ _ hi];exact of_decide_eq_true (h _ (List.getElem_mem hi))
  ·obtain ⟨i,hi,rfl⟩ := List.getElem_of_mem hx
   have := h i hi
   rw [Hw.getD_in _ _ hi] at this
   exact decide_eq_true this
theorem below_res {p : Int} {l : List Int} (h : belowB p l = true) (hw : ∀ x ∈ l,0 ≤ x) : ∀ x ∈ l,Res p x := fun x hx => ⟨hw x hx,of_decide_eq_true (List.all_eq_true.1 h x hx)⟩
section
variable {p : Int} (hp : Supp p) [NeZero p.toNat]
end

theorem wf64 {x : Int} (h : (Lit.int .u64 x).wf = true) : 0 ≤ x ∧ x < 18446744073709551616 := by
 have h1 : IntKind.u64.min ≤ x ∧ x ≤ IntKind.u64.max := by simpa [Lit.wf] using h
 have e1 : IntKind.u64.min = 0 := by decide
 have e2 : IntKind.u64.max = 18446744073709551615 := by decide
 omega
theorem ev_if {α : Type} {A : Nat → Option Bool} {b : Bool} (hA : Ev A b) {X Y : Nat → Option α} {r : α} (hx : b = true → Ev X r) (hy : b = false → Ev Y r) : Ev (fun k => (A k).bind fun t => if t = true then X k else Y k) r := by
 refine Ev.bind (f := fun k t => if t = true then X k else Y k) hA ?_
 cases b with
 | true => exact (hx rfl).congr fun k => if_pos rfl
 | false => exact (hy rfl).congr fun k => if_neg (by simp)
theorem ev_ite {α : Type} {c : Prop} [Decidable c] {X Y : Nat → Option α} {r : α} (hx : c → Ev X r) (hy : ¬ c → Ev Y r) : Ev (fun k => if c then X k else Y k) r := by
 by_cases h : c
 ·exact (hx h).congr fun k => if_pos h
 ·exact (hy h).congr fun k => if_neg h
theorem ev_now_bind {α β : Type} {x : Option α} {a : α} (hx : x = some a) {f : Nat → α → Option β} {r : β} (h : Ev (fun k => f k a) r) : Ev (fun k => x.bind (f k)) r := by subst hx;exact h
theorem ilag_eq {p : Int} (hp : Supp p) {xs : List Int} (hx : ∀ x ∈ xs,Res p x) (hl : xs.length ≤ 49) {a : Int} (ha : Res p a) : interpolate_LagrangeWeights.f p xs a = some (if xs.Nodup then lagL p a xs xs.length else [],if xs.Nodup then 0 else 1) := by
 unfold interpolate_LagrangeWeights.f
 rw [if_pos (supB_iff.2 hp),if_pos (ressB_iff.2 hx),if_pos (resB_iff.2 ha),if_pos hl]
def accI (p : Int) (g : Nat → Int) : Nat → Int
 | 0 => 0
 | n + 1 => (accI p g n + g n) % p
theorem accI_res {p : Int} (hp : Supp p) (g : Nat → Int) : ∀ n,Res p (accI p g n)
 | 0 => by have := hp.bd;exact ⟨Int.le_refl 0,by show (0 : Int) < p;omega⟩
 | n + 1 => Res.mod hp _
theorem accI_T {p : Int} (hp : Supp p) [NeZero p.toNat] (g : Nat → Int) : ∀ n,T p (accI p g n) = sumF (fun i => T p (g i)) n
 | 0 => T_zero
 | n + 1 => by rw [accI,T_mod hp,T_add,accI_T hp g n];rfl
theorem lagL_getD (p a : Int) (xs : List Int) : ∀ (n i : Nat),i < n → (lagL p a xs n).getD i 0 = lagW p a xs i
 | n + 1,i,h => by
  rw [lagL,List.getD_eq_getElem?_getD]
  by_cases h2 : i < n
  ·rw [List.getElem?_append_left (by rw [lagL_length];exact h2),← List.getD_eq_getElem?_getD,lagL_getD p a xs n i h2]
  ·rw [List.getElem?_append_right (by rw [lagL_length];omega),lagL_length,show i - n = 0 from by omega,show i = n from by omega];rfl
theorem lagL_res {p : Int} (hp : Supp p) (a : Int) (xs : List Int) : ∀ n,∀ x ∈ lagL p a xs n,Res p x
 | 0 => fun x hx => by cases hx
 | n + 1 => fun x hx => by
  rcases List.mem_append.1 hx with h|h
  ·exact lagL_res hp a xs n x h
  ·simp only [List.mem_cons,List.not_mem_nil,or_false] at h
   rw [h];exact Res.mod hp _
end Go.Proofs.Ytmdoaijkaaaglaa.E
end
section
namespace Go.Proofs.Ytmdoaijkaaaglaa.Pr
open Go.RowKit Go.Proofs.YtmdoaijkaaaglaaW.PrintWords Go.Proofs.YtmdoaijkaaaglaaW.PrintLast Go.Proofs.YtmdoaijkaaaglaaW.PrintMore
attribute [local go_sem] max2_int min2_int max_two min_two max_three min_three max_four min_four
open Go.Proofs.Ytmdoaijkaaaglaa.Hw

end Go.Proofs.Ytmdoaijkaaaglaa.Pr
end
