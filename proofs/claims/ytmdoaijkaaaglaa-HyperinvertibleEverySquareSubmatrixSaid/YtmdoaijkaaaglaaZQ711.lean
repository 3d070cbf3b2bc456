/- The row of the law HyperinvertibleEverySquareSubmatrix, out of its plain law and the walk. -/
import Derived.Test.YtmdoaijkaaaglaaZQ710
import Derived.Test.YtmdoaijkaaaglaaZQ71
import Derived.Test.YtmdoaijkaaaglaaZQ76
import Derived.Test.YtmdoaijkaaaglaaZQ79
import Derived.Test.YtmdoaijkaaaglaaZQ77
import Derived.Test.YtmdoaijkaaaglaaProg
import Derived.ChangeArms
import Derived.DataReads
import Derived.DataElems
import Derived.ShutString
import Derived.ChangeSame
import Derived.OpenShut
import Derived.Test.YtmdoaijkaaaglaaZQ70
import Derived.Test.YtmdoaijkaaaglaaRows
import Derived.WalkKit
import Derived.ProofKit
import Derived.ChangeOld
import Derived.Below
import Derived.SizedLaws
set_option linter.unusedVariables false
set_option linter.unusedSimpArgs false
section
namespace Go.Proofs.Ytmdoaijkaaaglaa.Hw
open Go.RowKit Go.Proofs.Ytmdoaijkaaaglaa.Pr Go.Proofs.YtmdoaijkaaaglaaW.PrintWords Go.Proofs.YtmdoaijkaaaglaaW.PrintLast Go.Proofs.YtmdoaijkaaaglaaW.PrintMore Go.Proofs.Ytmdoaijkaaaglaa.E
def ptB (p : Int) (l : List S56) : Bool := l.all fun x => (decide (0 ≤ x.f0) && decide (x.f0 < 18446744073709551616)) && resB p x.f1
def cpOkB (p : Int) (m : List (List Int)) (ins outs : List S56) : Bool := supB p && (decide (m.length ≤ 60) && ((m.all fun r => decide (r.length ≤ 60) && ressB p r) && (decide (ins.length ≤ 60) && (decide (outs.length ≤ 60) && (ptB p ins && ptB p outs)))))
theorem ptB_iff {p : Int} {l : List S56} : ptB p l = true ↔ ∀ x ∈ l,(0 ≤ x.f0 ∧ x.f0 < 18446744073709551616) ∧ Res p x.f1 := by
 unfold ptB;simp only [List.all_eq_true,Bool.and_eq_true,decide_eq_true_eq,resB_iff]
theorem cpOkB_iff {p : Int} {m : List (List Int)} {ins outs : List S56} : cpOkB p m ins outs = true ↔ CpOk p m ins outs := by
 unfold cpOkB
 simp only [List.all_eq_true,Bool.and_eq_true,decide_eq_true_eq,supB_iff,ptB_iff,ressB_iff]
 exact ⟨fun h => ⟨h.1,h.2.1,h.2.2.1,h.2.2.2.1,h.2.2.2.2.1,h.2.2.2.2.2.1,h.2.2.2.2.2.2⟩,fun h => ⟨h.hp,h.lm,h.rows,h.li,h.lo,h.pi,h.po⟩⟩
def hyperinvertible_Complete.f (a0 : Int) (l1 : List (List Int)) (l2 l3 : List S56) : Option (List Int × List Int × Int) := if cpOkB a0 l1 l2 l3 = true then some (cpR a0 l1 l2 l3) else none
theorem hyperinvertible_Complete.calls (a0 : Int) (A1 : Option Addr) (c1 : Nat) (l1 : List (List Int)) (A2 : Option Addr) (c2 : Nat) (l2 : List S56) (A3 : Option Addr) (c3 : Nat) (l3 : List S56) (r1 r2 : List Int) (r3 : Int) (w : World) (hr1 : Kd.C (Kd.slice 22 (Kd.int .u64)) w A1 l1.length l1) (hc1 : l1.length ≤ c1) (hr2 : Kd.C k56 w A2 l2.length l2) (hc2 : l2.length ≤ c2) (hr3 : Kd.C k56 w A3 l3.length l3) (hc3 : l3.length ≤ c3) (h : hyperinvertible_Complete.f a0 l1 l2 l3 = some (r1,r2,r3)) :
  Calls Try.prog 22 #[.int .u64 a0,.slice A1 l1.length c1,.slice A2 l2.length c2,.slice A3 l3.length c3] w fun e w' => ∃ v0_ v1_ : Value,e = .returned (.tuple #[v0_,v1_,.int .i64 r3]) ∧ Kd.R (Kd.int .u64) 22 w' w.heap.size (fun _ => True) v0_ r1 ∧ Kd.R (Kd.int .u64) 22 w' w.heap.size (fun _ => True) v1_ r2 ∧ Below w.heap.size w w' := by
 unfold hyperinvertible_Complete.f at h
 obtain ⟨hok,h⟩ := ifs h
 have hk := cpOkB_iff.1 hok
 have hr := Option.some.inj h
 have hcalls : Calls Try.prog 22 #[.int .u64 a0,.slice A1 l1.length c1,.slice A2 l2.length c2,.slice A3 l3.length c3] w fun e w' => CpRet (cpR a0 l1 l2 l3) w e w' ∧ Below w.heap.size w w' := by
  by_cases hg : cpGo l1 l2 l3 = true
  ·exact complete_ok hk A1 c1 A2 c2 A3 c3 w hr1 hc1 hr2 hc2 hr3 hc3 hg
  ·have hg2 := Bool.eq_false_iff.2 hg
   have he : cpR a0 l1 l2 l3 = ([],[],1) := by unfold cpR;rw [if_neg hg]
   rw [he]
   exact complete_err hk A1 c1 A2 c2 A3 c3 w hr1 hc1 hr2 hc2 hr3 hc3 hg2
 refine hcalls.mono ?_
 rintro e w' ⟨⟨v0,v1,he,h1,h2⟩,hb⟩
 rw [hr] at he h1 h2
 exact ⟨v0,v1,he,h1,h2,hb⟩
end Go.Proofs.Ytmdoaijkaaaglaa.Hw
end
section
namespace Go.Proofs.Ytmdoaijkaaaglaa.Pr
open Go.RowKit Go.Proofs.YtmdoaijkaaaglaaW.PrintWords Go.Proofs.YtmdoaijkaaaglaaW.PrintLast Go.Proofs.YtmdoaijkaaaglaaW.PrintMore
attribute [local go_sem] max2_int min2_int max_two min_two max_three min_three max_four min_four
open Go.Proofs.Ytmdoaijkaaaglaa.Hw
def privitylaw07_awake.f (k : Nat)  : Option (Bool) := (hyperinvertible_New.f k 31 1 2).bind fun bt412 => ((hyperinvertible_New.f k 31 16 15).bind fun bt416 => ((hyperinvertible_Complete.f 31 (([(([30,2] : List Int))] : List (List Int))) (([(⟨1,5⟩ : S56)] : List (S56))) (([(⟨0,7⟩ : S56)] : List (S56)))).bind fun bt432 => (if bt412.2 = 0 then ((privityref05_SameRows.f k bt412.1 (([(([30,2] : List Int))] : List (List Int)))).bind fun t445 => (if t445 = true then (if bt416.2 = 2 then (if bt432.2.2 = 0 then ((privityref05_Same.f k bt432.1 (([3,5] : List Int))).bind fun t449 => (if t449 = true then ((privityref05_Same.f k bt432.2.1 (([7] : List Int))).bind fun t453 => (some t453)) else (some false))) else (some false)) else (some false)) else (some false))) else (some false))))
theorem privitylaw07_awake.mono : ∀ k,LeO (privitylaw07_awake.f k ) (privitylaw07_awake.f (k + 1) ) := by
 intro  k
 unfold privitylaw07_awake.f
 repeat' first
   | (with_reducible exact hyperinvertible_New.mono _ _ _ _)
   | (with_reducible exact privityref05_Same.mono _ _ _)
   | (with_reducible exact privityref05_SameRows.mono _ _ _)
   | (with_reducible exact LeO.refl _)
   | (with_reducible exact LeO.none _)
   | (with_reducible refine LeO.ite ?_ ?_)
   | (with_reducible refine LeO.bind ?_ (fun _ => ?_))
   | exact hyperinvertible_New.mono _ _ _ _
   | exact privityref05_Same.mono _ _ _
   | exact privityref05_SameRows.mono _ _ _
   | exact LeO.none _
   | refine LeO.ite ?_ ?_
   | refine LeO.bind ?_ (fun _ => ?_)
theorem privitylaw07_awake.more (k : Nat) : ∀ d,LeO (privitylaw07_awake.f k) (privitylaw07_awake.f (k + d))
 | 0 => fun r h => h
 | d + 1 => fun r h => privitylaw07_awake.mono (k + d) r (privitylaw07_awake.more k d r h)
theorem privitylaw07_awake.is : privitylaw07_awake.f 60 = some true := by kernel_rfl
theorem privitylaw07_awake.one (k : Nat) (r : Bool) (h : privitylaw07_awake.f k = some r) : r = true := by
 have h1 := privitylaw07_awake.more k 60 r h
 have h2 := privitylaw07_awake.more 60 k true privitylaw07_awake.is
 rw [Nat.add_comm,h1] at h2
 exact Option.some.inj h2
set_option maxHeartbeats 8000000 in
set_option maxRecDepth 100000 in
theorem privitylaw07_awake.calls (k : Nat)  (r : Bool) (w : World) (h : privitylaw07_awake.f k  = some r) :
  Calls Try.prog 12 #[] w fun e w' => e = .returned (.bool r) ∧ Below w.heap.size w w' := by
 have HR1 := am (privitylaw07_awake.one k r h)
 have hu56 := Try.underlying56
 have HB := am (Below.refl w.heap.size w)
 have H : ((hyperinvertible_New.f k 31 1 2).bind fun bt412 => ((hyperinvertible_New.f k 31 16 15).bind fun bt416 => ((hyperinvertible_Complete.f 31 (([(([30,2] : List Int))] : List (List Int))) (([(⟨1,5⟩ : S56)] : List (S56))) (([(⟨0,7⟩ : S56)] : List (S56)))).bind fun bt432 => (if bt412.2 = 0 then ((privityref05_SameRows.f k bt412.1 (([(([30,2] : List Int))] : List (List Int)))).bind fun t445 => (if t445 = true then (if bt416.2 = 2 then (if bt432.2.2 = 0 then ((privityref05_Same.f k bt432.1 (([3,5] : List Int))).bind fun t449 => (if t449 = true then ((privityref05_Same.f k bt432.2.1 (([7] : List Int))).bind fun t453 => (some t453)) else (some false))) else (some false)) else (some false)) else (some false))) else (some false))))) = some r := h
 clear h
 replace H := Option.bind_eq_some_iff.mp H
 obtain ⟨⟨t412,t413⟩,A10,H⟩ := H
 try dsimp only at H
 have A1 := am A10
 clear A10
 replace H := Option.bind_eq_some_iff.mp H
 obtain ⟨⟨t416,t417⟩,A20,H⟩ := H
 try dsimp only at H
 have A2 := am A20
 clear A20
 obtain ⟨y420,hy420⟩ : ∃ y_ : List Int,y_ = (([30,2] : List Int)) := ⟨_,rfl⟩
 replace H : ((hyperinvertible_Complete.f 31 (([y420] : List (List Int))) (([(⟨1,5⟩ : S56)] : List (S56))) (([(⟨0,7⟩ : S56)] : List (S56)))).bind fun bt432 => (if t413 = 0 then ((privityref05_SameRows.f k t412 (([(([30,2] : List Int))] : List (List Int)))).bind fun t445 => (if t445 = true then (if t417 = 2 then (if bt432.2.2 = 0 then ((privityref05_Same.f k bt432.1 (([3,5] : List Int))).bind fun t449 => (if t449 = true then ((privityref05_Same.f k bt432.2.1 (([7] : List Int))).bind fun t453 => (some t453)) else (some false))) else (some false)) else (some false)) else (some false))) else (some false))) = some r := by first|(rw [hy420];with_reducible exact H)|(have H2_ := (Option.bind_some _ _).symm.trans H;rw [hy420];with_reducible exact H2_)|(have H2_ := (Option.bind_some _ _).symm.trans H;with_reducible exact H2_)|with_reducible exact H|(rw [hy420];exact H)|exact H
 have Ny420 := am hy420
 clear hy420
 obtain ⟨y423,hy423⟩ : ∃ y_ : List (List Int),y_ = (([y420] : List (List Int))) := ⟨_,rfl⟩
 replace H : ((hyperinvertible_Complete.f 31 y423 (([(⟨1,5⟩ : S56)] : List (S56))) (([(⟨0,7⟩ : S56)] : List (S56)))).bind fun bt432 => (if t413 = 0 then ((privityref05_SameRows.f k t412 (([(([30,2] : List Int))] : List (List Int)))).bind fun t445 => (if t445 = true then (if t417 = 2 then (if bt432.2.2 = 0 then ((privityref05_Same.f k bt432.1 (([3,5] : List Int))).bind fun t449 => (if t449 = true then ((privityref05_Same.f k bt432.2.1 (([7] : List Int))).bind fun t453 => (some t453)) else (some false))) else (some false)) else (some false)) else (some false))) else (some false))) = some r := by first|(rw [hy423];with_reducible exact H)|(have H2_ := (Option.bind_some _ _).symm.trans H;rw [hy423];with_reducible exact H2_)|(have H2_ := (Option.bind_some _ _).symm.trans H;with_reducible exact H2_)|with_reducible exact H|(rw [hy423];exact H)|exact H
 have Ny423 := am hy423
 clear hy423
 obtain ⟨y426,hy426⟩ : ∃ y_ : List (S56),y_ = (([(⟨1,5⟩ : S56)] : List (S56))) := ⟨_,rfl⟩
 replace H : ((hyperinvertible_Complete.f 31 y423 y426 (([(⟨0,7⟩ : S56)] : List (S56)))).bind fun bt432 => (if t413 = 0 then ((privityref05_SameRows.f k t412 (([(([30,2] : List Int))] : List (List Int)))).bind fun t445 => (if t445 = true then (if t417 = 2 then (if bt432.2.2 = 0 then ((privityref05_Same.f k bt432.1 (([3,5] : List Int))).bind fun t449 => (if t449 = true then ((privityref05_Same.f k bt432.2.1 (([7] : List Int))).bind fun t453 => (some t453)) else (some false))) else (some false)) else (some false)) else (some false))) else (some false))) = some r := by first|(rw [hy426];with_reducible exact H)|(have H2_ := (Option.bind_some _ _).symm.trans H;rw [hy426];with_reducible exact H2_)|(have H2_ := (Option.bind_some _ _).symm.trans H;with_reducible exact H2_)|with_reducible exact H|(rw [hy426];exact H)|exact H
 have Ny426 := am hy426
 clear hy426
 obtain ⟨y429,hy429⟩ : ∃ y_ : List (S56),y_ = (([(⟨0,7⟩ : S56)] : List (S56))) := ⟨_,rfl⟩
 replace H : ((hyperinvertible_Complete.f 31 y423 y426 y429).bind fun bt432 => (if t413 = 0 then ((privityref05_SameRows.f k t412 (([(([30,2] : List Int))] : List (List Int)))).bind fun t445 => (if t445 = true then (if t417 = 2 then (if bt432.2.2 = 0 then ((privityref05_Same.f k bt432.1 (([3,5] : List Int))).bind fun t449 => (if t449 = true then ((privityref05_Same.f k bt432.2.1 (([7] : List Int))).bind fun t453 => (some t453)) else (some false))) else (some false)) else (some false)) else (some false))) else (some false))) = some r := by first|(rw [hy429];with_reducible exact H)|(have H2_ := (Option.bind_some _ _).symm.trans H;rw [hy429];with_reducible exact H2_)|(have H2_ := (Option.bind_some _ _).symm.trans H;with_reducible exact H2_)|with_reducible exact H|(rw [hy429];exact H)|exact H
 have Ny429 := am hy429
 clear hy429
 replace H := Option.bind_eq_some_iff.mp H
 obtain ⟨⟨t432,t433,t434⟩,A30,H⟩ := H
 try dsimp only at H
 have A3 := am A30
 clear A30
 by_cases c4 : t413 = 0
 ·rw [if_pos c4] at H
  have c4b0 : (t413 == 0) = true := beq_iff_eq.mpr c4
  have c4b1 : (t413 != 0) = false := bne_eq_false_iff_eq.mpr c4
  clear c4
  obtain ⟨y439,hy439⟩ : ∃ y_ : List Int,y_ = (([30,2] : List Int)) := ⟨_,rfl⟩
  replace H : ((privityref05_SameRows.f k t412 (([y439] : List (List Int)))).bind fun t445 => (if t445 = true then (if t417 = 2 then (if t434 = 0 then ((privityref05_Same.f k t432 (([3,5] : List Int))).bind fun t449 => (if t449 = true then ((privityref05_Same.f k t433 (([7] : List Int))).bind fun t453 => (some t453)) else (some false))) else (some false)) else (some false)) else (some false))) = some r := by first|(rw [hy439];with_reducible exact H)|(have H2_ := (Option.bind_some _ _).symm.trans H;rw [hy439];with_reducible exact H2_)|(have H2_ := (Option.bind_some _ _).symm.trans H;with_reducible exact H2_)|with_reducible exact H|(rw [hy439];exact H)|exact H
  have Ny439 := am hy439
  clear hy439
  obtain ⟨y442,hy442⟩ : ∃ y_ : List (List Int),y_ = (([y439] : List (List Int))) := ⟨_,rfl⟩
  replace H : ((privityref05_SameRows.f k t412 y442).bind fun t445 => (if t445 = true then (if t417 = 2 then (if t434 = 0 then ((privityref05_Same.f k t432 (([3,5] : List Int))).bind fun t449 => (if t449 = true then ((privityref05_Same.f k t433 (([7] : List Int))).bind fun t453 => (some t453)) else (some false))) else (some false)) else (some false)) else (some false))) = some r := by first|(rw [hy442];with_reducible exact H)|(have H2_ := (Option.bind_some _ _).symm.trans H;rw [hy442];with_reducible exact H2_)|(have H2_ := (Option.bind_some _ _).symm.trans H;with_reducible exact H2_)|with_reducible exact H|(rw [hy442];exact H)|exact H
  have Ny442 := am hy442
  clear hy442
  replace H := Option.bind_eq_some_iff.mp H
  obtain ⟨t445,A50,H⟩ := H
  try dsimp only at H
  have A5 := am A50
  clear A50
  by_cases c6 : t445 = true
  ·subst c6
   rw [if_pos rfl] at H
   by_cases c7 : t417 = 2
   ·rw [if_pos c7] at H
    have c7b0 : (t417 == 2) = true := beq_iff_eq.mpr c7
    have c7b1 : (t417 != 2) = false := bne_eq_false_iff_eq.mpr c7
    clear c7
    by_cases c8 : t434 = 0
    ·rw [if_pos c8] at H
     have c8b0 : (t434 == 0) = true := beq_iff_eq.mpr c8
     have c8b1 : (t434 != 0) = false := bne_eq_false_iff_eq.mpr c8
     clear c8
     obtain ⟨y446,hy446⟩ : ∃ y_ : List Int,y_ = (([3,5] : List Int)) := ⟨_,rfl⟩
     replace H : ((privityref05_Same.f k t432 y446).bind fun t449 => (if t449 = true then ((privityref05_Same.f k t433 (([7] : List Int))).bind fun t453 => (some t453)) else (some false))) = some r := by first|(rw [hy446];with_reducible exact H)|(have H2_ := (Option.bind_some _ _).symm.trans H;rw [hy446];with_reducible exact H2_)|(have H2_ := (Option.bind_some _ _).symm.trans H;with_reducible exact H2_)|with_reducible exact H|(rw [hy446];exact H)|exact H
     have Ny446 := am hy446
     clear hy446
     replace H := Option.bind_eq_some_iff.mp H
     obtain ⟨t449,A90,H⟩ := H
     try dsimp only at H
     have A9 := am A90
     clear A90
     by_cases c10 : t449 = true
     ·subst c10
      rw [if_pos rfl] at H
      obtain ⟨y450,hy450⟩ : ∃ y_ : List Int,y_ = (([7] : List Int)) := ⟨_,rfl⟩
      replace H : ((privityref05_Same.f k t433 y450).bind fun t453 => (some t453)) = some r := by first|(rw [hy450];with_reducible exact H)|(have H2_ := (Option.bind_some _ _).symm.trans H;rw [hy450];with_reducible exact H2_)|(have H2_ := (Option.bind_some _ _).symm.trans H;with_reducible exact H2_)|with_reducible exact H|(rw [hy450];exact H)|exact H
      have Ny450 := am hy450
      clear hy450
      replace H := Option.bind_eq_some_iff.mp H
      obtain ⟨t453,A110,H⟩ := H
      try dsimp only at H
      have A11 := am A110
      clear A110
      obtain rfl := Option.some.inj H
      go_enter Try.func12,Try.ntmps12
      go_wp2_with (first|((with_reducible refine gate_callee (f := 14) rfl ?_);refine goesL_ (some 9) rfl rfl Try.func14 (by kernel_rfl) rfl #[.int .u64 31,.int .i64 1,.int .i64 2] rfl (by (try simp only [List.map_toArray,List.map_cons,List.map_nil]);first|done|rfl|(simp only [List.length_drop,List.length_take];rfl)) ?_;(with_reducible refine (hyperinvertible_New.calls k 31 1 2 t412 t413 _ A1.out).mono ?_);rintro e w12 ⟨v414,rfl,ho0,hb⟩;refine ⟨_,rfl,?_⟩;have n0_ := am (Kd.N_lower (Kd.N_mono (ok' := fun k_ => True) (Kd.S_N (Kd.S_bound ho0)) (fun k_ hk_ => trivial)) (below_size (bb HB)));have n1_ := am (below_step (bb HB) hb);clear HB;have HO415 := n0_;have HB := n1_;clear n0_ n1_;(try clear hb);(try clear hb2);(try clear hk);(try clear hi);(try clear ho0))|((with_reducible refine gate_callee (f := 14) rfl ?_);refine goesL_ (some 13) rfl rfl Try.func14 (by kernel_rfl) rfl #[.int .u64 31,.int .i64 16,.int .i64 15] rfl (by (try simp only [List.map_toArray,List.map_cons,List.map_nil]);first|done|rfl|(simp only [List.length_drop,List.length_take];rfl)) ?_;(with_reducible refine (hyperinvertible_New.calls k 31 16 15 t416 t417 _ A2.out).mono ?_);rintro e w13 ⟨v418,rfl,ho0,hb⟩;refine ⟨_,rfl,?_⟩;have n0_ := am (Kd.N_elder' (rn HO415) (by first|exact Kd.N_base ho0|exact Kd.S_base ho0) hb);have n1_ := am (Kd.N_lower (Kd.N_mono (ok' := fun k_ => some k_ ≠ (v414 : Value).ownBlock) (Kd.S_N (Kd.S_bound ho0)) (fun k_ hk_ => (Kd.fresh' (Kd.N_lt (rn HO415)) k_ hk_.2.1))) (below_size (bb HB)));have n2_ := am (below_step (bb HB) hb);clear HO415 HB;have HO415 := n0_;have HO419 := n1_;have HB := n2_;clear n0_ n1_ n2_;(try clear hb);(try clear hb2);(try clear hk);(try clear hi);(try clear ho0))|((with_reducible refine gate_dst (N := 17) rfl ?_);(try (refine gate_guard (by rfl) ?_;dsimp only));refine Kd.R_lit (Kd.int .u64) _ 22 ?hg (N := 17) ?hd (xs := ([30,2] : List Int)) (inner := [.int .u64 30,.int .u64 2]) (ok := fun _ => True) (okp := fun _ => True) ?hr ?hp (fun _ hk => hk) trivial (Below.refl _ _) (Nat.le_refl _) (by simp) ?_;(case hd => rfl);(case hg => rfl);(case hr => first|(go_simp;done)|(go_simp;rfl));(case hp => exact (Reps.one (show Kd.M (Kd.int .u64) _ _ _ 30 [.int .u64 30] from rfl) (Reps.one (show Kd.M (Kd.int .u64) _ _ _ 2 [.int .u64 2] from rfl) (Reps.none _ _))));intro v421 w14 ho15 hb hg_ hnew_;clear hg_ hnew_;(first|rw [← Ny420.out] at ho15|(simp only [Int.reduceToNat] at ho15;rw [← Ny420.out] at ho15));have n0_ := am (Kd.N_elder' (rn HO415) (Kd.R_base ho15) hb);have n1_ := am (Kd.N_elder' (rn HO419) (Kd.R_base ho15) hb);have n2_ := am (Kd.R_lower ho15 (below_size (bb HB)));have n3_ := am (below_step (bb HB) hb);clear HO415 HO419 HB;have HO415 := n0_;have HO419 := n1_;have HO422 := n2_;have HB := n3_;clear n0_ n1_ n2_ n3_;clear hb ho15;obtain ⟨Ao16,co16,eo16⟩ := Kd.R_slice HO422.out;subst eo16)|((with_reducible refine gate_dst (N := 18) rfl ?_);(try (refine gate_guard (by rfl) ?_;dsimp only));refine Kd.N_lit (Kd.slice 22 (Kd.int .u64)) _ 40 ?hg (N' := 18) ?hd (xs := ([y420] : List (List Int))) (inner := [.slice Ao16 y420.length co16]) (ok := (fun k_ => some k_ ≠ (v414 : Value).ownBlock ∧ some k_ ≠ (v418 : Value).ownBlock)) (okp := (fun k_ => some k_ ≠ (v414 : Value).ownBlock ∧ some k_ ≠ (v418 : Value).ownBlock)) ?hr ?hp (fun _ hk => hk) ((show ∀ k_,w14.heap.size ≤ k_ → (fun k_ => some k_ ≠ (v414 : Value).ownBlock ∧ some k_ ≠ (v418 : Value).ownBlock) k_ from fun k_ hk => ⟨Kd.fresh' (Kd.N_lt (rn HO415)) k_ hk,Kd.fresh' (Kd.N_lt (rn HO419)) k_ hk⟩) _ (Nat.le_refl _)) (Below.refl _ _) (Nat.le_refl _) (by simp) ?_;(case hd => rfl);(case hg => rfl);(case hr => first|(go_simp;done)|(go_simp;rfl));(case hp => exact (Reps.one (show Kd.FK (Kd.slice 22 (Kd.int .u64)) _ _ y420 [.slice Ao16 y420.length co16] from (Kd.FK_slice_mk (Kd.R_reads' (Kd.R_mono (ok' := (fun k_ => some k_ ≠ (v414 : Value).ownBlock ∧ some k_ ≠ (v418 : Value).ownBlock)) (Kd.R_apart' (Kd.R_apart' (HO422.out) (Kd.N_typed HO415.out) (by decide)) (Kd.N_typed HO419.out) (by decide)) (fun k_ hk => ⟨hk.1.2,hk.2⟩))).2.1 (Kd.R_F (Kd.R_mono (ok' := (fun k_ => some k_ ≠ (v414 : Value).ownBlock ∧ some k_ ≠ (v418 : Value).ownBlock)) (Kd.R_apart' (Kd.R_apart' (HO422.out) (Kd.N_typed HO415.out) (by decide)) (Kd.N_typed HO419.out) (by decide)) (fun k_ hk => ⟨hk.1.2,hk.2⟩))))) (Reps.none _ _)));intro v424 w17 ho18 hb hg_ hnew_;clear hg_ hnew_;(first|rw [← Ny423.out] at ho18|(simp only [Int.reduceToNat] at ho18;rw [← Ny423.out] at ho18));have n0_ := am (Kd.N_elder' (rn HO415) (Kd.N_base ho18) hb);have n1_ := am (Kd.N_elder' (rn HO419) (Kd.N_base ho18) hb);have n2_ := am (Kd.N_lower ho18 (below_size (bb HB)));have n3_ := am (below_step (bb HB) hb);clear HO415 HO419 HB HO422;have HO415 := n0_;have HO419 := n1_;have HO425 := n2_;have HB := n3_;clear n0_ n1_ n2_ n3_;clear hb ho18)|((with_reducible refine gate_dst (N := 20) rfl ?_);(try (refine gate_guard (by rfl) ?_;dsimp only));refine Kd.R_lit k56 _ 56 ?hg (N := 20) ?hd (xs := ([(⟨1,5⟩ : S56)] : List (S56))) (inner := [.int .u64 1,.int .u64 5]) (ok := fun _ => True) (okp := fun _ => True) ?hr ?hp (fun _ hk => hk) trivial (Below.refl _ _) (Nat.le_refl _) (by simp) ?_;(case hd => rfl);(case hg => rfl);(case hr => first|(go_simp;done)|(go_simp;rfl));(case hp => exact (Reps.c2 (show Kd.M k56 _ _ _ (⟨1,5⟩ : S56) [.int .u64 1,.int .u64 5] from (k56_mkM _ _ _ (⟨1,5⟩ : S56) )) (Reps.none _ _)));intro v427 w19 ho20 hb hg_ hnew_;clear hg_ hnew_;(first|rw [← Ny426.out] at ho20|(simp only [Int.reduceToNat] at ho20;rw [← Ny426.out] at ho20));have n0_ := am (Kd.N_elder' (rn HO415) (Kd.R_base ho20) hb);have n1_ := am (Kd.N_elder' (rn HO419) (Kd.R_base ho20) hb);have n2_ := am (Kd.N_elder' (rn HO425) (Kd.R_base ho20) hb);have n3_ := am (Kd.R_lower ho20 (below_size (bb HB)));have n4_ := am (below_step (bb HB) hb);clear HO415 HO419 HO425 HB;have HO415 := n0_;have HO419 := n1_;have HO425 := n2_;have HO428 := n3_;have HB := n4_;clear n0_ n1_ n2_ n3_ n4_;clear hb ho20)|((with_reducible refine gate_dst (N := 22) rfl ?_);(try (refine gate_guard (by rfl) ?_;dsimp only));refine Kd.R_lit k56 _ 56 ?hg (N := 22) ?hd (xs := ([(⟨0,7⟩ : S56)] : List (S56))) (inner := [.int .u64 0,.int .u64 7]) (ok := fun _ => True) (okp := fun _ => True) ?hr ?hp (fun _ hk => hk) trivial (Below.refl _ _) (Nat.le_refl _) (by simp) ?_;(case hd => rfl);(case hg => rfl);(case hr => first|(go_simp;done)|(go_simp;rfl));(case hp => exact (Reps.c2 (show Kd.M k56 _ _ _ (⟨0,7⟩ : S56) [.int .u64 0,.int .u64 7] from (k56_mkM _ _ _ (⟨0,7⟩ : S56) )) (Reps.none _ _)));intro v430 w21 ho22 hb hg_ hnew_;clear hg_ hnew_;(first|rw [← Ny429.out] at ho22|(simp only [Int.reduceToNat] at ho22;rw [← Ny429.out] at ho22));have n0_ := am (Kd.N_elder' (rn HO415) (Kd.R_base ho22) hb);have n1_ := am (Kd.N_elder' (rn HO419) (Kd.R_base ho22) hb);have n2_ := am (Kd.N_elder' (rn HO425) (Kd.R_base ho22) hb);have n3_ := am (Kd.R_elder' (rr HO428) (Kd.R_base ho22) hb);have n4_ := am (Kd.R_lower (Kd.R_new' ho22 (Kd.R_lt (rr HO428))) (below_size (bb HB)));have n5_ := am (below_step (bb HB) hb);clear HO415 HO419 HO425 HO428 HB;have HO415 := n0_;have HO419 := n1_;have HO425 := n2_;have HO428 := n3_;have HO431 := n4_;have HB := n5_;clear n0_ n1_ n2_ n3_ n4_ n5_;clear hb ho22;obtain ⟨Ao23,co23,eo23⟩ := Kd.N_slice HO425.out;subst eo23;obtain ⟨Ao24,co24,eo24⟩ := Kd.R_slice HO428.out;subst eo24;obtain ⟨Ao25,co25,eo25⟩ := Kd.R_slice HO431.out;subst eo25)|((with_reducible refine gate_callee (f := 22) rfl ?_);refine goesL_ (some 23) rfl rfl Try.func22 (by kernel_rfl) rfl #[.int .u64 31,.slice Ao23 y423.length co23,.slice Ao24 y426.length co24,.slice Ao25 y429.length co25] rfl (by (try simp only [List.map_toArray,List.map_cons,List.map_nil]);first|done|rfl|(simp only [List.length_drop,List.length_take];rfl)) ?_;(with_reducible refine (hyperinvertible_Complete.calls 31 _ _ y423 _ _ y426 _ _ y429 t432 t433 t434 _ ?side1 ?side2 ?side3 ?side4 ?side5 ?side6 A3.out).mono ?_);(case side1 => repeat (first|exact (Kd.N_reads' HO425.out).2.2|(with_reducible refine Kd.C_alloc ?_ _)|(with_reducible refine Kd.C_drewN ?_ _)|(with_reducible refine Kd.C_drew ?_)));(case side2 => exact (Kd.N_reads' HO425.out).2.1);(case side3 => exact cr HO428);(case side4 => exact (Kd.R_reads' HO428.out).2.1);(case side5 => exact cr HO431);(case side6 => exact (Kd.R_reads' HO431.out).2.1);rintro e w26 ⟨v435,v437,rfl,ho0,ho1,hb⟩;refine ⟨_,rfl,?_⟩;have n0_ := am (Kd.N_mono (Kd.N_told (Kd.N_told (Kd.N_old (rn HO415) hb) (Kd.R_base ho0)) (Kd.R_base ho1)) (fun _ h_ => h_.1));have n1_ := am (Kd.N_mono (Kd.N_told (Kd.N_told (Kd.N_old (rn HO419) hb) (Kd.R_base ho0)) (Kd.R_base ho1)) (fun _ h_ => h_.1));have n2_ := am (Kd.N_mono (Kd.N_told (Kd.N_told (Kd.N_old (rn HO425) hb) (Kd.R_base ho0)) (Kd.R_base ho1)) (fun _ h_ => h_.1));have n3_ := am (Kd.R_below (rr HO428) hb);have n4_ := am (Kd.R_below (rr HO431) hb);have n5_ := am (Kd.R_lower ho0 (below_size (bb HB)));have n6_ := am (Kd.R_lower ho1 (below_size (bb HB)));have n7_ := am (below_step (bb HB) hb);clear HO415 HO419 HO425 HO428 HO431 HB;have HO415 := n0_;have HO419 := n1_;have HO425 := n2_;have HO428 := n3_;have HO431 := n4_;have HO436 := n5_;have HO438 := n6_;have HB := n7_;clear n0_ n1_ n2_ n3_ n4_ n5_ n6_ n7_;(try clear hb);(try clear hb2);(try clear hk);(try clear hi);(try clear ho0);(try clear ho1))|((with_reducible refine gate_dst (N := 31) rfl ?_);(try (refine gate_guard (by rfl) ?_;dsimp only));refine Kd.R_lit (Kd.int .u64) _ 22 ?hg (N := 31) ?hd (xs := ([30,2] : List Int)) (inner := [.int .u64 30,.int .u64 2]) (ok := fun _ => True) (okp := fun _ => True) ?hr ?hp (fun _ hk => hk) trivial (Below.refl _ _) (Nat.le_refl _) (by simp) ?_;(case hd => rfl);(case hg => rfl);(case hr => first|(go_simp;done)|(go_simp;rfl));(case hp => exact (Reps.one (show Kd.M (Kd.int .u64) _ _ _ 30 [.int .u64 30] from rfl) (Reps.one (show Kd.M (Kd.int .u64) _ _ _ 2 [.int .u64 2] from rfl) (Reps.none _ _))));intro v440 w27 ho28 hb hg_ hnew_;clear hg_ hnew_;(first|rw [← Ny439.out] at ho28|(simp only [Int.reduceToNat] at ho28;rw [← Ny439.out] at ho28));have n0_ := am (Kd.N_elder' (rn HO415) (Kd.R_base ho28) hb);have n1_ := am (Kd.N_elder' (rn HO419) (Kd.R_base ho28) hb);have n2_ := am (Kd.N_elder' (rn HO425) (Kd.R_base ho28) hb);have n3_ := am (Kd.R_below (rr HO428) hb);have n4_ := am (Kd.R_below (rr HO431) hb);have n5_ := am (Kd.R_elder' (rr HO436) (Kd.R_base ho28) hb);have n6_ := am (Kd.R_elder' (rr HO438) (Kd.R_base ho28) hb);have n7_ := am (Kd.R_lower (Kd.R_new' (Kd.R_new' ho28 (Kd.R_lt (rr HO436))) (Kd.R_lt (rr HO438))) (below_size (bb HB)));have n8_ := am (below_step (bb HB) hb);clear HO415 HO419 HO425 HO428 HO431 HO436 HO438 HB;have HO415 := n0_;have HO419 := n1_;have HO425 := n2_;have HO428 := n3_;have HO431 := n4_;have HO436 := n5_;have HO438 := n6_;have HO441 := n7_;have HB := n8_;clear n0_ n1_ n2_ n3_ n4_ n5_ n6_ n7_ n8_;clear hb ho28;obtain ⟨Ao29,co29,eo29⟩ := Kd.R_slice HO441.out;subst eo29)|((with_reducible refine gate_dst (N := 32) rfl ?_);(try (refine gate_guard (by rfl) ?_;dsimp only));refine Kd.N_lit (Kd.slice 22 (Kd.int .u64)) _ 40 ?hg (N' := 32) ?hd (xs := ([y439] : List (List Int))) (inner := [.slice Ao29 y439.length co29]) (ok := (fun k_ => some k_ ≠ (v414 : Value).ownBlock ∧ some k_ ≠ (v418 : Value).ownBlock ∧ some k_ ≠ (.slice Ao23 y423.length co23 : Value).ownBlock ∧ some k_ ≠ (.slice Ao24 y426.length co24 : Value).ownBlock ∧ some k_ ≠ (.slice Ao25 y429.length co25 : Value).ownBlock ∧ some k_ ≠ (v435 : Value).ownBlock ∧ some k_ ≠ (v437 : Value).ownBlock)) (okp := (fun k_ => some k_ ≠ (v414 : Value).ownBlock ∧ some k_ ≠ (v418 : Value).ownBlock ∧ some k_ ≠ (.slice Ao23 y423.length co23 : Value).ownBlock ∧ some k_ ≠ (.slice Ao24 y426.length co24 : Value).ownBlock ∧ some k_ ≠ (.slice Ao25 y429.length co25 : Value).ownBlock ∧ some k_ ≠ (v435 : Value).ownBlock ∧ some k_ ≠ (v437 : Value).ownBlock)) ?hr ?hp (fun _ hk => hk) ((show ∀ k_,w27.heap.size ≤ k_ → (fun k_ => some k_ ≠ (v414 : Value).ownBlock ∧ some k_ ≠ (v418 : Value).ownBlock ∧ some k_ ≠ (.slice Ao23 y423.length co23 : Value).ownBlock ∧ some k_ ≠ (.slice Ao24 y426.length co24 : Value).ownBlock ∧ some k_ ≠ (.slice Ao25 y429.length co25 : Value).ownBlock ∧ some k_ ≠ (v435 : Value).ownBlock ∧ some k_ ≠ (v437 : Value).ownBlock) k_ from fun k_ hk => ⟨Kd.fresh' (Kd.N_lt (rn HO415)) k_ hk,Kd.fresh' (Kd.N_lt (rn HO419)) k_ hk,Kd.fresh' (Kd.N_lt (rn HO425)) k_ hk,Kd.fresh' (Kd.R_lt (rr HO428)) k_ hk,Kd.fresh' (Kd.R_lt (rr HO431)) k_ hk,Kd.fresh' (Kd.R_lt (rr HO436)) k_ hk,Kd.fresh' (Kd.R_lt (rr HO438)) k_ hk⟩) _ (Nat.le_refl _)) (Below.refl _ _) (Nat.le_refl _) (by simp) ?_;(case hd => rfl);(case hg => rfl);(case hr => first|(go_simp;done)|(go_simp;rfl));(case hp => exact (Reps.one (show Kd.FK (Kd.slice 22 (Kd.int .u64)) _ _ y439 [.slice Ao29 y439.length co29] from (Kd.FK_slice_mk (Kd.R_reads' (Kd.R_mono (ok' := (fun k_ => some k_ ≠ (v414 : Value).ownBlock ∧ some k_ ≠ (v418 : Value).ownBlock ∧ some k_ ≠ (.slice Ao23 y423.length co23 : Value).ownBlock ∧ some k_ ≠ (.slice Ao24 y426.length co24 : Value).ownBlock ∧ some k_ ≠ (.slice Ao25 y429.length co25 : Value).ownBlock ∧ some k_ ≠ (v435 : Value).ownBlock ∧ some k_ ≠ (v437 : Value).ownBlock)) (Kd.R_apart' (Kd.R_apart' (Kd.R_apart' (Kd.R_apart' (Kd.R_apart' (HO441.out) (Kd.N_typed HO415.out) (by decide)) (Kd.N_typed HO419.out) (by decide)) (Kd.N_typed HO425.out) (by decide)) (Kd.R_typed HO428.out) (by decide)) (Kd.R_typed HO431.out) (by decide)) (fun k_ hk => ⟨hk.1.1.1.1.2,⟨hk.1.1.1.2,⟨hk.1.1.2,⟨hk.1.2,⟨hk.2,⟨hk.1.1.1.1.1.1.2,hk.1.1.1.1.1.2⟩⟩⟩⟩⟩⟩))).2.1 (Kd.R_F (Kd.R_mono (ok' := (fun k_ => some k_ ≠ (v414 : Value).ownBlock ∧ some k_ ≠ (v418 : Value).ownBlock ∧ some k_ ≠ (.slice Ao23 y423.length co23 : Value).ownBlock ∧ some k_ ≠ (.slice Ao24 y426.length co24 : Value).ownBlock ∧ some k_ ≠ (.slice Ao25 y429.length co25 : Value).ownBlock ∧ some k_ ≠ (v435 : Value).ownBlock ∧ some k_ ≠ (v437 : Value).ownBlock)) (Kd.R_apart' (Kd.R_apart' (Kd.R_apart' (Kd.R_apart' (Kd.R_apart' (HO441.out) (Kd.N_typed HO415.out) (by decide)) (Kd.N_typed HO419.out) (by decide)) (Kd.N_typed HO425.out) (by decide)) (Kd.R_typed HO428.out) (by decide)) (Kd.R_typed HO431.out) (by decide)) (fun k_ hk => ⟨hk.1.1.1.1.2,⟨hk.1.1.1.2,⟨hk.1.1.2,⟨hk.1.2,⟨hk.2,⟨hk.1.1.1.1.1.1.2,hk.1.1.1.1.1.2⟩⟩⟩⟩⟩⟩))))) (Reps.none _ _)));intro v443 w30 ho31 hb hg_ hnew_;clear hg_ hnew_;(first|rw [← Ny442.out] at ho31|(simp only [Int.reduceToNat] at ho31;rw [← Ny442.out] at ho31));have n0_ := am (Kd.N_elder' (rn HO415) (Kd.N_base ho31) hb);have n1_ := am (Kd.N_elder' (rn HO419) (Kd.N_base ho31) hb);have n2_ := am (Kd.N_elder' (rn HO425) (Kd.N_base ho31) hb);have n3_ := am (Kd.R_below (rr HO428) hb);have n4_ := am (Kd.R_below (rr HO431) hb);have n5_ := am (Kd.R_below (rr HO436) hb);have n6_ := am (Kd.R_below (rr HO438) hb);have n7_ := am (Kd.N_lower ho31 (below_size (bb HB)));have n8_ := am (below_step (bb HB) hb);clear HO415 HO419 HO425 HO428 HO431 HO436 HO438 HB HO441;have HO415 := n0_;have HO419 := n1_;have HO425 := n2_;have HO428 := n3_;have HO431 := n4_;have HO436 := n5_;have HO438 := n6_;have HO444 := n7_;have HB := n8_;clear n0_ n1_ n2_ n3_ n4_ n5_ n6_ n7_ n8_;clear hb ho31;obtain ⟨Ao32,co32,eo32⟩ := Kd.N_slice HO415.out;subst eo32;obtain ⟨Ao33,co33,eo33⟩ := Kd.N_slice HO444.out;subst eo33)|(go_at_call 16;(with_reducible refine (privityref05_SameRows.calls k _ _ t412 _ _ y442 true _ ?side1 ?side2 ?side3 ?side4 A5.out).mono ?_);(case side1 => repeat (first|exact (Kd.N_reads' HO415.out).2.2|(with_reducible refine Kd.C_alloc ?_ _)|(with_reducible refine Kd.C_drewN ?_ _)|(with_reducible refine Kd.C_drew ?_)));(case side2 => exact (Kd.N_reads' HO415.out).2.1);(case side3 => repeat (first|exact (Kd.N_reads' HO444.out).2.2|(with_reducible refine Kd.C_alloc ?_ _)|(with_reducible refine Kd.C_drewN ?_ _)|(with_reducible refine Kd.C_drew ?_)));(case side4 => exact (Kd.N_reads' HO444.out).2.1);rintro e w' ⟨rfl,⟨nd,rfl⟩⟩)|((with_reducible refine gate_dst (N := 45) rfl ?_);(try (refine gate_guard (by rfl) ?_;dsimp only));refine Kd.R_lit (Kd.int .u64) _ 22 ?hg (N := 45) ?hd (xs := ([3,5] : List Int)) (inner := [.int .u64 3,.int .u64 5]) (ok := fun _ => True) (okp := fun _ => True) ?hr ?hp (fun _ hk => hk) trivial (Below.refl _ _) (Nat.le_refl _) (by simp) ?_;(case hd => rfl);(case hg => rfl);(case hr => first|(go_simp;done)|(go_simp;rfl));(case hp => exact (Reps.one (show Kd.M (Kd.int .u64) _ _ _ 3 [.int .u64 3] from rfl) (Reps.one (show Kd.M (Kd.int .u64) _ _ _ 5 [.int .u64 5] from rfl) (Reps.none _ _))));intro v447 w34 ho35 hb hg_ hnew_;clear hg_ hnew_;(first|rw [← Ny446.out] at ho35|(simp only [Int.reduceToNat] at ho35;rw [← Ny446.out] at ho35));have n0_ := am (Kd.N_elder' (rn HO415) (Kd.R_base ho35) hb);have n1_ := am (Kd.N_elder' (rn HO419) (Kd.R_base ho35) hb);have n2_ := am (Kd.N_elder' (rn HO425) (Kd.R_base ho35) hb);have n3_ := am (Kd.R_below (rr HO428) hb);have n4_ := am (Kd.R_below (rr HO431) hb);have n5_ := am (Kd.R_elder' (rr HO436) (Kd.R_base ho35) hb);have n6_ := am (Kd.R_elder' (rr HO438) (Kd.R_base ho35) hb);have n7_ := am (Kd.N_elder' (rn HO444) (Kd.R_base ho35) hb);have n8_ := am (Kd.R_lower (Kd.R_new' (Kd.R_new' ho35 (Kd.R_lt (rr HO436))) (Kd.R_lt (rr HO438))) (below_size (bb HB)));have n9_ := am (below_step (bb HB) hb);clear HO415 HO419 HO425 HO428 HO431 HO436 HO438 HO444 HB;have HO415 := n0_;have HO419 := n1_;have HO425 := n2_;have HO428 := n3_;have HO431 := n4_;have HO436 := n5_;have HO438 := n6_;have HO444 := n7_;have HO448 := n8_;have HB := n9_;clear n0_ n1_ n2_ n3_ n4_ n5_ n6_ n7_ n8_ n9_;clear hb ho35;obtain ⟨Ao36,co36,eo36⟩ := Kd.R_slice HO436.out;subst eo36;obtain ⟨Ao37,co37,eo37⟩ := Kd.R_slice HO448.out;subst eo37)|(go_at_call 24;(with_reducible refine (privityref05_Same.calls k _ _ t432 _ _ y446 true _ ?side1 ?side2 ?side3 ?side4 A9.out).mono ?_);(case side1 => exact cr HO436);(case side2 => exact (Kd.R_reads' HO436.out).2.1);(case side3 => exact cr HO448);(case side4 => exact (Kd.R_reads' HO448.out).2.1);rintro e w' ⟨rfl,⟨nd,rfl⟩⟩)|((with_reducible refine gate_dst (N := 50) rfl ?_);(try (refine gate_guard (by rfl) ?_;dsimp only));refine Kd.R_lit (Kd.int .u64) _ 22 ?hg (N := 50) ?hd (xs := ([7] : List Int)) (inner := [.int .u64 7]) (ok := fun _ => True) (okp := fun _ => True) ?hr ?hp (fun _ hk => hk) trivial (Below.refl _ _) (Nat.le_refl _) (by simp) ?_;(case hd => rfl);(case hg => rfl);(case hr => first|(go_simp;done)|(go_simp;rfl));(case hp => exact (Reps.one (show Kd.M (Kd.int .u64) _ _ _ 7 [.int .u64 7] from rfl) (Reps.none _ _)));intro v451 w38 ho39 hb hg_ hnew_;clear hg_ hnew_;(first|rw [← Ny450.out] at ho39|(simp only [Int.reduceToNat] at ho39;rw [← Ny450.out] at ho39));have n0_ := am (Kd.N_elder' (rn HO415) (Kd.R_base ho39) hb);have n1_ := am (Kd.N_elder' (rn HO419) (Kd.R_base ho39) hb);have n2_ := am (Kd.N_elder' (rn HO425) (Kd.R_base ho39) hb);have n3_ := am (Kd.R_below (rr HO428) hb);have n4_ := am (Kd.R_below (rr HO431) hb);have n5_ := am (Kd.R_elder' (rr HO436) (Kd.R_base ho39) hb);have n6_ := am (Kd.R_elder' (rr HO438) (Kd.R_base ho39) hb);have n7_ := am (Kd.N_elder' (rn HO444) (Kd.R_base ho39) hb);have n8_ := am (Kd.R_elder' (rr HO448) (Kd.R_base ho39) hb);have n9_ := am (Kd.R_lower (Kd.R_new' (Kd.R_new' (Kd.R_new' ho39 (Kd.R_lt (rr HO436))) (Kd.R_lt (rr HO438))) (Kd.R_lt (rr HO448))) (below_size (bb HB)));have n10_ := am (below_step (bb HB) hb);clear HO415 HO419 HO425 HO428 HO431 HO436 HO438 HO444 HO448 HB;have HO415 := n0_;have HO419 := n1_;have HO425 := n2_;have HO428 := n3_;have HO431 := n4_;have HO436 := n5_;have HO438 := n6_;have HO444 := n7_;have HO448 := n8_;have HO452 := n9_;have HB := n10_;clear n0_ n1_ n2_ n3_ n4_ n5_ n6_ n7_ n8_ n9_ n10_;clear hb ho39;obtain ⟨Ao40,co40,eo40⟩ := Kd.R_slice HO438.out;subst eo40;obtain ⟨Ao41,co41,eo41⟩ := Kd.R_slice HO452.out;subst eo41)|(go_at_call 24;(with_reducible refine (privityref05_Same.calls k _ _ t433 _ _ y450 t453 _ ?side1 ?side2 ?side3 ?side4 A11.out).mono ?_);(case side1 => exact cr HO438);(case side2 => exact (Kd.R_reads' HO438.out).2.1);(case side3 => exact cr HO452);(case side4 => exact (Kd.R_reads' HO452.out).2.1);rintro e w' ⟨rfl,⟨nd,rfl⟩⟩))
      go_ret
      exact ⟨by first|rfl|(simp [errW_none,errW_some] <;> rfl)|(simp [*,errW_none,errW_some] <;> rfl),bb HB⟩
     ·replace c10 := Bool.eq_false_iff.mpr c10
      subst c10
      rw [if_neg (show ¬ (false = true) by decide)] at H
      exact absurd (Option.some.inj H) (by rw [HR1.out];simp)
    ·rw [if_neg c8] at H
     have c8b0 : (t434 == 0) = false := beq_eq_false_iff_ne.mpr c8
     have c8b1 : (t434 != 0) = true := bne_iff_ne.mpr c8
     exact absurd (Option.some.inj H) (by rw [HR1.out];simp)
   ·rw [if_neg c7] at H
    have c7b0 : (t417 == 2) = false := beq_eq_false_iff_ne.mpr c7
    have c7b1 : (t417 != 2) = true := bne_iff_ne.mpr c7
    exact absurd (Option.some.inj H) (by rw [HR1.out];simp)
  ·replace c6 := Bool.eq_false_iff.mpr c6
   subst c6
   rw [if_neg (show ¬ (false = true) by decide)] at H
   exact absurd (Option.some.inj H) (by rw [HR1.out];simp)
 ·rw [if_neg c4] at H
  have c4b0 : (t413 == 0) = false := beq_eq_false_iff_ne.mpr c4
  have c4b1 : (t413 != 0) = true := bne_iff_ne.mpr c4
  exact absurd (Option.some.inj H) (by rw [HR1.out];simp)
mutual
def privitylaw07_unlike.l0 : Nat → List Int → Int → Int → Option (Bool)
 | 0,_,_,_ => none
 | k + 1,x0,x1,x5 => if x5 < (x0.length : Int) then (if 0 ≤ x5 then (if (rd x0 x5) < 0 then (privitylaw07_unlike.j1 k x0 x1 x5 true) else (privitylaw07_unlike.j1 k x0 x1 x5 (decide ((rd x0 x5) ≥ x1)))) else (none)) else (some true)
def privitylaw07_unlike.j1 : Nat → List Int → Int → Int → Bool → Option (Bool)
 | 0,_,_,_,_ => none
 | k + 1,x0,x1,x5,x25 => if x25 = true then (some false) else (privitylaw07_unlike.l1 k x0 x1 x5 0)
def privitylaw07_unlike.l1 : Nat → List Int → Int → Int → Int → Option (Bool)
 | 0,_,_,_,_ => none
 | k + 1,x0,x1,x5,x6 => if x6 < x5 then (if 0 ≤ x5 then (if x5 < (x0.length : Int) then (if 0 ≤ x6 then (if x6 < (x0.length : Int) then (if (rd x0 x5) = (rd x0 x6) then (some false) else (privitylaw07_unlike.l1 k x0 x1 x5 (wrap64 (x6 + 1)))) else (none)) else (none)) else (none)) else (none)) else (privitylaw07_unlike.l0 k x0 x1 (wrap64 (x5 + 1)))
end
def privitylaw07_unlike.f (k : Nat) (l0 : List Int) (a1 : Int) : Option (Bool) := privitylaw07_unlike.l0 k l0 a1 0
set_option maxHeartbeats 8000000 in
set_option maxRecDepth 100000 in
theorem privitylaw07_unlike.calls (k : Nat) (A0 : Option Addr) (c0 : Nat) (l0 : List Int) (a1 : Int) (r : Bool) (w : World) (hr0 : Kd.C (Kd.int .i64) w A0 l0.length l0) (hc0 : l0.length ≤ c0) (h : privitylaw07_unlike.f k l0 a1 = some r) :
  Calls Try.prog 29 #[.slice A0 l0.length c0,.int .i64 a1] w fun e w' => e = .returned (.bool r) ∧ Drawn0 w w' := by
 have HR0 := am hr0
 have HC0 := am hc0
 clear hr0 hc0
 have H : (privitylaw07_unlike.l0 k l0 a1 0) = some r := h
 clear h
 have H' := am H
 clear H
 go_enter Try.func29,Try.ntmps29
 go_wp2
 repeat (go_quiet (fail);try go_wp2)
 go_loopg [5] k (fun kq v5 w' => ∃ (x5_1 : Int),v5 = .int .i64 x5_1 ∧ Aside0 (privitylaw07_unlike.l0 kq l0 a1 x5_1 = some r) ∧ Aside0 (kq ≤ k) ∧ Drawn0 w w')
 case atStart => exact ⟨(0),(by first|rfl|(simp;done)|(simp [*];done)),H',⟨Nat.le_refl _⟩,by repeat (first|exact Drawn0.refl _|apply Drawn0.step)⟩
 case round =>
  clear H'
  try clear c2
  try clear p2
  obtain ⟨x5_1,rfl,HA,HK1,⟨m1,rfl⟩⟩ := hrel
  cases gk with
  | zero => exact absurd HA.out (by simp [privitylaw07_unlike.l0])
  | succ k1 =>
   have H := HA.out
   clear HA
   simp only [privitylaw07_unlike.l0] at H
   by_cases c3 : x5_1 < (l0.length : Int)
   ·rw [if_pos c3] at H
    have c3b0 : decide (x5_1 < (l0.length : Int)) = true := decide_eq_true c3
    clear c3
    have HC4 := am H
    clear H
    go_upto_region 4 with (fail)
    repeat (go_quiet (fail);go_upto_region 4 with (fail))
    go_cut [25] (fun v25 wc => ∃ (kq : Nat) (x25_3 : Bool),v25 = .bool x25_3 ∧ Aside0 (privitylaw07_unlike.j1 kq l0 a1 x5_1 x25_3 = some r) ∧ Aside0 (kq ≤ k1) ∧ Drawn0 w wc)
    case first =>
     have H := HC4.out
     clear HC4
     by_cases c5 : 0 ≤ x5_1
     ·rw [if_pos c5] at H
      have c5b0 : decide (0 ≤ x5_1) = true := decide_eq_true c5
      clear c5
      (first|rw [c5b0]|(simp only [i64_w,i32_w];rw [c5b0])|skip)
      by_cases c6 : (rd l0 x5_1) < 0
      ·rw [if_pos c6] at H
       have c6b0 : decide ((rd l0 x5_1) < 0) = true := decide_eq_true c6
       clear c6
       have H' := am H
       clear H
       have p653 : 0 ≤ (x5_1 : Int) := od
       have q653 : x5_1 < (l0.length : Int) := od
       obtain ⟨ad653,e653,hx653_0⟩ := Kd.at_int HR0.out x5_1 p653 q653
       cases e653
       replace p653 := eq_true p653
       replace q653 := eq_true q653
       go_wp2
       repeat (go_quiet (fail);try go_wp2)
       go_meet
       case rel => exact ⟨_,(true),(by first|rfl|(simp;done)|(simp [*];done)),H',⟨by have := HK1.out;first|omega|exact Nat.le_refl _⟩,by repeat (first|exact Drawn0.refl _|apply Drawn0.step)⟩
      ·rw [if_neg c6] at H
       have c6b0 : decide ((rd l0 x5_1) < 0) = false := decide_eq_false c6
       clear c6
       have H' := am H
       clear H
       have p653 : 0 ≤ (x5_1 : Int) := od
       have q653 : x5_1 < (l0.length : Int) := od
       obtain ⟨ad653,e653,hx653_0⟩ := Kd.at_int HR0.out x5_1 p653 q653
       cases e653
       replace p653 := eq_true p653
       replace q653 := eq_true q653
       have p654 : 0 ≤ (x5_1 : Int) := od
       have q654 : x5_1 < (l0.length : Int) := od
       obtain ⟨ad654,e654,hx654_0⟩ := Kd.at_int HR0.out x5_1 p654 q654
       obtain rfl : ad653 = ad654 := (by injection e654)
       replace p654 := eq_true p654
       replace q654 := eq_true q654
       go_wp2
       repeat (go_quiet (fail);try go_wp2)
       go_meet
       case rel => exact ⟨_,(decide ((rd l0 x5_1) ≥ a1)),(by first|rfl|(simp;done)|(simp [*];done)),H',⟨by have := HK1.out;first|omega|exact Nat.le_refl _⟩,by repeat (first|exact Drawn0.refl _|apply Drawn0.step)⟩
     ·rw [if_neg c5] at H
      exact absurd H (by simp)
    case rest =>
     clear HC4
     try clear c2
     try clear p2
     try clear c3
     try clear c3b0
     try clear c5
     try clear c5b0
     try clear c6
     try clear c6b0
     try clear p6
     try clear q6
     try clear hx6
     try clear hx653_0
     try clear hx654_0
     try clear p2
     try clear p653
     try clear p654
     try clear q653
     try clear q654
     obtain ⟨kq,x25_3,rfl,HA,HJ3,⟨mc3,rfl⟩⟩ := hcut
     cases kq with
     | zero => exact absurd HA.out (by simp [privitylaw07_unlike.j1])
     | succ kj3 =>
      have H := HA.out
      clear HA
      simp only [privitylaw07_unlike.j1] at H
      by_cases c7 : x25_3 = true
      ·subst c7
       rw [if_pos rfl] at H
       obtain rfl := Option.some.inj H
       go_wp2
       repeat (go_quiet (fail);try go_wp2)
       go_ret
       exact ⟨by first|rfl|(simp;done)|(simp [*];done),by repeat (first|exact Drawn0.refl _|apply Drawn0.step)⟩
      ·replace c7 := Bool.eq_false_iff.mpr c7
       subst c7
       rw [if_neg (show ¬ (false = true) by decide)] at H
       have H' := am H
       clear H
       go_wp2
       repeat (go_quiet (fail);try go_wp2)
       go_loopg [6] kj3 (fun kq v6 w' => ∃ (x6_3 : Int),v6 = .int .i64 x6_3 ∧ Aside0 (privitylaw07_unlike.l1 kq l0 a1 x5_1 x6_3 = some r) ∧ Aside0 (kq ≤ kj3) ∧ Drawn0 w w')
       case atStart => exact ⟨(0),(by first|rfl|(simp;done)|(simp [*];done)),H',⟨Nat.le_refl _⟩,by repeat (first|exact Drawn0.refl _|apply Drawn0.step)⟩
       case round =>
        clear H'
        try clear c2
        try clear p2
        try clear c3
        try clear c3b0
        try clear c5
        try clear c5b0
        try clear c6
        try clear c6b0
        try clear p6
        try clear q6
        try clear hx6
        try clear c7
        try clear hx653_0
        try clear hx654_0
        try clear p2
        try clear p6
        try clear p653
        try clear p654
        try clear q6
        try clear q653
        try clear q654
        obtain ⟨x6_3,rfl,HA,HK3,⟨m3,rfl⟩⟩ := hrel
        cases gk with
        | zero => exact absurd HA.out (by simp [privitylaw07_unlike.l1])
        | succ k3 =>
         have H := HA.out
         clear HA
         simp only [privitylaw07_unlike.l1] at H
         by_cases c8 : x6_3 < x5_1
         ·rw [if_pos c8] at H
          have c8b0 : decide (x6_3 < x5_1) = true := decide_eq_true c8
          clear c8
          by_cases c9 : 0 ≤ x5_1
          ·rw [if_pos c9] at H
           have c9b0 : decide (0 ≤ x5_1) = true := decide_eq_true c9
           clear c9
           by_cases c10 : x5_1 < (l0.length : Int)
           ·rw [if_pos c10] at H
            have c10b0 : decide (x5_1 < (l0.length : Int)) = true := decide_eq_true c10
            clear c10
            by_cases c11 : 0 ≤ x6_3
            ·rw [if_pos c11] at H
             have c11b0 : decide (0 ≤ x6_3) = true := decide_eq_true c11
             clear c11
             by_cases c12 : x6_3 < (l0.length : Int)
             ·rw [if_pos c12] at H
              have c12b0 : decide (x6_3 < (l0.length : Int)) = true := decide_eq_true c12
              clear c12
              by_cases c13 : (rd l0 x5_1) = (rd l0 x6_3)
              ·rw [if_pos c13] at H
               have c13b0 : ((rd l0 x5_1) == (rd l0 x6_3)) = true := beq_iff_eq.mpr c13
               have c13b1 : ((rd l0 x5_1) != (rd l0 x6_3)) = false := bne_eq_false_iff_eq.mpr c13
               clear c13
               obtain rfl := Option.some.inj H
               have p655 : 0 ≤ (x5_1 : Int) := od
               have q655 : x5_1 < (l0.length : Int) := od
               obtain ⟨ad655,e655,hx655_0⟩ := Kd.at_int HR0.out x5_1 p655 q655
               cases e655
               replace p655 := eq_true p655
               replace q655 := eq_true q655
               have p656 : 0 ≤ (x6_3 : Int) := od
               have q656 : x6_3 < (l0.length : Int) := od
               obtain ⟨ad656,e656,hx656_0⟩ := Kd.at_int HR0.out x6_3 p656 q656
               obtain rfl : ad655 = ad656 := (by injection e656)
               replace p656 := eq_true p656
               replace q656 := eq_true q656
               go_wp2
               repeat (go_quiet (fail);try go_wp2)
               go_ret
               exact ⟨by first|rfl|(simp;done)|(simp [*];done),by repeat (first|exact Drawn0.refl _|apply Drawn0.step)⟩
              ·rw [if_neg c13] at H
               have c13b0 : ((rd l0 x5_1) == (rd l0 x6_3)) = false := beq_eq_false_iff_ne.mpr c13
               have c13b1 : ((rd l0 x5_1) != (rd l0 x6_3)) = true := bne_iff_ne.mpr c13
               have H' := am H
               clear H
               have p655 : 0 ≤ (x5_1 : Int) := od
               have q655 : x5_1 < (l0.length : Int) := od
               obtain ⟨ad655,e655,hx655_0⟩ := Kd.at_int HR0.out x5_1 p655 q655
               cases e655
               replace p655 := eq_true p655
               replace q655 := eq_true q655
               have p656 : 0 ≤ (x6_3 : Int) := od
               have q656 : x6_3 < (l0.length : Int) := od
               obtain ⟨ad656,e656,hx656_0⟩ := Kd.at_int HR0.out x6_3 p656 q656
               obtain rfl : ad655 = ad656 := (by injection e656)
               replace p656 := eq_true p656
               replace q656 := eq_true q656
               go_wp2
               repeat (go_quiet (fail);try go_wp2)
               go_roundg k3
               case measure => have := HK1.out;have := HJ3.out;have := HK3.out;omega
               case rel => exact ⟨(wrap64 (x6_3 + 1)),(by first|rfl|(simp;done)|(simp [*];done)),H',⟨by have := HK1.out;have := HJ3.out;have := HK3.out;omega⟩,by repeat (first|exact Drawn0.refl _|apply Drawn0.step)⟩
             ·rw [if_neg c12] at H
              exact absurd H (by simp)
            ·rw [if_neg c11] at H
             exact absurd H (by simp)
           ·rw [if_neg c10] at H
            exact absurd H (by simp)
          ·rw [if_neg c9] at H
           exact absurd H (by simp)
         ·rw [if_neg c8] at H
          have c8b0 : decide (x6_3 < x5_1) = false := decide_eq_false c8
          clear c8
          have H' := am H
          clear H
          go_wp2
          repeat (go_quiet (fail);try go_wp2)
          go_roundg k3
          case measure => have := HK1.out;have := HJ3.out;have := HK3.out;omega
          case rel => exact ⟨(wrap64 (x5_1 + 1)),(by first|rfl|(simp;done)|(simp [*];done)),H',⟨by have := HK1.out;have := HJ3.out;have := HK3.out;omega⟩,by repeat (first|exact Drawn0.refl _|apply Drawn0.step)⟩
   ·rw [if_neg c3] at H
    have c3b0 : decide (x5_1 < (l0.length : Int)) = false := decide_eq_false c3
    clear c3
    obtain rfl := Option.some.inj H
    go_wp2
    repeat (go_quiet (fail);try go_wp2)
    go_ret
    exact ⟨by first|rfl|(simp;done)|(simp [*];done),by repeat (first|exact Drawn0.refl _|apply Drawn0.step)⟩
end Go.Proofs.Ytmdoaijkaaaglaa.Pr
end
section
namespace Go.Proofs.Ytmdoaijkaaaglaa.Hw
open Go.RowKit Go.Proofs.Ytmdoaijkaaaglaa.Pr Go.Proofs.YtmdoaijkaaaglaaW.PrintWords Go.Proofs.YtmdoaijkaaaglaaW.PrintLast Go.Proofs.YtmdoaijkaaaglaaW.PrintMore Go.Proofs.Ytmdoaijkaaaglaa.E
def detM (p : Int) (l : List (List Int)) : Int := if (red p l l.length).2.1.length < l.length then 0 else (red p l l.length).2.2
set_option maxHeartbeats 8000000 in
set_option maxRecDepth 100000 in
theorem det_walk (p : Int) (hp : Supp p) (A : Option Addr) (c : Nat) (l : List (List Int)) (w : World) (hr : Kd.C (Kd.slice 22 (Kd.int .u64)) w A l.length l) (hc : l.length ≤ c) (h0 : 0 < l.length) (hl : l.length ≤ 100) (hok : RowsOk p l.length l) :
  Calls Try.prog 30 #[.int .u64 p,.slice A l.length c] w fun e w' => e = .returned (.tuple #[.int .u64 (detM p l),.int .i64 0]) ∧ Below w.heap.size w w' := by
 have HR := Aside0.mk hr
 have HSQ := Aside0.mk (square_yes h0 (by omega) hok)
 have HRW := Aside0.mk (fun W (hW : Below w.heap.size w W) => reduce_walk p hp A c l l.length l.length W (Kd.C_below hr hW) hc h0 (by omega) h0 (by omega) hok (Nat.le_refl _))
 have HPV := Aside0.mk (red_ok hp hok l.length).piv
 obtain ⟨d,hd⟩ : ∃ d,d = detM p l := ⟨_,rfl⟩
 rw [← hd]
 unfold detM at hd
 obtain ⟨S,hS⟩ : ∃ S,S = red p l l.length := ⟨_,rfl⟩
 rw [← hS] at HRW HPV hd
 obtain ⟨rs,ps,det⟩ := S
 have hpl : ps.length ≤ l.length := HPV.out
 have HD := Aside0.mk (show d = if ps.length < l.length then 0 else det from hd)
 clear hr hok hp hS hd HPV
 by_cases hps : ps.length < l.length
 ·have z1 : ((ps.length : Int) < (l.length : Int)) = True := eq_true (by omega)
  have z2 : decide (ps.length < l.length) = true := decide_eq_true hps
  have HE := Aside0.mk (show d = 0 from by rw [HD.out,if_pos hps])
  clear HD
  go_enter Try.func30,Try.ntmps30
  go_wp2_with (first
   | (go_at_call 53;(with_reducible refine (matrix_square.calls _ _ _ true _ HR.out hc HSQ.out).mono ?_);rintro e w1 ⟨rfl,hb1⟩;have HB1 := Aside0.mk hb1;clear hb1)
   | (go_at_call 54;(with_reducible refine (HRW.out _ HB1.out).mono ?_);rintro e w2 ⟨⟨⟨bw,mv,vs2,pv,rfl,hwk⟩⟩,hb2⟩;have HB2 := Aside0.mk (below_step HB1.out hb2);obtain ⟨Ap,cp,epv⟩ := own_slice hwk.piv;subst epv;have hc2 := hwk.c2;clear hb2 hwk))
  first|go_ret2|((try simp only [Exit.inBlock,Exit.then]);refine bodyPost_ret (results_tmp2 rfl _ _ _) rfl ?_)
  exact ⟨by rw [HE.out];rfl,HB2.out⟩
 ·have z1 : ((ps.length : Int) < (l.length : Int)) = False := eq_false (by omega)
  have z2 : decide (ps.length < l.length) = false := decide_eq_false hps
  have HE := Aside0.mk (show d = det from by rw [HD.out,if_neg hps])
  clear HD
  go_enter Try.func30,Try.ntmps30
  go_wp2_with (first
   | (go_at_call 53;(with_reducible refine (matrix_square.calls _ _ _ true _ HR.out hc HSQ.out).mono ?_);rintro e w1 ⟨rfl,hb1⟩;have HB1 := Aside0.mk hb1;clear hb1)
   | (go_at_call 54;(with_reducible refine (HRW.out _ HB1.out).mono ?_);rintro e w2 ⟨⟨⟨bw,mv,vs2,pv,rfl,hwk⟩⟩,hb2⟩;have HB2 := Aside0.mk (below_step HB1.out hb2);obtain ⟨Ap,cp,epv⟩ := own_slice hwk.piv;subst epv;have hc2 := hwk.c2;have hc3 := hwk.c3;clear hb2 hwk))
  first|go_ret2|((try simp only [Exit.inBlock,Exit.then]);refine bodyPost_ret (results_tmp2 rfl _ _ _) rfl ?_)
  exact ⟨by rw [HE.out];rfl,HB2.out⟩
def rowsB (p : Int) (n : Nat) (l : List (List Int)) : Bool := l.all fun r => decide (r.length = n) && ressB p r
theorem rowsB_iff {p : Int} {n : Nat} {l : List (List Int)} : rowsB p n l = true ↔ RowsOk p n l := by
 unfold rowsB RowsOk;simp only [List.all_eq_true,Bool.and_eq_true,decide_eq_true_eq,ressB_iff]
def matrix_Det.f (a0 : Int) (l1 : List (List Int)) : Option (Int × Int) := if supB a0 = true then (if 0 < l1.length then (if l1.length ≤ 100 then (if rowsB a0 l1.length l1 = true then some (detM a0 l1,0) else none) else none) else none) else none
theorem matrix_Det.calls (a0 : Int) (A1 : Option Addr) (c1 : Nat) (l1 : List (List Int)) (r1 r2 : Int) (w : World) (hr1 : Kd.C (Kd.slice 22 (Kd.int .u64)) w A1 l1.length l1) (hc1 : l1.length ≤ c1) (h : matrix_Det.f a0 l1 = some (r1,r2)) :
  Calls Try.prog 30 #[.int .u64 a0,.slice A1 l1.length c1] w fun e w' => e = .returned (.tuple #[.int .u64 r1,.int .i64 r2]) ∧ Below w.heap.size w w' := by
 unfold matrix_Det.f at h
 obtain ⟨h1,h⟩ := ifs h
 obtain ⟨h2,h⟩ := ifs h
 obtain ⟨h3,h⟩ := ifs h
 obtain ⟨h4,h⟩ := ifs h
 have e := Option.some.inj h
 have e1 := congrArg Prod.fst e
 have e2 := congrArg Prod.snd e
 subst e1 e2
 exact det_walk a0 (supB_of h1) A1 c1 l1 w hr1 hc1 h2 h3 (rowsB_iff.1 h4)
end Go.Proofs.Ytmdoaijkaaaglaa.Hw
end
section
namespace Go.Proofs.Ytmdoaijkaaaglaa.Pr
open Go.RowKit Go.Proofs.YtmdoaijkaaaglaaW.PrintWords Go.Proofs.YtmdoaijkaaaglaaW.PrintLast Go.Proofs.YtmdoaijkaaaglaaW.PrintMore
attribute [local go_sem] max2_int min2_int max_two min_two max_three min_three max_four min_four
open Go.Proofs.Ytmdoaijkaaaglaa.Hw
def privitylaw07_HyperinvertibleEverySquareSubmatrix.j0 : Nat → Int → Int → Bool → Int → Int → Int → List Int → List Int → Option (Bool)
 | 0,_,_,_,_,_,_,_,_ => none
 | k + 1,x3,x4,x61,x658000,x658001,x658002,x658003,x658004 => if x61 = true then (some true) else ((hyperinvertible_New.f k x658000 x3 x4).bind fun bt662 => ((hyperinvertible_Submatrix.f k bt662.1 x658003 x658004).bind fun bt666 => ((matrix_Det.f x658000 bt666.1).bind fun bt670 => (if bt662.2 = 0 then (if bt666.2 = 0 then (if bt670.2 = 0 then (some (bt670.1 != 0)) else (some false)) else (some false)) else (some false)))))
def privitylaw07_HyperinvertibleEverySquareSubmatrix.f (k : Nat) (a0_0 : Int) (a0_1 : Int) (a0_2 : Int) (l0_3 : List Int) (l0_4 : List Int) : Option (Bool) := (privitylaw07_awake.f k).bind fun t658 => (if t658 = true then ((privityref01_Supported.f k a0_0).bind fun t659 => (if t659 = true then (if (l0_3.length : Int) = (l0_4.length : Int) then (if (l0_3.length : Int) < 1 then (privitylaw07_HyperinvertibleEverySquareSubmatrix.j0 k (wrap64 (1 + (Int.tmod (wrap64 (a0_1)) 13))) (wrap64 (1 + (Int.tmod (wrap64 (a0_2)) 13))) true a0_0 a0_1 a0_2 l0_3 l0_4) else (if (l0_3.length : Int) > 8 then (privitylaw07_HyperinvertibleEverySquareSubmatrix.j0 k (wrap64 (1 + (Int.tmod (wrap64 (a0_1)) 13))) (wrap64 (1 + (Int.tmod (wrap64 (a0_2)) 13))) true a0_0 a0_1 a0_2 l0_3 l0_4) else ((privitylaw07_unlike.f k l0_3 (wrap64 (1 + (Int.tmod (wrap64 (a0_1)) 13)))).bind fun t660 => (if t660 = true then ((privitylaw07_unlike.f k l0_4 (wrap64 (1 + (Int.tmod (wrap64 (a0_2)) 13)))).bind fun t661 => (privitylaw07_HyperinvertibleEverySquareSubmatrix.j0 k (wrap64 (1 + (Int.tmod (wrap64 (a0_1)) 13))) (wrap64 (1 + (Int.tmod (wrap64 (a0_2)) 13))) (!t661) a0_0 a0_1 a0_2 l0_3 l0_4)) else (privitylaw07_HyperinvertibleEverySquareSubmatrix.j0 k (wrap64 (1 + (Int.tmod (wrap64 (a0_1)) 13))) (wrap64 (1 + (Int.tmod (wrap64 (a0_2)) 13))) true a0_0 a0_1 a0_2 l0_3 l0_4))))) else (privitylaw07_HyperinvertibleEverySquareSubmatrix.j0 k (wrap64 (1 + (Int.tmod (wrap64 (a0_1)) 13))) (wrap64 (1 + (Int.tmod (wrap64 (a0_2)) 13))) true a0_0 a0_1 a0_2 l0_3 l0_4)) else (privitylaw07_HyperinvertibleEverySquareSubmatrix.j0 k (wrap64 (1 + (Int.tmod (wrap64 (a0_1)) 13))) (wrap64 (1 + (Int.tmod (wrap64 (a0_2)) 13))) true a0_0 a0_1 a0_2 l0_3 l0_4))) else (some false))
set_option maxHeartbeats 8000000 in
set_option maxRecDepth 100000 in
theorem privitylaw07_HyperinvertibleEverySquareSubmatrix.calls (k : Nat) (a0_0 : Int) (a0_1 : Int) (a0_2 : Int) (A0_3 : Option Addr) (c0_3 : Nat) (l0_3 : List Int) (A0_4 : Option Addr) (c0_4 : Nat) (l0_4 : List Int) (r : Bool) (w : World) (hr0_3 : Kd.C (Kd.int .i64) w A0_3 l0_3.length l0_3) (hc0_3 : l0_3.length ≤ c0_3) (hr0_4 : Kd.C (Kd.int .i64) w A0_4 l0_4.length l0_4) (hc0_4 : l0_4.length ≤ c0_4) (hr1_ : r = true) (h : privitylaw07_HyperinvertibleEverySquareSubmatrix.f k a0_0 a0_1 a0_2 l0_3 l0_4 = some r) :
  Calls Try.prog 7 #[.agg #[.int .u64 a0_0,.int .u8 a0_1,.int .u8 a0_2,.slice A0_3 l0_3.length c0_3,.slice A0_4 l0_4.length c0_4]] w fun e w' => e = .returned (.bool r) ∧ Below w.heap.size w w' := by
 have HRT_ := am hr1_
 clear hr1_
 have hu50 := Try.underlying50
 have HR0_3 := am hr0_3
 have HC0_3 := am hc0_3
 clear hr0_3 hc0_3
 have HR0_4 := am hr0_4
 have HC0_4 := am hc0_4
 clear hr0_4 hc0_4
 have HB := am (Below.refl w.heap.size w)
 have H : ((privitylaw07_awake.f k).bind fun t658 => (if t658 = true then ((privityref01_Supported.f k a0_0).bind fun t659 => (if t659 = true then (if (l0_3.length : Int) = (l0_4.length : Int) then (if (l0_3.length : Int) < 1 then (privitylaw07_HyperinvertibleEverySquareSubmatrix.j0 k (wrap64 (1 + (Int.tmod (wrap64 (a0_1)) 13))) (wrap64 (1 + (Int.tmod (wrap64 (a0_2)) 13))) true a0_0 a0_1 a0_2 l0_3 l0_4) else (if (l0_3.length : Int) > 8 then (privitylaw07_HyperinvertibleEverySquareSubmatrix.j0 k (wrap64 (1 + (Int.tmod (wrap64 (a0_1)) 13))) (wrap64 (1 + (Int.tmod (wrap64 (a0_2)) 13))) true a0_0 a0_1 a0_2 l0_3 l0_4) else ((privitylaw07_unlike.f k l0_3 (wrap64 (1 + (Int.tmod (wrap64 (a0_1)) 13)))).bind fun t660 => (if t660 = true then ((privitylaw07_unlike.f k l0_4 (wrap64 (1 + (Int.tmod (wrap64 (a0_2)) 13)))).bind fun t661 => (privitylaw07_HyperinvertibleEverySquareSubmatrix.j0 k (wrap64 (1 + (Int.tmod (wrap64 (a0_1)) 13))) (wrap64 (1 + (Int.tmod (wrap64 (a0_2)) 13))) (!t661) a0_0 a0_1 a0_2 l0_3 l0_4)) else (privitylaw07_HyperinvertibleEverySquareSubmatrix.j0 k (wrap64 (1 + (Int.tmod (wrap64 (a0_1)) 13))) (wrap64 (1 + (Int.tmod (wrap64 (a0_2)) 13))) true a0_0 a0_1 a0_2 l0_3 l0_4))))) else (privitylaw07_HyperinvertibleEverySquareSubmatrix.j0 k (wrap64 (1 + (Int.tmod (wrap64 (a0_1)) 13))) (wrap64 (1 + (Int.tmod (wrap64 (a0_2)) 13))) true a0_0 a0_1 a0_2 l0_3 l0_4)) else (privitylaw07_HyperinvertibleEverySquareSubmatrix.j0 k (wrap64 (1 + (Int.tmod (wrap64 (a0_1)) 13))) (wrap64 (1 + (Int.tmod (wrap64 (a0_2)) 13))) true a0_0 a0_1 a0_2 l0_3 l0_4))) else (some false))) = some r := h
 clear h
 replace H := Option.bind_eq_some_iff.mp H
 obtain ⟨t658,A20,H⟩ := H
 try dsimp only at H
 have A2 := am A20
 clear A20
 by_cases c3 : t658 = true
 ·subst c3
  rw [if_pos rfl] at H
  have HC4 := am H
  clear H
  go_enter Try.func7,Try.ntmps7
  go_upto_region 5 with (first|((with_reducible refine gate_dst (N := 1) rfl ?_);(try (refine gate_guard (by rfl) ?_;dsimp only));refine box_event ?hg (N := 1) ?hd (cs := #[.int .u64 a0_0,.int .u8 a0_1,.int .u8 a0_2,.slice A0_3 l0_3.length c0_3,.slice A0_4 l0_4.length c0_4]) (t := 50) ?hr ?_;(case hd => rfl);(case hg => rfl);(case hr => first|(go_simp;done)|(go_simp;rfl));intro gb657 hg w5 hbox hb;have n0_ := am (below_step (bb HB) hb);have n1_ := am (hbox);have n2_ := am ((by rw [hg];exact (below_size (bb HB)) : w.heap.size ≤ gb657));have n3_ := am ((by rw [hg];exact (below_size (bb HB)) : w.heap.size ≤ gb657));clear HB;have HB := n0_;have BK657 := n1_;have GW657 := n2_;have GE657 := n3_;clear n0_ n1_ n2_ n3_;clear hb hbox hg)|((with_reducible refine gate_callee (f := 12) rfl ?_);refine goesL_ (some 11) rfl rfl Try.func12 (by kernel_rfl) rfl #[] rfl (by (try simp only [List.map_toArray,List.map_cons,List.map_nil]);first|done|rfl|(simp only [List.length_drop,List.length_take];rfl)) ?_;(with_reducible refine (privitylaw07_awake.calls k  true _ A2.out).mono ?_);rintro e w6 ⟨rfl,hb⟩;refine ⟨_,rfl,?_⟩;have n0_ := am (kb BK657 hb);have n1_ := am (below_step (bg HB GE657) hb);clear BK657 HB;have BK657 := n0_;have HB := n1_;clear n0_ n1_;(try clear hb);(try clear hb2);(try clear hk);(try clear hi);have hcz7_0 := bc BK657 0;have hcz7_1 := bc BK657 1;have hcz7_2 := bc BK657 2;have hcz7_3 := bc BK657 3;have hcz7_4 := bc BK657 4;have hfz7_0 := bf BK657 0;have hfz7_1 := bf BK657 1;have hfz7_2 := bf BK657 2;have hfz7_3 := bf BK657 3;have hfz7_4 := bf BK657 4))
  (try simp only [Act.put,List.setIfInBounds_toArray,List.set_cons_zero,List.set_cons_succ])
  go_cut [61] (fun v61 wc => ∃ (kq : Nat) (x61_3 : Bool),v61 = .bool x61_3 ∧ Aside0 (privitylaw07_HyperinvertibleEverySquareSubmatrix.j0 kq (wrap64 (1 + (Int.tmod (wrap64 (a0_1)) 13))) (wrap64 (1 + (Int.tmod (wrap64 (a0_2)) 13))) x61_3 a0_0 a0_1 a0_2 l0_3 l0_4 = some r) ∧ Aside0 (kq ≤ k) ∧ Aside0 (wc.heap[gb657]? = some (.cells #[.int .u64 a0_0,.int .u8 a0_1,.int .u8 a0_2,(.slice A0_3 l0_3.length c0_3),(.slice A0_4 l0_4.length c0_4)] 50 (0,0))) ∧ Aside0 (Below w.heap.size w wc))
  case first =>
   have H := HC4.out
   clear HC4
   replace H := Option.bind_eq_some_iff.mp H
   obtain ⟨t659,A80,H⟩ := H
   try dsimp only at H
   have A8 := am A80
   clear A80
   by_cases c9 : t659 = true
   ·subst c9
    rw [if_pos rfl] at H
    by_cases c10 : (l0_3.length : Int) = (l0_4.length : Int)
    ·rw [if_pos c10] at H
     have c10b0 : ((l0_3.length : Int) == (l0_4.length : Int)) = true := beq_iff_eq.mpr c10
     have c10b1 : ((l0_3.length : Int) != (l0_4.length : Int)) = false := bne_eq_false_iff_eq.mpr c10
     have c10b2 : (l0_3.length == l0_4.length) = true := by first|simpa using c10|(simp at c10 ⊢;omega)
     clear c10
     (first|rw [c10b0]|(simp only [i64_w,i32_w];rw [c10b0])|skip)
     by_cases c11 : (l0_3.length : Int) < 1
     ·rw [if_pos c11] at H
      have c11b0 : decide ((l0_3.length : Int) < 1) = true := decide_eq_true c11
      have c11b1 : decide (l0_3.length < 1) = true := decide_eq_true (by omega)
      clear c11
      have H' := am H
      clear H
      have hcz12_0 := bc BK657 0
      have hcz12_1 := bc BK657 1
      have hcz12_2 := bc BK657 2
      have hcz12_3 := bc BK657 3
      have hcz12_4 := bc BK657 4
      have hfz12_0 := bf BK657 0
      have hfz12_1 := bf BK657 1
      have hfz12_2 := bf BK657 2
      have hfz12_3 := bf BK657 3
      have hfz12_4 := bf BK657 4
      go_wp2_with (first|((with_reducible refine gate_callee (f := 13) rfl ?_);refine goesL_ (some 25) rfl rfl Try.func13 (by kernel_rfl) rfl #[.int .u64 a0_0] rfl (by (try simp only [List.map_toArray,List.map_cons,List.map_nil]);first|done|rfl|(simp only [List.length_drop,List.length_take];rfl)) ?_;(with_reducible refine (privityref01_Supported.calls k a0_0 true _ A8.out).mono ?_);rintro e w13 ⟨rfl,hb⟩;refine ⟨_,rfl,?_⟩;have n0_ := am (kb BK657 hb);have n1_ := am (below_step (bg HB GE657) hb);clear BK657 HB;have BK657 := n0_;have HB := n1_;clear n0_ n1_;(try clear hb);(try clear hb2);(try clear hk);(try clear hi);have hcz14_0 := bc BK657 0;have hcz14_1 := bc BK657 1;have hcz14_2 := bc BK657 2;have hcz14_3 := bc BK657 3;have hcz14_4 := bc BK657 4;have hfz14_0 := bf BK657 0;have hfz14_1 := bf BK657 1;have hfz14_2 := bf BK657 2;have hfz14_3 := bf BK657 3;have hfz14_4 := bf BK657 4))
      go_meet
      case rel => exact ⟨_,(true),(by first|rfl|(simp;done)|(simp [*];done)),H',⟨by first|omega|exact Nat.le_refl _⟩,⟨kx BK657⟩,⟨bg HB GE657⟩⟩
     ·rw [if_neg c11] at H
      have c11b0 : decide ((l0_3.length : Int) < 1) = false := decide_eq_false c11
      have c11b1 : decide (l0_3.length < 1) = false := decide_eq_false (by omega)
      clear c11
      by_cases c15 : (l0_3.length : Int) > 8
      ·rw [if_pos c15] at H
       have c15b0 : decide (8 < (l0_3.length : Int)) = true := decide_eq_true c15
       have c15b1 : decide (8 < l0_3.length) = true := decide_eq_true (by omega)
       clear c15
       have H' := am H
       clear H
       have hcz16_0 := bc BK657 0
       have hcz16_1 := bc BK657 1
       have hcz16_2 := bc BK657 2
       have hcz16_3 := bc BK657 3
       have hcz16_4 := bc BK657 4
       have hfz16_0 := bf BK657 0
       have hfz16_1 := bf BK657 1
       have hfz16_2 := bf BK657 2
       have hfz16_3 := bf BK657 3
       have hfz16_4 := bf BK657 4
       go_wp2_with (first|((with_reducible refine gate_callee (f := 13) rfl ?_);refine goesL_ (some 25) rfl rfl Try.func13 (by kernel_rfl) rfl #[.int .u64 a0_0] rfl (by (try simp only [List.map_toArray,List.map_cons,List.map_nil]);first|done|rfl|(simp only [List.length_drop,List.length_take];rfl)) ?_;(with_reducible refine (privityref01_Supported.calls k a0_0 true _ A8.out).mono ?_);rintro e w17 ⟨rfl,hb⟩;refine ⟨_,rfl,?_⟩;have n0_ := am (kb BK657 hb);have n1_ := am (below_step (bg HB GE657) hb);clear BK657 HB;have BK657 := n0_;have HB := n1_;clear n0_ n1_;(try clear hb);(try clear hb2);(try clear hk);(try clear hi);have hcz18_0 := bc BK657 0;have hcz18_1 := bc BK657 1;have hcz18_2 := bc BK657 2;have hcz18_3 := bc BK657 3;have hcz18_4 := bc BK657 4;have hfz18_0 := bf BK657 0;have hfz18_1 := bf BK657 1;have hfz18_2 := bf BK657 2;have hfz18_3 := bf BK657 3;have hfz18_4 := bf BK657 4))
       go_meet
       case rel => exact ⟨_,(true),(by first|rfl|(simp;done)|(simp [*];done)),H',⟨by first|omega|exact Nat.le_refl _⟩,⟨kx BK657⟩,⟨bg HB GE657⟩⟩
      ·rw [if_neg c15] at H
       have c15b0 : decide (8 < (l0_3.length : Int)) = false := decide_eq_false c15
       have c15b1 : decide (8 < l0_3.length) = false := decide_eq_false (by omega)
       clear c15
       replace H := Option.bind_eq_some_iff.mp H
       obtain ⟨t660,A190,H⟩ := H
       try dsimp only at H
       have A19 := am A190
       clear A190
       by_cases c20 : t660 = true
       ·subst c20
        rw [if_pos rfl] at H
        replace H := Option.bind_eq_some_iff.mp H
        obtain ⟨t661,A210,H⟩ := H
        try dsimp only at H
        have A21 := am A210
        clear A210
        have H' := am H
        clear H
        have hcz22_0 := bc BK657 0
        have hcz22_1 := bc BK657 1
        have hcz22_2 := bc BK657 2
        have hcz22_3 := bc BK657 3
        have hcz22_4 := bc BK657 4
        have hfz22_0 := bf BK657 0
        have hfz22_1 := bf BK657 1
        have hfz22_2 := bf BK657 2
        have hfz22_3 := bf BK657 3
        have hfz22_4 := bf BK657 4
        go_wp2_with (first|((with_reducible refine gate_callee (f := 13) rfl ?_);refine goesL_ (some 25) rfl rfl Try.func13 (by kernel_rfl) rfl #[.int .u64 a0_0] rfl (by (try simp only [List.map_toArray,List.map_cons,List.map_nil]);first|done|rfl|(simp only [List.length_drop,List.length_take];rfl)) ?_;(with_reducible refine (privityref01_Supported.calls k a0_0 true _ A8.out).mono ?_);rintro e w23 ⟨rfl,hb⟩;refine ⟨_,rfl,?_⟩;have n0_ := am (kb BK657 hb);have n1_ := am (below_step (bg HB GE657) hb);clear BK657 HB;have BK657 := n0_;have HB := n1_;clear n0_ n1_;(try clear hb);(try clear hb2);(try clear hk);(try clear hi);have hcz24_0 := bc BK657 0;have hcz24_1 := bc BK657 1;have hcz24_2 := bc BK657 2;have hcz24_3 := bc BK657 3;have hcz24_4 := bc BK657 4;have hfz24_0 := bf BK657 0;have hfz24_1 := bf BK657 1;have hfz24_2 := bf BK657 2;have hfz24_3 := bf BK657 3;have hfz24_4 := bf BK657 4)|(go_at_call 29;(with_reducible refine (privitylaw07_unlike.calls k _ _ l0_3 (wrap64 (1 + (Int.tmod (wrap64 (a0_1)) 13))) true _ ?side1 ?side2 A19.out).mono ?_);(case side1 => exact cb HR0_3 HB);(case side2 => exact HC0_3.out);rintro e w' ⟨rfl,⟨nd,rfl⟩⟩)|(go_at_call 29;(with_reducible refine (privitylaw07_unlike.calls k _ _ l0_4 (wrap64 (1 + (Int.tmod (wrap64 (a0_2)) 13))) t661 _ ?side1 ?side2 A21.out).mono ?_);(case side1 => repeat (first|exact (Kd.C_below HR0_4.out (bg HB GE657))|(with_reducible refine Kd.C_alloc ?_ _)|(with_reducible refine Kd.C_drewN ?_ _)|(with_reducible refine Kd.C_drew ?_)));(case side2 => exact HC0_4.out);rintro e w' ⟨rfl,⟨nd,rfl⟩⟩))
        go_meet
        case rel => exact ⟨_,(!t661),(by first|rfl|(simp;done)|(simp [*];done)),H',⟨by first|omega|exact Nat.le_refl _⟩,⟨kx BK657⟩,⟨bg HB GE657⟩⟩
       ·replace c20 := Bool.eq_false_iff.mpr c20
        subst c20
        rw [if_neg (show ¬ (false = true) by decide)] at H
        have H' := am H
        clear H
        have hcz25_0 := bc BK657 0
        have hcz25_1 := bc BK657 1
        have hcz25_2 := bc BK657 2
        have hcz25_3 := bc BK657 3
        have hcz25_4 := bc BK657 4
        have hfz25_0 := bf BK657 0
        have hfz25_1 := bf BK657 1
        have hfz25_2 := bf BK657 2
        have hfz25_3 := bf BK657 3
        have hfz25_4 := bf BK657 4
        go_wp2_with (first|((with_reducible refine gate_callee (f := 13) rfl ?_);refine goesL_ (some 25) rfl rfl Try.func13 (by kernel_rfl) rfl #[.int .u64 a0_0] rfl (by (try simp only [List.map_toArray,List.map_cons,List.map_nil]);first|done|rfl|(simp only [List.length_drop,List.length_take];rfl)) ?_;(with_reducible refine (privityref01_Supported.calls k a0_0 true _ A8.out).mono ?_);rintro e w26 ⟨rfl,hb⟩;refine ⟨_,rfl,?_⟩;have n0_ := am (kb BK657 hb);have n1_ := am (below_step (bg HB GE657) hb);clear BK657 HB;have BK657 := n0_;have HB := n1_;clear n0_ n1_;(try clear hb);(try clear hb2);(try clear hk);(try clear hi);have hcz27_0 := bc BK657 0;have hcz27_1 := bc BK657 1;have hcz27_2 := bc BK657 2;have hcz27_3 := bc BK657 3;have hcz27_4 := bc BK657 4;have hfz27_0 := bf BK657 0;have hfz27_1 := bf BK657 1;have hfz27_2 := bf BK657 2;have hfz27_3 := bf BK657 3;have hfz27_4 := bf BK657 4)|(go_at_call 29;(with_reducible refine (privitylaw07_unlike.calls k _ _ l0_3 (wrap64 (1 + (Int.tmod (wrap64 (a0_1)) 13))) false _ ?side1 ?side2 A19.out).mono ?_);(case side1 => exact cb HR0_3 HB);(case side2 => exact HC0_3.out);rintro e w' ⟨rfl,⟨nd,rfl⟩⟩))
        go_meet
        case rel => exact ⟨_,(true),(by first|rfl|(simp;done)|(simp [*];done)),H',⟨by first|omega|exact Nat.le_refl _⟩,⟨kx BK657⟩,⟨bg HB GE657⟩⟩
    ·rw [if_neg c10] at H
     have c10b0 : ((l0_3.length : Int) == (l0_4.length : Int)) = false := beq_eq_false_iff_ne.mpr c10
     have c10b1 : ((l0_3.length : Int) != (l0_4.length : Int)) = true := bne_iff_ne.mpr c10
     have c10b2 : (l0_3.length == l0_4.length) = false := by first|simpa using c10|(simp at c10 ⊢;omega)
     (first|rw [c10b0]|(simp only [i64_w,i32_w];rw [c10b0])|skip)
     have H' := am H
     clear H
     have hcz28_0 := bc BK657 0
     have hcz28_1 := bc BK657 1
     have hcz28_2 := bc BK657 2
     have hcz28_3 := bc BK657 3
     have hcz28_4 := bc BK657 4
     have hfz28_0 := bf BK657 0
     have hfz28_1 := bf BK657 1
     have hfz28_2 := bf BK657 2
     have hfz28_3 := bf BK657 3
     have hfz28_4 := bf BK657 4
     go_wp2_with (first|((with_reducible refine gate_callee (f := 13) rfl ?_);refine goesL_ (some 25) rfl rfl Try.func13 (by kernel_rfl) rfl #[.int .u64 a0_0] rfl (by (try simp only [List.map_toArray,List.map_cons,List.map_nil]);first|done|rfl|(simp only [List.length_drop,List.length_take];rfl)) ?_;(with_reducible refine (privityref01_Supported.calls k a0_0 true _ A8.out).mono ?_);rintro e w29 ⟨rfl,hb⟩;refine ⟨_,rfl,?_⟩;have n0_ := am (kb BK657 hb);have n1_ := am (below_step (bg HB GE657) hb);clear BK657 HB;have BK657 := n0_;have HB := n1_;clear n0_ n1_;(try clear hb);(try clear hb2);(try clear hk);(try clear hi);have hcz30_0 := bc BK657 0;have hcz30_1 := bc BK657 1;have hcz30_2 := bc BK657 2;have hcz30_3 := bc BK657 3;have hcz30_4 := bc BK657 4;have hfz30_0 := bf BK657 0;have hfz30_1 := bf BK657 1;have hfz30_2 := bf BK657 2;have hfz30_3 := bf BK657 3;have hfz30_4 := bf BK657 4))
     go_meet
     case rel => exact ⟨_,(true),(by first|rfl|(simp;done)|(simp [*];done)),H',⟨by first|omega|exact Nat.le_refl _⟩,⟨kx BK657⟩,⟨bg HB GE657⟩⟩
   ·replace c9 := Bool.eq_false_iff.mpr c9
    subst c9
    rw [if_neg (show ¬ (false = true) by decide)] at H
    have H' := am H
    clear H
    have hcz31_0 := bc BK657 0
    have hcz31_1 := bc BK657 1
    have hcz31_2 := bc BK657 2
    have hcz31_3 := bc BK657 3
    have hcz31_4 := bc BK657 4
    have hfz31_0 := bf BK657 0
    have hfz31_1 := bf BK657 1
    have hfz31_2 := bf BK657 2
    have hfz31_3 := bf BK657 3
    have hfz31_4 := bf BK657 4
    go_wp2_with (first|((with_reducible refine gate_callee (f := 13) rfl ?_);refine goesL_ (some 25) rfl rfl Try.func13 (by kernel_rfl) rfl #[.int .u64 a0_0] rfl (by (try simp only [List.map_toArray,List.map_cons,List.map_nil]);first|done|rfl|(simp only [List.length_drop,List.length_take];rfl)) ?_;(with_reducible refine (privityref01_Supported.calls k a0_0 false _ A8.out).mono ?_);rintro e w32 ⟨rfl,hb⟩;refine ⟨_,rfl,?_⟩;have n0_ := am (kb BK657 hb);have n1_ := am (below_step (bg HB GE657) hb);clear BK657 HB;have BK657 := n0_;have HB := n1_;clear n0_ n1_;(try clear hb);(try clear hb2);(try clear hk);(try clear hi)))
    go_meet
    case rel => exact ⟨_,(true),(by first|rfl|(simp;done)|(simp [*];done)),H',⟨by first|omega|exact Nat.le_refl _⟩,⟨kx BK657⟩,⟨bg HB GE657⟩⟩
  case rest =>
   clear HC4
   try clear c1
   try clear c2
   try clear p2
   try clear c3
   try clear p6
   try clear c7
   try clear c9
   try clear c10
   try clear c10b0
   try clear c10b1
   try clear c10b2
   try clear c11
   try clear c11b0
   try clear c11b1
   try clear c12
   try clear c13
   try clear c15
   try clear c15b0
   try clear c15b1
   try clear c20
   try clear hcz12_0
   try clear hcz12_1
   try clear hcz12_2
   try clear hcz12_3
   try clear hcz12_4
   try clear hcz14_0
   try clear hcz14_1
   try clear hcz14_2
   try clear hcz14_3
   try clear hcz14_4
   try clear hcz16_0
   try clear hcz16_1
   try clear hcz16_2
   try clear hcz16_3
   try clear hcz16_4
   try clear hcz18_0
   try clear hcz18_1
   try clear hcz18_2
   try clear hcz18_3
   try clear hcz18_4
   try clear hcz22_0
   try clear hcz22_1
   try clear hcz22_2
   try clear hcz22_3
   try clear hcz22_4
   try clear hcz24_0
   try clear hcz24_1
   try clear hcz24_2
   try clear hcz24_3
   try clear hcz24_4
   try clear hcz25_0
   try clear hcz25_1
   try clear hcz25_2
   try clear hcz25_3
   try clear hcz25_4
   try clear hcz27_0
   try clear hcz27_1
   try clear hcz27_2
   try clear hcz27_3
   try clear hcz27_4
   try clear hcz28_0
   try clear hcz28_1
   try clear hcz28_2
   try clear hcz28_3
   try clear hcz28_4
   try clear hcz30_0
   try clear hcz30_1
   try clear hcz30_2
   try clear hcz30_3
   try clear hcz30_4
   try clear hcz31_0
   try clear hcz31_1
   try clear hcz31_2
   try clear hcz31_3
   try clear hcz31_4
   try clear hcz7_0
   try clear hcz7_1
   try clear hcz7_2
   try clear hcz7_3
   try clear hcz7_4
   try clear hfz12_0
   try clear hfz12_1
   try clear hfz12_2
   try clear hfz12_3
   try clear hfz12_4
   try clear hfz14_0
   try clear hfz14_1
   try clear hfz14_2
   try clear hfz14_3
   try clear hfz14_4
   try clear hfz16_0
   try clear hfz16_1
   try clear hfz16_2
   try clear hfz16_3
   try clear hfz16_4
   try clear hfz18_0
   try clear hfz18_1
   try clear hfz18_2
   try clear hfz18_3
   try clear hfz18_4
   try clear hfz22_0
   try clear hfz22_1
   try clear hfz22_2
   try clear hfz22_3
   try clear hfz22_4
   try clear hfz24_0
   try clear hfz24_1
   try clear hfz24_2
   try clear hfz24_3
   try clear hfz24_4
   try clear hfz25_0
   try clear hfz25_1
   try clear hfz25_2
   try clear hfz25_3
   try clear hfz25_4
   try clear hfz27_0
   try clear hfz27_1
   try clear hfz27_2
   try clear hfz27_3
   try clear hfz27_4
   try clear hfz28_0
   try clear hfz28_1
   try clear hfz28_2
   try clear hfz28_3
   try clear hfz28_4
   try clear hfz30_0
   try clear hfz30_1
   try clear hfz30_2
   try clear hfz30_3
   try clear hfz30_4
   try clear hfz31_0
   try clear hfz31_1
   try clear hfz31_2
   try clear hfz31_3
   try clear hfz31_4
   try clear hfz7_0
   try clear hfz7_1
   try clear hfz7_2
   try clear hfz7_3
   try clear hfz7_4
   obtain ⟨kq,x61_3,rfl,HA,HJ3,BK657,HB⟩ := hcut
   cases kq with
   | zero => exact absurd HA.out (by simp [privitylaw07_HyperinvertibleEverySquareSubmatrix.j0])
   | succ kj3 =>
    have H := HA.out
    clear HA
    simp only [privitylaw07_HyperinvertibleEverySquareSubmatrix.j0] at H
    by_cases c33 : x61_3 = true
    ·subst c33
     rw [if_pos rfl] at H
     obtain rfl := Option.some.inj H
     go_wp2
     go_ret
     exact ⟨by first|rfl|(simp [errW_none,errW_some] <;> rfl)|(simp [*,errW_none,errW_some] <;> rfl),bg HB GE657⟩
    ·replace c33 := Bool.eq_false_iff.mpr c33
     subst c33
     rw [if_neg (show ¬ (false = true) by decide)] at H
     replace H := Option.bind_eq_some_iff.mp H
     obtain ⟨⟨t662,t663⟩,A340,H⟩ := H
     try dsimp only at H
     have A34 := am A340
     clear A340
     replace H := Option.bind_eq_some_iff.mp H
     obtain ⟨⟨t666,t667⟩,A350,H⟩ := H
     try dsimp only at H
     have A35 := am A350
     clear A350
     replace H := Option.bind_eq_some_iff.mp H
     obtain ⟨⟨t670,t671⟩,A360,H⟩ := H
     try dsimp only at H
     have A36 := am A360
     clear A360
     by_cases c37 : t663 = 0
     ·rw [if_pos c37] at H
      have c37b0 : (t663 == 0) = true := beq_iff_eq.mpr c37
      have c37b1 : (t663 != 0) = false := bne_eq_false_iff_eq.mpr c37
      clear c37
      by_cases c38 : t667 = 0
      ·rw [if_pos c38] at H
       have c38b0 : (t667 == 0) = true := beq_iff_eq.mpr c38
       have c38b1 : (t667 != 0) = false := bne_eq_false_iff_eq.mpr c38
       clear c38
       by_cases c39 : t671 = 0
       ·rw [if_pos c39] at H
        have c39b0 : (t671 == 0) = true := beq_iff_eq.mpr c39
        have c39b1 : (t671 != 0) = false := bne_eq_false_iff_eq.mpr c39
        clear c39
        obtain rfl := Option.some.inj H
        have hcz40_0 := bc BK657 0
        have hcz40_1 := bc BK657 1
        have hcz40_2 := bc BK657 2
        have hcz40_3 := bc BK657 3
        have hcz40_4 := bc BK657 4
        have hfz40_0 := bf BK657 0
        have hfz40_1 := bf BK657 1
        have hfz40_2 := bf BK657 2
        have hfz40_3 := bf BK657 3
        have hfz40_4 := bf BK657 4
        go_wp2_with (first|((with_reducible refine gate_callee (f := 14) rfl ?_);refine goesL_ (some 67) rfl rfl Try.func14 (by kernel_rfl) rfl #[.int .u64 a0_0,.int .i64 (wrap64 (1 + (Int.tmod (wrap64 (a0_1)) 13))),.int .i64 (wrap64 (1 + (Int.tmod (wrap64 (a0_2)) 13)))] rfl (by (try simp only [List.map_toArray,List.map_cons,List.map_nil]);first|done|rfl|(simp only [List.length_drop,List.length_take];rfl)) ?_;(with_reducible refine (hyperinvertible_New.calls kj3 a0_0 (wrap64 (1 + (Int.tmod (wrap64 (a0_1)) 13))) (wrap64 (1 + (Int.tmod (wrap64 (a0_2)) 13))) t662 t663 _ A34.out).mono ?_);rintro e w41 ⟨v664,rfl,ho0,hb⟩;refine ⟨_,rfl,?_⟩;have n0_ := am (Kd.S_lower ho0 (below_size (bg HB GE657)));have n1_ := am (kb BK657 hb);have n2_ := am (below_step (bg HB GE657) hb);clear BK657 HB;have HO665 := n0_;have BK657 := n1_;have HB := n2_;clear n0_ n1_ n2_;(try clear hb);(try clear hb2);(try clear hk);(try clear hi);(try clear ho0);have hcz42_0 := bc BK657 0;have hcz42_1 := bc BK657 1;have hcz42_2 := bc BK657 2;have hcz42_3 := bc BK657 3;have hcz42_4 := bc BK657 4;have hfz42_0 := bf BK657 0;have hfz42_1 := bf BK657 1;have hfz42_2 := bf BK657 2;have hfz42_3 := bf BK657 3;have hfz42_4 := bf BK657 4;obtain ⟨Ao43,co43,eo43⟩ := Kd.S_slice HO665.out;subst eo43)|((with_reducible refine gate_callee (f := 18) rfl ?_);refine goesL_ (some 76) rfl rfl Try.func18 (by kernel_rfl) rfl #[.slice Ao43 t662.length co43,.slice A0_3 l0_3.length c0_3,.slice A0_4 l0_4.length c0_4] rfl (by (try simp only [List.map_toArray,List.map_cons,List.map_nil]);first|done|rfl|(simp only [List.length_drop,List.length_take];rfl)) ?_;(with_reducible refine (hyperinvertible_Submatrix.calls kj3 _ _ t662 _ _ l0_3 _ _ l0_4 t666 t667 _ ?side1 ?side2 ?side3 ?side4 ?side5 ?side6 A35.out).mono ?_);(case side1 => repeat (first|exact (Kd.S_reads' HO665.out).2.2|(with_reducible refine Kd.C_alloc ?_ _)|(with_reducible refine Kd.C_drewN ?_ _)|(with_reducible refine Kd.C_drew ?_)));(case side2 => exact (Kd.S_reads' HO665.out).2.1);(case side3 => exact cb HR0_3 HB);(case side4 => exact HC0_3.out);(case side5 => exact cb HR0_4 HB);(case side6 => exact HC0_4.out);rintro e w44 ⟨v668,rfl,ho0,hb⟩;refine ⟨_,rfl,?_⟩;have n0_ := am (Kd.S_elder' (by (with_reducible repeat (first|apply Kd.S_alloc|apply Kd.S_drewN|apply Kd.S_drew));exact HO665.out) (Kd.S_base ho0) hb);have n1_ := am (Kd.S_lower (Kd.S_new' ho0 (Kd.S_lt (by (with_reducible repeat (first|apply Kd.S_alloc|apply Kd.S_drewN|apply Kd.S_drew));exact HO665.out))) (below_size (bg HB GE657)));have n2_ := am (kb BK657 hb);have n3_ := am (below_step (bg HB GE657) hb);clear HO665 BK657 HB;have HO665 := n0_;have HO669 := n1_;have BK657 := n2_;have HB := n3_;clear n0_ n1_ n2_ n3_;(try clear hb);(try clear hb2);(try clear hk);(try clear hi);(try clear ho0);have hcz45_0 := bc BK657 0;have hcz45_1 := bc BK657 1;have hcz45_2 := bc BK657 2;have hcz45_3 := bc BK657 3;have hcz45_4 := bc BK657 4;have hfz45_0 := bf BK657 0;have hfz45_1 := bf BK657 1;have hfz45_2 := bf BK657 2;have hfz45_3 := bf BK657 3;have hfz45_4 := bf BK657 4;obtain ⟨Ao46,co46,eo46⟩ := Kd.S_slice HO669.out;subst eo46)|((with_reducible refine gate_callee (f := 30) rfl ?_);refine goesL_ (some 83) rfl rfl Try.func30 (by kernel_rfl) rfl #[.int .u64 a0_0,.slice Ao46 t666.length co46] rfl (by (try simp only [List.map_toArray,List.map_cons,List.map_nil]);first|done|rfl|(simp only [List.length_drop,List.length_take];rfl)) ?_;(with_reducible refine (matrix_Det.calls a0_0 _ _ t666 t670 t671 _ ?side1 ?side2 A36.out).mono ?_);(case side1 => repeat (first|exact (Kd.S_reads' HO669.out).2.2|(with_reducible refine Kd.C_alloc ?_ _)|(with_reducible refine Kd.C_drewN ?_ _)|(with_reducible refine Kd.C_drew ?_)));(case side2 => exact (Kd.S_reads' HO669.out).2.1);rintro e w47 ⟨rfl,hb⟩;refine ⟨_,rfl,?_⟩;have n0_ := am (Kd.S_below (by (with_reducible repeat (first|apply Kd.S_alloc|apply Kd.S_drewN|apply Kd.S_drew));exact HO665.out) hb);have n1_ := am (Kd.S_below (by (with_reducible repeat (first|apply Kd.S_alloc|apply Kd.S_drewN|apply Kd.S_drew));exact HO669.out) hb);have n2_ := am (kb BK657 hb);have n3_ := am (below_step (bg HB GE657) hb);clear HO665 HO669 BK657 HB;have HO665 := n0_;have HO669 := n1_;have BK657 := n2_;have HB := n3_;clear n0_ n1_ n2_ n3_;(try clear hb);(try clear hb2);(try clear hk);(try clear hi)))
        go_ret
        exact ⟨by first|rfl|(simp [errW_none,errW_some] <;> rfl)|(simp [*,errW_none,errW_some] <;> rfl),bg HB GE657⟩
       ·rw [if_neg c39] at H
        have c39b0 : (t671 == 0) = false := beq_eq_false_iff_ne.mpr c39
        have c39b1 : (t671 != 0) = true := bne_iff_ne.mpr c39
        exact absurd (Option.some.inj H) (by rw [HRT_.out];simp)
      ·rw [if_neg c38] at H
       have c38b0 : (t667 == 0) = false := beq_eq_false_iff_ne.mpr c38
       have c38b1 : (t667 != 0) = true := bne_iff_ne.mpr c38
       exact absurd (Option.some.inj H) (by rw [HRT_.out];simp)
     ·rw [if_neg c37] at H
      have c37b0 : (t663 == 0) = false := beq_eq_false_iff_ne.mpr c37
      have c37b1 : (t663 != 0) = true := bne_iff_ne.mpr c37
      exact absurd (Option.some.inj H) (by rw [HRT_.out];simp)
 ·replace c3 := Bool.eq_false_iff.mpr c3
  subst c3
  rw [if_neg (show ¬ (false = true) by decide)] at H
  exact absurd (Option.some.inj H) (by rw [HRT_.out];simp)
end Go.Proofs.Ytmdoaijkaaaglaa.Pr
end
section
namespace Go.Proofs.Ytmdoaijkaaaglaa.Pl
open Go.Proofs.Ytmdoaijkaaaglaa.Fd
section
variable {p : Nat} [NeZero p]
def ev (x : Fin p) : List (Fin p) → Fin p
 | [] => 0
 | c :: f => c + x * ev x f
def quot (a : Fin p) : List (Fin p) → List (Fin p)
 | [] => []
 | _ :: f => match f with
  | [] => []
  | _ => ev a f :: quot a f
theorem quot_length (a : Fin p) : ∀ f : List (Fin p),(quot a f).length = f.length - 1
 | [] => rfl
 | [_] => rfl
 | _ :: d :: f => by
  have := quot_length a (d :: f)
  simp only [quot,List.length_cons] at *
  omega
theorem quot_spec (a x : Fin p) : ∀ f : List (Fin p),ev x f = (x - a) * ev x (quot a f) + ev a f
 | [] => by simp only [quot,ev];grind
 | [c] => by simp only [quot,ev];grind
 | c :: d :: f => by
  have h := quot_spec a x (d :: f)
  have e : quot a (c :: d :: f) = ev a (d :: f) :: quot a (d :: f) := rfl
  rw [e]
  generalize hq : quot a (d :: f) = q at *
  rw [ev,h]
  show _ = (x - a) * (ev a (d :: f) + x * ev x q) + (c + a * ev a (d :: f))
  grind
theorem zero_of_quot (a : Fin p) : ∀ f : List (Fin p),(∀ c ∈ quot a f,c = 0) → ev a f = 0 → ∀ c ∈ f,c = 0
 | [],_,_ => by simp
 | [c],_,h => by
  intro x hx
  have h : c + a * 0 = 0 := h
  simp only [List.mem_cons,List.not_mem_nil,or_false] at hx
  subst hx;grind
 | c :: d :: f,hq,h => by
  have e : quot a (c :: d :: f) = ev a (d :: f) :: quot a (d :: f) := rfl
  rw [e] at hq
  have h1 : ev a (d :: f) = 0 := hq _ (by simp)
  have ih := zero_of_quot a (d :: f) (fun x hx => hq x (List.mem_cons_of_mem _ hx)) h1
  have h2 : c + a * ev a (d :: f) = 0 := h
  rw [h1] at h2
  have hc : c = 0 := by grind
  intro x hx
  rcases List.mem_cons.1 hx with rfl|hx
  ·exact hc
  ·exact ih x hx
def Dom (p : Nat) [NeZero p] : Prop := ∀ a b : Fin p,a * b = 0 → a = 0 ∨ b = 0
theorem zero_of_roots (hd : Dom p) : ∀ (xs f : List (Fin p)),xs.Nodup → f.length ≤ xs.length → (∀ x ∈ xs,ev x f = 0) → ∀ c ∈ f,c = 0
 | [],f,_,hl,_ => by
  have : f = [] := by cases f with|nil => rfl|cons _ _ => simp at hl
  subst this;simp
 | a :: xs,f,hn,hl,h => by
  have hn' := List.nodup_cons.1 hn
  refine zero_of_quot a f (zero_of_roots hd xs (quot a f) hn'.2 (by rw [quot_length];simp at hl;omega) fun x hx => ?_) (h a (by simp))
  have h1 := quot_spec a x f
  rw [h x (List.mem_cons_of_mem _ hx),h a (by simp)] at h1
  have h2 : (x - a) * ev x (quot a f) = 0 := by grind
  rcases hd _ _ h2 with h3|h3
  ·have : x = a := by grind
   subst this;exact absurd hx hn'.1
  ·exact h3
def sub : List (Fin p) → List (Fin p) → List (Fin p)
 | [],g => g.map fun c => -c
 | f,[] => f
 | c :: f,d :: g => (c - d) :: sub f g
omit [NeZero p] in
theorem sub_length : ∀ f g : List (Fin p),(sub f g).length = max f.length g.length
 | [],g => by simp [sub]
 | _ :: _,[] => by simp [sub]
 | _ :: f,_ :: g => by simp [sub,sub_length f g]
theorem ev_neg (x : Fin p) : ∀ f : List (Fin p),ev x (f.map fun c => -c) = - ev x f
 | [] => by simp only [List.map_nil,ev];grind
 | c :: f => by simp only [List.map_cons,ev,ev_neg x f];grind
theorem ev_sub (x : Fin p) : ∀ f g : List (Fin p),ev x (sub f g) = ev x f - ev x g
 | [],g => by simp only [sub,ev_neg,ev];grind
 | _ :: _,[] => by simp only [sub,ev];grind
 | c :: f,d :: g => by simp only [sub,ev,ev_sub x f g];grind
theorem getD_sub (i : Nat) : ∀ f g : List (Fin p),(sub f g).getD i 0 = f.getD i 0 - g.getD i 0 := by
 induction i with
 | zero =>
  intro f g
  cases f with
  | nil => cases g with
   | nil => simp only [sub,List.map_nil,List.getD_nil];grind
   | cons d g => simp only [sub,List.map_cons,List.getD_cons_zero,List.getD_nil];grind
  | cons c f => cases g with
   | nil => simp only [sub,List.getD_cons_zero,List.getD_nil];grind
   | cons d g => simp only [sub,List.getD_cons_zero]
 | succ i ih =>
  intro f g
  cases f with
  | nil => cases g with
   | nil => simp only [sub,List.map_nil,List.getD_nil];grind
   | cons d g =>
    have := ih [] g
    simp only [sub,List.map_cons,List.getD_cons_succ,List.getD_nil] at *
    exact this
  | cons c f => cases g with
   | nil => simp only [sub,List.getD_cons_succ,List.getD_nil];grind
   | cons d g => simp only [sub,List.getD_cons_succ];exact ih f g
theorem getD_zero {f : List (Fin p)} (h : ∀ c ∈ f,c = 0) (i : Nat) : f.getD i 0 = 0 := by
 rw [List.getD_eq_getElem?_getD]
 by_cases hi : i < f.length
 ·rw [List.getElem?_eq_getElem hi];exact h _ (List.getElem_mem hi)
 ·rw [List.getElem?_eq_none (by omega)];rfl
theorem unique (hd : Dom p) (xs f g : List (Fin p)) (hn : xs.Nodup) (hf : f.length ≤ xs.length) (hg : g.length ≤ xs.length) (h : ∀ x ∈ xs,ev x f = ev x g) (i : Nat) : f.getD i 0 = g.getD i 0 := by
 have h1 := getD_zero (zero_of_roots hd xs (sub f g) hn (by rw [sub_length];omega) fun x hx => by rw [ev_sub,h x hx];grind) i
 rw [getD_sub] at h1
 grind
theorem ev_congr (x : Fin p) : ∀ f g : List (Fin p),(∀ i,f.getD i 0 = g.getD i 0) → ev x f = ev x g := by
 intro f g h
 have : ∀ c ∈ sub f g,c = 0 := by
  intro c hc
  obtain ⟨i,hi,rfl⟩ := List.getElem_of_mem hc
  have := getD_sub i f g
  rw [h i,List.getD_eq_getElem?_getD,List.getElem?_eq_getElem hi] at this
  simp only [Option.getD_some] at this
  rw [this];grind
 have h0 : ∀ l : List (Fin p),(∀ c ∈ l,c = 0) → ev x l = 0 := by
  intro l
  induction l with
  | nil => intro _;rfl
  | cons c l ih => intro hl;rw [ev,ih (fun d hd => hl d (List.mem_cons_of_mem _ hd)),hl c (by simp)];grind
 have h1 := h0 _ this
 rw [ev_sub] at h1
 grind
end
section
variable {p : Nat} [NeZero p]
def mono (x : Fin p) : Nat → Fin p
 | 0 => 1
 | n + 1 => x * mono x n
theorem mono_add (x : Fin p) (a : Nat) : ∀ b,mono x (a + b) = mono x a * mono x b
 | 0 => by simp only [mono,Nat.add_zero];grind
 | b + 1 => by rw [← Nat.add_assoc];simp only [mono];rw [mono_add x a b];grind
theorem ev_append (x : Fin p) : ∀ f g : List (Fin p),ev x (f ++ g) = ev x f + mono x f.length * ev x g
 | [],g => by simp only [List.nil_append,ev,List.length_nil,mono];grind
 | c :: f,g => by simp only [List.cons_append,ev,List.length_cons,mono,ev_append x f g];grind
theorem ev_zeros (x : Fin p) : ∀ n,ev x (List.replicate n 0) = 0
 | 0 => rfl
 | n + 1 => by simp only [List.replicate_succ,ev,ev_zeros x n];grind
theorem ev_set (x v : Fin p) : ∀ (f : List (Fin p)) (i : Nat),i < f.length → ev x (f.set i v) = ev x f + (v - f.getD i 0) * mono x i
 | [],_,h => by simp at h
 | c :: f,0,_ => by simp only [List.set_cons_zero,ev,mono,List.getD_cons_zero];grind
 | c :: f,i + 1,h => by
  have := ev_set x v f i (by simpa using h)
  simp only [List.set_cons_succ,ev,mono,List.getD_cons_succ,this];grind
theorem ev_take_succ (x : Fin p) : ∀ (f : List (Fin p)) (n : Nat),ev x (f.take (n + 1)) = ev x (f.take n) + f.getD n 0 * mono x n
 | [],n => by simp only [List.take_nil,List.getD_nil,ev];grind
 | c :: f,0 => by simp only [List.take_succ_cons,List.take_zero,ev,List.getD_cons_zero,mono];grind
 | c :: f,n + 1 => by
  have := ev_take_succ x f n
  simp only [List.take_succ_cons,ev,List.getD_cons_succ,mono] at *
  rw [this];grind
def tf (p : Nat) [NeZero p] (a : Int) : Fin p := ⟨(a % (p : Int)).toNat,by
 have h : (0 : Int) < p := by have := Nat.pos_of_neZero p;omega
 have := Int.emod_lt_of_pos a h
 have := Int.emod_nonneg a (by omega : (p : Int) ≠ 0)
 omega⟩
theorem tf_val (a : Int) : (((tf p a).val : Nat) : Int) = a % (p : Int) := by
 have h : (0 : Int) < p := by have := Nat.pos_of_neZero p;omega
 show (((a % (p : Int)).toNat : Nat) : Int) = _
 rw [Int.toNat_of_nonneg (Int.emod_nonneg a (by omega))]
theorem tf_eq {a : Int} {x : Fin p} (h : ((x.val : Nat) : Int) = a % (p : Int)) : tf p a = x := by
 apply Fin.ext
 have := tf_val (p := p) a
 omega
theorem tf_of_emod {a b : Int} (h : a % (p : Int) = b % (p : Int)) : tf p a = tf p b := tf_eq (by rw [tf_val,h])
theorem tf_emod (a : Int) : tf p (a % (p : Int)) = tf p a := tf_of_emod (Int.emod_emod_of_dvd _ (Int.dvd_refl _))
theorem tf_add (a b : Int) : tf p (a + b) = tf p a + tf p b := by
 refine tf_eq ?_
 rw [Fin.val_add,Int.natCast_emod,Int.natCast_add,tf_val,tf_val,← Int.add_emod]
theorem tf_mul (a b : Int) : tf p (a * b) = tf p a * tf p b := by
 refine tf_eq ?_
 rw [Fin.val_mul,Int.natCast_emod,Int.natCast_mul,tf_val,tf_val,← Int.mul_emod]
theorem tf_zero : tf p 0 = 0 := tf_eq (by simp)
theorem tf_one : tf p 1 = 1 := by
 refine tf_eq ?_
 rw [show ((1 : Fin p).val) = 1 % p from rfl];simp
theorem tf_neg (a : Int) : tf p (-a) = - tf p a := by
 have h : tf p (-a) + tf p a = 0 := by rw [← tf_add,show -a + a = 0 from by omega,tf_zero]
 grind
theorem tf_sub (a b : Int) : tf p (a - b) = tf p a - tf p b := by rw [Int.sub_eq_add_neg,tf_add,tf_neg];grind
theorem tf_of_val (x : Fin p) : tf p ((x.val : Nat) : Int) = x := tf_eq (by
 have := x.isLt
 rw [← Int.natCast_emod,Nat.mod_eq_of_lt this])
theorem tf_inj {a b : Int} (ha : 0 ≤ a ∧ a < (p : Int)) (hb : 0 ≤ b ∧ b < (p : Int)) (h : tf p a = tf p b) : a = b := by
 have h1 := tf_val (p := p) a
 rw [h,tf_val,Int.emod_eq_of_lt ha.1 ha.2,Int.emod_eq_of_lt hb.1 hb.2] at h1
 exact h1.symm
theorem getD_tf (l : List Int) (i : Nat) : (l.map (tf p)).getD i 0 = tf p (l.getD i 0) := by
 rw [List.getD_eq_getElem?_getD,List.getD_eq_getElem?_getD,List.getElem?_map]
 cases l[i]? with
 | none => simp [tf_zero]
 | some v => rfl
def lin (y : Fin p) : List (Fin p) → Fin p
 | [] => 1
 | o :: l => (y - o) * lin y l
theorem lin_zero {y : Fin p} : ∀ {l : List (Fin p)},y ∈ l → lin y l = 0
 | o :: l,h => by
  rcases List.mem_cons.1 h with h|h
  ·subst h;simp only [lin];grind
  ·simp only [lin];rw [lin_zero h];grind
end
end Go.Proofs.Ytmdoaijkaaaglaa.Pl
end
section
namespace Go.Proofs.Ytmdoaijkaaaglaa.E
open Go.RowKit Go.Proofs.Ytmdoaijkaaaglaa.Pr Go.Proofs.Ytmdoaijkaaaglaa.Hw Go.Proofs.Ytmdoaijkaaaglaa.Pl Go.Proofs.YtmdoaijkaaaglaaW.PrintWords Go.Proofs.YtmdoaijkaaaglaaW.PrintLast Go.Proofs.YtmdoaijkaaaglaaW.PrintMore
theorem nz {p : Int} (hp : Supp p) : NeZero p.toNat := ⟨by have := hp.bd;omega⟩
theorem cast_p {p : Int} (hp : Supp p) : ((p.toNat : Nat) : Int) = p := by have := hp.bd;omega
section
variable {p : Int} (hp : Supp p) [NeZero p.toNat]
def T (p : Int) [NeZero p.toNat] (a : Int) : Fin p.toNat := tf p.toNat a
def M (p : Int) [NeZero p.toNat] (l : List Int) : List (Fin p.toNat) := l.map (T p)
include hp in
theorem T_mod (a : Int) : T p (a % p) = T p a := by
 have h := tf_emod (p := p.toNat) a
 rw [cast_p hp] at h;exact h
theorem T_add (a b : Int) : T p (a + b) = T p a + T p b := tf_add a b
theorem T_mul (a b : Int) : T p (a * b) = T p a * T p b := tf_mul a b
theorem T_sub (a b : Int) : T p (a - b) = T p a - T p b := tf_sub a b
theorem T_neg (a : Int) : T p (-a) = - T p a := tf_neg a
theorem T_zero : T p 0 = 0 := tf_zero
theorem T_one : T p 1 = 1 := tf_one
include hp in
theorem T_inj {a b : Int} (ha : Res p a) (hb : Res p b) (h : T p a = T p b) : a = b :=
 tf_inj (p := p.toNat) (by rw [cast_p hp];exact ha) (by rw [cast_p hp];exact hb) h
include hp in
theorem T_inv {a : Int} (ha : Res p a) (h0 : a ≠ 0) : T p a * T p (invp p a) = 1 := by
 rw [← T_mul,← T_one,← T_mod hp (a * invp p a),inv_spec hp ha h0]
include hp in
theorem T_back (x : Fin p.toNat) : Res p ((x.val : Nat) : Int) ∧ T p ((x.val : Nat) : Int) = x := by
 have := x.isLt
 have := cast_p hp
 exact ⟨⟨by omega,by omega⟩,tf_of_val x⟩
include hp in
theorem dom : Dom p.toNat := by
 intro a b h
 obtain ⟨r,e⟩ := T_back hp a
 by_cases h0 : ((a.val : Nat) : Int) = 0
 ·left;rw [← e,h0,T_zero]
 ·right
  have h1 := T_inv hp r h0
  rw [e] at h1
  grind
include hp in
theorem one_ne : (1 : Fin p.toNat) ≠ 0 := by
 intro h
 rw [← T_one,← T_zero] at h
 have hb := hp.bd
 have := T_inj hp (a := 1) (b := 0) ⟨by omega,by omega⟩ ⟨by omega,by omega⟩ h
 omega
include hp in
theorem ev_evI (x : Int) : ∀ l,T p (evI p x l) = ev (T p x) (M p l)
 | [] => T_zero
 | c :: l => by
  have := ev_evI x l
  simp only [evI,M,List.map_cons,ev]
  rw [T_mod hp,T_add,T_mod hp,T_mul,this,M]
  grind
theorem M_getD (l : List Int) (i : Nat) : (M p l).getD i 0 = T p (l.getD i 0) := getD_tf l i
theorem M_length (l : List Int) : (M p l).length = l.length := List.length_map _
theorem ev_trimL (x : Fin p.toNat) (l : List Int) : ev x (M p (trimL l)) = ev x (M p l) :=
 ev_congr x _ _ (fun i => by rw [M_getD,M_getD,trimL_getD])
theorem ev_grow (x : Fin p.toNat) (l : List Int) (n : Nat) : ev x (M p (grow l n)) = ev x (M p l) := by
 have : M p (grow l n) = M p l ++ List.replicate (n - l.length) 0 := by
  unfold grow M;rw [List.map_append,List.map_replicate,T_zero]
 rw [this,ev_append,ev_zeros];grind
include hp in
theorem ev_put (x : Fin p.toNat) (l : List Int) (i : Nat) (k : Int) : ev x (M p (putL p l i k)) = ev x (M p l) + T p k * mono x i := by
 have hg : i < (grow l (i + 1)).length := by unfold grow;simp;omega
 have : M p (putL p l i k) = (M p (grow l (i + 1))).set i (T p ((grow l (i + 1)).getD i 0) + T p k) := by
  unfold putL M;rw [List.map_set,T_mod hp,T_add]
 rw [this,ev_set _ _ _ _ (by rw [M_length];exact hg),ev_grow,M_getD]
 grind
include hp in
theorem ev_puts (x : Fin p.toNat) (m l : List Int) : ∀ n,ev x (M p (putsL p m l n)) = ev x (M p m) + ev x ((M p l).take n)
 | 0 => by simp only [putsL,List.take_zero,ev];grind
 | n + 1 => by rw [putsL,ev_put hp,ev_puts x m l n,ev_take_succ,M_getD];grind
theorem M_take_all (l : List Int) : (M p l).take l.length = M p l := by rw [← M_length (p := p) l,List.take_length]
include hp in
theorem ev_addP (x : Fin p.toNat) (a b : List Int) : ev x (M p (addP p a b)) = ev x (M p a) + ev x (M p b) := by
 unfold addP
 rw [ev_puts hp,ev_puts hp,M_take_all,M_take_all]
 show ev x [] + _ + _ = _
 simp only [ev];grind
include hp in
theorem ev_row (x : Fin p.toNat) (m : List Int) (u : Int) (b : List Int) (i : Nat) : ∀ n,ev x (M p (rowL p m u b i n)) = ev x (M p m) + T p u * mono x i * ev x ((M p b).take n)
 | 0 => by simp only [rowL,List.take_zero,ev];grind
 | n + 1 => by
  rw [rowL,ev_put hp,ev_row x m u b i n,ev_take_succ,M_getD,T_mod hp,T_mul,mono_add,rd_nat];grind
include hp in
theorem ev_muls (x : Fin p.toNat) (a b : List Int) : ∀ n,ev x (M p (mulsL p a b n)) = ev x ((M p a).take n) * ev x (M p b)
 | 0 => by simp only [mulsL,List.take_zero,M,List.map_nil,ev];grind
 | n + 1 => by rw [mulsL,ev_row hp,ev_muls x a b n,M_take_all,ev_take_succ,M_getD,rd_nat];grind
include hp in
theorem ev_scaleL (x : Fin p.toNat) (k : Int) : ∀ l,ev x (M p (l.map fun v => k * v % p)) = T p k * ev x (M p l)
 | [] => by simp only [M,List.map_nil,ev];grind
 | c :: l => by
  have := ev_scaleL x k l
  simp only [M,List.map_cons,ev] at *
  rw [this,T_mod hp,T_mul];grind
include hp in
theorem M_nodup : ∀ {xs : List Int},(∀ x ∈ xs,Res p x) → xs.Nodup → (M p xs).Nodup
 | [],_,_ => List.nodup_nil
 | a :: xs,h,hn => by
  have hn' := List.nodup_cons.1 hn
  refine List.nodup_cons.2 ⟨fun hm => ?_,M_nodup (fun x hx => h x (List.mem_cons_of_mem _ hx)) hn'.2⟩
  obtain ⟨b,hb,e⟩ := List.mem_map.1 hm
  have := T_inj hp (h b (List.mem_cons_of_mem _ hb)) (h a (by simp)) e
  exact hn'.1 (this ▸ hb)
end
theorem uniq {p : Int} (hp : Supp p) {xs f g : List Int} (hx : ∀ x ∈ xs,Res p x) (hn : xs.Nodup) (hf : ∀ x ∈ f,Res p x) (hg : ∀ x ∈ g,Res p x) (lf : f.length ≤ xs.length) (lg : g.length ≤ xs.length)
  (h : ∀ x ∈ xs,evI p x f = evI p x g) : trimL f = trimL g := by
 haveI := nz hp
 have hb := hp.bd
 refine trimL_ext fun i => ?_
 have hz : ∀ {l : List Int},(∀ x ∈ l,Res p x) → Res p (l.getD i 0) := by
  intro l hl
  rw [List.getD_eq_getElem?_getD]
  by_cases hi : i < l.length
  ·rw [List.getElem?_eq_getElem hi];exact hl _ (List.getElem_mem hi)
  ·rw [List.getElem?_eq_none (by omega)];exact ⟨Int.le_refl 0,by show (0 : Int) < p;omega⟩
 refine T_inj hp (hz hf) (hz hg) ?_
 rw [← M_getD,← M_getD]
 refine unique (dom hp) (M p xs) (M p f) (M p g) (M_nodup hp hx hn) (by simp only [M_length];exact lf) (by simp only [M_length];exact lg) (fun y hy => ?_) i
 obtain ⟨x,hxx,rfl⟩ := List.mem_map.1 hy
 rw [← ev_evI hp,← ev_evI hp,h x hxx]
theorem mulsL_lin_length {p : Int} (f : List Int) (o : Int) : ∀ n,(mulsL p f [o,1] n).length ≤ n + 1 := by
 intro n
 induction n with
 | zero => simp [mulsL]
 | succ n ih =>
  show (rowL p (mulsL p f [o,1] n) (rd f n) [o,1] n 2).length ≤ _
  simp only [rowL,putL_length,Nat.add_zero];omega
section
variable {p : Int} (hp : Supp p) [NeZero p.toNat]
include hp in
theorem polS_ev (y : Fin p.toNat) (X : Int) : ∀ (l : List Int) (s : List Int × Int),
  ev y (M p (l.foldl (polStep p X) s).1) = ev y (M p s.1) * lin y (M p l) ∧ T p (l.foldl (polStep p X) s).2 = T p s.2 * lin (T p X) (M p l) ∧ (l.foldl (polStep p X) s).1.length ≤ s.1.length + l.length
 | [],s => ⟨by show _ = _ * 1;grind,by show _ = _ * 1;grind,by simp⟩
 | o :: l,s => by
  obtain ⟨h1,h2,h3⟩ := polS_ev y X l (polStep p X s o)
  have e1 : ev y (M p (polStep p X s o).1) = ev y (M p s.1) * (y - T p o) := by
   show ev y (M p (trimL (mulsL p s.1 [-o % p,1] s.1.length))) = _
   rw [ev_trimL,ev_muls hp,M_take_all]
   simp only [M,List.map_cons,List.map_nil,ev,T_mod hp,T_neg,T_one]
   grind
  have e2 : T p (polStep p X s o).2 = T p s.2 * (T p X - T p o) := by
   show T p (s.2 * ((X - o) % p) % p) = _
   rw [T_mod hp,T_mul,T_mod hp,T_sub]
  have e3 : (polStep p X s o).1.length ≤ s.1.length + 1 := Nat.le_trans (trimL_length _) (mulsL_lin_length s.1 _ _)
  simp only [List.foldl_cons,List.length_cons]
  rw [h1,h2,e1,e2]
  refine ⟨?_,?_,by omega⟩
  ·simp only [M,List.map_cons,lin];grind
  ·simp only [M,List.map_cons,lin];grind
end
theorem othersN_len (xs : List Int) (i : Nat) : ∀ n,(othersN xs i n).length = if i < n then n - 1 else n
 | 0 => rfl
 | n + 1 => by
  have ih := othersN_len xs i n
  unfold othersN
  by_cases h : n = i
  ·subst h;rw [if_pos rfl,ih,if_neg (by omega),if_pos (by omega)];omega
  ·rw [if_neg h,List.length_append,ih]
   by_cases h2 : i < n
   ·rw [if_pos h2,if_pos (by omega)];simp;omega
   ·rw [if_neg h2,if_neg (by omega)];simp
theorem othersN_has (xs : List Int) (i j : Nat) (hne : j ≠ i) : ∀ n,j < n → rd xs j ∈ othersN xs i n
 | n + 1,h => by
  unfold othersN
  by_cases hj : j = n
  ·subst hj;rw [if_neg hne];simp
  ·have := othersN_has xs i j hne n (by omega)
   split
   ·exact this
   ·exact List.mem_append_left _ this
section
variable {p : Int} (hp : Supp p) [NeZero p.toNat]
def sumF (f : Nat → Fin p.toNat) : Nat → Fin p.toNat
 | 0 => 0
 | n + 1 => sumF f n + f n
theorem sumF_congr {f g : Nat → Fin p.toNat} : ∀ n,(∀ i,i < n → f i = g i) → sumF f n = sumF g n
 | 0,_ => rfl
 | n + 1,h => by simp only [sumF];rw [sumF_congr n (fun i hi => h i (by omega)),h n (by omega)]
theorem sumF_one {f : Nat → Fin p.toNat} {j : Nat} : ∀ n,(∀ i,i < n → i ≠ j → f i = 0) → sumF f n = if j < n then f j else 0
 | 0,_ => rfl
 | n + 1,h => by
  simp only [sumF]
  rw [sumF_one n (fun i hi => h i (by omega))]
  by_cases hj : j = n
  ·subst hj;rw [if_neg (by omega),if_pos (by omega)];grind
  ·rw [h n (by omega) (fun e => hj e.symm)]
   by_cases h2 : j < n
   ·rw [if_pos h2,if_pos (by omega)];grind
   ·rw [if_neg h2,if_neg (by omega)];grind
def oth (p : Int) [NeZero p.toNat] (xs : List Int) (i : Nat) : List (Fin p.toNat) := M p (othersN xs i xs.length)
def dinv (p : Int) [NeZero p.toNat] (xs : List Int) (i : Nat) : Fin p.toNat := T p (invp p (lagS p 0 xs i).2)
include hp in
theorem lagS_ev (a : Int) (X : Int) : ∀ (l : List Int) (s : Int × Int),
  T p (l.foldl (lagStep p a X) s).1 = T p s.1 * lin (T p a) (M p l) ∧ T p (l.foldl (lagStep p a X) s).2 = T p s.2 * lin (T p X) (M p l)
 | [],s => ⟨by show _ = _ * 1;grind,by show _ = _ * 1;grind⟩
 | o :: l,s => by
  obtain ⟨h1,h2⟩ := lagS_ev a X l (lagStep p a X s o)
  simp only [List.foldl_cons,M,List.map_cons,lin]
  rw [h1,h2]
  simp only [lagStep,M]
  rw [T_mod hp,T_mod hp,T_mul,T_mul,T_mod hp,T_mod hp,T_sub,T_sub]
  constructor <;> grind
include hp in
theorem dinv_spec {xs : List Int} (hx : ∀ x ∈ xs,Res p x) (hn : xs.Nodup) (i : Nat) (hi : i < xs.length) : lin (T p (rd xs i)) (oth p xs i) * dinv p xs i = 1 := by
 have hb := hp.bd
 obtain ⟨h1,h2,h3⟩ := lagS_ok hp (a := 0) hx hn i hi
 have h := (lagS_ev hp 0 (rd xs i) (othersN xs i xs.length) (1,1)).2
 have e := T_inv hp h2 h3
 have h' : T p (lagS p 0 xs i).2 = lin (T p (rd xs i)) (oth p xs i) := by
  unfold lagS oth;rw [h,T_one];grind
 rw [h'] at e
 exact e
include hp in
theorem lagW_ev (a : Int) {xs : List Int} (hx : ∀ x ∈ xs,Res p x) (hn : xs.Nodup) (i : Nat) (hi : i < xs.length) : T p (lagW p a xs i) = lin (T p a) (oth p xs i) * dinv p xs i := by
 obtain ⟨h1,h2,h3⟩ := lagS_ok hp (a := a) hx hn i hi
 have h := lagS_ev hp a (rd xs i) (othersN xs i xs.length) (1,1)
 have e := T_inv hp h2 h3
 have d := dinv_spec hp hx hn i hi
 have e1 : T p (lagS p a xs i).1 = lin (T p a) (oth p xs i) := by unfold lagS oth;rw [h.1,T_one];grind
 have e2 : T p (lagS p a xs i).2 = lin (T p (rd xs i)) (oth p xs i) := by unfold lagS oth;rw [h.2,T_one];grind
 unfold lagW
 rw [T_mod hp,T_mul,e1]
 rw [e2] at e
 generalize lin (T p (rd xs i)) (oth p xs i) = D at *
 have : T p (invp p (lagS p a xs i).2) = dinv p xs i := by grind
 rw [this]
include hp in
theorem polTerm_ev {pts : List S56} (hx : PtsOk p pts) (hn : (xsOf pts).Nodup) (i : Nat) (hi : i < pts.length) (y : Fin p.toNat) :
  ev y (M p (polTerm p pts i)) = T p (rd_T56 pts (i : Int)).f1 * (lin y (oth p (xsOf pts) i) * dinv p (xsOf pts) i) := by
 have hl : (xsOf pts).length = pts.length := by simp [xsOf]
 obtain ⟨h1,h2,h3⟩ := polS_ev hp y (rd_T56 pts (i : Int)).f0 (othersN (xsOf pts) i pts.length) ([1],1)
 obtain ⟨hr1,hr2,hlen,hD0⟩ := polS_ok hp hx hi hn
 have d := dinv_spec hp hx.xs hn i (by omega)
 have e := T_inv hp hr2 hD0
 unfold polTerm
 rw [ev_trimL,ev_scaleL hp,T_mod hp,T_mul]
 have e1 : ev y (M p (polS p pts i).1) = lin y (oth p (xsOf pts) i) := by
  unfold polS oth;rw [h1,hl];simp only [M,List.map_cons,List.map_nil,ev,T_one];grind
 have e2 : T p (polS p pts i).2 = lin (T p (rd (xsOf pts) i)) (oth p (xsOf pts) i) := by
  unfold polS oth;rw [h2,T_one,xsOf_rd pts i hi,hl];grind
 rw [e1]
 rw [e2] at e
 generalize lin (T p (rd (xsOf pts) i)) (oth p (xsOf pts) i) = D at *
 have : T p (invp p (polS p pts i).2) = dinv p (xsOf pts) i := by grind
 rw [this];grind
include hp in
theorem polSum_ev {pts : List S56} (hx : PtsOk p pts) (hn : (xsOf pts).Nodup) (y : Fin p.toNat) : ∀ n,n ≤ pts.length →
  ev y (M p (polSum p pts n)) = sumF (fun i => T p (rd_T56 pts (i : Int)).f1 * (lin y (oth p (xsOf pts) i) * dinv p (xsOf pts) i)) n
 | 0,_ => rfl
 | n + 1,h => by
  rw [polSum,ev_trimL,ev_addP hp,polSum_ev hx hn y n (by omega),polTerm_ev hp hx hn n (by omega) y];rfl
include hp in
theorem polTerm_len {pts : List S56} (i : Nat) (hi : i < pts.length) : (polTerm p pts i).length ≤ pts.length := by
 obtain ⟨h1,h2,h3⟩ := polS_ev hp 0 (rd_T56 pts (i : Int)).f0 (othersN (xsOf pts) i pts.length) ([1],1)
 rw [othersN_len,if_pos hi] at h3
 simp only [List.length_cons,List.length_nil] at h3
 refine Nat.le_trans (trimL_length _) ?_
 rw [List.length_map]
 unfold polS
 omega
include hp in
theorem polSum_len {pts : List S56} : ∀ n,n ≤ pts.length → (polSum p pts n).length ≤ pts.length
 | 0,_ => by simp [polSum]
 | n + 1,h => by
  have h1 := polSum_len (pts := pts) n (by omega)
  have h2 := polTerm_len hp (pts := pts) n (by omega)
  refine Nat.le_trans (trimL_length _) ?_
  rw [addP_length];omega
include hp in
theorem polL_ev {pts : List S56} (hx : PtsOk p pts) (hn : (xsOf pts).Nodup) (y : Fin p.toNat) :
  ev y (M p (polL p pts)) = sumF (fun i => T p (rd_T56 pts (i : Int)).f1 * (lin y (oth p (xsOf pts) i) * dinv p (xsOf pts) i)) pts.length := by
 unfold polL;rw [ev_trimL,polSum_ev hp hx hn y pts.length (Nat.le_refl _)]
end
theorem polL_res {p : Int} (hp : Supp p) {pts : List S56} (hx : PtsOk p pts) : ∀ x ∈ polL p pts,Res p x := fun x h => (polSum_ok hp hx pts.length (Nat.le_refl _)).1 x (trimL_mem h)
theorem polL_len {p : Int} (hp : Supp p) {pts : List S56} : (polL p pts).length ≤ pts.length := by
 haveI := nz hp
 exact Nat.le_trans (trimL_length _) (polSum_len hp pts.length (Nat.le_refl _))
theorem polL_trim (p : Int) (pts : List S56) : trimL (polL p pts) = polL p pts := trimL_trimL _
theorem polL_at {p : Int} (hp : Supp p) {pts : List S56} (hx : PtsOk p pts) (hn : (xsOf pts).Nodup) (j : Nat) (hj : j < pts.length) :
  evI p (rd_T56 pts (j : Int)).f0 (polL p pts) = (rd_T56 pts (j : Int)).f1 := by
 haveI := nz hp
 have hl : (xsOf pts).length = pts.length := by simp [xsOf]
 refine T_inj hp (evI_res hp _ _) (hx.at_ j hj).2 ?_
 rw [ev_evI hp,polL_ev hp hx hn,sumF_one (j := j) _ (fun i hi hij => ?_),if_pos hj]
 ·have d := dinv_spec hp hx.xs hn j (by omega)
  rw [xsOf_rd pts j hj] at d
  grind
 ·have : lin (T p (rd_T56 pts (j : Int)).f0) (oth p (xsOf pts) i) = 0 := by
   refine lin_zero ?_
   rw [← xsOf_rd pts j hj]
   exact List.mem_map_of_mem (othersN_has _ _ _ (fun e => hij e.symm) _ (by omega))
  rw [this];grind
theorem polL_char {p : Int} (hp : Supp p) {pts : List S56} (hx : PtsOk p pts) (hn : (xsOf pts).Nodup) {g : List Int} (hg : ∀ x ∈ g,Res p x) (lg : g.length ≤ pts.length)
  (h : ∀ j,j < pts.length → evI p (rd_T56 pts (j : Int)).f0 g = (rd_T56 pts (j : Int)).f1) : polL p pts = trimL g := by
 have hl : (xsOf pts).length = pts.length := by simp [xsOf]
 rw [← polL_trim]
 refine uniq hp hx.xs hn (polL_res hp hx) hg (by rw [hl];exact polL_len hp) (by omega) (fun x hxx => ?_)
 obtain ⟨j,hj,rfl⟩ := List.getElem_of_mem hxx
 have e := xsOf_rd pts j (by omega)
 rw [rd_nat,Hw.getD_in _ _ hj] at e
 rw [e,polL_at hp hx hn j (by omega),h j (by omega)]
def ptsOf (p : Int) (xs : List Int) (f : List Int) : List S56 := xs.map fun x => ⟨x,evI p x f⟩
theorem ptsOf_xs (p : Int) (xs f : List Int) : xsOf (ptsOf p xs f) = xs := by unfold xsOf ptsOf;rw [List.map_map];exact List.map_id _
theorem ptsOf_rd (p : Int) (xs f : List Int) (j : Nat) (hj : j < xs.length) : rd_T56 (ptsOf p xs f) (j : Int) = ⟨rd xs j,evI p (rd xs j) f⟩ := by
 rw [rdT_nat _ _ (by unfold ptsOf;simpa using hj),rd_nat,Hw.getD_in _ _ hj];simp [ptsOf]
theorem ptsOf_ok {p : Int} (hp : Supp p) {xs : List Int} (hx : ∀ x ∈ xs,Res p x) (f : List Int) : PtsOk p (ptsOf p xs f) := by
 intro y hy
 obtain ⟨x,h,rfl⟩ := List.mem_map.1 hy
 exact ⟨hx x h,evI_res hp _ _⟩
theorem ptsOf_length (p : Int) (xs f : List Int) : (ptsOf p xs f).length = xs.length := List.length_map _
theorem polL_ptsOf {p : Int} (hp : Supp p) {xs f : List Int} (hx : ∀ x ∈ xs,Res p x) (hn : xs.Nodup) (hf : ∀ x ∈ f,Res p x) (hl : f.length ≤ xs.length) : polL p (ptsOf p xs f) = trimL f := by
 refine polL_char hp (ptsOf_ok hp hx f) (by rw [ptsOf_xs];exact hn) hf (by rw [ptsOf_length];exact hl) (fun j hj => ?_)
 rw [ptsOf_length] at hj
 rw [ptsOf_rd _ _ _ _ hj]
theorem lagW_sum {p : Int} (hp : Supp p) [NeZero p.toNat] {xs f : List Int} (hx : ∀ x ∈ xs,Res p x) (hn : xs.Nodup) (hf : ∀ x ∈ f,Res p x) (hl : f.length ≤ xs.length) (a : Int) :
  sumF (fun i => T p (lagW p a xs i) * T p (evI p (rd xs i) f)) xs.length = T p (evI p a f) := by
 rw [ev_evI hp,← ev_trimL,← polL_ptsOf hp hx hn hf hl,polL_ev hp (ptsOf_ok hp hx f) (by rw [ptsOf_xs];exact hn),ptsOf_length,ptsOf_xs]
 refine sumF_congr _ fun i hi => ?_
 rw [ptsOf_rd _ _ _ _ hi,lagW_ev hp a hx hn i hi]
 grind
end Go.Proofs.Ytmdoaijkaaaglaa.E
end
section
namespace Go.Proofs.Ytmdoaijkaaaglaa.Pr
open Go.RowKit Go.Proofs.YtmdoaijkaaaglaaW.PrintWords Go.Proofs.YtmdoaijkaaaglaaW.PrintLast Go.Proofs.YtmdoaijkaaaglaaW.PrintMore
attribute [local go_sem] max2_int min2_int max_two min_two max_three min_three max_four min_four
open Go.Proofs.Ytmdoaijkaaaglaa.Hw


end Go.Proofs.Ytmdoaijkaaaglaa.Pr
end
section
namespace Go.Proofs.Ytmdoaijkaaaglaa.E
open Go.RowKit Go.Proofs.Ytmdoaijkaaaglaa.Pr Go.Proofs.Ytmdoaijkaaaglaa.Hw Go.Proofs.Ytmdoaijkaaaglaa.Pl Go.Proofs.YtmdoaijkaaaglaaW.PrintWords Go.Proofs.YtmdoaijkaaaglaaW.PrintLast Go.Proofs.YtmdoaijkaaaglaaW.PrintMore

end Go.Proofs.Ytmdoaijkaaaglaa.E
end
section
namespace Go.Proofs.Ytmdoaijkaaaglaa.Pr
open Go.RowKit Go.Proofs.YtmdoaijkaaaglaaW.PrintWords Go.Proofs.YtmdoaijkaaaglaaW.PrintLast Go.Proofs.YtmdoaijkaaaglaaW.PrintMore
attribute [local go_sem] max2_int min2_int max_two min_two max_three min_three max_four min_four
open Go.Proofs.Ytmdoaijkaaaglaa.Hw



end Go.Proofs.Ytmdoaijkaaaglaa.Pr
end
section
namespace Go.Proofs.Ytmdoaijkaaaglaa.E
open Go.RowKit Go.Proofs.Ytmdoaijkaaaglaa.Pr Go.Proofs.Ytmdoaijkaaaglaa.Hw Go.Proofs.Ytmdoaijkaaaglaa.Pl Go.Proofs.YtmdoaijkaaaglaaW.PrintWords Go.Proofs.YtmdoaijkaaaglaaW.PrintLast Go.Proofs.YtmdoaijkaaaglaaW.PrintMore
theorem allLoop {F : Nat → Int → Option Bool} {n : Nat} {Q : Nat → Prop} [DecidablePred Q] (hend : ∀ k,F (k + 1) (n : Int) = some true) (hyes : ∀ i,i < n → Q i → ∀ r,Ev (fun k => F k ((i + 1 : Nat) : Int)) r → Ev (fun k => F k (i : Int)) r)
  (hno : ∀ i,i < n → ¬ Q i → Ev (fun k => F k (i : Int)) false) (r : Bool) (hr : r = true ↔ ∀ i,i < n → Q i) : Ev (fun k => F k ((0 : Nat) : Int)) r := by
 have main : ∀ d i,i + d = n → ∀ r : Bool,(r = true ↔ ∀ j,i ≤ j → j < n → Q j) → Ev (fun k => F k (i : Int)) r := by
  intro d
  induction d with
  | zero =>
   intro i hi r hr
   have : i = n := by omega
   subst this
   have : r = true := hr.2 (fun j h1 h2 => by omega)
   subst this
   exact Ev.step (fun k => hend k) (Ev.now _)
  | succ d ih =>
   intro i hi r hr
   by_cases h : Q i
   ·refine hyes i (by omega) h r (ih (i + 1) (by omega) r ⟨fun e j h1 h2 => hr.1 e j (by omega) h2,fun e => hr.2 fun j h1 h2 => ?_⟩)
    by_cases e2 : j = i
    ·rw [e2];exact h
    ·exact e j (by omega) h2
   ·have : r = false := by
     cases r with
     | false => rfl
     | true => exact absurd (hr.1 rfl i (Nat.le_refl _) (by omega)) h
    subst this
    exact hno i (by omega) h
 exact main n 0 (by omega) r ⟨fun e j _ h2 => hr.1 e j h2,fun e => hr.2 fun j h => e j (Nat.zero_le _) h⟩
theorem unlike_ev (l : List Int) (hl : l.length ≤ 1000000000) : Ev (fun k => privityref05_Unlike.f k l) (decide l.Nodup) := by
 have h := allLoop (F := fun k i => privityref05_Unlike.l0 k l i) (n := l.length) (Q := fun i => ∀ j,j < i → l.getD i 0 ≠ l.getD j 0) (fun k => ?_) (fun i hi hq r h => ?_) (fun i hi hq => ?_) (decide l.Nodup) ?_
 ·exact h
 ·simp only [privityref05_Unlike.l0]
  rw [if_neg (by omega)]
 ·have row : Ev (fun k => privityref05_Unlike.l1 k l (i : Int) ((0 : Nat) : Int)) r := by
   refine up (Q := fun j => Ev (fun k => privityref05_Unlike.l1 k l (i : Int) (j : Int)) r) (n := i) ?_ ?_
   ·refine Ev.step (fun k => ?_) h
    simp only [privityref05_Unlike.l1]
    rw [if_neg (by omega),wnat (by omega)]
   ·intro j hj h2
    refine Ev.step (fun k => ?_) h2
    simp only [privityref05_Unlike.l1]
    rw [if_pos (by omega),if_pos (by omega),if_pos (by omega),if_pos (by omega),if_pos (by omega),rd_nat,rd_nat,if_neg (hq j hj),wnat (by omega)]
  refine Ev.step (fun k => ?_) row
  simp only [privityref05_Unlike.l0]
  rw [if_pos (by omega)];rfl
 ·have row : Ev (fun k => privityref05_Unlike.l1 k l (i : Int) ((0 : Nat) : Int)) false := by
   obtain ⟨j,hj,he⟩ : ∃ j,j < i ∧ l.getD i 0 = l.getD j 0 := by
    apply Classical.byContradiction
    intro hc
    exact hq fun j hj e => hc ⟨j,hj,e⟩
   refine up (Q := fun j => Ev (fun k => privityref05_Unlike.l1 k l (i : Int) (j : Int)) false) (n := j) ?_ ?_
   ·refine Ev.step (fun k => ?_) (Ev.now _)
    simp only [privityref05_Unlike.l1]
    rw [if_pos (by omega),if_pos (by omega),if_pos (by omega),if_pos (by omega),if_pos (by omega),rd_nat,rd_nat,if_pos he]
   ·intro j' hj' h2
    by_cases e : l.getD i 0 = l.getD j' 0
    ·refine Ev.step (fun k => ?_) (Ev.now _)
     simp only [privityref05_Unlike.l1]
     rw [if_pos (by omega),if_pos (by omega),if_pos (by omega),if_pos (by omega),if_pos (by omega),rd_nat,rd_nat,if_pos e]
    ·refine Ev.step (fun k => ?_) h2
     simp only [privityref05_Unlike.l1]
     rw [if_pos (by omega),if_pos (by omega),if_pos (by omega),if_pos (by omega),if_pos (by omega),rd_nat,rd_nat,if_neg e,wnat (by omega)]
  refine Ev.step (fun k => ?_) row
  simp only [privityref05_Unlike.l0]
  rw [if_pos (by omega)];rfl
 ·rw [decide_eq_true_iff,List.nodup_iff_pairwise_ne,List.pairwise_iff_getElem]
  refine ⟨fun h i hi j hj e => ?_,fun h i j hi hj hij e => ?_⟩
  ·rw [Hw.getD_in _ _ hi,Hw.getD_in _ _ (by omega)] at e
   exact h j i (by omega) hi hj e.symm
  ·have := h j hj i hij
   rw [Hw.getD_in _ _ hi,Hw.getD_in _ _ hj] at this
   exact this e.symm
section
variable {p : Int} (hp : Supp p) [NeZero p.toNat]
end

theorem ev_if {α : Type} {A : Nat → Option Bool} {b : Bool} (hA : Ev A b) {X Y : Nat → Option α} {r : α} (hx : b = true → Ev X r) (hy : b = false → Ev Y r) : Ev (fun k => (A k).bind fun t => if t = true then X k else Y k) r := by
 refine Ev.bind (f := fun k t => if t = true then X k else Y k) hA ?_
 cases b with
 | true => exact (hx rfl).congr fun k => if_pos rfl
 | false => exact (hy rfl).congr fun k => if_neg (by simp)
theorem ev_ite {α : Type} {c : Prop} [Decidable c] {X Y : Nat → Option α} {r : α} (hx : c → Ev X r) (hy : ¬ c → Ev Y r) : Ev (fun k => if c then X k else Y k) r := by
 by_cases h : c
 ·exact (hx h).congr fun k => if_pos h
 ·exact (hy h).congr fun k => if_neg h
theorem ev_now_bind {α β : Type} {x : Option α} {a : α} (hx : x = some a) {f : Nat → α → Option β} {r : β} (h : Ev (fun k => f k a) r) : Ev (fun k => x.bind (f k)) r := by subst hx;exact h
theorem ilag_eq {p : Int} (hp : Supp p) {xs : List Int} (hx : ∀ x ∈ xs,Res p x) (hl : xs.length ≤ 49) {a : Int} (ha : Res p a) : interpolate_LagrangeWeights.f p xs a = some (if xs.Nodup then lagL p a xs xs.length else [],if xs.Nodup then 0 else 1) := by
 unfold interpolate_LagrangeWeights.f
 rw [if_pos (supB_iff.2 hp),if_pos (ressB_iff.2 hx),if_pos (resB_iff.2 ha),if_pos hl]
def accI (p : Int) (g : Nat → Int) : Nat → Int
 | 0 => 0
 | n + 1 => (accI p g n + g n) % p
theorem accI_res {p : Int} (hp : Supp p) (g : Nat → Int) : ∀ n,Res p (accI p g n)
 | 0 => by have := hp.bd;exact ⟨Int.le_refl 0,by show (0 : Int) < p;omega⟩
 | n + 1 => Res.mod hp _
theorem accI_T {p : Int} (hp : Supp p) [NeZero p.toNat] (g : Nat → Int) : ∀ n,T p (accI p g n) = sumF (fun i => T p (g i)) n
 | 0 => T_zero
 | n + 1 => by rw [accI,T_mod hp,T_add,accI_T hp g n];rfl
theorem lagL_getD (p a : Int) (xs : List Int) : ∀ (n i : Nat),i < n → (lagL p a xs n).getD i 0 = lagW p a xs i
 | n + 1,i,h => by
  rw [lagL,List.getD_eq_getElem?_getD]
  by_cases h2 : i < n
  ·rw [List.getElem?_append_left (by rw [lagL_length];exact h2),← List.getD_eq_getElem?_getD,lagL_getD p a xs n i h2]
  ·rw [List.getElem?_append_right (by rw [lagL_length];omega),lagL_length,show i - n = 0 from by omega,show i = n from by omega];rfl
theorem lagL_res {p : Int} (hp : Supp p) (a : Int) (xs : List Int) : ∀ n,∀ x ∈ lagL p a xs n,Res p x
 | 0 => fun x hx => by cases hx
 | n + 1 => fun x hx => by
  rcases List.mem_append.1 hx with h|h
  ·exact lagL_res hp a xs n x h
  ·simp only [List.mem_cons,List.not_mem_nil,or_false] at h
   rw [h];exact Res.mod hp _
end Go.Proofs.Ytmdoaijkaaaglaa.E
end
section
namespace Go.Proofs.Ytmdoaijkaaaglaa.Pr
open Go.RowKit Go.Proofs.YtmdoaijkaaaglaaW.PrintWords Go.Proofs.YtmdoaijkaaaglaaW.PrintLast Go.Proofs.YtmdoaijkaaaglaaW.PrintMore
attribute [local go_sem] max2_int min2_int max_two min_two max_three min_three max_four min_four
open Go.Proofs.Ytmdoaijkaaaglaa.Hw

end Go.Proofs.Ytmdoaijkaaaglaa.Pr
end
section
namespace Go.Proofs.Ytmdoaijkaaaglaa.E
open Go.RowKit Go.Proofs.Ytmdoaijkaaaglaa.Pr Go.Proofs.Ytmdoaijkaaaglaa.Hw Go.Proofs.Ytmdoaijkaaaglaa.Pl Go.Proofs.YtmdoaijkaaaglaaW.PrintWords Go.Proofs.YtmdoaijkaaaglaaW.PrintLast Go.Proofs.YtmdoaijkaaaglaaW.PrintMore
theorem awake07 : Ev (fun k => privitylaw07_awake.f k) true := Ev.of (fun k => privitylaw07_awake.mono _) (k := 60) (by kernel_rfl)
def pz (a n : Nat) : List Int := (List.range n).map fun (i : Nat) => ((a + i : Nat) : Int)
theorem pz_len (a n : Nat) : (pz a n).length = n := by simp [pz]
theorem pz_next (a n : Nat) : pz a n ++ [((a + n : Nat) : Int)] = pz a (n + 1) := by unfold pz;rw [List.range_succ,List.map_append];rfl
theorem pz_mem {a n : Nat} {x : Int} : x ∈ pz a n ↔ (a : Int) ≤ x ∧ x < (a : Int) + n := by
 unfold pz
 simp only [List.mem_map,List.mem_range]
 constructor
 ·rintro ⟨i,h,rfl⟩;omega
 ·rintro ⟨h1,h2⟩;exact ⟨(x - a).toNat,by omega,by omega⟩
theorem pz_nodup (a n : Nat) : (pz a n).Nodup := by
 unfold pz
 exact List.Pairwise.map (R := fun a c => a ≠ c) _ (fun x y (h : x ≠ y) => fun e => h (by omega)) (List.nodup_range (n := n))
theorem pz_rd {a n i : Nat} (h : i < n) : rd (pz a n) (i : Int) = ((a + i : Nat) : Int) := by
 rw [rd_nat,List.getD_eq_getElem?_getD,List.getElem?_eq_getElem (by rw [pz_len];exact h)]
 simp [pz]
theorem pz_res {p : Int} {a n : Nat} (h : (a : Int) + n ≤ p) : ∀ x ∈ pz a n,Res p x := fun x hx => by
 have := pz_mem.1 hx
 exact ⟨by omega,by omega⟩
theorem points_ev (a n : Nat) (ha : a ≤ 1000) (hn : n ≤ 1000) : Ev (fun k => hyperinvertible_points.f k (a : Int) (n : Int)) (pz a n) := by
 refine (up (Q := fun i => Ev (fun k => hyperinvertible_points.l0 k (a : Int) (pz a i) (n : Int) (i : Int)) (pz a n)) (n := n) ?_ (fun i hi h => ?_)).congr fun k => rfl
 ·refine Ev.step (fun k => ?_) (Ev.now _)
  simp only [hyperinvertible_points.l0]
  rw [if_neg (by omega)]
 ·refine Ev.step (f := fun k => hyperinvertible_points.l0 k (a : Int) (pz a (i + 1)) (n : Int) ((i + 1 : Nat) : Int)) (fun k => ?_) h
  simp only [hyperinvertible_points.l0]
  rw [if_pos (by omega),if_pos (by rw [pz_len];omega),wnat (by omega),wcap (by omega) (by omega),wrapU_id (by omega) (by omega),show (a : Int) + (i : Int) = ((a + i : Nat) : Int) from by omega,pz_next]
def newM (p : Int) (rows cols : Nat) : List (List Int) := (List.range rows).map fun (i : Nat) => lagL p (((cols + 1) + i : Nat) : Int) (pz 1 cols) cols
theorem newM_len (p : Int) (rows cols : Nat) : (newM p rows cols).length = rows := by simp [newM]
theorem newM_next (p : Int) (rows cols : Nat) : newM p rows cols ++ [lagL p (((cols + 1) + rows : Nat) : Int) (pz 1 cols) cols] = newM p (rows + 1) cols := by unfold newM;rw [List.range_succ,List.map_append];rfl
theorem newM_at {p : Int} {rows cols i : Nat} (h : i < rows) : (newM p rows cols).getD i [] = lagL p (((cols + 1) + i : Nat) : Int) (pz 1 cols) cols := by
 rw [List.getD_eq_getElem?_getD,List.getElem?_eq_getElem (by rw [newM_len];exact h)]
 simp [newM]
theorem newM_ok {p : Int} (hp : Supp p) (rows cols : Nat) : RowsOk p cols (newM p rows cols) := by
 intro r hr
 obtain ⟨i,_,rfl⟩ := List.mem_map.1 hr
 exact ⟨lagL_length _ _ _ _,lagL_res hp _ _ _⟩
def newR (p r c : Int) : List (List Int) × Int := if r < 1 ∨ r > 26 ∨ c < 1 ∨ c > 26 ∨ r + c ≥ p then ([],2) else (newM p r.toNat c.toNat,0)
theorem new_main {p : Int} (hp : Supp p) {r c : Nat} (hr1 : 1 ≤ r) (hr : r ≤ 26) (hc1 : 1 ≤ c) (hc : c ≤ 26) (hs : (r : Int) + (c : Int) < p) : Ev (fun k => hyperinvertible_New.j0 k p (r : Int) (c : Int) false) (newM p r c,0) := by
 have hl : ∀ i,i < r → interpolate_LagrangeWeights.f p (pz 1 c) (rd (pz (c + 1) r) (i : Int)) = some (lagL p (((c + 1) + i : Nat) : Int) (pz 1 c) c,0) := fun i hi => by
  rw [pz_rd hi,ilag_eq hp (pz_res (by omega)) (by rw [pz_len];omega) ⟨by omega,by omega⟩,if_pos (pz_nodup _ _),if_pos (pz_nodup _ _),pz_len]
 have main : Ev (fun k => hyperinvertible_New.l0 k p (pz 1 c) ([] : List (List Int)) (pz (c + 1) r) (((pz (c + 1) r).length : Nat) : Int) ((0 : Nat) : Int)) (newM p r c,0) := by
  refine up (Q := fun i => Ev (fun k => hyperinvertible_New.l0 k p (pz 1 c) (newM p i c) (pz (c + 1) r) (((pz (c + 1) r).length : Nat) : Int) (i : Int)) (newM p r c,0)) (n := r) ?_ (fun i hi h => ?_)
  ·refine Ev.step (fun k => ?_) (Ev.now _)
   simp only [hyperinvertible_New.l0]
   rw [if_neg (by rw [pz_len];omega)]
  ·refine Ev.step (f := fun k => (interpolate_LagrangeWeights.f p (pz 1 c) (rd (pz (c + 1) r) (i : Int))).bind fun bt => (if bt.2 = 0 then (if (newM p i c).length < 5864062014805 then hyperinvertible_New.l0 k p (pz 1 c) (newM p i c ++ [bt.1]) (pz (c + 1) r) (((pz (c + 1) r).length : Nat) : Int) ((i + 1 : Nat) : Int) else none) else some ([],bt.2))) (fun k => ?_) (ev_now_bind (hl i hi) ?_)
   ·simp only [hyperinvertible_New.l0]
    rw [if_pos (by rw [pz_len];omega),if_pos (by omega),if_pos (by rw [pz_len];omega),wnat (by omega)]
   ·refine h.congr fun k => ?_
    rw [if_pos rfl,if_pos (by rw [newM_len];omega),newM_next]
 refine Ev.step (f := fun k => (hyperinvertible_points.f k 1 (c : Int)).bind fun t372 => ((hyperinvertible_points.f k ((c + 1 : Nat) : Int) (r : Int)).bind fun t375 => (hyperinvertible_New.l0 k p t372 ([] : List (List Int)) t375 (t375.length : Int) 0))) (fun k => ?_) (Ev.bind (points_ev 1 c (by omega) (by omega)) (Ev.bind (points_ev (c + 1) r (by omega) (by omega)) main))
 simp only [hyperinvertible_New.j0]
 rw [if_neg (by simp),wnat (by omega)]
theorem new_bad (p r c : Int) : Ev (fun k => hyperinvertible_New.j0 k p r c true) (([] : List (List Int)),2) :=
 Ev.step (f := fun _ => some (([] : List (List Int)),2)) (fun k => by simp only [hyperinvertible_New.j0];rw [if_pos trivial]) (Ev.now _)
theorem new_ev {p : Int} (hp : Supp p) (r c : Int) : Ev (fun k => hyperinvertible_New.f k p r c) (newR p r c) := by
 unfold newR
 refine ev_ite (c := r < 1) (fun h => ?_) (fun h1 => ev_ite (c := r > 26) (fun h => ?_) (fun h2 => ev_ite (c := c < 1) (fun h => ?_) (fun h3 => ev_ite (c := c > 26) (fun h => ?_) (fun h4 => ?_))))
 ·rw [if_pos (Or.inl h)];exact new_bad p r c
 ·rw [if_pos (Or.inr (Or.inl h))];exact new_bad p r c
 ·rw [if_pos (Or.inr (Or.inr (Or.inl h)))];exact new_bad p r c
 ·rw [if_pos (Or.inr (Or.inr (Or.inr (Or.inl h))))];exact new_bad p r c
 ·rw [wcap (by omega) (by omega),wrapU_id (by omega) (by omega)]
  by_cases hs : r + c ≥ p
  ·rw [decide_eq_true hs,if_pos (Or.inr (Or.inr (Or.inr (Or.inr hs))))];exact new_bad p r c
  ·rw [decide_eq_false hs,if_neg (by omega)]
   have h := new_main hp (r := r.toNat) (c := c.toNat) (by omega) (by omega) (by omega) (by omega) (by omega)
   rw [show ((r.toNat : Nat) : Int) = r from by omega,show ((c.toNat : Nat) : Int) = c from by omega] at h
   exact h
theorem weval07 {p : Int} (hp : Supp p) {xs f : List Int} (hx : ∀ x ∈ xs,Res p x) (hn : xs.Nodup) (hf : ∀ x ∈ f,Res p x) (hl : f.length ≤ xs.length) (a : Int) :
  accI p (fun i => (lagL p a xs xs.length).getD i 0 * evI p (xs.getD i 0) f % p) xs.length = evI p a f := by
 haveI := nz hp
 refine T_inj hp (accI_res hp _ _) (evI_res hp _ _) ?_
 rw [accI_T hp,← lagW_sum hp hx hn hf hl a]
 refine sumF_congr _ fun i hi => ?_
 rw [T_mod hp,T_mul,lagL_getD p a xs _ _ hi,rd_nat]
theorem pz_getD {a n i : Nat} (h : i < n) : (pz a n).getD i 0 = ((a + i : Nat) : Int) := by rw [← rd_nat];exact pz_rd h
theorem newR_ok {p : Int} (hp : Supp p) {r c : Nat} (hr1 : 1 ≤ r) (hr : r ≤ 13) (hc1 : 1 ≤ c) (hc : c ≤ 13) : newR p (r : Int) (c : Int) = (newM p r c,0) := by
 have := hp.bd
 unfold newR
 rw [if_neg (by omega),Int.toNat_natCast,Int.toNat_natCast]
end Go.Proofs.Ytmdoaijkaaaglaa.E
end
section
namespace Go.Proofs.Ytmdoaijkaaaglaa.E
open Go.Proofs.Ytmdoaijkaaaglaa.Hw Go.Proofs.Ytmdoaijkaaaglaa.Pl
theorem getD_some {rs : List (List Int)} {i : Nat} {r : List Int} (h : rs[i]? = some r) : rs.getD i [] = r := by rw [List.getD_eq_getElem?_getD,h];rfl
theorem getD_none {rs : List (List Int)} {i : Nat} (h : rs.length ≤ i) : rs.getD i [] = [] := by rw [List.getD_eq_getElem?_getD,List.getElem?_eq_none h];rfl
def ent (rs : List (List Int)) (i j : Nat) : Int := (rs.getD i []).getD j 0
theorem ent_res {p : Int} (hp : Supp p) {n : Nat} {rs : List (List Int)} (h : RowsOk p n rs) (i j : Nat) : Res p (ent rs i j) := by
 have hb := hp.bd
 have z : Res p 0 := ⟨Int.le_refl _,by omega⟩
 unfold ent
 by_cases hi : i < rs.length
 ·rw [getD_row hi]
  by_cases hj : j < rs[i].length
  ·rw [List.getD_eq_getElem?_getD,List.getElem?_eq_getElem hj];exact (h.at hi).2 _ (List.getElem_mem hj)
  ·rw [List.getD_eq_getElem?_getD,List.getElem?_eq_none (by omega)];exact z
 ·rw [getD_none (by omega)];exact z
theorem ent_at {rs : List (List Int)} {i j : Nat} {r : List Int} (h : rs[i]? = some r) : ent rs i j = r.getD j 0 := by
 unfold ent
 rw [getD_some h]
theorem scale_at {p k : Int} {row : List Int} {j : Nat} (h : j < row.length) : (scaleR p k row).getD j 0 = k * row.getD j 0 % p := by
 unfold scaleR
 rw [List.getD_eq_getElem?_getD,List.getElem?_map,List.getElem?_eq_getElem h,List.getD_eq_getElem?_getD,List.getElem?_eq_getElem h];rfl
theorem elim_at {p k : Int} {prow row : List Int} {j : Nat} (h1 : j < row.length) (h2 : j < prow.length) : (elimR p k prow row).getD j 0 = (row.getD j 0 - k * prow.getD j 0 % p) % p := by
 rw [List.getD_eq_getElem?_getD,elimR_at h1 h2,List.getD_eq_getElem?_getD,List.getElem?_eq_getElem h1,List.getD_eq_getElem?_getD,List.getElem?_eq_getElem h2];rfl
def sgm (q r i : Nat) : Nat := if i = r then q else if i = q then r else i
theorem swap_ent {p : Int} {n : Nat} {rs : List (List Int)} (h : RowsOk p n rs) {q r : Nat} (hq : q < rs.length) (hr : r < rs.length) (i j : Nat) : ent (if q = r then rs else swapR rs q r) i j = ent rs (sgm q r i) j := by
 unfold sgm
 by_cases e : q = r
 ·rw [if_pos e]
  by_cases e1 : i = r
  ·rw [if_pos e1,e1,e]
  ·rw [if_neg e1,if_neg (by omega)]
 ·rw [if_neg e]
  unfold ent swapR
  by_cases e1 : i = r
  ·subst e1
   rw [if_pos rfl,getD_some (List.getElem?_set_self (by rw [List.length_set];exact hr))]
  ·rw [if_neg e1]
   by_cases e2 : i = q
   ·subst e2
    rw [if_pos rfl,getD_some (show _ = some (rs.getD r []) from by rw [List.getElem?_set_ne (fun h => e1 h.symm),List.getElem?_set_self hq])]
   ·rw [if_neg e2]
    congr 1
    rw [List.getD_eq_getElem?_getD,List.getElem?_set_ne (fun h => e1 h.symm),List.getElem?_set_ne (fun h => e2 h.symm),← List.getD_eq_getElem?_getD]
section
variable {p : Int} (hp : Supp p) {m n : Nat} {s : List (List Int) × List Int × Int} (ok : RedOk p m n s) {c : Nat}
def pvX (s : List (List Int) × List Int × Int) (c : Nat) : Int := ent s.1 (fndP s.1 c s.2.1.length) c
def pvR (p : Int) (s : List (List Int) × List Int × Int) (c j : Nat) : Int := invp p (pvX s c) * ent s.1 (fndP s.1 c s.2.1.length) j % p
include hp ok in
theorem pvX_ok (hq : fndP s.1 c s.2.1.length < s.1.length) : Res p (pvX s c) ∧ pvX s c ≠ 0 := by
 refine ⟨ent_res hp ok.rows _ _,?_⟩
 unfold pvX
 rw [ent_at (List.getElem?_eq_getElem hq)]
 exact fndP_nz hq
include hp ok in
theorem step_ent (hq : fndP s.1 c s.2.1.length < s.1.length) (i j : Nat) (hi : i < m) (hj : j < n) (hc : c < n) :
  ent (redStep p s c).1 i j = if i = s.2.1.length then pvR p s c j else (ent s.1 (sgm (fndP s.1 c s.2.1.length) s.2.1.length i) j - ent s.1 (sgm (fndP s.1 c s.2.1.length) s.2.1.length i) c * pvR p s c j % p) % p := by
 obtain ⟨q,hqe⟩ : ∃ q,q = fndP s.1 c s.2.1.length := ⟨_,rfl⟩
 have hge : s.2.1.length ≤ q := by rw [hqe];exact fndP_ge _ _ _
 obtain ⟨r,hre⟩ : ∃ r,r = s.2.1.length := ⟨_,rfl⟩
 have hm := ok.len
 have hr : r < s.1.length := by omega
 obtain ⟨rs1,h1⟩ : ∃ x,x = (if q = r then s.1 else swapR s.1 q r) := ⟨_,rfl⟩
 have hent : ∀ i j,ent rs1 i j = ent s.1 (sgm q r i) j := fun i j => by rw [h1];exact swap_ent ok.rows (by rw [hqe];exact hq) hr i j
 have hok1 : RowsOk p n rs1 ∧ rs1.length = m := by
  rw [h1];split
  ·exact ⟨ok.rows,ok.len⟩
  ·exact ⟨swapR_ok ok.rows (by rw [hqe];exact hq) hr,by rw [swapR_len];exact ok.len⟩
 have hst : (redStep p s c).1 = elimAll p c r (scaleR p (invp p ((rs1.getD r []).getD c 0)) (rs1.getD r [])) (rs1.set r (scaleR p (invp p ((rs1.getD r []).getD c 0)) (rs1.getD r []))) := by
  unfold redStep
  rw [if_pos hq,h1,hqe,hre]
 have hx : (rs1.getD r []).getD c 0 = pvX s c := by
  have := hent r c
  unfold ent at this
  rw [this]
  unfold pvX sgm
  rw [if_pos rfl,hqe];rfl
 have hrl : (rs1.getD r []).length = n := by rw [getD_row (by omega)];exact (hok1.1.at (by omega)).1
 have hprow : ∀ j,j < n → (scaleR p (invp p (pvX s c)) (rs1.getD r [])).getD j 0 = pvR p s c j := fun j hj => by
  rw [scale_at (by omega)]
  have := hent r j
  unfold ent at this
  rw [this]
  unfold pvR sgm
  rw [if_pos rfl,hqe];rfl
 rw [hx] at hst
 have hpl : (scaleR p (invp p (pvX s c)) (rs1.getD r [])).length = n := by rw [scaleR_len];exact hrl
 obtain ⟨prow,hpr⟩ : ∃ x,x = scaleR p (invp p (pvX s c)) (rs1.getD r []) := ⟨_,rfl⟩
 rw [← hpr] at hst hprow hpl
 rw [hst,← hqe,← hre]
 have hi1 : i < (rs1.set r prow).length := by rw [List.length_set];omega
 rw [ent_at (elimAll_get p c r prow (rs1.set r prow) hi1)]
 by_cases e : i = r
 ·subst e
  rw [if_pos rfl]
  unfold elimRow
  rw [if_pos (Or.inl rfl)]
  rw [List.getElem_set_self,hprow j hj]
 ·rw [if_neg e]
  have hrow : (rs1.set r prow)[i] = rs1[i]'(by omega) := by rw [List.getElem_set_ne (fun h => e h.symm)]
  have hli := (hok1.1.at (show i < rs1.length by omega)).1
  have hri := (hok1.1.at (show i < rs1.length by omega)).2
  have hej : ∀ j,(rs1[i]'(by omega)).getD j 0 = ent s.1 (sgm q r i) j := fun j => by
   rw [← hent]
   rw [ent_at (List.getElem?_eq_getElem (show i < rs1.length by omega))]
  rw [hrow]
  unfold elimRow
  by_cases e0 : (rs1[i]'(by omega)).getD c 0 = 0
  ·rw [if_pos (Or.inr e0),hej,← hej c,e0,Int.zero_mul,Int.zero_emod,Int.sub_zero]
   exact (Res.eq (by rw [← hent];exact ent_res hp hok1.1 _ _)).symm
  ·rw [if_neg (by intro h;rcases h with h|h;exact e h;exact e0 h),elim_at (by omega) (by omega),hej,hej,hprow j hj]
theorem step_skip (hq : ¬ fndP s.1 c s.2.1.length < s.1.length) : redStep p s c = s := by unfold redStep;rw [if_neg hq]
theorem step_piv (hq : fndP s.1 c s.2.1.length < s.1.length) : (redStep p s c).2.1 = s.2.1 ++ [(c : Int)] := by unfold redStep;rw [if_pos hq]
end
def lf (p : Int) [NeZero p.toNat] (rs : List (List Int)) (i : Nat) (x : Nat → Fin p.toNat) : Nat → Fin p.toNat
 | 0 => 0
 | n + 1 => lf p rs i x n + T p (ent rs i n) * x n
theorem lf_lin {p : Int} [NeZero p.toNat] {rs rs1 rs2 : List (List Int)} {i i1 i2 : Nat} {x : Nat → Fin p.toNat} (a b : Fin p.toNat) : ∀ n,(∀ j,j < n → T p (ent rs i j) = a * T p (ent rs1 i1 j) + b * T p (ent rs2 i2 j)) → lf p rs i x n = a * lf p rs1 i1 x n + b * lf p rs2 i2 x n
 | 0,_ => by
  show (0 : Fin p.toNat) = a * 0 + b * 0
  grind
 | n + 1,h => by
  show _ + _ = a * (_ + _) + b * (_ + _)
  rw [lf_lin a b n (fun j hj => h j (by omega)),h n (by omega)]
  grind
def Ker (p : Int) [NeZero p.toNat] (rs : List (List Int)) (m n : Nat) (x : Nat → Fin p.toNat) : Prop := ∀ i,i < m → lf p rs i x n = 0
theorem step_ker {p : Int} (hp : Supp p) [NeZero p.toNat] {m n : Nat} {s : List (List Int) × List Int × Int} (ok : RedOk p m n s) {c : Nat} (hc : c < n) (x : Nat → Fin p.toNat) : Ker p (redStep p s c).1 m n x ↔ Ker p s.1 m n x := by
 by_cases hq : fndP s.1 c s.2.1.length < s.1.length
 ·have hm := ok.len
  have hge := fndP_ge s.1 c s.2.1.length
  obtain ⟨hxr,hx0⟩ := pvX_ok hp ok hq
  have hinv := T_inv hp hxr hx0
  have hst := fun i j hi hj => step_ent hp ok hq i j hi hj hc
  obtain ⟨q,hqe⟩ : ∃ q,q = fndP s.1 c s.2.1.length := ⟨_,rfl⟩
  obtain ⟨r,hre⟩ : ∃ r,r = s.2.1.length := ⟨_,rfl⟩
  have hpv : ∀ j,T p (pvR p s c j) = T p (invp p (pvX s c)) * T p (ent s.1 q j) := fun j => by unfold pvR;rw [T_mod hp,T_mul,hqe]
  rw [← hqe,← hre] at hst
  have hr : r < m := by omega
  have hqm : q < m := by omega
  have e1 : lf p (redStep p s c).1 r x n = T p (invp p (pvX s c)) * lf p s.1 q x n := by
   have := lf_lin (p := p) (rs := (redStep p s c).1) (i := r) (rs1 := s.1) (i1 := q) (rs2 := s.1) (i2 := q) (x := x) (T p (invp p (pvX s c))) 0 n (fun j hj => by
    rw [hst r j hr hj,if_pos rfl,hpv];grind)
   rw [this];grind
  have e2 : ∀ i,i < m → i ≠ r → lf p (redStep p s c).1 i x n = lf p s.1 (sgm q r i) x n - T p (ent s.1 (sgm q r i) c) * T p (invp p (pvX s c)) * lf p s.1 q x n := fun i hi hir => by
   have := lf_lin (p := p) (rs := (redStep p s c).1) (i := i) (rs1 := s.1) (i1 := sgm q r i) (rs2 := s.1) (i2 := q) (x := x) 1 (- (T p (ent s.1 (sgm q r i) c) * T p (invp p (pvX s c)))) n (fun j hj => by
    rw [hst i j hi hj,if_neg hir,T_mod hp,T_sub,T_mod hp,T_mul,hpv];grind)
   rw [this];grind
  have hsg : ∀ i,i < m → i ≠ q → sgm q r (sgm q r i) = i ∧ sgm q r i < m ∧ sgm q r i ≠ r := fun i hi hiq => by
   unfold sgm
   by_cases h1 : i = r
   ·subst h1
    by_cases h2 : q = i
    ·omega
    ·rw [if_pos rfl,if_neg h2,if_pos rfl];exact ⟨rfl,hqm,h2⟩
   ·rw [if_neg h1,if_neg hiq,if_neg h1,if_neg hiq];exact ⟨rfl,hi,h1⟩
  constructor
  ·intro h
   have h1 : lf p s.1 q x n = 0 := by
    have h2 := h r hr
    rw [e1] at h2
    have : T p (pvX s c) * (T p (invp p (pvX s c)) * lf p s.1 q x n) = 0 := by rw [h2];grind
    grind
   intro i hi
   by_cases hiq : i = q
   ·rw [hiq];exact h1
   ·obtain ⟨k1,k2,k3⟩ := hsg i hi hiq
    have h2 := h _ k2
    rw [e2 _ k2 k3,k1,h1] at h2
    grind
  ·intro h
   intro i hi
   have h1 := h q hqm
   by_cases hir : i = r
   ·rw [hir,e1,h1];grind
   ·rw [e2 i hi hir,h1]
    have hs : sgm q r i < m := by unfold sgm;split;exact hqm;split;exact hr;exact hi
    rw [h _ hs];grind
 ·rw [step_skip hq]
theorem red_ker {p : Int} (hp : Supp p) [NeZero p.toNat] {n : Nat} {rs : List (List Int)} (h : RowsOk p n rs) (x : Nat → Fin p.toNat) : ∀ k,k ≤ n → (Ker p (red p rs k).1 rs.length n x ↔ Ker p rs rs.length n x)
 | 0,_ => Iff.rfl
 | k + 1,hk => by rw [red_succ];exact (step_ker hp (red_ok hp h k) (by omega) x).trans (red_ker hp h x k (by omega))
structure Shape (m c : Nat) (s : List (List Int) × List Int × Int) : Prop where
 len : s.2.1.length ≤ c
 piv : ∀ i,i < s.2.1.length → ∃ ci : Nat,s.2.1[i]? = some (ci : Int) ∧ ci < c ∧ ∀ j,j < m → ent s.1 j ci = if j = i then 1 else 0
 zero : ∀ j,s.2.1.length ≤ j → j < m → ∀ c',c' < c → ent s.1 j c' = 0
theorem zsub {p : Int} (hp : Supp p) {e : Int} (he : Res p e) : (e - e * 1 % p) % p = 0 := by rw [Int.mul_one,he.eq,Int.sub_self,Int.zero_emod]
theorem shape_step {p : Int} (hp : Supp p) {m n : Nat} {s : List (List Int) × List Int × Int} (ok : RedOk p m n s) {c : Nat} (hc : c < n) (h : Shape m c s) : Shape m (c + 1) (redStep p s c) := by
 have hm := ok.len
 by_cases hq : fndP s.1 c s.2.1.length < s.1.length
 ·have hge := fndP_ge s.1 c s.2.1.length
  obtain ⟨hxr,hx0⟩ := pvX_ok hp ok hq
  have hst := fun i j hi hj => step_ent hp ok hq i j hi hj hc
  have hpx : pvR p s c c = 1 := by
   unfold pvR
   rw [show ent s.1 (fndP s.1 c s.2.1.length) c = pvX s c from rfl,Int.mul_comm]
   exact inv_spec hp hxr hx0
  obtain ⟨q,hqe⟩ : ∃ q,q = fndP s.1 c s.2.1.length := ⟨_,rfl⟩
  obtain ⟨r,hre⟩ : ∃ r,r = s.2.1.length := ⟨_,rfl⟩
  have hr : r < m := by omega
  have hqm : q < m := by omega
  have hp0 : ∀ j,ent s.1 q j = 0 → pvR p s c j = 0 := fun j hj => by unfold pvR;rw [← hqe,hj,Int.mul_zero,Int.zero_emod]
  rw [← hqe,← hre] at hst
  have hres := ent_res hp ok.rows
  have hc0 : ∀ j,j < m → j ≠ r → ent (redStep p s c).1 j c = 0 := fun j hj hjr => by
   rw [hst j c hj hc,if_neg hjr,hpx];exact zsub hp (hres _ _)
  have hcr : ent (redStep p s c).1 r c = 1 := by rw [hst r c hr hc,if_pos rfl,hpx]
  have hkeep : ∀ j j',j < m → j ≠ r → j' < n → ent s.1 q j' = 0 → ent (redStep p s c).1 j j' = ent s.1 (sgm q r j) j' := fun j j' hj hjr hj' h0 => by
   rw [hst j j' hj hj',if_neg hjr,hp0 j' h0,Int.mul_zero,Int.zero_emod,Int.sub_zero]
   exact (hres _ _).eq
  have hpl := step_piv (p := p) (s := s) (c := c) hq
  refine ⟨?_,?_,?_⟩
  ·rw [hpl,List.length_append,List.length_singleton];have := h.len;omega
  ·intro i hi
   rw [hpl,List.length_append,List.length_singleton] at hi
   rw [hpl]
   by_cases e : i < r
   ·obtain ⟨ci,h1,h2,h3⟩ := h.piv i (by omega)
    refine ⟨ci,by rw [List.getElem?_append_left (by omega)];exact h1,by omega,fun j hj => ?_⟩
    have hq0 : ent s.1 q ci = 0 := by rw [h3 q hqm,if_neg (by omega)]
    by_cases hjr : j = r
    ·rw [hjr,hst r ci hr (by omega),if_pos rfl,hp0 ci hq0,if_neg (by omega)]
    ·rw [hkeep j ci hj hjr (by omega) hq0]
     unfold sgm
     rw [if_neg hjr]
     by_cases hjq : j = q
     ·rw [if_pos hjq,h3 r hr,if_neg (by omega),if_neg (by omega)]
     ·rw [if_neg hjq,h3 j hj]
   ·have hir : i = r := by omega
    refine ⟨c,by rw [List.getElem?_append_right (by omega),show i - s.2.1.length = 0 from by omega];rfl,by omega,fun j hj => ?_⟩
    by_cases hjr : j = r
    ·rw [hjr,hcr,if_pos hir.symm]
    ·rw [hc0 j hj hjr,if_neg (by omega)]
  ·intro j hj hjm c' hc'
   rw [hpl,List.length_append,List.length_singleton] at hj
   by_cases e : c' = c
   ·rw [e];exact hc0 j hjm (by omega)
   ·have hq0 : ent s.1 q c' = 0 := h.zero q (by omega) hqm c' (by omega)
    rw [hkeep j c' hjm (by omega) (by omega) hq0]
    refine h.zero _ ?_ ?_ c' (by omega)
    ·unfold sgm;rw [if_neg (by omega)];split <;> omega
    ·unfold sgm;rw [if_neg (by omega)];split <;> omega
 ·rw [step_skip hq]
  refine ⟨by have := h.len;omega,fun i hi => ?_,fun j hj hjm c' hc' => ?_⟩
  ·obtain ⟨ci,h1,h2,h3⟩ := h.piv i hi
   exact ⟨ci,h1,by omega,h3⟩
  ·by_cases e : c' = c
   ·rw [e,ent_at (List.getElem?_eq_getElem (show j < s.1.length by omega))]
    exact fndP_zero hj (by omega) (by omega)
   ·exact h.zero j hj hjm c' (by omega)
theorem red_shape {p : Int} (hp : Supp p) {n : Nat} {rs : List (List Int)} (h : RowsOk p n rs) : ∀ k,k ≤ n → Shape rs.length k (red p rs k)
 | 0,_ => ⟨Nat.le_refl _,fun i hi => absurd hi (Nat.not_lt_zero i),fun j _ _ c' hc' => absurd hc' (Nat.not_lt_zero c')⟩
 | k + 1,hk => by rw [red_succ];exact shape_step hp (red_ok hp h k) (by omega) (red_shape hp h k (by omega))
theorem lf_two {p : Int} [NeZero p.toNat] {rs : List (List Int)} {i a b : Nat} {x : Nat → Fin p.toNat} (hab : a ≠ b) : ∀ n,(∀ j,j < n → j ≠ a → j ≠ b → T p (ent rs i j) * x j = 0) → lf p rs i x n = (if a < n then T p (ent rs i a) * x a else 0) + (if b < n then T p (ent rs i b) * x b else 0)
 | 0,_ => by
  show (0 : Fin p.toNat) = _
  rw [if_neg (Nat.not_lt_zero _),if_neg (Nat.not_lt_zero _)];grind
 | n + 1,h => by
  show _ + _ = _
  rw [lf_two hab n (fun j hj => h j (by omega))]
  by_cases ea : n = a
  ·subst ea
   rw [if_neg (Nat.lt_irrefl _),if_pos (Nat.lt_succ_self _)]
   by_cases eb : b < n
   ·rw [if_pos eb,if_pos (by omega)];grind
   ·rw [if_neg eb,if_neg (by omega)];grind
  ·by_cases eb : n = b
   ·subst eb
    rw [if_neg (Nat.lt_irrefl n),if_pos (Nat.lt_succ_self n)]
    by_cases ea2 : a < n
    ·rw [if_pos ea2,if_pos (by omega)];grind
    ·rw [if_neg ea2,if_neg (by omega)];grind
   ·rw [h n (by omega) ea eb]
    by_cases ha : a < n <;> by_cases hb : b < n
    ·rw [if_pos ha,if_pos hb,if_pos (by omega),if_pos (by omega)];grind
    ·rw [if_pos ha,if_neg hb,if_pos (by omega),if_neg (by omega)];grind
    ·rw [if_neg ha,if_pos hb,if_neg (by omega),if_pos (by omega)];grind
    ·rw [if_neg ha,if_neg hb,if_neg (by omega),if_neg (by omega)];grind
theorem lf_ext {p : Int} [NeZero p.toNat] {rs : List (List Int)} {i k : Nat} {x : Nat → Fin p.toNat} (h : ∀ j,k ≤ j → x j = 0) : ∀ d,lf p rs i x (k + d) = lf p rs i x k
 | 0 => rfl
 | d + 1 => by
  show lf p rs i x (k + d) + T p (ent rs i (k + d)) * x (k + d) = _
  rw [lf_ext h d,h (k + d) (by omega)];grind
theorem free_col (ps : List Int) (k : Nat) (hl : ps.length < k) : ∃ c,c < k ∧ (c : Int) ∉ ps := by
 refine Classical.byContradiction fun hcon => ?_
 have hall : ∀ c,c < k → (c : Int) ∈ ps := fun c hc => Classical.byContradiction fun h => hcon ⟨c,hc,h⟩
 have h1 : ∀ (k : Nat) (ps : List Int),(∀ c,c < k → (c : Int) ∈ ps) → k ≤ ps.length := by
  intro k
  induction k with
  | zero => intro ps _;exact Nat.zero_le _
  | succ k ih =>
   intro ps h
   have hk := h k (by omega)
   have h2 := ih (ps.erase (k : Int)) (fun c hc => (List.mem_erase_of_ne (by omega)).2 (h c (by omega)))
   rw [List.length_erase_of_mem hk] at h2
   have := List.length_pos_of_mem hk
   omega
 have := h1 k ps hall
 omega
theorem ker_of_few {p : Int} (hp : Supp p) [NeZero p.toNat] {n : Nat} {rs : List (List Int)} (h : RowsOk p n rs) {k : Nat} (hk : k ≤ n) (hl : (red p rs k).2.1.length < k) : ∃ x : Nat → Fin p.toNat,(∃ j,j < k ∧ x j ≠ 0) ∧ (∀ j,k ≤ j → x j = 0) ∧ Ker p rs rs.length n x := by
 have hsh := red_shape hp h k hk
 obtain ⟨c,hck,hcn⟩ := free_col (red p rs k).2.1 k hl
 obtain ⟨s,hs⟩ : ∃ s,s = red p rs k := ⟨_,rfl⟩
 rw [← hs] at hsh hcn hl
 have hlen : s.1.length = rs.length := by rw [hs];exact (red_ok hp h k).len
 obtain ⟨f,hf⟩ : ∃ f : Nat → Nat,f = fun (j : Nat) => s.2.1.findIdx (fun y => y == ((j : Nat) : Int)) := ⟨_,rfl⟩
 have hf1 : ∀ j,f j < s.2.1.length → s.2.1[f j]? = some (j : Int) := fun j hj => by
  rw [hf] at hj ⊢
  have := List.findIdx_getElem (w := hj)
  rw [List.getElem?_eq_getElem hj]
  simpa using this
 obtain ⟨x,hx⟩ : ∃ x : Nat → Fin p.toNat,x = fun j => if j = c then 1 else if f j < s.2.1.length then - T p (ent s.1 (f j) c) else 0 := ⟨_,rfl⟩
 have hsup : ∀ j,k ≤ j → x j = 0 := fun j hj => by
  rw [hx]
  show (if j = c then 1 else if f j < s.2.1.length then - T p (ent s.1 (f j) c) else 0) = (0 : Fin p.toNat)
  rw [if_neg (by omega)]
  by_cases e : f j < s.2.1.length
  ·obtain ⟨ci,h1,h2,_⟩ := hsh.piv _ e
   rw [hf1 j e] at h1
   have := Option.some.inj h1
   omega
  ·rw [if_neg e]
 have hker : Ker p s.1 rs.length n x := by
  intro i hi
  rw [show n = k + (n - k) from by omega,lf_ext hsup]
  by_cases e : i < s.2.1.length
  ·obtain ⟨ci,h1,h2,h3⟩ := hsh.piv i e
   have hcc : c ≠ ci := fun hh => hcn (by rw [hh];exact List.mem_of_getElem? h1)
   have hfi : f ci = i := by
    have hlt : f ci < s.2.1.length := by
     rw [hf]
     exact List.findIdx_lt_length_of_exists ⟨(ci : Int),List.mem_of_getElem? h1,by simp⟩
    have h4 := hf1 ci hlt
    obtain ⟨cj,h5,h6,h7⟩ := hsh.piv (f ci) hlt
    rw [h4] at h5
    have : ci = cj := by have := Option.some.inj h5;omega
    rw [← this] at h7
    have h8 := h7 i hi
    rw [h3 i hi,if_pos rfl] at h8
    by_cases e2 : i = f ci
    ·exact e2.symm
    ·rw [if_neg e2] at h8;omega
   rw [lf_two hcc k (fun j hj hjc hjci => ?_),if_pos hck,if_pos h2]
   ·have e1 : x c = 1 := by rw [hx];show (if c = c then _ else _) = _;rw [if_pos rfl]
    have e2 : x ci = - T p (ent s.1 i c) := by
     rw [hx]
     show (if ci = c then 1 else if f ci < s.2.1.length then - T p (ent s.1 (f ci) c) else 0) = _
     rw [if_neg (fun hh => hcc hh.symm),hfi,if_pos e]
    rw [e1,e2,h3 i hi,if_pos rfl,T_one]
    grind
   ·rw [hx]
    show T p (ent s.1 i j) * (if j = c then 1 else if f j < s.2.1.length then - T p (ent s.1 (f j) c) else 0) = 0
    rw [if_neg hjc]
    by_cases e3 : f j < s.2.1.length
    ·obtain ⟨cj,h5,h6,h7⟩ := hsh.piv (f j) e3
     rw [hf1 j e3] at h5
     have : j = cj := by have := Option.some.inj h5;omega
     rw [← this] at h7
     have hne : i ≠ f j := fun hh => by
      rw [← hh] at h7
      have h8 := hf1 j e3
      rw [← hh,h1] at h8
      have := Option.some.inj h8
      omega
     rw [h7 i hi,if_neg hne,T_zero];grind
    ·rw [if_neg e3];grind
  ·have h0 : ∀ j,j < k → T p (ent s.1 i j) = 0 := fun j hj => by rw [hsh.zero i (by omega) hi j hj,T_zero]
   have : ∀ d,d ≤ k → lf p s.1 i x d = 0 := by
    intro d
    induction d with
    | zero => intro _;rfl
    | succ d ih =>
     intro hd
     show _ + _ = _
     rw [ih (by omega),h0 d (by omega)];grind
   exact this k (Nat.le_refl _)
 refine ⟨x,⟨c,hck,?_⟩,hsup,?_⟩
 ·rw [hx]
  show (if c = c then 1 else _) ≠ (0 : Fin p.toNat)
  rw [if_pos rfl];exact one_ne hp
 ·rw [hs] at hker
  exact (red_ker hp h x k hk).1 hker
theorem step_det {p : Int} (hp : Supp p) {m n : Nat} {s : List (List Int) × List Int × Int} (ok : RedOk p m n s) {c : Nat} (h0 : s.2.2 ≠ 0) : (redStep p s c).2.2 ≠ 0 := by
 haveI := nz hp
 by_cases hq : fndP s.1 c s.2.1.length < s.1.length
 ·have hm := ok.len
  have hge := fndP_ge s.1 c s.2.1.length
  obtain ⟨hxr,hx0⟩ := pvX_ok hp ok hq
  have hx : ((if fndP s.1 c s.2.1.length = s.2.1.length then s.1 else swapR s.1 (fndP s.1 c s.2.1.length) s.2.1.length).getD s.2.1.length []).getD c 0 = pvX s c := by
   have := swap_ent ok.rows hq (show s.2.1.length < s.1.length by omega) s.2.1.length c
   unfold ent at this
   rw [this]
   unfold pvX sgm
   rw [if_pos rfl];rfl
  have hd : (redStep p s c).2.2 = (if fndP s.1 c s.2.1.length = s.2.1.length then s.2.2 else -s.2.2 % p) * pvX s c % p := by
   unfold redStep
   rw [if_pos hq,← hx]
  rw [hd]
  intro h
  have h1 : T p (if fndP s.1 c s.2.1.length = s.2.1.length then s.2.2 else -s.2.2 % p) * T p (pvX s c) = 0 := by rw [← T_mul,← T_mod hp,h,T_zero]
  rcases dom hp _ _ h1 with h2|h2
  ·have hz : Res p 0 := ⟨Int.le_refl _,by have := hp.bd;omega⟩
   split at h2
   ·exact h0 (T_inj hp ok.det hz (by rw [h2,T_zero]))
   ·rw [T_mod hp,T_neg] at h2
    exact h0 (T_inj hp ok.det hz (by rw [T_zero];grind))
  ·exact hx0 (T_inj hp hxr ⟨Int.le_refl _,by have := hp.bd;omega⟩ (by rw [h2,T_zero]))
 ·rw [step_skip hq];exact h0
theorem red_det {p : Int} (hp : Supp p) {n : Nat} {rs : List (List Int)} (h : RowsOk p n rs) : ∀ k,(red p rs k).2.2 ≠ 0
 | 0 => by show (1 : Int) ≠ 0;decide
 | k + 1 => by rw [red_succ];exact step_det hp (red_ok hp h k) (red_det hp h k)
end Go.Proofs.Ytmdoaijkaaaglaa.E
end
section
namespace Go.Proofs.Ytmdoaijkaaaglaa.E
open Go.RowKit Go.Proofs.Ytmdoaijkaaaglaa.Pr Go.Proofs.Ytmdoaijkaaaglaa.Hw Go.Proofs.Ytmdoaijkaaaglaa.Pl Go.Proofs.YtmdoaijkaaaglaaW.PrintWords Go.Proofs.YtmdoaijkaaaglaaW.PrintLast Go.Proofs.YtmdoaijkaaaglaaW.PrintMore
section
variable {p : Int} [NeZero p.toNat]
theorem sumQ_add (f g : Nat → Fin p.toNat) : ∀ n,sumF (fun i => f i + g i) n = sumF f n + sumF g n
 | 0 => by simp only [sumF];grind
 | n + 1 => by simp only [sumF];rw [sumQ_add f g n];grind
theorem sumQ_mul (c : Fin p.toNat) (f : Nat → Fin p.toNat) : ∀ n,sumF (fun i => c * f i) n = c * sumF f n
 | 0 => by simp only [sumF];grind
 | n + 1 => by simp only [sumF];rw [sumQ_mul c f n];grind
theorem sumQ_zero : ∀ n,sumF (fun _ => (0 : Fin p.toNat)) n = 0
 | 0 => rfl
 | n + 1 => by simp only [sumF];rw [sumQ_zero n];grind
theorem sumQ_swap (F : Nat → Nat → Fin p.toNat) (m : Nat) : ∀ n,sumF (fun i => sumF (fun j => F i j) m) n = sumF (fun j => sumF (fun i => F i j) n) m
 | 0 => by simp only [sumF];exact (sumQ_zero m).symm
 | n + 1 => by simp only [sumF];rw [sumQ_swap F m n,sumQ_add]
theorem lf_sum (rs : List (List Int)) (i : Nat) (x : Nat → Fin p.toNat) : ∀ n,lf p rs i x n = sumF (fun j => T p (ent rs i j) * x j) n
 | 0 => rfl
 | n + 1 => by
  show lf p rs i x n + _ = sumF _ n + _
  rw [lf_sum rs i x n]
end
def selQN (keys : List Int) (b : Bool) (n : Nat) : List Nat := (List.range n).filter fun (i : Nat) => decide ((i : Int) ∈ keys) == b
def selQ (keys : List Int) (b : Bool) (n : Nat) : List Int := (selQN keys b n).map fun (i : Nat) => (i : Int)
theorem selQN_next (keys : List Int) (b : Bool) (n : Nat) : selQN keys b (n + 1) = if (decide ((n : Int) ∈ keys) == b) = true then selQN keys b n ++ [n] else selQN keys b n := by
 unfold selQN
 rw [List.range_succ,List.filter_append]
 by_cases h : (decide ((n : Int) ∈ keys) == b) = true
 ·rw [if_pos h]
  congr 1
  exact List.filter_cons_of_pos (p := fun (i : Nat) => decide ((i : Int) ∈ keys) == b) h
 ·rw [if_neg h]
  have e : List.filter (fun (i : Nat) => decide ((i : Int) ∈ keys) == b) [n] = [] := List.filter_cons_of_neg (p := fun (i : Nat) => decide ((i : Int) ∈ keys) == b) h
  rw [e,List.append_nil]
theorem selQ_mem {keys : List Int} {b : Bool} {n : Nat} {x : Int} : x ∈ selQ keys b n ↔ (0 ≤ x ∧ x < n ∧ (x ∈ keys ↔ b = true)) := by
 unfold selQ selQN
 simp only [List.mem_map,List.mem_filter,List.mem_range,beq_iff_eq]
 constructor
 ·rintro ⟨i,⟨h1,h2⟩,rfl⟩
  refine ⟨by omega,by omega,?_⟩
  rw [← h2];simp
 ·rintro ⟨h1,h2,h3⟩
  refine ⟨x.toNat,⟨by omega,?_⟩,by omega⟩
  rw [show ((x.toNat : Nat) : Int) = x from by omega]
  cases b with
  | true => exact decide_eq_true (h3.2 rfl)
  | false => exact decide_eq_false fun h => by have := h3.1 h;cases this
theorem selQ_nodup (keys : List Int) (b : Bool) (n : Nat) : (selQ keys b n).Nodup := by
 unfold selQ selQN
 have h1 : (List.filter (fun (i : Nat) => decide ((i : Int) ∈ keys) == b) (List.range n)).Nodup := (List.nodup_range (n := n)).sublist List.filter_sublist
 exact List.Pairwise.map (R := fun a c => a ≠ c) (fun (i : Nat) => (i : Int)) (fun a c (h : a ≠ c) => fun e => h (by omega)) h1
theorem selQ_yes {keys : List Int} {n : Nat} (hn : keys.Nodup) (h : ∀ x ∈ keys,0 ≤ x ∧ x < n) : (selQ keys true n).length = keys.length := by
 refine List.Perm.length_eq ((List.perm_ext_iff_of_nodup (selQ_nodup _ _ _) hn).2 fun a => ?_)
 rw [selQ_mem]
 exact ⟨fun h2 => h2.2.2.2 rfl,fun h2 => ⟨(h a h2).1,(h a h2).2,⟨fun _ => rfl,fun _ => h2⟩⟩⟩
theorem selQN_sum (keys : List Int) : ∀ n,(selQN keys true n).length + (selQN keys false n).length = n
 | 0 => rfl
 | n + 1 => by
  have ih := selQN_sum keys n
  rw [selQN_next,selQN_next]
  cases h : decide ((n : Int) ∈ keys)
  ·rw [if_neg (by decide),if_pos (by decide),List.length_append,List.length_singleton];omega
  ·rw [if_pos (by decide),if_neg (by decide),List.length_append,List.length_singleton];omega
theorem selQ_no {keys : List Int} {n : Nat} (hn : keys.Nodup) (h : ∀ x ∈ keys,0 ≤ x ∧ x < n) : (selQ keys false n).length + keys.length = n := by
 have h1 := selQ_yes hn h
 have h2 := selQN_sum keys n
 unfold selQ at h1 ⊢
 rw [List.length_map] at h1 ⊢
 omega
theorem thruQ {p : Int} (hp : Supp p) {n : Nat} (hn : (n : Int) < p) {a : List Int} (ha : ∀ x ∈ a,Res p x) (hl : a.length = n) : ∃ f : List Int,(∀ x ∈ f,Res p x) ∧ f.length ≤ n ∧ ∀ i,i < n → evI p ((1 + i : Nat) : Int) f = a.getD i 0 := by
 obtain ⟨pts,hpts⟩ : ∃ pts,pts = (List.range n).map fun (i : Nat) => (⟨((1 + i : Nat) : Int),a.getD i 0⟩ : S56) := ⟨_,rfl⟩
 have hlen : pts.length = n := by rw [hpts];simp
 have hat : ∀ i (h : i < n),rd_T56 pts (i : Int) = ⟨((1 + i : Nat) : Int),a.getD i 0⟩ := fun i h => by
  rw [rdT_nat pts i (by omega)]
  simp [hpts]
 have hok : PtsOk p pts := fun x hx => by
  rw [hpts] at hx
  obtain ⟨i,hi,rfl⟩ := List.mem_map.1 hx
  have := List.mem_range.1 hi
  exact ⟨⟨by show (0 : Int) ≤ ((1 + i : Nat) : Int);omega,by show ((1 + i : Nat) : Int) < p;omega⟩,res_at ha (by omega)⟩
 have hxs : xsOf pts = pz 1 n := by rw [hpts];unfold xsOf Go.Proofs.Ytmdoaijkaaaglaa.E.pz;rw [List.map_map];rfl
 have hnd : (xsOf pts).Nodup := by rw [hxs];exact pz_nodup _ _
 refine ⟨polL p pts,polL_res hp hok,by rw [← hlen];exact polL_len hp,fun i hi => ?_⟩
 have h := polL_at hp hok hnd i (by omega)
 rw [hat i hi] at h
 exact h
theorem sub_len (m : List (List Int)) (rows cols : List Int) : (subM m rows cols).length = rows.length := by unfold subM;rw [List.length_map]
theorem getD_in {l : List Int} {i : Nat} (h : i < l.length) : l.getD i 0 ∈ l := by rw [List.getD_eq_getElem?_getD,List.getElem?_eq_getElem h];exact List.getElem_mem h
theorem rd_pos {l : List Int} {c : Int} (h : 0 ≤ c) : rd l c = l.getD c.toNat 0 := by rw [← rd_nat,show ((c.toNat : Nat) : Int) = c from by omega]
theorem sub_ent {m : List (List Int)} {rows cols : List Int} {i j : Nat} (hi : i < rows.length) (hj : j < cols.length) (h0 : 0 ≤ rows.getD i 0) (h1 : 0 ≤ cols.getD j 0) : ent (subM m rows cols) i j = (m.getD (rows.getD i 0).toNat []).getD (cols.getD j 0).toNat 0 := by
 have e1 : rows.getD i 0 = rows[i] := by rw [List.getD_eq_getElem?_getD,List.getElem?_eq_getElem hi];rfl
 have e2 : cols.getD j 0 = cols[j] := by rw [List.getD_eq_getElem?_getD,List.getElem?_eq_getElem hj];rfl
 have h3 : (subM m rows cols)[i]? = some (cols.map fun c => rd (rd_L2 m rows[i]) c) := by
  unfold subM
  rw [List.getElem?_map,List.getElem?_eq_getElem hi];rfl
 rw [ent_at h3,List.getD_eq_getElem?_getD,List.getElem?_map,List.getElem?_eq_getElem hj]
 show rd (rd_L2 m rows[i]) cols[j] = _
 rw [← e1,← e2,rd_pos h1,← rdM_nat,show (((rows.getD i 0).toNat : Nat) : Int) = rows.getD i 0 from by omega]
theorem sub_ok {p : Int} (hp : Supp p) {n : Nat} {m : List (List Int)} (hm : RowsOk p n m) {rows cols : List Int} (hr : ∀ x ∈ rows,0 ≤ x ∧ x < (m.length : Int)) (hc : ∀ x ∈ cols,0 ≤ x ∧ x < (n : Int)) : RowsOk p cols.length (subM m rows cols) := by
 intro r h
 obtain ⟨i,hi,rfl⟩ := List.mem_map.1 h
 refine ⟨List.length_map _,fun y hy => ?_⟩
 obtain ⟨c,hcc,rfl⟩ := List.mem_map.1 hy
 have h1 := hr i hi
 have h2 := hc c hcc
 have h3 := hm.at (i := i.toNat) (by omega)
 rw [rd_pos h2.1,show rd_L2 m i = m.getD i.toNat [] from by rw [← rdM_nat,show ((i.toNat : Nat) : Int) = i from by omega],getD_row (by omega)]
 exact res_at h3.2 (by omega)
theorem nodup_at {l : List Int} (h : l.Nodup) {i j : Nat} (hi : i < l.length) (hj : j < l.length) (e : l.getD i 0 = l.getD j 0) : i = j := by
 rw [List.getD_eq_getElem?_getD,List.getD_eq_getElem?_getD,List.getElem?_eq_getElem hi,List.getElem?_eq_getElem hj] at e
 exact (List.getElem_inj h).1 e
theorem sub_full {p : Int} (hp : Supp p) {R C : Nat} (hC : C ≤ 13) (hR : R ≤ 13) {rows cols : List Int} (hl : rows.length = cols.length) (hr : ∀ x ∈ rows,0 ≤ x ∧ x < (R : Int)) (hc : ∀ x ∈ cols,0 ≤ x ∧ x < (C : Int)) (nr : rows.Nodup) (nc : cols.Nodup) :
  ¬ (red p (subM (newM p R C) rows cols) cols.length).2.1.length < cols.length := by
 intro hlt
 haveI := nz hp
 have hbd := hp.bd
 have hok := sub_ok hp (newM_ok hp R C) (rows := rows) (cols := cols) (by rw [newM_len];exact hr) hc
 obtain ⟨x,⟨j0,hj0,hx0⟩,hsup,hker⟩ := ker_of_few hp hok (Nat.le_refl _) hlt
 obtain ⟨V,hV⟩ : ∃ V : Nat → Fin p.toNat,V = fun c => sumF (fun j => if cols.getD j 0 = ((c : Nat) : Int) then x j else 0) cols.length := ⟨_,rfl⟩
 obtain ⟨v,hv⟩ : ∃ v : List Int,v = (List.range C).map fun c => (((V c).val : Nat) : Int) := ⟨_,rfl⟩
 have lv : v.length = C := by rw [hv];simp
 have vat : ∀ c,c < C → v.getD c 0 = (((V c).val : Nat) : Int) := fun c h => by
  rw [hv,List.getD_eq_getElem?_getD,List.getElem?_map,List.getElem?_range h];rfl
 have rv : ∀ y ∈ v,Res p y := fun y hy => by
  rw [hv] at hy
  obtain ⟨c,_,rfl⟩ := List.mem_map.1 hy
  exact (T_back hp _).1
 have vT : ∀ c,c < C → T p (v.getD c 0) = V c := fun c h => by rw [vat c h];exact (T_back hp _).2
 obtain ⟨f,hf,lf0,ef⟩ := thruQ hp (n := C) (by omega) rv lv
 have z0 : Res p 0 := ⟨Int.le_refl _,by omega⟩
 have hzr : ∀ y ∈ rows,evI p (((C + 1 : Nat) : Int) + y) f = 0 := fun y hy => by
  obtain ⟨i,hi,e⟩ := List.getElem_of_mem hy
  have ey : rows.getD i 0 = y := by rw [List.getD_eq_getElem?_getD,List.getElem?_eq_getElem hi,← e];rfl
  have hy2 := hr y hy
  have h2 := weval07 hp (xs := pz 1 C) (f := f) (pz_res (by omega)) (pz_nodup _ _) hf (by rw [pz_len];exact lf0) (((C + 1) + y.toNat : Nat) : Int)
  rw [pz_len] at h2
  rw [show ((C + 1 : Nat) : Int) + y = (((C + 1) + y.toNat : Nat) : Int) from by omega]
  refine T_inj hp (evI_res hp _ _) z0 ?_
  rw [← h2,accI_T hp,T_zero]
  have hk := hker i (by rw [sub_len];exact hi)
  rw [lf_sum] at hk
  rw [← hk]
  have s1 : sumF (fun c => T p ((lagL p (((C + 1) + y.toNat : Nat) : Int) (pz 1 C) C).getD c 0 * evI p ((pz 1 C).getD c 0) f % p)) C = sumF (fun c => sumF (fun j => if cols.getD j 0 = ((c : Nat) : Int) then T p ((lagL p (((C + 1) + y.toNat : Nat) : Int) (pz 1 C) C).getD c 0) * x j else 0) cols.length) C := by
   refine sumF_congr _ fun c hcC => ?_
   rw [pz_getD hcC,ef c hcC,T_mod hp,T_mul,vT c hcC,hV]
   rw [← sumQ_mul]
   refine sumF_congr _ fun j hj => ?_
   by_cases e : cols.getD j 0 = ((c : Nat) : Int)
   ·rw [if_pos e,if_pos e]
   ·rw [if_neg e,if_neg e];grind
  rw [s1,sumQ_swap]
  refine sumF_congr _ fun j hj => ?_
  have hcj := hc _ (getD_in hj)
  rw [sumF_one (j := (cols.getD j 0).toNat) _ (fun c hcC hne => if_neg (by omega)),if_pos (by omega),if_pos (by omega),sub_ent hi hj (by rw [ey];omega) hcj.1,ey,newM_at (by omega)]
 have hzc : ∀ y ∈ selQ cols false C,evI p (1 + y) f = 0 := fun y hy => by
  have h3 := selQ_mem.1 hy
  have e := ef y.toNat (by omega)
  rw [show (1 + y : Int) = ((1 + y.toNat : Nat) : Int) from by omega,e]
  refine T_inj hp (res_at rv (by omega)) z0 ?_
  rw [vT _ (by omega),hV,T_zero]
  refine (sumF_congr (g := fun _ => 0) _ fun j hj => if_neg fun hh => ?_).trans (sumQ_zero cols.length)
  have := h3.2.2.1 (by rw [show y = ((y.toNat : Nat) : Int) from by omega,← hh];exact getD_in hj)
  cases this
 have hno := selQ_no nc hc
 obtain ⟨S,hS⟩ : ∃ S,S = rows.map (fun y => ((C + 1 : Nat) : Int) + y) ++ (selQ cols false C).map (fun y => 1 + y) := ⟨_,rfl⟩
 have hSl : S.length = C := by rw [hS,List.length_append,List.length_map,List.length_map];omega
 have hm1 : ∀ z ∈ rows.map (fun y => ((C + 1 : Nat) : Int) + y),(C : Int) + 1 ≤ z ∧ z < (C : Int) + 1 + R ∧ evI p z f = 0 := fun z hz => by
  obtain ⟨y,hy,rfl⟩ := List.mem_map.1 hz
  have := hr y hy
  exact ⟨by omega,by omega,hzr y hy⟩
 have hm2 : ∀ z ∈ (selQ cols false C).map (fun y => 1 + y),1 ≤ z ∧ z < (C : Int) + 1 ∧ evI p z f = 0 := fun z hz => by
  obtain ⟨y,hy,rfl⟩ := List.mem_map.1 hz
  have := selQ_mem.1 hy
  exact ⟨by omega,by omega,hzc y hy⟩
 have hSr : ∀ z ∈ S,Res p z := fun z hz => by
  rw [hS] at hz
  rcases List.mem_append.1 hz with h|h
  ·have := hm1 z h;exact ⟨by omega,by omega⟩
  ·have := hm2 z h;exact ⟨by omega,by omega⟩
 have hSe : ∀ z ∈ S,evI p z f = evI p z [] := fun z hz => by
  rw [hS] at hz
  rcases List.mem_append.1 hz with h|h
  ·exact (hm1 z h).2.2
  ·exact (hm2 z h).2.2
 have hSn : S.Nodup := by
  rw [hS,List.nodup_append]
  refine ⟨List.Pairwise.map (R := fun a c => a ≠ c) _ (fun a c (h : a ≠ c) => fun e => h (by omega)) nr,List.Pairwise.map (R := fun a c => a ≠ c) _ (fun a c (h : a ≠ c) => fun e => h (by omega)) (selQ_nodup _ _ _),fun a ha b hb e => ?_⟩
  have := hm1 a ha
  have := hm2 b hb
  omega
 have hu := uniq hp hSr hSn hf (g := []) (fun _ h => by cases h) (by omega) (Nat.zero_le _) hSe
 have hc0 := hc _ (getD_in hj0)
 apply hx0
 have e1 : V (cols.getD j0 0).toNat = x j0 := by
  rw [hV]
  show sumF (fun j => if cols.getD j 0 = (((cols.getD j0 0).toNat : Nat) : Int) then x j else 0) cols.length = _
  rw [sumF_one (j := j0) _ (fun j hj hne => if_neg fun hh => hne (nodup_at nc hj hj0 (by omega))),if_pos hj0,if_pos (by omega)]
 rw [← e1,← vT _ (by omega),← ef _ (by omega),ev_evI hp,← ev_trimL,hu,ev_trimL,← ev_evI hp]
 exact T_zero
end Go.Proofs.Ytmdoaijkaaaglaa.E
end
section
namespace Go.Proofs.Ytmdoaijkaaaglaa.Pure
open Go.RowKit Go.Proofs.Ytmdoaijkaaaglaa.Pr Go.Proofs.Ytmdoaijkaaaglaa.Hw Go.Proofs.Ytmdoaijkaaaglaa.E Go.Proofs.YtmdoaijkaaaglaaW.PrintWords Go.Proofs.YtmdoaijkaaaglaaW.PrintLast Go.Proofs.YtmdoaijkaaaglaaW.PrintMore
theorem wfu8 {x : Int} (h : (Lit.int .u8 x).wf = true) : 0 ≤ x ∧ x < 256 := by
 have h1 : IntKind.u8.min ≤ x ∧ x ≤ IntKind.u8.max := by simpa [Lit.wf] using h
 have e1 : IntKind.u8.min = 0 := by decide
 have e2 : IntKind.u8.max = 255 := by decide
 omega
def unlikeOk (l : List Int) (n : Int) (i : Nat) : Prop := (0 ≤ l.getD i 0 ∧ l.getD i 0 < n) ∧ ∀ j,j < i → l.getD i 0 ≠ l.getD j 0
instance (l : List Int) (n : Int) (i : Nat) : Decidable (unlikeOk l n i) := by unfold unlikeOk;exact inferInstance
theorem unlike_ev (l : List Int) (n : Int) (hl : l.length ≤ 1000) : Ev (fun k => privitylaw07_unlike.f k l n) (decide (∀ i,i < l.length → unlikeOk l n i)) := by
 have hin : ∀ i,i < l.length → ∀ r,(∀ j,j < i → l.getD i 0 ≠ l.getD j 0) → Ev (fun k => privitylaw07_unlike.l0 k l n ((i + 1 : Nat) : Int)) r → Ev (fun k => privitylaw07_unlike.l1 k l n (i : Int) ((0 : Nat) : Int)) r := fun i hi r hne h => by
  refine up (Q := fun j => Ev (fun k => privitylaw07_unlike.l1 k l n (i : Int) (j : Int)) r) (n := i) ?_ (fun j hj h2 => ?_)
  ·refine Ev.step (fun k => ?_) h
   simp only [privitylaw07_unlike.l1]
   rw [if_neg (by omega),wnat (by omega)]
  ·refine Ev.step (fun k => ?_) h2
   simp only [privitylaw07_unlike.l1]
   rw [if_pos (by omega),if_pos (by omega),if_pos (by omega),if_pos (by omega),if_pos (by omega),rd_nat,rd_nat,if_neg (hne j hj),wnat (by omega)]
 have hbad : ∀ i,i < l.length → (¬ ∀ j,j < i → l.getD i 0 ≠ l.getD j 0) → Ev (fun k => privitylaw07_unlike.l1 k l n (i : Int) ((0 : Nat) : Int)) false := fun i hi hne => by
  have h := allL (F := fun k j => privitylaw07_unlike.l1 k l n (i : Int) j) (n := i) (Q := fun j => l.getD i 0 ≠ l.getD j 0) (e := false)
  by_cases hh : ∃ j,j < i ∧ l.getD i 0 = l.getD j 0
  ·obtain ⟨j,hj,e⟩ := hh
   have hmin : ∃ j,(j < i ∧ l.getD i 0 = l.getD j 0) ∧ ∀ q,q < j → l.getD i 0 ≠ l.getD q 0 := by
    have : ∀ m,(∃ j,j < m ∧ l.getD i 0 = l.getD j 0) → ∃ j,(j < m ∧ l.getD i 0 = l.getD j 0) ∧ ∀ q,q < j → l.getD i 0 ≠ l.getD q 0 := by
     intro m
     induction m with
     | zero => rintro ⟨j,hj,_⟩;omega
     | succ m ih =>
      rintro ⟨j,hj,e⟩
      by_cases h3 : ∃ j,j < m ∧ l.getD i 0 = l.getD j 0
      ·obtain ⟨j',h4,h5⟩ := ih h3
       exact ⟨j',⟨by omega,h4.2⟩,h5⟩
      ·exact ⟨j,⟨hj,e⟩,fun q hq hqe => h3 ⟨q,by omega,hqe⟩⟩
    exact this i ⟨j,hj,e⟩
   obtain ⟨j,⟨hj,e⟩,hm⟩ := hmin
   refine up (Q := fun j => Ev (fun k => privitylaw07_unlike.l1 k l n (i : Int) (j : Int)) false) (n := j) ?_ (fun q hq h2 => ?_)
   ·refine Ev.step (fun k => ?_) (Ev.now _)
    simp only [privitylaw07_unlike.l1]
    rw [if_pos (by omega),if_pos (by omega),if_pos (by omega),if_pos (by omega),if_pos (by omega),rd_nat,rd_nat,if_pos e]
   ·refine Ev.step (fun k => ?_) h2
    simp only [privitylaw07_unlike.l1]
    rw [if_pos (by omega),if_pos (by omega),if_pos (by omega),if_pos (by omega),if_pos (by omega),rd_nat,rd_nat,if_neg (hm q hq),wnat (by omega)]
  ·exact absurd (fun j hj e => hh ⟨j,hj,e⟩) hne
 have hst : ∀ i,i < l.length → ∀ r,((0 ≤ l.getD i 0 ∧ l.getD i 0 < n) → Ev (fun k => privitylaw07_unlike.l1 k l n (i : Int) ((0 : Nat) : Int)) r) → (¬ (0 ≤ l.getD i 0 ∧ l.getD i 0 < n) → r = false) → Ev (fun k => privitylaw07_unlike.l0 k l n (i : Int)) r := fun i hi r h1 h2 => by
  by_cases hneg : l.getD i 0 < 0
  ·rw [h2 (by omega)]
   refine Ev.step (f := fun k => privitylaw07_unlike.j1 k l n (i : Int) true) (fun k => ?_) (Ev.step (f := fun _ => some false) (fun k => ?_) (Ev.now _))
   ·simp only [privitylaw07_unlike.l0]
    rw [if_pos (by omega),if_pos (by omega),rd_nat,if_pos hneg]
   ·simp only [privitylaw07_unlike.j1];rw [if_pos trivial]
  ·refine Ev.step (f := fun k => privitylaw07_unlike.j1 k l n (i : Int) (decide (l.getD i 0 ≥ n))) (fun k => ?_) ?_
   ·simp only [privitylaw07_unlike.l0]
    rw [if_pos (by omega),if_pos (by omega),rd_nat,if_neg hneg]
   ·by_cases hge : l.getD i 0 ≥ n
    ·rw [decide_eq_true hge,h2 (by omega)]
     exact Ev.step (f := fun _ => some false) (fun k => by simp only [privitylaw07_unlike.j1];rw [if_pos trivial]) (Ev.now _)
    ·rw [decide_eq_false hge]
     exact Ev.step (f := fun k => privitylaw07_unlike.l1 k l n (i : Int) ((0 : Nat) : Int)) (fun k => by simp only [privitylaw07_unlike.j1];rw [if_neg (by simp)];rfl) (h1 ⟨by omega,by omega⟩)
 have main := allL (F := fun k i => privitylaw07_unlike.l0 k l n i) (n := l.length) (Q := fun i => unlikeOk l n i) (e := true) ?_ (fun i hi hq r h => ?_) (fun i hi hq => ?_) (decide (∀ i,i < l.length → unlikeOk l n i)) ?_
 ·exact main.congr fun k => rfl
 ·refine Ev.step (fun k => ?_) (Ev.now _)
  simp only [privitylaw07_unlike.l0]
  rw [if_neg (by omega)]
 ·exact hst i hi r (fun _ => hin i hi r hq.2 h) (fun hn => absurd hq.1 hn)
 ·refine hst i hi false (fun hin2 => hbad i hi fun hall => hq ⟨hin2,hall⟩) (fun _ => rfl)
 ·rw [decide_eq_true_iff]
  exact ⟨fun h => ⟨h,rfl⟩,fun h => h.1⟩
theorem unlike_facts {l : List Int} {n : Int} (h : ∀ i,i < l.length → unlikeOk l n i) : (∀ x ∈ l,0 ≤ x ∧ x < n) ∧ l.Nodup := by
 have e : ∀ i (hi : i < l.length),l.getD i 0 = l[i] := fun i hi => by rw [List.getD_eq_getElem?_getD,List.getElem?_eq_getElem hi];rfl
 refine ⟨fun x hx => ?_,?_⟩
 ·obtain ⟨i,hi,rfl⟩ := List.getElem_of_mem hx
  have := (h i hi).1
  rwa [e i hi] at this
 ·rw [List.Nodup,List.pairwise_iff_getElem]
  intro i j hi hj hij hh
  exact (h j hj).2 i hij (by rw [e i hi,e j hj,hh])
theorem sq_skip (x3 x4 p a b : Int) (l r : List Int) : Ev (fun k => privitylaw07_HyperinvertibleEverySquareSubmatrix.j0 k x3 x4 true p a b l r) true :=
 Ev.step (f := fun _ => some true) (fun k => by simp only [privitylaw07_HyperinvertibleEverySquareSubmatrix.j0];rw [if_pos trivial]) (Ev.now _)
theorem sq_main {p : Int} (hp : Supp p) {R C : Nat} (hR1 : 1 ≤ R) (hR : R ≤ 13) (hC1 : 1 ≤ C) (hC : C ≤ 13) (a b : Int) {rows cols : List Int} (hl : rows.length = cols.length) (h1 : 1 ≤ rows.length) (h8 : rows.length ≤ 8)
  (hr : ∀ x ∈ rows,0 ≤ x ∧ x < (R : Int)) (hc : ∀ x ∈ cols,0 ≤ x ∧ x < (C : Int)) (nr : rows.Nodup) (nc : cols.Nodup) : Ev (fun k => privitylaw07_HyperinvertibleEverySquareSubmatrix.j0 k (R : Int) (C : Int) false p a b rows cols) true := by
 have hN := new_ev hp (R : Int) (C : Int)
 rw [newR_ok hp hR1 hR hC1 hC] at hN
 have hM := newM_ok hp R C
 have hS := subm_ev (newM p R C) rows cols (by omega) (by omega)
 have hsr : subR (newM p R C) rows cols = (subM (newM p R C) rows cols,0) := by
  unfold subR
  rw [if_pos (subOk_iff.2 fun i hi => ?_)]
  have h2 := hr i hi
  refine ⟨h2.1,by rw [newM_len];exact h2.2,fun c hcc => ?_⟩
  have h3 := hc c hcc
  have h4 := (hM.at (i := i.toNat) (by rw [newM_len];omega)).1
  refine ⟨h3.1,?_⟩
  rw [show rd_L2 (newM p R C) i = (newM p R C).getD i.toNat [] from by rw [← rdM_nat,show ((i.toNat : Nat) : Int) = i from by omega],getD_row (by rw [newM_len];omega),h4]
  exact h3.2
 rw [hsr] at hS
 have hok := sub_ok hp hM (rows := rows) (cols := cols) (by rw [newM_len];exact hr) hc
 have hsl := sub_len (newM p R C) rows cols
 have hfull := sub_full hp hC hR hl hr hc nr nc
 obtain ⟨M,hMe⟩ : ∃ M,M = subM (newM p R C) rows cols := ⟨_,rfl⟩
 rw [← hMe] at hok hsl hfull hS
 have hdet : detM p M ≠ 0 := by
  unfold detM
  rw [show M.length = cols.length from by omega,if_neg hfull]
  exact red_det hp hok _
 have hD : matrix_Det.f p M = some (detM p M,0) := by
  unfold matrix_Det.f
  rw [if_pos (supB_iff.2 hp),if_pos (by omega),if_pos (by omega),if_pos (rowsB_iff.2 (by rw [show M.length = cols.length from by omega];exact hok))]
 refine Ev.step (f := fun k => (hyperinvertible_New.f k p (R : Int) (C : Int)).bind fun bt662 => ((hyperinvertible_Submatrix.f k bt662.1 rows cols).bind fun bt666 => ((matrix_Det.f p bt666.1).bind fun bt670 => (if bt662.2 = 0 then (if bt666.2 = 0 then (if bt670.2 = 0 then (some (bt670.1 != 0)) else (some false)) else (some false)) else (some false))))) (fun k => ?_) (Ev.bind hN (Ev.bind hS (ev_now_bind hD ?_)))
 ·simp only [privitylaw07_HyperinvertibleEverySquareSubmatrix.j0]
  rw [if_neg (by simp)]
 ·refine Ev.congr (f := fun _ => some true) (fun k => ?_) (Ev.now _)
  rw [if_pos rfl,if_pos rfl,if_pos rfl]
  exact congrArg some (bne_iff_ne.2 hdet)
theorem HyperinvertibleEverySquareSubmatrix {Q3 Q4 : Prop} (p a b : Int) (rows cols : List Int) (wp : (Lit.int .u64 p).wf = true) (wa : (Lit.int .u8 a).wf = true) (wb : (Lit.int .u8 b).wf = true) (wr : Q3) (wc : Q4) : ∃ k,privitylaw07_HyperinvertibleEverySquareSubmatrix.f k p a b rows cols = some true := by
 have ha : 0 ≤ a ∧ a < 256 := wfu8 wa
 have hb : 0 ≤ b ∧ b < 256 := wfu8 wb
 have ea : wrap64 (1 + Int.tmod (wrap64 a) 13) = (((a % 13 + 1).toNat : Nat) : Int) := by
  rw [wcap (n := a) (by omega) (by omega),Int.tmod_eq_emod_of_nonneg ha.1,wcap (by omega) (by omega)];omega
 have eb : wrap64 (1 + Int.tmod (wrap64 b) 13) = (((b % 13 + 1).toNat : Nat) : Int) := by
  rw [wcap (n := b) (by omega) (by omega),Int.tmod_eq_emod_of_nonneg hb.1,wcap (by omega) (by omega)];omega
 refine Ev.rounds (r := true) ?_
 refine ev_if awake07 (fun _ => ev_if (supported_ev p) (fun hs => ev_ite (fun h1 => ev_ite (fun _ => sq_skip _ _ p a b rows cols) fun h2 => ev_ite (fun _ => sq_skip _ _ p a b rows cols) fun h3 => ?_) fun _ => sq_skip _ _ p a b rows cols) fun _ => sq_skip _ _ p a b rows cols) (fun h => by cases h)
 rw [ea,eb]
 refine ev_if (unlike_ev rows _ (by omega)) (fun hu => ?_) fun _ => sq_skip _ _ p a b rows cols
 refine Ev.bind (f := fun k t => privitylaw07_HyperinvertibleEverySquareSubmatrix.j0 k _ _ (!t) p a b rows cols) (unlike_ev cols _ (by omega)) ?_
 by_cases hv : ∀ i,i < cols.length → unlikeOk cols (((b % 13 + 1).toNat : Nat) : Int) i
 ·rw [decide_eq_true hv]
  have h4 := unlike_facts (of_decide_eq_true hu)
  have h5 := unlike_facts hv
  exact sq_main (supB_of hs) (by omega) (by omega) (by omega) (by omega) a b (by omega) (by omega) (by omega) h4.1 h5.1 h4.2 h5.2
 ·rw [decide_eq_false hv]
  exact sq_skip _ _ p a b rows cols
end Go.Proofs.Ytmdoaijkaaaglaa.Pure
end
section
namespace Go.Proofs.Ytmdoaijkaaaglaa.Op
open Go.RowKit Go.Proofs.YtmdoaijkaaaglaaW.PrintWords
def OpenK {α : Type} (P : Program) (t : TypeId) (d : Kd α) (Q : α → Prop) : Prop :=
 ∀ {H : Type} {enc : TypeId × Value → H} {w : World} {base : Nat} {sp : Nat → Bool} {hd : Bool} {fuel : Nat} {cs : List Value} {x : DataW H × List MemPlace},DataW.trod enc P w base sp hd fuel t cs = some x → ∃ v : α,d.K w v cs ∧ Q v
theorem openInt {P : Program} {t : TypeId} {k : IntKind} (ht : P.underlying t = some (.int k)) : OpenK P t (Kd.int k) (fun n => (Lit.int k n).wf = true) := by
 intro H enc w base sp hd fuel cs x h
 obtain ⟨n,rfl,_,hw⟩ := DataW.trod_int ht h
 exact ⟨n,rfl,hw⟩
theorem exists_list {α : Type} {R : Nat → α → Prop} : ∀ (n : Nat),(∀ i,i < n → ∃ v,R i v) → ∃ l : List α,l.length = n ∧ ∀ i v,l[i]? = some v → R i v
 | 0,_ => ⟨[],rfl,fun i v h => by simp at h⟩
 | n + 1,h => by
  obtain ⟨l,hl,hr⟩ := exists_list n (fun i hi => h i (by omega))
  obtain ⟨v,hv⟩ := h n (by omega)
  refine ⟨l ++ [v],by simp [hl],fun i u hu => ?_⟩
  by_cases hi : i < n
  ·rw [List.getElem?_append_left (by omega)] at hu
   exact hr i u hu
  ·rw [List.getElem?_append_right (by omega)] at hu
   by_cases h0 : i - l.length = 0
   ·rw [h0] at hu
    simp only [List.getElem?_cons_zero,Option.some.injEq] at hu
    rw [← hu,show i = n from by omega];exact hv
   ·rw [List.getElem?_eq_none (by simp;omega)] at hu;cases hu
theorem openSlice {α : Type} {P : Program} {t e : TypeId} {d : Kd α} {Q : α → Prop} (ht : P.underlying t = some (.slice e)) (hc : P.cellsOf e = d.sz) (he : OpenK P e d Q) : OpenK P t (Kd.slice e d) (fun l => ∀ x ∈ l,Q x) := by
 intro H enc w base sp hd fuel cs x h
 rcases DataW.trod_slice ht h with ⟨rfl,_⟩|⟨a,len,cap,elems,rest,n,_,rfl,_,_,hlc,hm,hlen,hel,_,_⟩
 ·exact ⟨[],⟨none,0,rfl,Nat.le_refl _,rfl,Nat.zero_le _,fun h => absurd h (Nat.lt_irrefl 0)⟩,fun x hx => by cases hx⟩
 ·have each : ∀ i,i < len → ∃ v,(∃ c,c.length = d.sz ∧ d.K w v c ∧ ∀ j u,c[j]? = some u → w.cell? (a.add (i * d.sz + j)) = some u) ∧ Q v := by
   intro i hi
   have h1 := hel i hi
   rw [List.getElem?_eq_getElem (by omega),hc] at h1
   obtain ⟨c,hcs,htr⟩ := Option.bind_eq_some_iff.1 h1
   obtain ⟨v,hk,hq⟩ := he htr
   refine ⟨v,⟨c,d.K_len hk,hk,fun j u hu => ?_⟩,hq⟩
   have h2 := World.cells?_some hcs
   have hj := (List.getElem?_eq_some_iff.1 hu).1
   have h3 := h2.2.2 j (by rw [← d.K_len hk];exact hj)
   rw [hu] at h3
   rw [← h3,← Addr.add_add]
  obtain ⟨l,hl,hr⟩ := exists_list len each
  refine ⟨l,⟨some a,cap,by rw [hl],by omega,rfl,by rw [hl];simp only [maxLen] at hm;omega,fun _ => ⟨a,rfl,fun j p hj => (hr j p hj).1⟩⟩,fun x hx => ?_⟩
  obtain ⟨i,hi,rfl⟩ := List.getElem_of_mem hx
  exact (hr i _ (List.getElem?_eq_getElem hi)).2
theorem openFields {P : Program} {H : Type} {enc : TypeId × Value → H} {w : World} {base : Nat} {sp : Nat → Bool} {hd : Bool} {fuel : Nat} {t : TypeId} {cs : List Value} {x : DataW H × List MemPlace} {fs : Array Field} (ht : P.underlying t = some (.struct fs))
  (h : DataW.trod enc P w base sp hd fuel t cs = some x) : cs.length = P.cellsOf t ∧ ∀ (i : Nat) (f : Field),fs[i]? = some f → ∃ n y,DataW.trod enc P w base sp hd n f.type ((cs.drop f.offset).take (P.cellsOf f.type)) = some y := by
 obtain ⟨xs,n,_,_,hl,hlen,hf⟩ := DataW.trod_struct ht h
 refine ⟨hl,fun i f hi => ?_⟩
 have h1 := hf i f hi
 have h2 : i < fs.size := (Array.getElem?_eq_some_iff.1 hi).1
 rw [List.getElem?_eq_getElem (by omega)] at h1
 exact ⟨n,_,h1⟩
end Go.Proofs.Ytmdoaijkaaaglaa.Op
end
section
/- The row of the law HyperinvertibleEverySquareSubmatrix, out of its plain law and the walk. -/
namespace Go.Proofs.Ytmdoaijkaaaglaa.hyperinvertibleEverySquareSubmatrix
open Go.ChangeShapes Go.WideShapes Go.ChangeAt Go.RowKit Go.Proofs.Ytmdoaijkaaaglaa.Pr Go.Proofs.YtmdoaijkaaaglaaW.PrintWords
theorem own : ownKnob Try.prog.godebug = none := by kernel_rfl
theorem laidOut : laidOutB Try.prog = true := by kernel_rfl
set_option maxRecDepth 100000 in
theorem arr5 (cs : Array Value) (h : cs.size = 5) : ∃ c0_ c1_ c2_ c3_ c4_, cs = #[c0_, c1_, c2_, c3_, c4_] := by
  obtain ⟨l_⟩ := cs
  match l_, h with
  | [c0_, c1_, c2_, c3_, c4_], _ => exact ⟨_, _, _, _, _, rfl⟩
set_option maxHeartbeats 4000000 in
set_option maxRecDepth 100000 in
theorem lifted (os : Os) (started : os.Started) (H : Type) (enc : TypeId × Value → H) :
    ReturnsInHanded {} Try.checked os 7 .any (Rows.hyperinvertibleEverySquareSubmatrixSpec.pre6 enc Try.prog Try.f7 Rows.hyperinvertibleEverySquareSubmatrixRow.domain false) (Rows.hyperinvertibleEverySquareSubmatrixSpec.post enc Try.prog Try.f7 false true false false) := by
  refine returnsInHanded_of_change_sized (C := Try.checked) own started (by kernel_rfl) Try.func7
    (ChangeSpec.witness6 (enc := enc) (C := Try.checked) false ⟨#[], #[.agg #[.int .u64 0, .int .u8 0, .int .u8 0, .slice none 0 0, .slice none 0 0]], []⟩ 8 (by kernel_rfl) (by kernel_rfl) (by kernel_rfl) (by kernel_rfl)) ?_
  intro W base args ds gs before hval0 hW hcnd hsz0 _
  have hval : ∀ (j : Nat) t v, Try.f7.params[j]? = some t → args[j]? = some v → Value.okWide Try.prog W .any base t v := hval0
  have hW' := hW
  obtain ⟨p, q, hA0, hV, rfl, hfz, hnd⟩ := hW
  have hA : DataW.TrodAll enc Try.prog W 0 (fun _ => true) true Try.f7.params.toList args.toList ds p := hA0
  rw [Try.params7] at hA hval
  obtain ⟨v0, vs0, d0, ds0, p0, q0, hargs, rfl, rfl, h0, r0⟩ := trodAll_cons hA
  obtain ⟨rfl, rfl, rfl⟩ := trodAll_nil r0
  obtain rfl : args = #[v0] := by cases args; simp_all
  obtain ⟨rfl, rfl⟩ := trodVars_none hV
  have k0 := h0
  have lt0 : ∀ x ∈ p0, x.block < W.heap.size := by obtain ⟨m, hm⟩ := k0; exact DataW.trod_lt m _ _ _ hm
  obtain ⟨cs0, rfl, hs0⟩ := okWide_struct Try.underlying50 (hval 0 50 v0 rfl rfl)
  have hN0 : Try.prog.cellsOf 50 = 5 := by kernel_rfl
  rw [hN0] at hs0
  obtain ⟨x0_0, x0_1, x0_2, x0_3, x0_4, rfl⟩ := arr5 cs0 hs0
  obtain ⟨fu0, hf0⟩ := h0
  have hg0 : DataW.trod enc Try.prog W 0 (fun _ => true) true fu0 50 [x0_0, x0_1, x0_2, x0_3, x0_4] = some (d0, p0) := hf0
  have f0 := (Op.openFields Try.underlying50 hg0).2
  obtain ⟨n0_0, y0_0, e0_0⟩ := f0 0 _ rfl
  have b0_0 : DataW.trod enc Try.prog W 0 (fun _ => true) true n0_0 22 [x0_0] = some y0_0 := e0_0
  obtain ⟨a0_0, e0_0, w0_0⟩ := (Op.openInt (k := .u64) Try.underlying22) b0_0
  cases e0_0
  obtain ⟨n0_1, y0_1, e0_1⟩ := f0 1 _ rfl
  have b0_1 : DataW.trod enc Try.prog W 0 (fun _ => true) true n0_1 5 [x0_1] = some y0_1 := e0_1
  obtain ⟨a0_1, e0_1, w0_1⟩ := (Op.openInt (k := .u8) Try.underlying5) b0_1
  cases e0_1
  obtain ⟨n0_2, y0_2, e0_2⟩ := f0 2 _ rfl
  have b0_2 : DataW.trod enc Try.prog W 0 (fun _ => true) true n0_2 5 [x0_2] = some y0_2 := e0_2
  obtain ⟨a0_2, e0_2, w0_2⟩ := (Op.openInt (k := .u8) Try.underlying5) b0_2
  cases e0_2
  obtain ⟨n0_3, y0_3, e0_3⟩ := f0 3 _ rfl
  have b0_3 : DataW.trod enc Try.prog W 0 (fun _ => true) true n0_3 31 [x0_3] = some y0_3 := e0_3
  obtain ⟨z0_3, ⟨A0_3, c0_3, e0_3, hc0_3, g0_3⟩, w0_3⟩ := (Op.openSlice (d := (Kd.int .i64)) Try.underlying31 (by kernel_rfl) (Op.openInt (k := .i64) Try.underlying3)) b0_3
  cases e0_3
  obtain ⟨n0_4, y0_4, e0_4⟩ := f0 4 _ rfl
  have b0_4 : DataW.trod enc Try.prog W 0 (fun _ => true) true n0_4 31 [x0_4] = some y0_4 := e0_4
  obtain ⟨z0_4, ⟨A0_4, c0_4, e0_4, hc0_4, g0_4⟩, w0_4⟩ := (Op.openSlice (d := (Kd.int .i64)) Try.underlying31 (by kernel_rfl) (Op.openInt (k := .i64) Try.underlying3)) b0_4
  cases e0_4
  clear hA0 hval0 hsz0
  obtain ⟨kk, hk⟩ := Pure.HyperinvertibleEverySquareSubmatrix a0_0 a0_1 a0_2 z0_3 z0_4 w0_0 w0_1 w0_2 w0_3 w0_4
  refine (privitylaw07_HyperinvertibleEverySquareSubmatrix.calls kk a0_0 a0_1 a0_2 _ _ z0_3 _ _ z0_4 true W g0_3 hc0_3 g0_4 hc0_4 rfl hk).mono fun e W' ⟨he, bel⟩ => ?_
  subst he
  exact ⟨_, rfl, _, _, _, [], _, [], hW', trodAll_mk1 (shut_bool Try.underlying4 _), (trodAll_cons_mk (Below.trod laidOut (by kernel_rfl) (of_decide_eq_true (by kernel_rfl)) k0 bel lt0) trodAll_mk0), rfl, bel.frame _, fun h => by cases h⟩
theorem over : Rows.hyperinvertibleEverySquareSubmatrixRow.holds Try.pinned (OpenSpec.ofChange Rows.hyperinvertibleEverySquareSubmatrixSpec) :=
  OpenClaim.holds_of_wide 7 Try.f7 rfl rfl rfl rfl rfl rfl rfl ⟨rfl, rfl, rfl, rfl, rfl⟩ rfl rfl rfl rfl rfl (by kernel_rfl) Try.func7 (by kernel_rfl)
    (of_decide_eq_true (by kernel_rfl)) (by unfold Func.isWrapper; first | (rw [if_pos (by decide +kernel)]; kernel_rfl) | (rw [if_neg (by decide +kernel)]; exact ⟨rfl, rfl⟩))
    (fun os started H enc _ => lifted os started H enc)
theorem proved : Rows.HyperinvertibleEverySquareSubmatrixSaid := over
#print axioms proved
end Go.Proofs.Ytmdoaijkaaaglaa.hyperinvertibleEverySquareSubmatrix
namespace Go.Proofs.Ytmdoaijkaaaglaa
/-- The row, under a short name, for the claim. -/
theorem hyperinvertibleEverySquareSubmatrix_holds : Rows.HyperinvertibleEverySquareSubmatrixSaid := hyperinvertibleEverySquareSubmatrix.proved
end Go.Proofs.Ytmdoaijkaaaglaa
end
