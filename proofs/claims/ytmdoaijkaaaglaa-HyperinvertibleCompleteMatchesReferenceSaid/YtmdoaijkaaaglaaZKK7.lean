/- Part 7 of the proof's texts, joined in build order. -/
import Derived.Test.YtmdoaijkaaaglaaZKK6
import Derived.Test.YtmdoaijkaaaglaaZKK1
import Derived.Test.YtmdoaijkaaaglaaZKK2
import Derived.Test.YtmdoaijkaaaglaaZKK5
set_option linter.unusedVariables false
set_option linter.unusedSimpArgs false
section
namespace Go.Proofs.Ytmdoaijkaaaglaa.Hw
open Go.RowKit Go.Proofs.Ytmdoaijkaaaglaa.Pr Go.Proofs.YtmdoaijkaaaglaaW.PrintWords Go.Proofs.YtmdoaijkaaaglaaW.PrintLast Go.Proofs.YtmdoaijkaaaglaaW.PrintMore Go.Proofs.Ytmdoaijkaaaglaa.E
def ptB (p : Int) (l : List S56) : Bool := l.all fun x => (decide (0 ≤ x.f0) && decide (x.f0 < 18446744073709551616)) && resB p x.f1
def cpOkB (p : Int) (m : List (List Int)) (ins outs : List S56) : Bool := supB p && (decide (m.length ≤ 60) && ((m.all fun r => decide (r.length ≤ 60) && ressB p r) && (decide (ins.length ≤ 60) && (decide (outs.length ≤ 60) && (ptB p ins && ptB p outs)))))
theorem ptB_iff {p : Int} {l : List S56} : ptB p l = true ↔ ∀ x ∈ l,(0 ≤ x.f0 ∧ x.f0 < 18446744073709551616) ∧ Res p x.f1 := by
 unfold ptB;simp only [List.all_eq_true,Bool.and_eq_true,decide_eq_true_eq,resB_iff]
theorem cpOkB_iff {p : Int} {m : List (List Int)} {ins outs : List S56} : cpOkB p m ins outs = true ↔ CpOk p m ins outs := by
 unfold cpOkB
 simp only [List.all_eq_true,Bool.and_eq_true,decide_eq_true_eq,supB_iff,ptB_iff,ressB_iff]
 exact ⟨fun h => ⟨h.1,h.2.1,h.2.2.1,h.2.2.2.1,h.2.2.2.2.1,h.2.2.2.2.2.1,h.2.2.2.2.2.2⟩,fun h => ⟨h.hp,h.lm,h.rows,h.li,h.lo,h.pi,h.po⟩⟩
def hyperinvertible_Complete.f (a0 : Int) (l1 : List (List Int)) (l2 l3 : List S56) : Option (List Int × List Int × Int) := if cpOkB a0 l1 l2 l3 = true then some (cpR a0 l1 l2 l3) else none
theorem hyperinvertible_Complete.calls (a0 : Int) (A1 : Option Addr) (c1 : Nat) (l1 : List (List Int)) (A2 : Option Addr) (c2 : Nat) (l2 : List S56) (A3 : Option Addr) (c3 : Nat) (l3 : List S56) (r1 r2 : List Int) (r3 : Int) (w : World) (hr1 : Kd.C (Kd.slice 22 (Kd.int .u64)) w A1 l1.length l1) (hc1 : l1.length ≤ c1) (hr2 : Kd.C k56 w A2 l2.length l2) (hc2 : l2.length ≤ c2) (hr3 : Kd.C k56 w A3 l3.length l3) (hc3 : l3.length ≤ c3) (h : hyperinvertible_Complete.f a0 l1 l2 l3 = some (r1,r2,r3)) :
  Calls Try.prog 22 #[.int .u64 a0,.slice A1 l1.length c1,.slice A2 l2.length c2,.slice A3 l3.length c3] w fun e w' => ∃ v0_ v1_ : Value,e = .returned (.tuple #[v0_,v1_,.int .i64 r3]) ∧ Kd.R (Kd.int .u64) 22 w' w.heap.size (fun _ => True) v0_ r1 ∧ Kd.R (Kd.int .u64) 22 w' w.heap.size (fun _ => True) v1_ r2 ∧ Below w.heap.size w w' := by
 unfold hyperinvertible_Complete.f at h
 obtain ⟨hok,h⟩ := ifs h
 have hk := cpOkB_iff.1 hok
 have hr := Option.some.inj h
 have hcalls : Calls Try.prog 22 #[.int .u64 a0,.slice A1 l1.length c1,.slice A2 l2.length c2,.slice A3 l3.length c3] w fun e w' => CpRet (cpR a0 l1 l2 l3) w e w' ∧ Below w.heap.size w w' := by
  by_cases hg : cpGo l1 l2 l3 = true
  ·exact complete_ok hk A1 c1 A2 c2 A3 c3 w hr1 hc1 hr2 hc2 hr3 hc3 hg
  ·have hg2 := Bool.eq_false_iff.2 hg
   have he : cpR a0 l1 l2 l3 = ([],[],1) := by unfold cpR;rw [if_neg hg]
   rw [he]
   exact complete_err hk A1 c1 A2 c2 A3 c3 w hr1 hc1 hr2 hc2 hr3 hc3 hg2
 refine hcalls.mono ?_
 rintro e w' ⟨⟨v0,v1,he,h1,h2⟩,hb⟩
 rw [hr] at he h1 h2
 exact ⟨v0,v1,he,h1,h2,hb⟩
end Go.Proofs.Ytmdoaijkaaaglaa.Hw
end
section
namespace Go.Proofs.Ytmdoaijkaaaglaa.Pr
open Go.RowKit Go.Proofs.YtmdoaijkaaaglaaW.PrintWords Go.Proofs.YtmdoaijkaaaglaaW.PrintLast Go.Proofs.YtmdoaijkaaaglaaW.PrintMore
attribute [local go_sem] max2_int min2_int max_two min_two max_three min_three max_four min_four
open Go.Proofs.Ytmdoaijkaaaglaa.Hw
def privitylaw07_awake.f (k : Nat)  : Option (Bool) := (hyperinvertible_New.f k 31 1 2).bind fun bt412 => ((hyperinvertible_New.f k 31 16 15).bind fun bt416 => ((hyperinvertible_Complete.f 31 (([(([30,2] : List Int))] : List (List Int))) (([(⟨1,5⟩ : S56)] : List (S56))) (([(⟨0,7⟩ : S56)] : List (S56)))).bind fun bt432 => (if bt412.2 = 0 then ((privityref05_SameRows.f k bt412.1 (([(([30,2] : List Int))] : List (List Int)))).bind fun t445 => (if t445 = true then (if bt416.2 = 2 then (if bt432.2.2 = 0 then ((privityref05_Same.f k bt432.1 (([3,5] : List Int))).bind fun t449 => (if t449 = true then ((privityref05_Same.f k bt432.2.1 (([7] : List Int))).bind fun t453 => (some t453)) else (some false))) else (some false)) else (some false)) else (some false))) else (some false))))
theorem privitylaw07_awake.mono : ∀ k,LeO (privitylaw07_awake.f k ) (privitylaw07_awake.f (k + 1) ) := by
 intro  k
 unfold privitylaw07_awake.f
 repeat' first
   | (with_reducible exact hyperinvertible_New.mono _ _ _ _)
   | (with_reducible exact privityref05_Same.mono _ _ _)
   | (with_reducible exact privityref05_SameRows.mono _ _ _)
   | (with_reducible exact LeO.refl _)
   | (with_reducible exact LeO.none _)
   | (with_reducible refine LeO.ite ?_ ?_)
   | (with_reducible refine LeO.bind ?_ (fun _ => ?_))
   | exact hyperinvertible_New.mono _ _ _ _
   | exact privityref05_Same.mono _ _ _
   | exact privityref05_SameRows.mono _ _ _
   | exact LeO.none _
   | refine LeO.ite ?_ ?_
   | refine LeO.bind ?_ (fun _ => ?_)
theorem privitylaw07_awake.more (k : Nat) : ∀ d,LeO (privitylaw07_awake.f k) (privitylaw07_awake.f (k + d))
 | 0 => fun r h => h
 | d + 1 => fun r h => privitylaw07_awake.mono (k + d) r (privitylaw07_awake.more k d r h)
theorem privitylaw07_awake.is : privitylaw07_awake.f 60 = some true := by kernel_rfl
theorem privitylaw07_awake.one (k : Nat) (r : Bool) (h : privitylaw07_awake.f k = some r) : r = true := by
 have h1 := privitylaw07_awake.more k 60 r h
 have h2 := privitylaw07_awake.more 60 k true privitylaw07_awake.is
 rw [Nat.add_comm,h1] at h2
 exact Option.some.inj h2
set_option maxHeartbeats 8000000 in
set_option maxRecDepth 100000 in
theorem privitylaw07_awake.calls (k : Nat)  (r : Bool) (w : World) (h : privitylaw07_awake.f k  = some r) :
  Calls Try.prog 12 #[] w fun e w' => e = .returned (.bool r) ∧ Below w.heap.size w w' := by
 have HR1 := am (privitylaw07_awake.one k r h)
 have hu56 := Try.underlying56
 have HB := am (Below.refl w.heap.size w)
 have H : ((hyperinvertible_New.f k 31 1 2).bind fun bt412 => ((hyperinvertible_New.f k 31 16 15).bind fun bt416 => ((hyperinvertible_Complete.f 31 (([(([30,2] : List Int))] : List (List Int))) (([(⟨1,5⟩ : S56)] : List (S56))) (([(⟨0,7⟩ : S56)] : List (S56)))).bind fun bt432 => (if bt412.2 = 0 then ((privityref05_SameRows.f k bt412.1 (([(([30,2] : List Int))] : List (List Int)))).bind fun t445 => (if t445 = true then (if bt416.2 = 2 then (if bt432.2.2 = 0 then ((privityref05_Same.f k bt432.1 (([3,5] : List Int))).bind fun t449 => (if t449 = true then ((privityref05_Same.f k bt432.2.1 (([7] : List Int))).bind fun t453 => (some t453)) else (some false))) else (some false)) else (some false)) else (some false))) else (some false))))) = some r := h
 clear h
 replace H := Option.bind_eq_some_iff.mp H
 obtain ⟨⟨t412,t413⟩,A10,H⟩ := H
 try dsimp only at H
 have A1 := am A10
 clear A10
 replace H := Option.bind_eq_some_iff.mp H
 obtain ⟨⟨t416,t417⟩,A20,H⟩ := H
 try dsimp only at H
 have A2 := am A20
 clear A20
 obtain ⟨y420,hy420⟩ : ∃ y_ : List Int,y_ = (([30,2] : List Int)) := ⟨_,rfl⟩
 replace H : ((hyperinvertible_Complete.f 31 (([y420] : List (List Int))) (([(⟨1,5⟩ : S56)] : List (S56))) (([(⟨0,7⟩ : S56)] : List (S56)))).bind fun bt432 => (if t413 = 0 then ((privityref05_SameRows.f k t412 (([(([30,2] : List Int))] : List (List Int)))).bind fun t445 => (if t445 = true then (if t417 = 2 then (if bt432.2.2 = 0 then ((privityref05_Same.f k bt432.1 (([3,5] : List Int))).bind fun t449 => (if t449 = true then ((privityref05_Same.f k bt432.2.1 (([7] : List Int))).bind fun t453 => (some t453)) else (some false))) else (some false)) else (some false)) else (some false))) else (some false))) = some r := by first|(rw [hy420];with_reducible exact H)|(have H2_ := (Option.bind_some _ _).symm.trans H;rw [hy420];with_reducible exact H2_)|(have H2_ := (Option.bind_some _ _).symm.trans H;with_reducible exact H2_)|with_reducible exact H|(rw [hy420];exact H)|exact H
 have Ny420 := am hy420
 clear hy420
 obtain ⟨y423,hy423⟩ : ∃ y_ : List (List Int),y_ = (([y420] : List (List Int))) := ⟨_,rfl⟩
 replace H : ((hyperinvertible_Complete.f 31 y423 (([(⟨1,5⟩ : S56)] : List (S56))) (([(⟨0,7⟩ : S56)] : List (S56)))).bind fun bt432 => (if t413 = 0 then ((privityref05_SameRows.f k t412 (([(([30,2] : List Int))] : List (List Int)))).bind fun t445 => (if t445 = true then (if t417 = 2 then (if bt432.2.2 = 0 then ((privityref05_Same.f k bt432.1 (([3,5] : List Int))).bind fun t449 => (if t449 = true then ((privityref05_Same.f k bt432.2.1 (([7] : List Int))).bind fun t453 => (some t453)) else (some false))) else (some false)) else (some false)) else (some false))) else (some false))) = some r := by first|(rw [hy423];with_reducible exact H)|(have H2_ := (Option.bind_some _ _).symm.trans H;rw [hy423];with_reducible exact H2_)|(have H2_ := (Option.bind_some _ _).symm.trans H;with_reducible exact H2_)|with_reducible exact H|(rw [hy423];exact H)|exact H
 have Ny423 := am hy423
 clear hy423
 obtain ⟨y426,hy426⟩ : ∃ y_ : List (S56),y_ = (([(⟨1,5⟩ : S56)] : List (S56))) := ⟨_,rfl⟩
 replace H : ((hyperinvertible_Complete.f 31 y423 y426 (([(⟨0,7⟩ : S56)] : List (S56)))).bind fun bt432 => (if t413 = 0 then ((privityref05_SameRows.f k t412 (([(([30,2] : List Int))] : List (List Int)))).bind fun t445 => (if t445 = true then (if t417 = 2 then (if bt432.2.2 = 0 then ((privityref05_Same.f k bt432.1 (([3,5] : List Int))).bind fun t449 => (if t449 = true then ((privityref05_Same.f k bt432.2.1 (([7] : List Int))).bind fun t453 => (some t453)) else (some false))) else (some false)) else (some false)) else (some false))) else (some false))) = some r := by first|(rw [hy426];with_reducible exact H)|(have H2_ := (Option.bind_some _ _).symm.trans H;rw [hy426];with_reducible exact H2_)|(have H2_ := (Option.bind_some _ _).symm.trans H;with_reducible exact H2_)|with_reducible exact H|(rw [hy426];exact H)|exact H
 have Ny426 := am hy426
 clear hy426
 obtain ⟨y429,hy429⟩ : ∃ y_ : List (S56),y_ = (([(⟨0,7⟩ : S56)] : List (S56))) := ⟨_,rfl⟩
 replace H : ((hyperinvertible_Complete.f 31 y423 y426 y429).bind fun bt432 => (if t413 = 0 then ((privityref05_SameRows.f k t412 (([(([30,2] : List Int))] : List (List Int)))).bind fun t445 => (if t445 = true then (if t417 = 2 then (if bt432.2.2 = 0 then ((privityref05_Same.f k bt432.1 (([3,5] : List Int))).bind fun t449 => (if t449 = true then ((privityref05_Same.f k bt432.2.1 (([7] : List Int))).bind fun t453 => (some t453)) else (some false))) else (some false)) else (some false)) else (some false))) else (some false))) = some r := by first|(rw [hy429];with_reducible exact H)|(have H2_ := (Option.bind_some _ _).symm.trans H;rw [hy429];with_reducible exact H2_)|(have H2_ := (Option.bind_some _ _).symm.trans H;with_reducible exact H2_)|with_reducible exact H|(rw [hy429];exact H)|exact H
 have Ny429 := am hy429
 clear hy429
 replace H := Option.bind_eq_some_iff.mp H
 obtain ⟨⟨t432,t433,t434⟩,A30,H⟩ := H
 try dsimp only at H
 have A3 := am A30
 clear A30
 by_cases c4 : t413 = 0
 ·rw [if_pos c4] at H
  have c4b0 : (t413 == 0) = true := beq_iff_eq.mpr c4
  have c4b1 : (t413 != 0) = false := bne_eq_false_iff_eq.mpr c4
  clear c4
  obtain ⟨y439,hy439⟩ : ∃ y_ : List Int,y_ = (([30,2] : List Int)) := ⟨_,rfl⟩
  replace H : ((privityref05_SameRows.f k t412 (([y439] : List (List Int)))).bind fun t445 => (if t445 = true then (if t417 = 2 then (if t434 = 0 then ((privityref05_Same.f k t432 (([3,5] : List Int))).bind fun t449 => (if t449 = true then ((privityref05_Same.f k t433 (([7] : List Int))).bind fun t453 => (some t453)) else (some false))) else (some false)) else (some false)) else (some false))) = some r := by first|(rw [hy439];with_reducible exact H)|(have H2_ := (Option.bind_some _ _).symm.trans H;rw [hy439];with_reducible exact H2_)|(have H2_ := (Option.bind_some _ _).symm.trans H;with_reducible exact H2_)|with_reducible exact H|(rw [hy439];exact H)|exact H
  have Ny439 := am hy439
  clear hy439
  obtain ⟨y442,hy442⟩ : ∃ y_ : List (List Int),y_ = (([y439] : List (List Int))) := ⟨_,rfl⟩
  replace H : ((privityref05_SameRows.f k t412 y442).bind fun t445 => (if t445 = true then (if t417 = 2 then (if t434 = 0 then ((privityref05_Same.f k t432 (([3,5] : List Int))).bind fun t449 => (if t449 = true then ((privityref05_Same.f k t433 (([7] : List Int))).bind fun t453 => (some t453)) else (some false))) else (some false)) else (some false)) else (some false))) = some r := by first|(rw [hy442];with_reducible exact H)|(have H2_ := (Option.bind_some _ _).symm.trans H;rw [hy442];with_reducible exact H2_)|(have H2_ := (Option.bind_some _ _).symm.trans H;with_reducible exact H2_)|with_reducible exact H|(rw [hy442];exact H)|exact H
  have Ny442 := am hy442
  clear hy442
  replace H := Option.bind_eq_some_iff.mp H
  obtain ⟨t445,A50,H⟩ := H
  try dsimp only at H
  have A5 := am A50
  clear A50
  by_cases c6 : t445 = true
  ·subst c6
   rw [if_pos rfl] at H
   by_cases c7 : t417 = 2
   ·rw [if_pos c7] at H
    have c7b0 : (t417 == 2) = true := beq_iff_eq.mpr c7
    have c7b1 : (t417 != 2) = false := bne_eq_false_iff_eq.mpr c7
    clear c7
    by_cases c8 : t434 = 0
    ·rw [if_pos c8] at H
     have c8b0 : (t434 == 0) = true := beq_iff_eq.mpr c8
     have c8b1 : (t434 != 0) = false := bne_eq_false_iff_eq.mpr c8
     clear c8
     obtain ⟨y446,hy446⟩ : ∃ y_ : List Int,y_ = (([3,5] : List Int)) := ⟨_,rfl⟩
     replace H : ((privityref05_Same.f k t432 y446).bind fun t449 => (if t449 = true then ((privityref05_Same.f k t433 (([7] : List Int))).bind fun t453 => (some t453)) else (some false))) = some r := by first|(rw [hy446];with_reducible exact H)|(have H2_ := (Option.bind_some _ _).symm.trans H;rw [hy446];with_reducible exact H2_)|(have H2_ := (Option.bind_some _ _).symm.trans H;with_reducible exact H2_)|with_reducible exact H|(rw [hy446];exact H)|exact H
     have Ny446 := am hy446
     clear hy446
     replace H := Option.bind_eq_some_iff.mp H
     obtain ⟨t449,A90,H⟩ := H
     try dsimp only at H
     have A9 := am A90
     clear A90
     by_cases c10 : t449 = true
     ·subst c10
      rw [if_pos rfl] at H
      obtain ⟨y450,hy450⟩ : ∃ y_ : List Int,y_ = (([7] : List Int)) := ⟨_,rfl⟩
      replace H : ((privityref05_Same.f k t433 y450).bind fun t453 => (some t453)) = some r := by first|(rw [hy450];with_reducible exact H)|(have H2_ := (Option.bind_some _ _).symm.trans H;rw [hy450];with_reducible exact H2_)|(have H2_ := (Option.bind_some _ _).symm.trans H;with_reducible exact H2_)|with_reducible exact H|(rw [hy450];exact H)|exact H
      have Ny450 := am hy450
      clear hy450
      replace H := Option.bind_eq_some_iff.mp H
      obtain ⟨t453,A110,H⟩ := H
      try dsimp only at H
      have A11 := am A110
      clear A110
      obtain rfl := Option.some.inj H
      go_enter Try.func12,Try.ntmps12
      go_wp2_with (first|((with_reducible refine gate_callee (f := 14) rfl ?_);refine goesL_ (some 9) rfl rfl Try.func14 (by kernel_rfl) rfl #[.int .u64 31,.int .i64 1,.int .i64 2] rfl (by (try simp only [List.map_toArray,List.map_cons,List.map_nil]);first|done|rfl|(simp only [List.length_drop,List.length_take];rfl)) ?_;(with_reducible refine (hyperinvertible_New.calls k 31 1 2 t412 t413 _ A1.out).mono ?_);rintro e w12 ⟨v414,rfl,ho0,hb⟩;refine ⟨_,rfl,?_⟩;have n0_ := am (Kd.N_lower (Kd.N_mono (ok' := fun k_ => True) (Kd.S_N (Kd.S_bound ho0)) (fun k_ hk_ => trivial)) (below_size (bb HB)));have n1_ := am (below_step (bb HB) hb);clear HB;have HO415 := n0_;have HB := n1_;clear n0_ n1_;(try clear hb);(try clear hb2);(try clear hk);(try clear hi);(try clear ho0))|((with_reducible refine gate_callee (f := 14) rfl ?_);refine goesL_ (some 13) rfl rfl Try.func14 (by kernel_rfl) rfl #[.int .u64 31,.int .i64 16,.int .i64 15] rfl (by (try simp only [List.map_toArray,List.map_cons,List.map_nil]);first|done|rfl|(simp only [List.length_drop,List.length_take];rfl)) ?_;(with_reducible refine (hyperinvertible_New.calls k 31 16 15 t416 t417 _ A2.out).mono ?_);rintro e w13 ⟨v418,rfl,ho0,hb⟩;refine ⟨_,rfl,?_⟩;have n0_ := am (Kd.N_elder' (rn HO415) (by first|exact Kd.N_base ho0|exact Kd.S_base ho0) hb);have n1_ := am (Kd.N_lower (Kd.N_mono (ok' := fun k_ => some k_ ≠ (v414 : Value).ownBlock) (Kd.S_N (Kd.S_bound ho0)) (fun k_ hk_ => (Kd.fresh' (Kd.N_lt (rn HO415)) k_ hk_.2.1))) (below_size (bb HB)));have n2_ := am (below_step (bb HB) hb);clear HO415 HB;have HO415 := n0_;have HO419 := n1_;have HB := n2_;clear n0_ n1_ n2_;(try clear hb);(try clear hb2);(try clear hk);(try clear hi);(try clear ho0))|((with_reducible refine gate_dst (N := 17) rfl ?_);(try (refine gate_guard (by rfl) ?_;dsimp only));refine Kd.R_lit (Kd.int .u64) _ 22 ?hg (N := 17) ?hd (xs := ([30,2] : List Int)) (inner := [.int .u64 30,.int .u64 2]) (ok := fun _ => True) (okp := fun _ => True) ?hr ?hp (fun _ hk => hk) trivial (Below.refl _ _) (Nat.le_refl _) (by simp) ?_;(case hd => rfl);(case hg => rfl);(case hr => first|(go_simp;done)|(go_simp;rfl));(case hp => exact (Reps.one (show Kd.M (Kd.int .u64) _ _ _ 30 [.int .u64 30] from rfl) (Reps.one (show Kd.M (Kd.int .u64) _ _ _ 2 [.int .u64 2] from rfl) (Reps.none _ _))));intro v421 w14 ho15 hb hg_ hnew_;clear hg_ hnew_;(first|rw [← Ny420.out] at ho15|(simp only [Int.reduceToNat] at ho15;rw [← Ny420.out] at ho15));have n0_ := am (Kd.N_elder' (rn HO415) (Kd.R_base ho15) hb);have n1_ := am (Kd.N_elder' (rn HO419) (Kd.R_base ho15) hb);have n2_ := am (Kd.R_lower ho15 (below_size (bb HB)));have n3_ := am (below_step (bb HB) hb);clear HO415 HO419 HB;have HO415 := n0_;have HO419 := n1_;have HO422 := n2_;have HB := n3_;clear n0_ n1_ n2_ n3_;clear hb ho15;obtain ⟨Ao16,co16,eo16⟩ := Kd.R_slice HO422.out;subst eo16)|((with_reducible refine gate_dst (N := 18) rfl ?_);(try (refine gate_guard (by rfl) ?_;dsimp only));refine Kd.N_lit (Kd.slice 22 (Kd.int .u64)) _ 40 ?hg (N' := 18) ?hd (xs := ([y420] : List (List Int))) (inner := [.slice Ao16 y420.length co16]) (ok := (fun k_ => some k_ ≠ (v414 : Value).ownBlock ∧ some k_ ≠ (v418 : Value).ownBlock)) (okp := (fun k_ => some k_ ≠ (v414 : Value).ownBlock ∧ some k_ ≠ (v418 : Value).ownBlock)) ?hr ?hp (fun _ hk => hk) ((show ∀ k_,w14.heap.size ≤ k_ → (fun k_ => some k_ ≠ (v414 : Value).ownBlock ∧ some k_ ≠ (v418 : Value).ownBlock) k_ from fun k_ hk => ⟨Kd.fresh' (Kd.N_lt (rn HO415)) k_ hk,Kd.fresh' (Kd.N_lt (rn HO419)) k_ hk⟩) _ (Nat.le_refl _)) (Below.refl _ _) (Nat.le_refl _) (by simp) ?_;(case hd => rfl);(case hg => rfl);(case hr => first|(go_simp;done)|(go_simp;rfl));(case hp => exact (Reps.one (show Kd.FK (Kd.slice 22 (Kd.int .u64)) _ _ y420 [.slice Ao16 y420.length co16] from (Kd.FK_slice_mk (Kd.R_reads' (Kd.R_mono (ok' := (fun k_ => some k_ ≠ (v414 : Value).ownBlock ∧ some k_ ≠ (v418 : Value).ownBlock)) (Kd.R_apart' (Kd.R_apart' (HO422.out) (Kd.N_typed HO415.out) (by decide)) (Kd.N_typed HO419.out) (by decide)) (fun k_ hk => ⟨hk.1.2,hk.2⟩))).2.1 (Kd.R_F (Kd.R_mono (ok' := (fun k_ => some k_ ≠ (v414 : Value).ownBlock ∧ some k_ ≠ (v418 : Value).ownBlock)) (Kd.R_apart' (Kd.R_apart' (HO422.out) (Kd.N_typed HO415.out) (by decide)) (Kd.N_typed HO419.out) (by decide)) (fun k_ hk => ⟨hk.1.2,hk.2⟩))))) (Reps.none _ _)));intro v424 w17 ho18 hb hg_ hnew_;clear hg_ hnew_;(first|rw [← Ny423.out] at ho18|(simp only [Int.reduceToNat] at ho18;rw [← Ny423.out] at ho18));have n0_ := am (Kd.N_elder' (rn HO415) (Kd.N_base ho18) hb);have n1_ := am (Kd.N_elder' (rn HO419) (Kd.N_base ho18) hb);have n2_ := am (Kd.N_lower ho18 (below_size (bb HB)));have n3_ := am (below_step (bb HB) hb);clear HO415 HO419 HB HO422;have HO415 := n0_;have HO419 := n1_;have HO425 := n2_;have HB := n3_;clear n0_ n1_ n2_ n3_;clear hb ho18)|((with_reducible refine gate_dst (N := 20) rfl ?_);(try (refine gate_guard (by rfl) ?_;dsimp only));refine Kd.R_lit k56 _ 56 ?hg (N := 20) ?hd (xs := ([(⟨1,5⟩ : S56)] : List (S56))) (inner := [.int .u64 1,.int .u64 5]) (ok := fun _ => True) (okp := fun _ => True) ?hr ?hp (fun _ hk => hk) trivial (Below.refl _ _) (Nat.le_refl _) (by simp) ?_;(case hd => rfl);(case hg => rfl);(case hr => first|(go_simp;done)|(go_simp;rfl));(case hp => exact (Reps.c2 (show Kd.M k56 _ _ _ (⟨1,5⟩ : S56) [.int .u64 1,.int .u64 5] from (k56_mkM _ _ _ (⟨1,5⟩ : S56) )) (Reps.none _ _)));intro v427 w19 ho20 hb hg_ hnew_;clear hg_ hnew_;(first|rw [← Ny426.out] at ho20|(simp only [Int.reduceToNat] at ho20;rw [← Ny426.out] at ho20));have n0_ := am (Kd.N_elder' (rn HO415) (Kd.R_base ho20) hb);have n1_ := am (Kd.N_elder' (rn HO419) (Kd.R_base ho20) hb);have n2_ := am (Kd.N_elder' (rn HO425) (Kd.R_base ho20) hb);have n3_ := am (Kd.R_lower ho20 (below_size (bb HB)));have n4_ := am (below_step (bb HB) hb);clear HO415 HO419 HO425 HB;have HO415 := n0_;have HO419 := n1_;have HO425 := n2_;have HO428 := n3_;have HB := n4_;clear n0_ n1_ n2_ n3_ n4_;clear hb ho20)|((with_reducible refine gate_dst (N := 22) rfl ?_);(try (refine gate_guard (by rfl) ?_;dsimp only));refine Kd.R_lit k56 _ 56 ?hg (N := 22) ?hd (xs := ([(⟨0,7⟩ : S56)] : List (S56))) (inner := [.int .u64 0,.int .u64 7]) (ok := fun _ => True) (okp := fun _ => True) ?hr ?hp (fun _ hk => hk) trivial (Below.refl _ _) (Nat.le_refl _) (by simp) ?_;(case hd => rfl);(case hg => rfl);(case hr => first|(go_simp;done)|(go_simp;rfl));(case hp => exact (Reps.c2 (show Kd.M k56 _ _ _ (⟨0,7⟩ : S56) [.int .u64 0,.int .u64 7] from (k56_mkM _ _ _ (⟨0,7⟩ : S56) )) (Reps.none _ _)));intro v430 w21 ho22 hb hg_ hnew_;clear hg_ hnew_;(first|rw [← Ny429.out] at ho22|(simp only [Int.reduceToNat] at ho22;rw [← Ny429.out] at ho22));have n0_ := am (Kd.N_elder' (rn HO415) (Kd.R_base ho22) hb);have n1_ := am (Kd.N_elder' (rn HO419) (Kd.R_base ho22) hb);have n2_ := am (Kd.N_elder' (rn HO425) (Kd.R_base ho22) hb);have n3_ := am (Kd.R_elder' (rr HO428) (Kd.R_base ho22) hb);have n4_ := am (Kd.R_lower (Kd.R_new' ho22 (Kd.R_lt (rr HO428))) (below_size (bb HB)));have n5_ := am (below_step (bb HB) hb);clear HO415 HO419 HO425 HO428 HB;have HO415 := n0_;have HO419 := n1_;have HO425 := n2_;have HO428 := n3_;have HO431 := n4_;have HB := n5_;clear n0_ n1_ n2_ n3_ n4_ n5_;clear hb ho22;obtain ⟨Ao23,co23,eo23⟩ := Kd.N_slice HO425.out;subst eo23;obtain ⟨Ao24,co24,eo24⟩ := Kd.R_slice HO428.out;subst eo24;obtain ⟨Ao25,co25,eo25⟩ := Kd.R_slice HO431.out;subst eo25)|((with_reducible refine gate_callee (f := 22) rfl ?_);refine goesL_ (some 23) rfl rfl Try.func22 (by kernel_rfl) rfl #[.int .u64 31,.slice Ao23 y423.length co23,.slice Ao24 y426.length co24,.slice Ao25 y429.length co25] rfl (by (try simp only [List.map_toArray,List.map_cons,List.map_nil]);first|done|rfl|(simp only [List.length_drop,List.length_take];rfl)) ?_;(with_reducible refine (hyperinvertible_Complete.calls 31 _ _ y423 _ _ y426 _ _ y429 t432 t433 t434 _ ?side1 ?side2 ?side3 ?side4 ?side5 ?side6 A3.out).mono ?_);(case side1 => repeat (first|exact (Kd.N_reads' HO425.out).2.2|(with_reducible refine Kd.C_alloc ?_ _)|(with_reducible refine Kd.C_drewN ?_ _)|(with_reducible refine Kd.C_drew ?_)));(case side2 => exact (Kd.N_reads' HO425.out).2.1);(case side3 => exact cr HO428);(case side4 => exact (Kd.R_reads' HO428.out).2.1);(case side5 => exact cr HO431);(case side6 => exact (Kd.R_reads' HO431.out).2.1);rintro e w26 ⟨v435,v437,rfl,ho0,ho1,hb⟩;refine ⟨_,rfl,?_⟩;have n0_ := am (Kd.N_mono (Kd.N_told (Kd.N_told (Kd.N_old (rn HO415) hb) (Kd.R_base ho0)) (Kd.R_base ho1)) (fun _ h_ => h_.1));have n1_ := am (Kd.N_mono (Kd.N_told (Kd.N_told (Kd.N_old (rn HO419) hb) (Kd.R_base ho0)) (Kd.R_base ho1)) (fun _ h_ => h_.1));have n2_ := am (Kd.N_mono (Kd.N_told (Kd.N_told (Kd.N_old (rn HO425) hb) (Kd.R_base ho0)) (Kd.R_base ho1)) (fun _ h_ => h_.1));have n3_ := am (Kd.R_below (rr HO428) hb);have n4_ := am (Kd.R_below (rr HO431) hb);have n5_ := am (Kd.R_lower ho0 (below_size (bb HB)));have n6_ := am (Kd.R_lower ho1 (below_size (bb HB)));have n7_ := am (below_step (bb HB) hb);clear HO415 HO419 HO425 HO428 HO431 HB;have HO415 := n0_;have HO419 := n1_;have HO425 := n2_;have HO428 := n3_;have HO431 := n4_;have HO436 := n5_;have HO438 := n6_;have HB := n7_;clear n0_ n1_ n2_ n3_ n4_ n5_ n6_ n7_;(try clear hb);(try clear hb2);(try clear hk);(try clear hi);(try clear ho0);(try clear ho1))|((with_reducible refine gate_dst (N := 31) rfl ?_);(try (refine gate_guard (by rfl) ?_;dsimp only));refine Kd.R_lit (Kd.int .u64) _ 22 ?hg (N := 31) ?hd (xs := ([30,2] : List Int)) (inner := [.int .u64 30,.int .u64 2]) (ok := fun _ => True) (okp := fun _ => True) ?hr ?hp (fun _ hk => hk) trivial (Below.refl _ _) (Nat.le_refl _) (by simp) ?_;(case hd => rfl);(case hg => rfl);(case hr => first|(go_simp;done)|(go_simp;rfl));(case hp => exact (Reps.one (show Kd.M (Kd.int .u64) _ _ _ 30 [.int .u64 30] from rfl) (Reps.one (show Kd.M (Kd.int .u64) _ _ _ 2 [.int .u64 2] from rfl) (Reps.none _ _))));intro v440 w27 ho28 hb hg_ hnew_;clear hg_ hnew_;(first|rw [← Ny439.out] at ho28|(simp only [Int.reduceToNat] at ho28;rw [← Ny439.out] at ho28));have n0_ := am (Kd.N_elder' (rn HO415) (Kd.R_base ho28) hb);have n1_ := am (Kd.N_elder' (rn HO419) (Kd.R_base ho28) hb);have n2_ := am (Kd.N_elder' (rn HO425) (Kd.R_base ho28) hb);have n3_ := am (Kd.R_below (rr HO428) hb);have n4_ := am (Kd.R_below (rr HO431) hb);have n5_ := am (Kd.R_elder' (rr HO436) (Kd.R_base ho28) hb);have n6_ := am (Kd.R_elder' (rr HO438) (Kd.R_base ho28) hb);have n7_ := am (Kd.R_lower (Kd.R_new' (Kd.R_new' ho28 (Kd.R_lt (rr HO436))) (Kd.R_lt (rr HO438))) (below_size (bb HB)));have n8_ := am (below_step (bb HB) hb);clear HO415 HO419 HO425 HO428 HO431 HO436 HO438 HB;have HO415 := n0_;have HO419 := n1_;have HO425 := n2_;have HO428 := n3_;have HO431 := n4_;have HO436 := n5_;have HO438 := n6_;have HO441 := n7_;have HB := n8_;clear n0_ n1_ n2_ n3_ n4_ n5_ n6_ n7_ n8_;clear hb ho28;obtain ⟨Ao29,co29,eo29⟩ := Kd.R_slice HO441.out;subst eo29)|((with_reducible refine gate_dst (N := 32) rfl ?_);(try (refine gate_guard (by rfl) ?_;dsimp only));refine Kd.N_lit (Kd.slice 22 (Kd.int .u64)) _ 40 ?hg (N' := 32) ?hd (xs := ([y439] : List (List Int))) (inner := [.slice Ao29 y439.length co29]) (ok := (fun k_ => some k_ ≠ (v414 : Value).ownBlock ∧ some k_ ≠ (v418 : Value).ownBlock ∧ some k_ ≠ (.slice Ao23 y423.length co23 : Value).ownBlock ∧ some k_ ≠ (.slice Ao24 y426.length co24 : Value).ownBlock ∧ some k_ ≠ (.slice Ao25 y429.length co25 : Value).ownBlock ∧ some k_ ≠ (v435 : Value).ownBlock ∧ some k_ ≠ (v437 : Value).ownBlock)) (okp := (fun k_ => some k_ ≠ (v414 : Value).ownBlock ∧ some k_ ≠ (v418 : Value).ownBlock ∧ some k_ ≠ (.slice Ao23 y423.length co23 : Value).ownBlock ∧ some k_ ≠ (.slice Ao24 y426.length co24 : Value).ownBlock ∧ some k_ ≠ (.slice Ao25 y429.length co25 : Value).ownBlock ∧ some k_ ≠ (v435 : Value).ownBlock ∧ some k_ ≠ (v437 : Value).ownBlock)) ?hr ?hp (fun _ hk => hk) ((show ∀ k_,w27.heap.size ≤ k_ → (fun k_ => some k_ ≠ (v414 : Value).ownBlock ∧ some k_ ≠ (v418 : Value).ownBlock ∧ some k_ ≠ (.slice Ao23 y423.length co23 : Value).ownBlock ∧ some k_ ≠ (.slice Ao24 y426.length co24 : Value).ownBlock ∧ some k_ ≠ (.slice Ao25 y429.length co25 : Value).ownBlock ∧ some k_ ≠ (v435 : Value).ownBlock ∧ some k_ ≠ (v437 : Value).ownBlock) k_ from fun k_ hk => ⟨Kd.fresh' (Kd.N_lt (rn HO415)) k_ hk,Kd.fresh' (Kd.N_lt (rn HO419)) k_ hk,Kd.fresh' (Kd.N_lt (rn HO425)) k_ hk,Kd.fresh' (Kd.R_lt (rr HO428)) k_ hk,Kd.fresh' (Kd.R_lt (rr HO431)) k_ hk,Kd.fresh' (Kd.R_lt (rr HO436)) k_ hk,Kd.fresh' (Kd.R_lt (rr HO438)) k_ hk⟩) _ (Nat.le_refl _)) (Below.refl _ _) (Nat.le_refl _) (by simp) ?_;(case hd => rfl);(case hg => rfl);(case hr => first|(go_simp;done)|(go_simp;rfl));(case hp => exact (Reps.one (show Kd.FK (Kd.slice 22 (Kd.int .u64)) _ _ y439 [.slice Ao29 y439.length co29] from (Kd.FK_slice_mk (Kd.R_reads' (Kd.R_mono (ok' := (fun k_ => some k_ ≠ (v414 : Value).ownBlock ∧ some k_ ≠ (v418 : Value).ownBlock ∧ some k_ ≠ (.slice Ao23 y423.length co23 : Value).ownBlock ∧ some k_ ≠ (.slice Ao24 y426.length co24 : Value).ownBlock ∧ some k_ ≠ (.slice Ao25 y429.length co25 : Value).ownBlock ∧ some k_ ≠ (v435 : Value).ownBlock ∧ some k_ ≠ (v437 : Value).ownBlock)) (Kd.R_apart' (Kd.R_apart' (Kd.R_apart' (Kd.R_apart' (Kd.R_apart' (HO441.out) (Kd.N_typed HO415.out) (by decide)) (Kd.N_typed HO419.out) (by decide)) (Kd.N_typed HO425.out) (by decide)) (Kd.R_typed HO428.out) (by decide)) (Kd.R_typed HO431.out) (by decide)) (fun k_ hk => ⟨hk.1.1.1.1.2,⟨hk.1.1.1.2,⟨hk.1.1.2,⟨hk.1.2,⟨hk.2,⟨hk.1.1.1.1.1.1.2,hk.1.1.1.1.1.2⟩⟩⟩⟩⟩⟩))).2.1 (Kd.R_F (Kd.R_mono (ok' := (fun k_ => some k_ ≠ (v414 : Value).ownBlock ∧ some k_ ≠ (v418 : Value).ownBlock ∧ some k_ ≠ (.slice Ao23 y423.length co23 : Value).ownBlock ∧ some k_ ≠ (.slice Ao24 y426.length co24 : Value).ownBlock ∧ some k_ ≠ (.slice Ao25 y429.length co25 : Value).ownBlock ∧ some k_ ≠ (v435 : Value).ownBlock ∧ some k_ ≠ (v437 : Value).ownBlock)) (Kd.R_apart' (Kd.R_apart' (Kd.R_apart' (Kd.R_apart' (Kd.R_apart' (HO441.out) (Kd.N_typed HO415.out) (by decide)) (Kd.N_typed HO419.out) (by decide)) (Kd.N_typed HO425.out) (by decide)) (Kd.R_typed HO428.out) (by decide)) (Kd.R_typed HO431.out) (by decide)) (fun k_ hk => ⟨hk.1.1.1.1.2,⟨hk.1.1.1.2,⟨hk.1.1.2,⟨hk.1.2,⟨hk.2,⟨hk.1.1.1.1.1.1.2,hk.1.1.1.1.1.2⟩⟩⟩⟩⟩⟩))))) (Reps.none _ _)));intro v443 w30 ho31 hb hg_ hnew_;clear hg_ hnew_;(first|rw [← Ny442.out] at ho31|(simp only [Int.reduceToNat] at ho31;rw [← Ny442.out] at ho31));have n0_ := am (Kd.N_elder' (rn HO415) (Kd.N_base ho31) hb);have n1_ := am (Kd.N_elder' (rn HO419) (Kd.N_base ho31) hb);have n2_ := am (Kd.N_elder' (rn HO425) (Kd.N_base ho31) hb);have n3_ := am (Kd.R_below (rr HO428) hb);have n4_ := am (Kd.R_below (rr HO431) hb);have n5_ := am (Kd.R_below (rr HO436) hb);have n6_ := am (Kd.R_below (rr HO438) hb);have n7_ := am (Kd.N_lower ho31 (below_size (bb HB)));have n8_ := am (below_step (bb HB) hb);clear HO415 HO419 HO425 HO428 HO431 HO436 HO438 HB HO441;have HO415 := n0_;have HO419 := n1_;have HO425 := n2_;have HO428 := n3_;have HO431 := n4_;have HO436 := n5_;have HO438 := n6_;have HO444 := n7_;have HB := n8_;clear n0_ n1_ n2_ n3_ n4_ n5_ n6_ n7_ n8_;clear hb ho31;obtain ⟨Ao32,co32,eo32⟩ := Kd.N_slice HO415.out;subst eo32;obtain ⟨Ao33,co33,eo33⟩ := Kd.N_slice HO444.out;subst eo33)|(go_at_call 16;(with_reducible refine (privityref05_SameRows.calls k _ _ t412 _ _ y442 true _ ?side1 ?side2 ?side3 ?side4 A5.out).mono ?_);(case side1 => repeat (first|exact (Kd.N_reads' HO415.out).2.2|(with_reducible refine Kd.C_alloc ?_ _)|(with_reducible refine Kd.C_drewN ?_ _)|(with_reducible refine Kd.C_drew ?_)));(case side2 => exact (Kd.N_reads' HO415.out).2.1);(case side3 => repeat (first|exact (Kd.N_reads' HO444.out).2.2|(with_reducible refine Kd.C_alloc ?_ _)|(with_reducible refine Kd.C_drewN ?_ _)|(with_reducible refine Kd.C_drew ?_)));(case side4 => exact (Kd.N_reads' HO444.out).2.1);rintro e w' ⟨rfl,⟨nd,rfl⟩⟩)|((with_reducible refine gate_dst (N := 45) rfl ?_);(try (refine gate_guard (by rfl) ?_;dsimp only));refine Kd.R_lit (Kd.int .u64) _ 22 ?hg (N := 45) ?hd (xs := ([3,5] : List Int)) (inner := [.int .u64 3,.int .u64 5]) (ok := fun _ => True) (okp := fun _ => True) ?hr ?hp (fun _ hk => hk) trivial (Below.refl _ _) (Nat.le_refl _) (by simp) ?_;(case hd => rfl);(case hg => rfl);(case hr => first|(go_simp;done)|(go_simp;rfl));(case hp => exact (Reps.one (show Kd.M (Kd.int .u64) _ _ _ 3 [.int .u64 3] from rfl) (Reps.one (show Kd.M (Kd.int .u64) _ _ _ 5 [.int .u64 5] from rfl) (Reps.none _ _))));intro v447 w34 ho35 hb hg_ hnew_;clear hg_ hnew_;(first|rw [← Ny446.out] at ho35|(simp only [Int.reduceToNat] at ho35;rw [← Ny446.out] at ho35));have n0_ := am (Kd.N_elder' (rn HO415) (Kd.R_base ho35) hb);have n1_ := am (Kd.N_elder' (rn HO419) (Kd.R_base ho35) hb);have n2_ := am (Kd.N_elder' (rn HO425) (Kd.R_base ho35) hb);have n3_ := am (Kd.R_below (rr HO428) hb);have n4_ := am (Kd.R_below (rr HO431) hb);have n5_ := am (Kd.R_elder' (rr HO436) (Kd.R_base ho35) hb);have n6_ := am (Kd.R_elder' (rr HO438) (Kd.R_base ho35) hb);have n7_ := am (Kd.N_elder' (rn HO444) (Kd.R_base ho35) hb);have n8_ := am (Kd.R_lower (Kd.R_new' (Kd.R_new' ho35 (Kd.R_lt (rr HO436))) (Kd.R_lt (rr HO438))) (below_size (bb HB)));have n9_ := am (below_step (bb HB) hb);clear HO415 HO419 HO425 HO428 HO431 HO436 HO438 HO444 HB;have HO415 := n0_;have HO419 := n1_;have HO425 := n2_;have HO428 := n3_;have HO431 := n4_;have HO436 := n5_;have HO438 := n6_;have HO444 := n7_;have HO448 := n8_;have HB := n9_;clear n0_ n1_ n2_ n3_ n4_ n5_ n6_ n7_ n8_ n9_;clear hb ho35;obtain ⟨Ao36,co36,eo36⟩ := Kd.R_slice HO436.out;subst eo36;obtain ⟨Ao37,co37,eo37⟩ := Kd.R_slice HO448.out;subst eo37)|(go_at_call 24;(with_reducible refine (privityref05_Same.calls k _ _ t432 _ _ y446 true _ ?side1 ?side2 ?side3 ?side4 A9.out).mono ?_);(case side1 => exact cr HO436);(case side2 => exact (Kd.R_reads' HO436.out).2.1);(case side3 => exact cr HO448);(case side4 => exact (Kd.R_reads' HO448.out).2.1);rintro e w' ⟨rfl,⟨nd,rfl⟩⟩)|((with_reducible refine gate_dst (N := 50) rfl ?_);(try (refine gate_guard (by rfl) ?_;dsimp only));refine Kd.R_lit (Kd.int .u64) _ 22 ?hg (N := 50) ?hd (xs := ([7] : List Int)) (inner := [.int .u64 7]) (ok := fun _ => True) (okp := fun _ => True) ?hr ?hp (fun _ hk => hk) trivial (Below.refl _ _) (Nat.le_refl _) (by simp) ?_;(case hd => rfl);(case hg => rfl);(case hr => first|(go_simp;done)|(go_simp;rfl));(case hp => exact (Reps.one (show Kd.M (Kd.int .u64) _ _ _ 7 [.int .u64 7] from rfl) (Reps.none _ _)));intro v451 w38 ho39 hb hg_ hnew_;clear hg_ hnew_;(first|rw [← Ny450.out] at ho39|(simp only [Int.reduceToNat] at ho39;rw [← Ny450.out] at ho39));have n0_ := am (Kd.N_elder' (rn HO415) (Kd.R_base ho39) hb);have n1_ := am (Kd.N_elder' (rn HO419) (Kd.R_base ho39) hb);have n2_ := am (Kd.N_elder' (rn HO425) (Kd.R_base ho39) hb);have n3_ := am (Kd.R_below (rr HO428) hb);have n4_ := am (Kd.R_below (rr HO431) hb);have n5_ := am (Kd.R_elder' (rr HO436) (Kd.R_base ho39) hb);have n6_ := am (Kd.R_elder' (rr HO438) (Kd.R_base ho39) hb);have n7_ := am (Kd.N_elder' (rn HO444) (Kd.R_base ho39) hb);have n8_ := am (Kd.R_elder' (rr HO448) (Kd.R_base ho39) hb);have n9_ := am (Kd.R_lower (Kd.R_new' (Kd.R_new' (Kd.R_new' ho39 (Kd.R_lt (rr HO436))) (Kd.R_lt (rr HO438))) (Kd.R_lt (rr HO448))) (below_size (bb HB)));have n10_ := am (below_step (bb HB) hb);clear HO415 HO419 HO425 HO428 HO431 HO436 HO438 HO444 HO448 HB;have HO415 := n0_;have HO419 := n1_;have HO425 := n2_;have HO428 := n3_;have HO431 := n4_;have HO436 := n5_;have HO438 := n6_;have HO444 := n7_;have HO448 := n8_;have HO452 := n9_;have HB := n10_;clear n0_ n1_ n2_ n3_ n4_ n5_ n6_ n7_ n8_ n9_ n10_;clear hb ho39;obtain ⟨Ao40,co40,eo40⟩ := Kd.R_slice HO438.out;subst eo40;obtain ⟨Ao41,co41,eo41⟩ := Kd.R_slice HO452.out;subst eo41)|(go_at_call 24;(with_reducible refine (privityref05_Same.calls k _ _ t433 _ _ y450 t453 _ ?side1 ?side2 ?side3 ?side4 A11.out).mono ?_);(case side1 => exact cr HO438);(case side2 => exact (Kd.R_reads' HO438.out).2.1);(case side3 => exact cr HO452);(case side4 => exact (Kd.R_reads' HO452.out).2.1);rintro e w' ⟨rfl,⟨nd,rfl⟩⟩))
      go_ret
      exact ⟨by first|rfl|(simp [errW_none,errW_some] <;> rfl)|(simp [*,errW_none,errW_some] <;> rfl),bb HB⟩
     ·replace c10 := Bool.eq_false_iff.mpr c10
      subst c10
      rw [if_neg (show ¬ (false = true) by decide)] at H
      exact absurd (Option.some.inj H) (by rw [HR1.out];simp)
    ·rw [if_neg c8] at H
     have c8b0 : (t434 == 0) = false := beq_eq_false_iff_ne.mpr c8
     have c8b1 : (t434 != 0) = true := bne_iff_ne.mpr c8
     exact absurd (Option.some.inj H) (by rw [HR1.out];simp)
   ·rw [if_neg c7] at H
    have c7b0 : (t417 == 2) = false := beq_eq_false_iff_ne.mpr c7
    have c7b1 : (t417 != 2) = true := bne_iff_ne.mpr c7
    exact absurd (Option.some.inj H) (by rw [HR1.out];simp)
  ·replace c6 := Bool.eq_false_iff.mpr c6
   subst c6
   rw [if_neg (show ¬ (false = true) by decide)] at H
   exact absurd (Option.some.inj H) (by rw [HR1.out];simp)
 ·rw [if_neg c4] at H
  have c4b0 : (t413 == 0) = false := beq_eq_false_iff_ne.mpr c4
  have c4b1 : (t413 != 0) = true := bne_iff_ne.mpr c4
  exact absurd (Option.some.inj H) (by rw [HR1.out];simp)
def privityref07_Below.l0 : Nat → Int → List (List Int) → Int → Option (Bool)
 | 0,_,_,_ => none
 | k + 1,x0,x1,x5 => if x5 < (x1.length : Int) then (if 0 ≤ x5 then ((privityref05_Below.f k x0 (rd_L2 x1 x5)).bind fun t466 => (if t466 = true then (privityref07_Below.l0 k x0 x1 (wrap64 (x5 + 1))) else (some false))) else (none)) else (some true)
def privityref07_Below.f (k : Nat) (a0 : Int) (l1 : List (List Int)) : Option (Bool) := privityref07_Below.l0 k a0 l1 0
set_option maxHeartbeats 8000000 in
set_option maxRecDepth 100000 in
theorem privityref07_Below.calls (k : Nat) (a0 : Int) (A1 : Option Addr) (c1 : Nat) (l1 : List (List Int)) (r : Bool) (w : World) (hr1 : Kd.C (Kd.slice 22 (Kd.int .u64)) w A1 l1.length l1) (hc1 : l1.length ≤ c1) (h : privityref07_Below.f k a0 l1 = some r) :
  Calls Try.prog 20 #[.int .u64 a0,.slice A1 l1.length c1] w fun e w' => e = .returned (.bool r) ∧ Drawn0 w w' := by
 have HR1 := am hr1
 have HC1 := am hc1
 clear hr1 hc1
 have H : (privityref07_Below.l0 k a0 l1 0) = some r := h
 clear h
 have H' := am H
 clear H
 go_enter Try.func20,Try.ntmps20
 go_wp2
 go_loopg [5] k (fun kq v5 w' => ∃ (x5_1 : Int),v5 = .int .i64 x5_1 ∧ Aside0 (privityref07_Below.l0 kq a0 l1 x5_1 = some r) ∧ Aside0 (kq ≤ k) ∧ Drawn0 w w')
 case atStart => exact ⟨(0),(by first|rfl|(simp;done)|(simp [*];done)),H',⟨Nat.le_refl _⟩,by repeat (first|exact Drawn0.refl _|apply Drawn0.step)⟩
 case round =>
  clear H'
  try clear c1
  try clear c2
  try clear p2
  obtain ⟨x5_1,rfl,HA,HK1,⟨m1,rfl⟩⟩ := hrel
  cases gk with
  | zero => exact absurd HA.out (by simp [privityref07_Below.l0])
  | succ k1 =>
   have H := HA.out
   clear HA
   simp only [privityref07_Below.l0] at H
   by_cases c3 : x5_1 < (l1.length : Int)
   ·rw [if_pos c3] at H
    have c3b0 : decide (x5_1 < (l1.length : Int)) = true := decide_eq_true c3
    clear c3
    by_cases c4 : 0 ≤ x5_1
    ·rw [if_pos c4] at H
     have c4b0 : decide (0 ≤ x5_1) = true := decide_eq_true c4
     clear c4
     replace H := Option.bind_eq_some_iff.mp H
     obtain ⟨t466,A50,H⟩ := H
     try dsimp only at H
     have A5 := am A50
     clear A50
     by_cases c6 : t466 = true
     ·subst c6
      rw [if_pos rfl] at H
      have H' := am H
      clear H
      have p465 : 0 ≤ (x5_1 : Int) := od
      have q465 : x5_1 < (l1.length : Int) := od
      obtain ⟨ad465,A465_0,c465_0,e465,hx465_0,hl465_0,hi465_0⟩ := at_L2 HR1.out x5_1 p465 q465
      cases e465
      have HR465_0 := am hi465_0
      have HC465_0 := am hl465_0
      clear hi465_0 hl465_0
      replace p465 := eq_true p465
      replace q465 := eq_true q465
      go_wp2_with (first|((with_reducible refine gate_callee (f := 25) rfl ?_);refine goesL_ (some 17) rfl rfl Try.func25 (by kernel_rfl) rfl #[.int .u64 a0,.slice A465_0 (rd_L2 l1 x5_1).length c465_0] rfl (by (try simp only [List.map_toArray,List.map_cons,List.map_nil]);first|done|rfl|(simp only [List.length_drop,List.length_take];rfl)) ?_;(with_reducible refine (privityref05_Below.calls k1 a0 _ _ (rd_L2 l1 x5_1) true _ ?side1 ?side2 A5.out).mono ?_);(case side1 => repeat (first|exact HR465_0.out|(with_reducible refine Kd.C_alloc ?_ _)|(with_reducible refine Kd.C_drewN ?_ _)|(with_reducible refine Kd.C_drew ?_)));(case side2 => exact HC465_0.out);rintro e w' ⟨rfl,⟨nd,rfl⟩⟩;refine ⟨_,rfl,?_⟩))
      go_roundg k1
      case measure => have := HK1.out;omega
      case rel => exact ⟨(wrap64 (x5_1 + 1)),(by first|rfl|(simp;done)|(simp [*];done)),H',⟨by have := HK1.out;omega⟩,by repeat (first|exact Drawn0.refl _|apply Drawn0.step)⟩
     ·replace c6 := Bool.eq_false_iff.mpr c6
      subst c6
      rw [if_neg (show ¬ (false = true) by decide)] at H
      obtain rfl := Option.some.inj H
      have p465 : 0 ≤ (x5_1 : Int) := od
      have q465 : x5_1 < (l1.length : Int) := od
      obtain ⟨ad465,A465_0,c465_0,e465,hx465_0,hl465_0,hi465_0⟩ := at_L2 HR1.out x5_1 p465 q465
      cases e465
      have HR465_0 := am hi465_0
      have HC465_0 := am hl465_0
      clear hi465_0 hl465_0
      replace p465 := eq_true p465
      replace q465 := eq_true q465
      go_wp2_with (first|((with_reducible refine gate_callee (f := 25) rfl ?_);refine goesL_ (some 17) rfl rfl Try.func25 (by kernel_rfl) rfl #[.int .u64 a0,.slice A465_0 (rd_L2 l1 x5_1).length c465_0] rfl (by (try simp only [List.map_toArray,List.map_cons,List.map_nil]);first|done|rfl|(simp only [List.length_drop,List.length_take];rfl)) ?_;(with_reducible refine (privityref05_Below.calls k1 a0 _ _ (rd_L2 l1 x5_1) false _ ?side1 ?side2 A5.out).mono ?_);(case side1 => repeat (first|exact HR465_0.out|(with_reducible refine Kd.C_alloc ?_ _)|(with_reducible refine Kd.C_drewN ?_ _)|(with_reducible refine Kd.C_drew ?_)));(case side2 => exact HC465_0.out);rintro e w' ⟨rfl,⟨nd,rfl⟩⟩;refine ⟨_,rfl,?_⟩))
      go_ret
      exact ⟨by first|rfl|(simp;done)|(simp [*];done),by repeat (first|exact Drawn0.refl _|apply Drawn0.step)⟩
    ·rw [if_neg c4] at H
     exact absurd H (by simp)
   ·rw [if_neg c3] at H
    have c3b0 : decide (x5_1 < (l1.length : Int)) = false := decide_eq_false c3
    clear c3
    obtain rfl := Option.some.inj H
    go_wp2
    go_ret
    exact ⟨by first|rfl|(simp;done)|(simp [*];done),by repeat (first|exact Drawn0.refl _|apply Drawn0.step)⟩
def privitylaw07_below.l0 : Nat → Int → List (S56) → Int → Option (Bool)
 | 0,_,_,_ => none
 | k + 1,x0,x1,x5 => if x5 < (x1.length : Int) then (if 0 ≤ x5 then (if ((rd_T56 x1 x5).f1) ≥ x0 then (some false) else (privitylaw07_below.l0 k x0 x1 (wrap64 (x5 + 1)))) else (none)) else (some true)
def privitylaw07_below.f (k : Nat) (a0 : Int) (l1 : List (S56)) : Option (Bool) := privitylaw07_below.l0 k a0 l1 0
set_option maxHeartbeats 8000000 in
set_option maxRecDepth 100000 in
theorem privitylaw07_below.calls (k : Nat) (a0 : Int) (A1 : Option Addr) (c1 : Nat) (l1 : List (S56)) (r : Bool) (w : World) (hr1 : Kd.C k56 w A1 l1.length l1) (hc1 : l1.length ≤ c1) (h : privitylaw07_below.f k a0 l1 = some r) :
  Calls Try.prog 21 #[.int .u64 a0,.slice A1 l1.length c1] w fun e w' => e = .returned (.bool r) ∧ Drawn0 w w' := by
 have HR1 := am hr1
 have HC1 := am hc1
 clear hr1 hc1
 have H : (privitylaw07_below.l0 k a0 l1 0) = some r := h
 clear h
 have H' := am H
 clear H
 go_enter Try.func21,Try.ntmps21
 go_wp2
 go_loopg [5] k (fun kq v5 w' => ∃ (x5_1 : Int),v5 = .int .i64 x5_1 ∧ Aside0 (privitylaw07_below.l0 kq a0 l1 x5_1 = some r) ∧ Aside0 (kq ≤ k) ∧ Drawn0 w w')
 case atStart => exact ⟨(0),(by first|rfl|(simp;done)|(simp [*];done)),H',⟨Nat.le_refl _⟩,by repeat (first|exact Drawn0.refl _|apply Drawn0.step)⟩
 case round =>
  clear H'
  try clear c1
  try clear c2
  try clear p2
  obtain ⟨x5_1,rfl,HA,HK1,⟨m1,rfl⟩⟩ := hrel
  cases gk with
  | zero => exact absurd HA.out (by simp [privitylaw07_below.l0])
  | succ k1 =>
   have H := HA.out
   clear HA
   simp only [privitylaw07_below.l0] at H
   by_cases c3 : x5_1 < (l1.length : Int)
   ·rw [if_pos c3] at H
    have c3b0 : decide (x5_1 < (l1.length : Int)) = true := decide_eq_true c3
    clear c3
    by_cases c4 : 0 ≤ x5_1
    ·rw [if_pos c4] at H
     have c4b0 : decide (0 ≤ x5_1) = true := decide_eq_true c4
     clear c4
     by_cases c5 : ((rd_T56 l1 x5_1).f1) ≥ a0
     ·rw [if_pos c5] at H
      have c5b0 : decide (a0 ≤ ((rd_T56 l1 x5_1).f1)) = true := decide_eq_true c5
      clear c5
      obtain rfl := Option.some.inj H
      have p467 : 0 ≤ (x5_1 : Int) := od
      have q467 : x5_1 < (l1.length : Int) := od
      obtain ⟨ad467,e467,hx467_0,hx467_1⟩ := at_T56 HR1.out x5_1 p467 q467
      cases e467
      replace p467 := eq_true p467
      replace q467 := eq_true q467
      go_wp2
      go_ret
      exact ⟨by first|rfl|(simp;done)|(simp [*];done),by repeat (first|exact Drawn0.refl _|apply Drawn0.step)⟩
     ·rw [if_neg c5] at H
      have c5b0 : decide (a0 ≤ ((rd_T56 l1 x5_1).f1)) = false := decide_eq_false c5
      clear c5
      have H' := am H
      clear H
      have p467 : 0 ≤ (x5_1 : Int) := od
      have q467 : x5_1 < (l1.length : Int) := od
      obtain ⟨ad467,e467,hx467_0,hx467_1⟩ := at_T56 HR1.out x5_1 p467 q467
      cases e467
      replace p467 := eq_true p467
      replace q467 := eq_true q467
      go_wp2
      go_roundg k1
      case measure => have := HK1.out;omega
      case rel => exact ⟨(wrap64 (x5_1 + 1)),(by first|rfl|(simp;done)|(simp [*];done)),H',⟨by have := HK1.out;omega⟩,by repeat (first|exact Drawn0.refl _|apply Drawn0.step)⟩
    ·rw [if_neg c4] at H
     exact absurd H (by simp)
   ·rw [if_neg c3] at H
    have c3b0 : decide (x5_1 < (l1.length : Int)) = false := decide_eq_false c3
    clear c3
    obtain rfl := Option.some.inj H
    go_wp2
    go_ret
    exact ⟨by first|rfl|(simp;done)|(simp [*];done),by repeat (first|exact Drawn0.refl _|apply Drawn0.step)⟩
mutual
def privityref07_Even.j0 : Nat → List (List Int) → Bool → Option (Bool)
 | 0,_,_ => none
 | k + 1,x0,x13 => if x13 = true then (some false) else (privityref07_Even.l0 k x0 0)
def privityref07_Even.l0 : Nat → List (List Int) → Int → Option (Bool)
 | 0,_,_ => none
 | k + 1,x0,x3 => if x3 < (x0.length : Int) then (if 0 ≤ x3 then (if 0 < (x0.length : Int) then (if ((rd_L2 x0 x3).length : Int) = ((rd_L2 x0 0).length : Int) then (privityref07_Even.l0 k x0 (wrap64 (x3 + 1))) else (some false)) else (none)) else (none)) else (some true)
end
def privityref07_Even.f (k : Nat) (l0 : List (List Int)) : Option (Bool) := if (l0.length : Int) = 0 then (privityref07_Even.j0 k l0 true) else (if 0 < (l0.length : Int) then (privityref07_Even.j0 k l0 (((rd_L2 l0 0).length : Int) == 0)) else (none))
set_option maxHeartbeats 8000000 in
set_option maxRecDepth 100000 in
theorem privityref07_Even.calls (k : Nat) (A0 : Option Addr) (c0 : Nat) (l0 : List (List Int)) (r : Bool) (w : World) (hr0 : Kd.C (Kd.slice 22 (Kd.int .u64)) w A0 l0.length l0) (hc0 : l0.length ≤ c0) (h : privityref07_Even.f k l0 = some r) :
  Calls Try.prog 46 #[.slice A0 l0.length c0] w fun e w' => e = .returned (.bool r) ∧ Drawn0 w w' := by
 have HR0 := am hr0
 have HC0 := am hc0
 clear hr0 hc0
 have H : (if (l0.length : Int) = 0 then (privityref07_Even.j0 k l0 true) else (if 0 < (l0.length : Int) then (privityref07_Even.j0 k l0 (((rd_L2 l0 0).length : Int) == 0)) else (none))) = some r := h
 clear h
 have HC2 := am H
 clear H
 go_enter Try.func46,Try.ntmps46
 go_upto_region 1 with (fail)
 repeat (go_quiet (fail);go_upto_region 1 with (fail))
 go_cut [13] (fun v13 wc => ∃ (kq : Nat) (x13_1 : Bool),v13 = .bool x13_1 ∧ Aside0 (privityref07_Even.j0 kq l0 x13_1 = some r) ∧ Aside0 (kq ≤ k) ∧ Drawn0 w wc)
 case first =>
  have H := HC2.out
  clear HC2
  by_cases c3 : (l0.length : Int) = 0
  ·rw [if_pos c3] at H
   have c3b0 : ((l0.length : Int) == 0) = true := beq_iff_eq.mpr c3
   have c3b1 : ((l0.length : Int) != 0) = false := bne_eq_false_iff_eq.mpr c3
   clear c3
   (first|rw [c3b0]|(simp only [i64_w,i32_w];rw [c3b0])|skip)
   have H' := am H
   clear H
   go_wp2
   repeat (go_quiet (fail);try go_wp2)
   go_meet
   case rel => exact ⟨_,(true),(by first|rfl|(simp;done)|(simp [*];done)),H',⟨by first|omega|exact Nat.le_refl _⟩,by repeat (first|exact Drawn0.refl _|apply Drawn0.step)⟩
  ·rw [if_neg c3] at H
   have c3b0 : ((l0.length : Int) == 0) = false := beq_eq_false_iff_ne.mpr c3
   have c3b1 : ((l0.length : Int) != 0) = true := bne_iff_ne.mpr c3
   have c3b2 : ¬ (l0 = []) := fun h_ => c3 (by rw [h_];rfl)
   (first|rw [c3b0]|(simp only [i64_w,i32_w];rw [c3b0])|skip)
   by_cases c4 : 0 < (l0.length : Int)
   ·rw [if_pos c4] at H
    have c4b0 : decide (0 < (l0.length : Int)) = true := decide_eq_true c4
    have c4b1 : decide (0 < l0.length) = true := decide_eq_true (by omega)
    clear c4
    have H' := am H
    clear H
    have p484 : 0 ≤ (0 : Int) := (by omega)
    have q484 : 0 < (l0.length : Int) := od
    obtain ⟨ad484,A484_0,c484_0,e484,hx484_0,hl484_0,hi484_0⟩ := at_L2 HR0.out 0 p484 q484
    cases e484
    have qi484 : (0 < l0.length) = True := eq_true (by omega)
    (try rw [show ((0 : Int)).toNat = 0 from rfl] at hx484_0)
    (try rw [Addr.add_zero'] at hx484_0)
    have HR484_0 := am hi484_0
    have HC484_0 := am hl484_0
    clear hi484_0 hl484_0
    replace p484 := eq_true p484
    replace q484 := eq_true q484
    go_wp2
    repeat (go_quiet (fail);try go_wp2)
    go_meet
    case rel => exact ⟨_,((((rd_L2 l0 0).length : Int) == 0)),(by first|rfl|(simp;done)|(simp [*];done)),H',⟨by first|omega|exact Nat.le_refl _⟩,by repeat (first|exact Drawn0.refl _|apply Drawn0.step)⟩
   ·rw [if_neg c4] at H
    exact absurd H (by simp)
 case rest =>
  clear HC2
  try clear p2
  try clear c3
  try clear c3b0
  try clear c3b1
  try clear c3b2
  try clear c4
  try clear c4b0
  try clear c4b1
  try clear p4
  try clear q4
  try clear hx4
  try clear qi4
  try clear hx484_0
  try clear p484
  try clear q484
  obtain ⟨kq,x13_1,rfl,HA,HJ1,⟨mc1,rfl⟩⟩ := hcut
  cases kq with
  | zero => exact absurd HA.out (by simp [privityref07_Even.j0])
  | succ kj1 =>
   have H := HA.out
   clear HA
   simp only [privityref07_Even.j0] at H
   by_cases c5 : x13_1 = true
   ·subst c5
    rw [if_pos rfl] at H
    obtain rfl := Option.some.inj H
    go_wp2
    repeat (go_quiet (fail);try go_wp2)
    go_ret
    exact ⟨by first|rfl|(simp;done)|(simp [*];done),by repeat (first|exact Drawn0.refl _|apply Drawn0.step)⟩
   ·replace c5 := Bool.eq_false_iff.mpr c5
    subst c5
    rw [if_neg (show ¬ (false = true) by decide)] at H
    have H' := am H
    clear H
    go_wp2
    repeat (go_quiet (fail);try go_wp2)
    go_loopg [3] kj1 (fun kq v3 w' => ∃ (x3_2 : Int),v3 = .int .i64 x3_2 ∧ Aside0 (privityref07_Even.l0 kq l0 x3_2 = some r) ∧ Aside0 (kq ≤ kj1) ∧ Drawn0 w w')
    case atStart => exact ⟨(0),(by first|rfl|(simp;done)|(simp [*];done)),H',⟨Nat.le_refl _⟩,by repeat (first|exact Drawn0.refl _|apply Drawn0.step)⟩
    case round =>
     clear H'
     try clear c1
     try clear p2
     try clear c3
     try clear c3b0
     try clear c3b1
     try clear c3b2
     try clear c4
     try clear c4b0
     try clear c4b1
     try clear p4
     try clear q4
     try clear hx4
     try clear qi4
     try clear c5
     try clear hx484_0
     try clear p2
     try clear p4
     try clear p484
     try clear q4
     try clear q484
     obtain ⟨x3_2,rfl,HA,HK2,⟨m2,rfl⟩⟩ := hrel
     cases gk with
     | zero => exact absurd HA.out (by simp [privityref07_Even.l0])
     | succ k2 =>
      have H := HA.out
      clear HA
      simp only [privityref07_Even.l0] at H
      by_cases c6 : x3_2 < (l0.length : Int)
      ·rw [if_pos c6] at H
       have c6b0 : decide (x3_2 < (l0.length : Int)) = true := decide_eq_true c6
       clear c6
       by_cases c7 : 0 ≤ x3_2
       ·rw [if_pos c7] at H
        have c7b0 : decide (0 ≤ x3_2) = true := decide_eq_true c7
        clear c7
        by_cases c8 : 0 < (l0.length : Int)
        ·rw [if_pos c8] at H
         have c8b0 : decide (0 < (l0.length : Int)) = true := decide_eq_true c8
         have c8b1 : decide (0 < l0.length) = true := decide_eq_true (by omega)
         clear c8
         by_cases c9 : ((rd_L2 l0 x3_2).length : Int) = ((rd_L2 l0 0).length : Int)
         ·rw [if_pos c9] at H
          have c9b0 : (((rd_L2 l0 x3_2).length : Int) == ((rd_L2 l0 0).length : Int)) = true := beq_iff_eq.mpr c9
          have c9b1 : (((rd_L2 l0 x3_2).length : Int) != ((rd_L2 l0 0).length : Int)) = false := bne_eq_false_iff_eq.mpr c9
          have c9b2 : ((rd_L2 l0 x3_2).length == (rd_L2 l0 0).length) = true := by first|simpa using c9|(simp at c9 ⊢;omega)
          clear c9
          have H' := am H
          clear H
          have p485 : 0 ≤ (x3_2 : Int) := od
          have q485 : x3_2 < (l0.length : Int) := od
          obtain ⟨ad485,A485_0,c485_0,e485,hx485_0,hl485_0,hi485_0⟩ := at_L2 HR0.out x3_2 p485 q485
          cases e485
          have HR485_0 := am hi485_0
          have HC485_0 := am hl485_0
          clear hi485_0 hl485_0
          replace p485 := eq_true p485
          replace q485 := eq_true q485
          have p486 : 0 ≤ (0 : Int) := (by omega)
          have q486 : 0 < (l0.length : Int) := od
          obtain ⟨ad486,A486_0,c486_0,e486,hx486_0,hl486_0,hi486_0⟩ := at_L2 HR0.out 0 p486 q486
          obtain rfl : ad485 = ad486 := (by injection e486)
          have qi486 : (0 < l0.length) = True := eq_true (by omega)
          (try rw [show ((0 : Int)).toNat = 0 from rfl] at hx486_0)
          (try rw [Addr.add_zero'] at hx486_0)
          have HR486_0 := am hi486_0
          have HC486_0 := am hl486_0
          clear hi486_0 hl486_0
          replace p486 := eq_true p486
          replace q486 := eq_true q486
          go_wp2
          repeat (go_quiet (fail);try go_wp2)
          go_roundg k2
          case measure => have := HJ1.out;have := HK2.out;omega
          case rel => exact ⟨(wrap64 (x3_2 + 1)),(by first|rfl|(simp;done)|(simp [*];done)),H',⟨by have := HJ1.out;have := HK2.out;omega⟩,by repeat (first|exact Drawn0.refl _|apply Drawn0.step)⟩
         ·rw [if_neg c9] at H
          have c9b0 : (((rd_L2 l0 x3_2).length : Int) == ((rd_L2 l0 0).length : Int)) = false := beq_eq_false_iff_ne.mpr c9
          have c9b1 : (((rd_L2 l0 x3_2).length : Int) != ((rd_L2 l0 0).length : Int)) = true := bne_iff_ne.mpr c9
          have c9b2 : ((rd_L2 l0 x3_2).length == (rd_L2 l0 0).length) = false := by first|simpa using c9|(simp at c9 ⊢;omega)
          obtain rfl := Option.some.inj H
          have p485 : 0 ≤ (x3_2 : Int) := od
          have q485 : x3_2 < (l0.length : Int) := od
          obtain ⟨ad485,A485_0,c485_0,e485,hx485_0,hl485_0,hi485_0⟩ := at_L2 HR0.out x3_2 p485 q485
          cases e485
          have HR485_0 := am hi485_0
          have HC485_0 := am hl485_0
          clear hi485_0 hl485_0
          replace p485 := eq_true p485
          replace q485 := eq_true q485
          have p486 : 0 ≤ (0 : Int) := (by omega)
          have q486 : 0 < (l0.length : Int) := od
          obtain ⟨ad486,A486_0,c486_0,e486,hx486_0,hl486_0,hi486_0⟩ := at_L2 HR0.out 0 p486 q486
          obtain rfl : ad485 = ad486 := (by injection e486)
          have qi486 : (0 < l0.length) = True := eq_true (by omega)
          (try rw [show ((0 : Int)).toNat = 0 from rfl] at hx486_0)
          (try rw [Addr.add_zero'] at hx486_0)
          have HR486_0 := am hi486_0
          have HC486_0 := am hl486_0
          clear hi486_0 hl486_0
          replace p486 := eq_true p486
          replace q486 := eq_true q486
          go_wp2
          repeat (go_quiet (fail);try go_wp2)
          go_ret
          exact ⟨by first|rfl|(simp;done)|(simp [*];done),by repeat (first|exact Drawn0.refl _|apply Drawn0.step)⟩
        ·rw [if_neg c8] at H
         exact absurd H (by simp)
       ·rw [if_neg c7] at H
        exact absurd H (by simp)
      ·rw [if_neg c6] at H
       have c6b0 : decide (x3_2 < (l0.length : Int)) = false := decide_eq_false c6
       clear c6
       obtain rfl := Option.some.inj H
       go_wp2
       repeat (go_quiet (fail);try go_wp2)
       go_ret
       exact ⟨by first|rfl|(simp;done)|(simp [*];done),by repeat (first|exact Drawn0.refl _|apply Drawn0.step)⟩
def privityref06_Rect.l0 : Nat → List (List Int) → Int → Option (Int × Bool)
 | 0,_,_ => none
 | k + 1,x0,x4 => if x4 < (x0.length : Int) then (if 0 ≤ x4 then (if 0 < (x0.length : Int) then (if ((rd_L2 x0 x4).length : Int) = ((rd_L2 x0 0).length : Int) then (privityref06_Rect.l0 k x0 (wrap64 (x4 + 1))) else (some (0,false))) else (none)) else (none)) else (if 0 < (x0.length : Int) then (some (((rd_L2 x0 0).length : Int),true)) else (none))
def privityref06_Rect.f (k : Nat) (l0 : List (List Int)) : Option (Int × Bool) := if (l0.length : Int) = 0 then (some (0,true)) else (privityref06_Rect.l0 k l0 0)
set_option maxHeartbeats 8000000 in
set_option maxRecDepth 100000 in
theorem privityref06_Rect.calls (k : Nat) (A0 : Option Addr) (c0 : Nat) (l0 : List (List Int)) (r1 : Int) (r2 : Bool) (w : World) (hr0 : Kd.C (Kd.slice 22 (Kd.int .u64)) w A0 l0.length l0) (hc0 : l0.length ≤ c0) (h : privityref06_Rect.f k l0 = some (r1,r2)) :
  Calls Try.prog 98 #[.slice A0 l0.length c0] w fun e w' => e = .returned (.tuple #[.int .i64 r1,.bool r2]) ∧ Drawn0 w w' := by
 have HR0 := am hr0
 have HC0 := am hc0
 clear hr0 hc0
 have H : (if (l0.length : Int) = 0 then (some (0,true)) else (privityref06_Rect.l0 k l0 0)) = some (r1,r2) := h
 clear h
 by_cases c2 : (l0.length : Int) = 0
 ·rw [if_pos c2] at H
  have c2b0 : ((l0.length : Int) == 0) = true := beq_iff_eq.mpr c2
  have c2b1 : ((l0.length : Int) != 0) = false := bne_eq_false_iff_eq.mpr c2
  clear c2
  simp only [Option.some.injEq,Prod.mk.injEq] at H
  obtain ⟨rfl,rfl⟩ := H
  go_enter Try.func98,Try.ntmps98
  go_wp2
  repeat (go_quiet (fail);try go_wp2)
  go_ret2
  exact ⟨by first|rfl|(simp;done)|(simp [*];done),by repeat (first|exact Drawn0.refl _|apply Drawn0.step)⟩
 ·rw [if_neg c2] at H
  have c2b0 : ((l0.length : Int) == 0) = false := beq_eq_false_iff_ne.mpr c2
  have c2b1 : ((l0.length : Int) != 0) = true := bne_iff_ne.mpr c2
  have c2b2 : ¬ (l0 = []) := fun h_ => c2 (by rw [h_];rfl)
  have H' := am H
  clear H
  go_enter Try.func98,Try.ntmps98
  go_wp2
  repeat (go_quiet (fail);try go_wp2)
  go_loopg [4] k (fun kq v4 w' => ∃ (x4_1 : Int),v4 = .int .i64 x4_1 ∧ Aside0 (privityref06_Rect.l0 kq l0 x4_1 = some (r1,r2)) ∧ Aside0 (kq ≤ k) ∧ Drawn0 w w')
  case atStart => exact ⟨(0),(by first|rfl|(simp;done)|(simp [*];done)),H',⟨Nat.le_refl _⟩,by repeat (first|exact Drawn0.refl _|apply Drawn0.step)⟩
  case round =>
   clear H'
   try clear c2
   try clear c2b0
   try clear c2b1
   try clear c2b2
   try clear p2
   obtain ⟨x4_1,rfl,HA,HK1,⟨m1,rfl⟩⟩ := hrel
   cases gk with
   | zero => exact absurd HA.out (by simp [privityref06_Rect.l0])
   | succ k1 =>
    have H := HA.out
    clear HA
    simp only [privityref06_Rect.l0] at H
    by_cases c3 : x4_1 < (l0.length : Int)
    ·rw [if_pos c3] at H
     have c3b0 : decide (x4_1 < (l0.length : Int)) = true := decide_eq_true c3
     clear c3
     by_cases c4 : 0 ≤ x4_1
     ·rw [if_pos c4] at H
      have c4b0 : decide (0 ≤ x4_1) = true := decide_eq_true c4
      clear c4
      by_cases c5 : 0 < (l0.length : Int)
      ·rw [if_pos c5] at H
       have c5b0 : decide (0 < (l0.length : Int)) = true := decide_eq_true c5
       have c5b1 : decide (0 < l0.length) = true := decide_eq_true (by omega)
       clear c5
       by_cases c6 : ((rd_L2 l0 x4_1).length : Int) = ((rd_L2 l0 0).length : Int)
       ·rw [if_pos c6] at H
        have c6b0 : (((rd_L2 l0 x4_1).length : Int) == ((rd_L2 l0 0).length : Int)) = true := beq_iff_eq.mpr c6
        have c6b1 : (((rd_L2 l0 x4_1).length : Int) != ((rd_L2 l0 0).length : Int)) = false := bne_eq_false_iff_eq.mpr c6
        have c6b2 : ((rd_L2 l0 x4_1).length == (rd_L2 l0 0).length) = true := by first|simpa using c6|(simp at c6 ⊢;omega)
        clear c6
        have H' := am H
        clear H
        have p494 : 0 ≤ (x4_1 : Int) := od
        have q494 : x4_1 < (l0.length : Int) := od
        obtain ⟨ad494,A494_0,c494_0,e494,hx494_0,hl494_0,hi494_0⟩ := at_L2 HR0.out x4_1 p494 q494
        cases e494
        have HR494_0 := am hi494_0
        have HC494_0 := am hl494_0
        clear hi494_0 hl494_0
        replace p494 := eq_true p494
        replace q494 := eq_true q494
        have p495 : 0 ≤ (0 : Int) := (by omega)
        have q495 : 0 < (l0.length : Int) := od
        obtain ⟨ad495,A495_0,c495_0,e495,hx495_0,hl495_0,hi495_0⟩ := at_L2 HR0.out 0 p495 q495
        obtain rfl : ad494 = ad495 := (by injection e495)
        have qi495 : (0 < l0.length) = True := eq_true (by omega)
        (try rw [show ((0 : Int)).toNat = 0 from rfl] at hx495_0)
        (try rw [Addr.add_zero'] at hx495_0)
        have HR495_0 := am hi495_0
        have HC495_0 := am hl495_0
        clear hi495_0 hl495_0
        replace p495 := eq_true p495
        replace q495 := eq_true q495
        go_wp2
        repeat (go_quiet (fail);try go_wp2)
        go_roundg k1
        case measure => have := HK1.out;omega
        case rel => exact ⟨(wrap64 (x4_1 + 1)),(by first|rfl|(simp;done)|(simp [*];done)),H',⟨by have := HK1.out;omega⟩,by repeat (first|exact Drawn0.refl _|apply Drawn0.step)⟩
       ·rw [if_neg c6] at H
        have c6b0 : (((rd_L2 l0 x4_1).length : Int) == ((rd_L2 l0 0).length : Int)) = false := beq_eq_false_iff_ne.mpr c6
        have c6b1 : (((rd_L2 l0 x4_1).length : Int) != ((rd_L2 l0 0).length : Int)) = true := bne_iff_ne.mpr c6
        have c6b2 : ((rd_L2 l0 x4_1).length == (rd_L2 l0 0).length) = false := by first|simpa using c6|(simp at c6 ⊢;omega)
        simp only [Option.some.injEq,Prod.mk.injEq] at H
        obtain ⟨rfl,rfl⟩ := H
        have p494 : 0 ≤ (x4_1 : Int) := od
        have q494 : x4_1 < (l0.length : Int) := od
        obtain ⟨ad494,A494_0,c494_0,e494,hx494_0,hl494_0,hi494_0⟩ := at_L2 HR0.out x4_1 p494 q494
        cases e494
        have HR494_0 := am hi494_0
        have HC494_0 := am hl494_0
        clear hi494_0 hl494_0
        replace p494 := eq_true p494
        replace q494 := eq_true q494
        have p495 : 0 ≤ (0 : Int) := (by omega)
        have q495 : 0 < (l0.length : Int) := od
        obtain ⟨ad495,A495_0,c495_0,e495,hx495_0,hl495_0,hi495_0⟩ := at_L2 HR0.out 0 p495 q495
        obtain rfl : ad494 = ad495 := (by injection e495)
        have qi495 : (0 < l0.length) = True := eq_true (by omega)
        (try rw [show ((0 : Int)).toNat = 0 from rfl] at hx495_0)
        (try rw [Addr.add_zero'] at hx495_0)
        have HR495_0 := am hi495_0
        have HC495_0 := am hl495_0
        clear hi495_0 hl495_0
        replace p495 := eq_true p495
        replace q495 := eq_true q495
        go_wp2
        repeat (go_quiet (fail);try go_wp2)
        go_ret2
        exact ⟨by first|rfl|(simp;done)|(simp [*];done),by repeat (first|exact Drawn0.refl _|apply Drawn0.step)⟩
      ·rw [if_neg c5] at H
       exact absurd H (by simp)
     ·rw [if_neg c4] at H
      exact absurd H (by simp)
    ·rw [if_neg c3] at H
     have c3b0 : decide (x4_1 < (l0.length : Int)) = false := decide_eq_false c3
     clear c3
     by_cases c7 : 0 < (l0.length : Int)
     ·rw [if_pos c7] at H
      have c7b0 : decide (0 < (l0.length : Int)) = true := decide_eq_true c7
      have c7b1 : decide (0 < l0.length) = true := decide_eq_true (by omega)
      clear c7
      simp only [Option.some.injEq,Prod.mk.injEq] at H
      obtain ⟨rfl,rfl⟩ := H
      have p496 : 0 ≤ (0 : Int) := (by omega)
      have q496 : 0 < (l0.length : Int) := od
      obtain ⟨ad496,A496_0,c496_0,e496,hx496_0,hl496_0,hi496_0⟩ := at_L2 HR0.out 0 p496 q496
      cases e496
      have qi496 : (0 < l0.length) = True := eq_true (by omega)
      (try rw [show ((0 : Int)).toNat = 0 from rfl] at hx496_0)
      (try rw [Addr.add_zero'] at hx496_0)
      have HR496_0 := am hi496_0
      have HC496_0 := am hl496_0
      clear hi496_0 hl496_0
      replace p496 := eq_true p496
      replace q496 := eq_true q496
      go_wp2
      repeat (go_quiet (fail);try go_wp2)
      go_ret2
      exact ⟨by first|rfl|(simp;done)|(simp [*];done),by repeat (first|exact Drawn0.refl _|apply Drawn0.step)⟩
     ·rw [if_neg c7] at H
      exact absurd H (by simp)
def privityref06_square.f (k : Nat) (l0 : List (List Int)) : Option (Bool) := (privityref06_Rect.f k l0).bind fun bt497 => (if bt497.2 = true then (if (l0.length : Int) > 0 then (some (bt497.1 == (l0.length : Int))) else (some false)) else (some false))
set_option maxHeartbeats 8000000 in
set_option maxRecDepth 100000 in
theorem privityref06_square.calls (k : Nat) (A0 : Option Addr) (c0 : Nat) (l0 : List (List Int)) (r : Bool) (w : World) (hr0 : Kd.C (Kd.slice 22 (Kd.int .u64)) w A0 l0.length l0) (hc0 : l0.length ≤ c0) (h : privityref06_square.f k l0 = some r) :
  Calls Try.prog 79 #[.slice A0 l0.length c0] w fun e w' => e = .returned (.bool r) ∧ Drawn0 w w' := by
 have HR0 := am hr0
 have HC0 := am hc0
 clear hr0 hc0
 have H : ((privityref06_Rect.f k l0).bind fun bt497 => (if bt497.2 = true then (if (l0.length : Int) > 0 then (some (bt497.1 == (l0.length : Int))) else (some false)) else (some false))) = some r := h
 clear h
 replace H := Option.bind_eq_some_iff.mp H
 obtain ⟨⟨t497,t498⟩,A20,H⟩ := H
 try dsimp only at H
 have A2 := am A20
 clear A20
 by_cases c3 : t498 = true
 ·subst c3
  rw [if_pos rfl] at H
  by_cases c4 : (l0.length : Int) > 0
  ·rw [if_pos c4] at H
   have c4b0 : decide (0 < (l0.length : Int)) = true := decide_eq_true c4
   have c4b1 : decide (0 < l0.length) = true := decide_eq_true (by omega)
   clear c4
   obtain rfl := Option.some.inj H
   go_enter Try.func79,Try.ntmps79
   go_wp2_with (first|((with_reducible refine gate_callee (f := 98) rfl ?_);refine goesL_ (some 7) rfl rfl Try.func98 (by kernel_rfl) rfl #[.slice A0 l0.length c0] rfl (by (try simp only [List.map_toArray,List.map_cons,List.map_nil]);first|done|rfl|(simp only [List.length_drop,List.length_take];rfl)) ?_;(with_reducible refine (privityref06_Rect.calls k _ _ l0 t497 true _ ?side1 ?side2 A2.out).mono ?_);(case side1 => repeat (first|exact HR0.out|(with_reducible refine Kd.C_alloc ?_ _)|(with_reducible refine Kd.C_drewN ?_ _)|(with_reducible refine Kd.C_drew ?_)));(case side2 => exact HC0.out);rintro e w' ⟨rfl,⟨nd,rfl⟩⟩;refine ⟨_,rfl,?_⟩))
   go_ret
   exact ⟨by first|rfl|(simp;done)|(simp [*];done),by repeat (first|exact Drawn0.refl _|apply Drawn0.step)⟩
  ·rw [if_neg c4] at H
   have c4b0 : decide (0 < (l0.length : Int)) = false := decide_eq_false c4
   have c4b1 : decide (0 < l0.length) = false := decide_eq_false (by omega)
   clear c4
   obtain rfl := Option.some.inj H
   go_enter Try.func79,Try.ntmps79
   go_wp2_with (first|((with_reducible refine gate_callee (f := 98) rfl ?_);refine goesL_ (some 7) rfl rfl Try.func98 (by kernel_rfl) rfl #[.slice A0 l0.length c0] rfl (by (try simp only [List.map_toArray,List.map_cons,List.map_nil]);first|done|rfl|(simp only [List.length_drop,List.length_take];rfl)) ?_;(with_reducible refine (privityref06_Rect.calls k _ _ l0 t497 true _ ?side1 ?side2 A2.out).mono ?_);(case side1 => repeat (first|exact HR0.out|(with_reducible refine Kd.C_alloc ?_ _)|(with_reducible refine Kd.C_drewN ?_ _)|(with_reducible refine Kd.C_drew ?_)));(case side2 => exact HC0.out);rintro e w' ⟨rfl,⟨nd,rfl⟩⟩;refine ⟨_,rfl,?_⟩))
   go_ret
   exact ⟨by first|rfl|(simp;done)|(simp [*];done),by repeat (first|exact Drawn0.refl _|apply Drawn0.step)⟩
 ·replace c3 := Bool.eq_false_iff.mpr c3
  subst c3
  rw [if_neg (show ¬ (false = true) by decide)] at H
  obtain rfl := Option.some.inj H
  go_enter Try.func79,Try.ntmps79
  go_wp2_with (first|((with_reducible refine gate_callee (f := 98) rfl ?_);refine goesL_ (some 7) rfl rfl Try.func98 (by kernel_rfl) rfl #[.slice A0 l0.length c0] rfl (by (try simp only [List.map_toArray,List.map_cons,List.map_nil]);first|done|rfl|(simp only [List.length_drop,List.length_take];rfl)) ?_;(with_reducible refine (privityref06_Rect.calls k _ _ l0 t497 false _ ?side1 ?side2 A2.out).mono ?_);(case side1 => repeat (first|exact HR0.out|(with_reducible refine Kd.C_alloc ?_ _)|(with_reducible refine Kd.C_drewN ?_ _)|(with_reducible refine Kd.C_drew ?_)));(case side2 => exact HC0.out);rintro e w' ⟨rfl,⟨nd,rfl⟩⟩;refine ⟨_,rfl,?_⟩))
  go_ret
  exact ⟨by first|rfl|(simp;done)|(simp [*];done),by repeat (first|exact Drawn0.refl _|apply Drawn0.step)⟩
def privityref06_beside.l0 : Nat → List (List Int) → List (List Int) → List (List Int) → Int → Option ((List (List Int)))
 | 0,_,_,_,_ => none
 | k + 1,x0,x1,x5,x6 => if x6 < (x0.length : Int) then ((some (([] : List Int) : List Int)).bind fun y499 => (if 0 ≤ x6 then (if y499.length + (rd_L2 x0 x6).length < 17592186044416 then ((some (y499 ++ (rd_L2 x0 x6) : List Int)).bind fun y503 => (if x6 < (x1.length : Int) then (if y503.length + (rd_L2 x1 x6).length < 17592186044416 then (if x5.length < 5864062014805 then (privityref06_beside.l0 k x0 x1 (x5 ++ [(y503 ++ (rd_L2 x1 x6))]) (wrap64 (x6 + 1))) else (none)) else (none)) else (none))) else (none)) else (none))) else (some x5)
def privityref06_beside.f (k : Nat) (l0 : List (List Int)) (l1 : List (List Int)) : Option ((List (List Int))) := privityref06_beside.l0 k l0 l1 ([] : List (List Int)) 0
def privityref06_beside.T5 : Bool × List (List Nat × List Nat) := (true,[([],[]),([],[]),([],[]),([],[]),([2,3],[2,3]),([4],[4]),([1,5],[1,5]),([],[]),([],[]),([7,8],[7,8]),([9],[9]),([6,10,6],[6,10]),([11],[11]),([0,12,11],[0,12]),([13,13,0,1,2,3,4,5,6,7,8,9,10,11,12,13],[0,13])])
def privityref06_beside.B5 : List Nat := [0,0,0,0,12,28,62,0,0,384,896,2046,4094,8191,16383]
theorem privityref06_beside.tab5 : rtab .any (opsOf Try.f81 5) = privityref06_beside.T5 := by kernel_rfl
theorem privityref06_beside.bits5 : waitsOk privityref06_beside.T5.2 privityref06_beside.B5 = true := by kernel_rfl
set_option maxHeartbeats 8000000 in
set_option maxRecDepth 100000 in
theorem privityref06_beside.calls (k : Nat) (A0 : Option Addr) (c0 : Nat) (l0 : List (List Int)) (A1 : Option Addr) (c1 : Nat) (l1 : List (List Int)) (r : List (List Int)) (w : World) (hr0 : Kd.C (Kd.slice 22 (Kd.int .u64)) w A0 l0.length l0) (hc0 : l0.length ≤ c0) (hr1 : Kd.C (Kd.slice 22 (Kd.int .u64)) w A1 l1.length l1) (hc1 : l1.length ≤ c1) (h : privityref06_beside.f k l0 l1 = some r) :
  Calls Try.prog 81 #[.slice A0 l0.length c0,.slice A1 l1.length c1] w fun e w' => ∃ v0_ : Value,e = .returned (v0_) ∧ Kd.S (Kd.slice 22 (Kd.int .u64)) 40 w' w.heap.size (fun _ => True) v0_ r ∧ Below w.heap.size w w' := by
 have HR0 := am hr0
 have HC0 := am hc0
 clear hr0 hc0
 have HR1 := am hr1
 have HC1 := am hc1
 clear hr1 hc1
 have HB := am (Below.refl w.heap.size w)
 have H : (privityref06_beside.l0 k l0 l1 ([] : List (List Int)) 0) = some r := h
 clear h
 have H' := am H
 clear H
 go_enter Try.func81,Try.ntmps81
 go_wp2
 go_loopg [5,6] k (fun kq v5 v6 w' => ∃ (x5_1 : List (List Int)) (x6_1 : Int),v6 = .int .i64 x6_1 ∧ Aside0 (privityref06_beside.l0 kq l0 l1 x5_1 x6_1 = some r) ∧ Aside0 (kq ≤ k) ∧ Aside0 (Kd.S (Kd.slice 22 (Kd.int .u64)) 40 w' w.heap.size (fun _ => True) v5 x5_1) ∧ Aside0 (Below w.heap.size w w'))
 case atStart => exact ⟨(([] : List (List Int))),(0),(by first|rfl|(simp;done)|(simp [*];done)),H',⟨Nat.le_refl _⟩,⟨by first|exact Kd.S_nil _ _ _ _ _|exact Kd.N_nil _ _ _ _ _|exact Kd.V_nil _ _ _ _ _|exact Kd.Q_nil _ _ _ _ _|exact Kd.R_nil _ _ _ _ _⟩,⟨bb HB⟩⟩
 case round =>
  clear H'
  try clear c1
  try clear p2
  obtain ⟨x5_1,x6_1,rfl,HA,HK1,HO_5,HB⟩ := hrel
  cases gk with
  | zero => exact absurd HA.out (by simp [privityref06_beside.l0])
  | succ k1 =>
   have H := HA.out
   clear HA
   simp only [privityref06_beside.l0] at H
   by_cases c3 : x6_1 < (l0.length : Int)
   ·rw [if_pos c3] at H
    have c3b0 : decide (x6_1 < (l0.length : Int)) = true := decide_eq_true c3
    clear c3
    obtain ⟨y499,hy499⟩ : ∃ y_ : List Int,y_ = (([] : List Int)) := ⟨_,rfl⟩
    replace H : (if 0 ≤ x6_1 then (if y499.length + (rd_L2 l0 x6_1).length < 17592186044416 then ((some (y499 ++ (rd_L2 l0 x6_1) : List Int)).bind fun y503 => (if x6_1 < (l1.length : Int) then (if y503.length + (rd_L2 l1 x6_1).length < 17592186044416 then (if x5_1.length < 5864062014805 then (privityref06_beside.l0 k1 l0 l1 (x5_1 ++ [(y503 ++ (rd_L2 l1 x6_1))]) (wrap64 (x6_1 + 1))) else (none)) else (none)) else (none))) else (none)) else (none)) = some r := by first|(rw [hy499];with_reducible exact H)|(have H2_ := (Option.bind_some _ _).symm.trans H;rw [hy499];with_reducible exact H2_)|(have H2_ := (Option.bind_some _ _).symm.trans H;with_reducible exact H2_)|with_reducible exact H|(rw [hy499];exact H)|exact H
    have Ny499 := am hy499
    clear hy499
    by_cases c4 : 0 ≤ x6_1
    ·rw [if_pos c4] at H
     have c4b0 : decide (0 ≤ x6_1) = true := decide_eq_true c4
     clear c4
     by_cases c5 : y499.length + (rd_L2 l0 x6_1).length < 17592186044416
     ·rw [if_pos c5] at H
      have LMc5 := am c5
      clear c5
      obtain ⟨y503,hy503⟩ : ∃ y_ : List Int,y_ = (y499 ++ (rd_L2 l0 x6_1)) := ⟨_,rfl⟩
      replace H : (if x6_1 < (l1.length : Int) then (if y503.length + (rd_L2 l1 x6_1).length < 17592186044416 then (if x5_1.length < 5864062014805 then (privityref06_beside.l0 k1 l0 l1 (x5_1 ++ [(y503 ++ (rd_L2 l1 x6_1))]) (wrap64 (x6_1 + 1))) else (none)) else (none)) else (none)) = some r := by first|(rw [hy503];with_reducible exact H)|(have H2_ := (Option.bind_some _ _).symm.trans H;rw [hy503];with_reducible exact H2_)|(have H2_ := (Option.bind_some _ _).symm.trans H;with_reducible exact H2_)|with_reducible exact H|(rw [hy503];exact H)|exact H
      have Ny503 := am hy503
      clear hy503
      by_cases c6 : x6_1 < (l1.length : Int)
      ·rw [if_pos c6] at H
       have c6b0 : decide (x6_1 < (l1.length : Int)) = true := decide_eq_true c6
       clear c6
       by_cases c7 : y503.length + (rd_L2 l1 x6_1).length < 17592186044416
       ·rw [if_pos c7] at H
        have LMc7 := am c7
        clear c7
        obtain ⟨y507,hy507⟩ : ∃ y_ : List Int,y_ = (y503 ++ (rd_L2 l1 x6_1)) := ⟨_,rfl⟩
        replace H : (if x5_1.length < 5864062014805 then (privityref06_beside.l0 k1 l0 l1 (x5_1 ++ [y507]) (wrap64 (x6_1 + 1))) else (none)) = some r := by first|(rw [hy507];with_reducible exact H)|(have H2_ := (Option.bind_some _ _).symm.trans H;rw [hy507];with_reducible exact H2_)|(have H2_ := (Option.bind_some _ _).symm.trans H;with_reducible exact H2_)|with_reducible exact H|(rw [hy507];exact H)|exact H
        have Ny507 := am hy507
        clear hy507
        by_cases c8 : x5_1.length < 5864062014805
        ·rw [if_pos c8] at H
         have LMc8 := am c8
         clear c8
         obtain ⟨y510,hy510⟩ : ∃ y_ : List (List Int),y_ = (x5_1 ++ [y507]) := ⟨_,rfl⟩
         replace H : (privityref06_beside.l0 k1 l0 l1 y510 (wrap64 (x6_1 + 1))) = some r := by first|(rw [hy510];with_reducible exact H)|(have H2_ := (Option.bind_some _ _).symm.trans H;rw [hy510];with_reducible exact H2_)|(have H2_ := (Option.bind_some _ _).symm.trans H;with_reducible exact H2_)|with_reducible exact H|(rw [hy510];exact H)|exact H
         have Ny510 := am hy510
         clear hy510
         have H' := am H
         clear H
         try go_wp2
         have n0_ := am (Kd.S_drew HO_5.out)
         have n1_ := am (below_drew1 HB.out)
         clear HO_5
         clear HB
         have HO_5 := n0_
         have HB := n1_
         clear n0_ n1_
         have p502 : 0 ≤ (x6_1 : Int) := od
         have q502 : x6_1 < (l0.length : Int) := od
         obtain ⟨ad502,A502_0,c502_0,e502,hx502_0,hl502_0,hi502_0⟩ := at_L2 HR0.out x6_1 p502 q502
         have hw502_0 := hx502_0
         cases e502
         replace hx502_0 := (HB.out.cell (World.block_lt_of_cell? w _ hx502_0)).trans hx502_0
         have HR502_0 := am hi502_0
         have HC502_0 := am hl502_0
         clear hi502_0 hl502_0
         replace p502 := eq_true p502
         replace q502 := eq_true q502
         have p506 : 0 ≤ (x6_1 : Int) := od
         have q506 : x6_1 < (l1.length : Int) := od
         obtain ⟨ad506,A506_0,c506_0,e506,hx506_0,hl506_0,hi506_0⟩ := at_L2 HR1.out x6_1 p506 q506
         have hw506_0 := hx506_0
         cases e506
         replace hx506_0 := (HB.out.cell (World.block_lt_of_cell? w _ hx506_0)).trans hx506_0
         have HR506_0 := am hi506_0
         have HC506_0 := am hl506_0
         clear hi506_0 hl506_0
         replace p506 := eq_true p506
         replace q506 := eq_true q506
         refine start_ (n := 15) (S := fun w' => w'.cell? (ad502.add (x6_1).toNat) = some (.slice A502_0 (rd_L2 l0 x6_1).length c502_0) ∧ w'.cell? (ad506.add (x6_1).toNat) = some (.slice A506_0 (rd_L2 l1 x6_1).length c506_0)) (ds := []) (bz 15 0) (by kernel_rfl) rfl rfl ⟨((HB.out.cell (World.block_lt_of_cell? w _ hw502_0)).trans hw502_0),((HB.out.cell (World.block_lt_of_cell? w _ hw506_0)).trans hw506_0)⟩ (fun hHeld => ?_);refine with_tabW privityref06_beside.tab5 privityref06_beside.bits5 (fun HT_ HW_ => ?_)
         generalize wr.drew = w9 at HO_5 HB HR502_0 HR506_0 hx502_0 hx506_0 hHeld ⊢
         refine pk 0 13 (bz 15 1) HT_ ?_
         refine pk 2 15 (bz 15 5) HT_ ?_
         refine pk 3 16 (bz 15 13) HT_ ?_
         refine pk 4 17 (bz 15 29) HT_ ?_
         refine pk 7 20 (bz 15 157) HT_ ?_
         refine pk 8 21 (bz 15 413) HT_ ?_
         refine pk 9 22 (bz 15 925) HT_ ?_
         refine tk 5 18 (bz 15 957) HT_ HW_ hHeld ?_
         refine tk 10 23 (bz 15 1981) HT_ HW_ hHeld ?_
         refine on 1 14 (bz 15 1983) HT_ (fun K hK => ?_)
         refine Kd.R_lit_step (Kd.int .u64) _ 22 ?hg (N := 14) ?hd (xs := ([] : List Int)) (inner := []) (ok := fun _ => True) (okp := fun _ => True) ?hr ?hp (fun _ hk => hk) trivial (Below.refl _ _) (Nat.le_refl _) (by simp) ?_;(case hd => rfl);(case hg => rfl);(case hr => first|(go_simp;done)|(go_simp;rfl));(case hp => exact (Reps.none _ _))
         intro v500 w10 ho11 hb hg_ hnew_
         clear hg_ hnew_
         (first|rw [← Ny499.out] at ho11|(simp only [Int.reduceToNat] at ho11;rw [← Ny499.out] at ho11))
         have n0_ := am (Kd.S_elder' (by (with_reducible repeat (first|apply Kd.S_alloc|apply Kd.S_drewN|apply Kd.S_drew));exact HO_5.out) (Kd.R_base ho11) hb)
         have n1_ := am (Kd.R_lower ho11 (below_size (bb HB)))
         have n2_ := am (below_step (bb HB) hb)
         clear HO_5
         clear HB
         have HO_5 := n0_
         have HO501 := n1_
         have HB := n2_
         clear n0_ n1_ n2_
         clear hb ho11
         refine hK.out _ _ ⟨((HB.out.cell (World.block_lt_of_cell? w _ hw502_0)).trans hw502_0),((HB.out.cell (World.block_lt_of_cell? w _ hw506_0)).trans hw506_0)⟩ (fun hHeld => ?_)
         clear hK K
         refine nm 14 ?_
         refine on 6 19 (bz 15 2047) HT_ (fun K hK => ?_)
         refine Kd.R_append_rows_step (Kd.int .u64) (w0 := w) w.heap.size (by rfl) (.tmp 14) (.tmp 18) 40 22 (.int .u64 0) 8 rfl Try.underlying40 info22 rfl (by decide) (by omega) v500 y499 (rd_L2 l0 x6_1) _ _ _ (fun _ => True) (fun _ => False) rfl rfl ?aO ?aR (fun _ _ h => h) (fun _ h => h.elim) ?aF ?aB ?aS ?aL ?_
         (case aR => repeat (first|exact (Kd.C_below HR502_0.out HB.out)|(with_reducible refine Kd.C_alloc ?_ _)|(with_reducible refine Kd.C_drewN ?_ _)|(with_reducible refine Kd.C_drew ?_)))
         (case aB => exact (bb HB))
         (case aF => exact (fun _ _ => trivial))
         (case aO => exact (rr HO501))
         (case aS => exact (below_size (bb HB)))
         (case aL => have := LMc5.out;omega)
         intro v504 w12 ho hb hg hat
         rw [← Ny503.out] at ho
         have n0_ := am (Kd.S_after (ok := (fun _ => True)) (by (with_reducible repeat (first|apply Kd.S_alloc|apply Kd.S_drewN|apply Kd.S_drew));exact HO_5.out) hg hat)
         have n1_ := am (hb)
         have n2_ := am (ho)
         clear HO_5
         clear HB
         clear HO501
         have HO_5 := n0_
         have HB := n1_
         have HO505 := n2_
         clear n0_ n1_ n2_
         clear ho hb hg hat
         refine hK.out _ _ ⟨((HB.out.cell (World.block_lt_of_cell? w _ hw502_0)).trans hw502_0),((HB.out.cell (World.block_lt_of_cell? w _ hw506_0)).trans hw506_0)⟩ (fun hHeld => ?_)
         clear hK K
         refine nm 19 ?_
         refine on 11 24 (bz 15 4095) HT_ (fun K hK => ?_)
         refine Kd.R_append_rows_step (Kd.int .u64) (w0 := w) w.heap.size (by rfl) (.tmp 19) (.tmp 23) 40 22 (.int .u64 0) 8 rfl Try.underlying40 info22 rfl (by decide) (by omega) v504 y503 (rd_L2 l1 x6_1) _ _ _ (fun _ => True) (fun _ => False) rfl rfl ?aO ?aR (fun _ _ h => h) (fun _ h => h.elim) ?aF ?aB ?aS ?aL ?_
         (case aR => repeat (first|exact (Kd.C_below HR506_0.out HB.out)|(with_reducible refine Kd.C_alloc ?_ _)|(with_reducible refine Kd.C_drewN ?_ _)|(with_reducible refine Kd.C_drew ?_)))
         (case aB => exact (bb HB))
         (case aF => exact (fun _ _ => trivial))
         (case aO => exact (rr HO505))
         (case aS => exact (below_size (bb HB)))
         (case aL => have := LMc7.out;omega)
         intro v508 w13 ho hb hg hat
         rw [← Ny507.out] at ho
         have n0_ := am (Kd.S_after (ok := (fun _ => True)) (by (with_reducible repeat (first|apply Kd.S_alloc|apply Kd.S_drewN|apply Kd.S_drew));exact HO_5.out) hg hat)
         have n1_ := am (hb)
         have n2_ := am (ho)
         clear HO_5
         clear HB
         clear HO505
         have HO_5 := n0_
         have HB := n1_
         have HO509 := n2_
         clear n0_ n1_ n2_
         clear ho hb hg hat
         obtain ⟨Ao15,co15,eo15⟩ := Kd.R_slice HO509.out
         (first|subst eo15|(injection eo15 with f1_ f2_ f3_;have f4_ := f1_.symm;have f5_ := f3_.symm;clear f1_ f2_ f3_;subst f4_;subst f5_))
         refine hK.out _ _ ⟨((HB.out.cell (World.block_lt_of_cell? w _ hw502_0)).trans hw502_0),((HB.out.cell (World.block_lt_of_cell? w _ hw506_0)).trans hw506_0)⟩ (fun hHeld => ?_)
         clear hK K
         refine nm 24 ?_
         refine on 12 25 (bz 15 8191) HT_ (fun K hK => ?_)
         refine value_ (w1 := ?_) (v := ?_) (by rfl) rfl ?_ ?_
         rotate_left 2
         ·go_simp
          constructor
          ·rfl
          ·rfl
         refine hK.out _ _ ⟨(World.cell?_alloc_lt _ _ _ (World.block_lt_of_cell? _ _ (((HB.out.cell (World.block_lt_of_cell? w _ hw502_0)).trans hw502_0)))).trans (((HB.out.cell (World.block_lt_of_cell? w _ hw502_0)).trans hw502_0)),(World.cell?_alloc_lt _ _ _ (World.block_lt_of_cell? _ _ (((HB.out.cell (World.block_lt_of_cell? w _ hw506_0)).trans hw506_0)))).trans (((HB.out.cell (World.block_lt_of_cell? w _ hw506_0)).trans hw506_0))⟩ (fun hHeld => ?_)
         clear hK K
         refine nm 25 ?_
         refine on 13 26 (bz 15 16383) HT_ (fun K hK => ?_)
         refine Kd.S_append_step (Kd.slice 22 (Kd.int .u64)) (w0 := w) w.heap.size (by rfl) (.tmp 13) (.tmp 25) 25 40 (.slice none 0 0) 24 rfl Try.underlying25 info40 rfl (by decide) (by omega) u5 x5_1 y507 [.slice Ao15 y507.length co15] (fun _ => True) (fun k_ => some k_ = (.slice Ao15 y507.length co15 : Value).ownBlock) rfl rfl ?aP (fun k_ hk_ => ((Kd.R_mono (ok' := fun k_ => ((fun _ => True)) k_ ∧ some k_ ≠ (u5 : Value).ownBlock) (Kd.R_apart' (HO509.out) (Kd.S_typed HO_5.out) (by decide)) (fun k_ hk => ⟨trivial,hk.2⟩))).1 k_ hk_.symm) ?aF ?aO ?aB ?aS ?aL ?_
         (case aP => exact Kd.M_row (Kd.R_mono (Kd.R_tight rfl (Kd.R_mono (ok' := fun k_ => ((fun _ => True)) k_ ∧ some k_ ≠ (u5 : Value).ownBlock) (Kd.R_apart' (HO509.out) (Kd.S_typed HO_5.out) (by decide)) (fun k_ hk => ⟨trivial,hk.2⟩))) (fun _ h_ => h_)))
         (case aB => exact (bb HB))
         (case aF => exact (fun _ _ => trivial))
         (case aO => exact (by (with_reducible repeat (first|apply Kd.S_alloc|apply Kd.S_drewN|apply Kd.S_drew));exact Kd.S_mono HO_5.out (fun k_ hk => ⟨trivial,fun e_ => hk.2 e_⟩)))
         (case aS => exact (below_size (bb HB)))
         (case aL => have := LMc8.out;omega)
         intro v511 w14 ho hb hg hat
         rw [← Ny510.out] at ho
         have n0_ := am (hb)
         have n1_ := am (ho)
         clear HB
         clear HO_5
         clear HO509
         have HB := n0_
         have HO512 := n1_
         clear n0_ n1_
         clear ho hb hg hat
         refine hK.out _ _ ⟨((HB.out.cell (World.block_lt_of_cell? w _ hw502_0)).trans hw502_0),((HB.out.cell (World.block_lt_of_cell? w _ hw506_0)).trans hw506_0)⟩ (fun hHeld => ?_)
         clear hK K
         refine nm 26 ?_
         refine pk 14 5 (bz 15 32767) HT_ ?_
         refine done_ (done_of HT_.out (by kernel_rfl)) ?_
         try go_wp2
         go_roundg k1
         case measure => have := HK1.out;omega
         case rel => exact ⟨(y510),(wrap64 (x6_1 + 1)),(by first|rfl|(simp;done)|(simp [*];done)),H',⟨by have := HK1.out;omega⟩,⟨by (with_reducible repeat (first|apply Kd.S_alloc|apply Kd.S_drewN|apply Kd.S_drew));exact HO512.out⟩,⟨bb HB⟩⟩
        ·rw [if_neg c8] at H
         exact absurd H (by simp)
       ·rw [if_neg c7] at H
        exact absurd H (by simp)
      ·rw [if_neg c6] at H
       exact absurd H (by simp)
     ·rw [if_neg c5] at H
      exact absurd H (by simp)
    ·rw [if_neg c4] at H
     exact absurd H (by simp)
   ·rw [if_neg c3] at H
    have c3b0 : decide (x6_1 < (l0.length : Int)) = false := decide_eq_false c3
    clear c3
    obtain rfl := Option.some.inj H
    go_wp2
    go_ret
    exact ⟨_,by first|rfl|(simp [errW_none,errW_some] <;> rfl)|(simp [*,errW_none,errW_some] <;> rfl),by (with_reducible repeat (first|apply Kd.S_alloc|apply Kd.S_drewN|apply Kd.S_drew));exact HO_5.out,bb HB⟩
def privityref06_One.l0 : Nat → Int → List (List Int) → Int → Option ((List (List Int)))
 | 0,_,_,_ => none
 | k + 1,x0,x3,x4 => if x4 < x0 then (if 0 ≤ x0 then (if (x0 : Int).toNat ≤ 35184372088832 then ((some (List.replicate (x0 : Int).toNat 0 : List Int)).bind fun y513 => (if 0 ≤ x4 then (if x4 < (y513.length : Int) then (if x3.length < 5864062014805 then (privityref06_One.l0 k x0 (x3 ++ [(y513.set (x4 : Int).toNat 1)]) (wrap64 (x4 + 1))) else (none)) else (none)) else (none))) else (none)) else (none)) else (some x3)
def privityref06_One.f (k : Nat) (a0 : Int) : Option ((List (List Int))) := privityref06_One.l0 k a0 ([] : List (List Int)) 0
set_option maxHeartbeats 8000000 in
set_option maxRecDepth 100000 in
theorem privityref06_One.calls (k : Nat) (a0 : Int) (r : List (List Int)) (w : World) (h : privityref06_One.f k a0 = some r) :
  Calls Try.prog 82 #[.int .i64 a0] w fun e w' => ∃ v0_ : Value,e = .returned (v0_) ∧ Kd.S (Kd.slice 22 (Kd.int .u64)) 40 w' w.heap.size (fun _ => True) v0_ r ∧ Below w.heap.size w w' := by
 have HB := am (Below.refl w.heap.size w)
 have H : (privityref06_One.l0 k a0 ([] : List (List Int)) 0) = some r := h
 clear h
 have H' := am H
 clear H
 go_enter Try.func82,Try.ntmps82
 go_wp2
 go_loopg [3,4] k (fun kq v3 v4 w' => ∃ (x3_1 : List (List Int)) (x4_1 : Int),v4 = .int .i64 x4_1 ∧ Aside0 (privityref06_One.l0 kq a0 x3_1 x4_1 = some r) ∧ Aside0 (kq ≤ k) ∧ Aside0 (Kd.S (Kd.slice 22 (Kd.int .u64)) 40 w' w.heap.size (fun _ => True) v3 x3_1) ∧ Aside0 (Below w.heap.size w w'))
 case atStart => exact ⟨(([] : List (List Int))),(0),(by first|rfl|(simp;done)|(simp [*];done)),H',⟨Nat.le_refl _⟩,⟨by first|exact Kd.S_nil _ _ _ _ _|exact Kd.N_nil _ _ _ _ _|exact Kd.V_nil _ _ _ _ _|exact Kd.Q_nil _ _ _ _ _|exact Kd.R_nil _ _ _ _ _⟩,⟨bb HB⟩⟩
 case round =>
  clear H'
  obtain ⟨x3_1,x4_1,rfl,HA,HK1,HO_3,HB⟩ := hrel
  cases gk with
  | zero => exact absurd HA.out (by simp [privityref06_One.l0])
  | succ k1 =>
   have H := HA.out
   clear HA
   simp only [privityref06_One.l0] at H
   by_cases c2 : x4_1 < a0
   ·rw [if_pos c2] at H
    have c2b0 : decide (x4_1 < a0) = true := decide_eq_true c2
    clear c2
    by_cases c3 : 0 ≤ a0
    ·rw [if_pos c3] at H
     have c3b0 := eq_true c3
     have c3b1 : decide (0 ≤ a0) = true := decide_eq_true c3
     clear c3
     by_cases c4 : (a0 : Int).toNat ≤ 35184372088832
     ·rw [if_pos c4] at H
      have c4b0 := eq_true c4
      have c4b1 : decide ((a0 : Int).toNat ≤ 35184372088832) = true := decide_eq_true c4
      clear c4
      obtain ⟨y513,hy513⟩ : ∃ y_ : List Int,y_ = (List.replicate (a0 : Int).toNat 0) := ⟨_,rfl⟩
      replace H : (if 0 ≤ x4_1 then (if x4_1 < (y513.length : Int) then (if x3_1.length < 5864062014805 then (privityref06_One.l0 k1 a0 (x3_1 ++ [(y513.set (x4_1 : Int).toNat 1)]) (wrap64 (x4_1 + 1))) else (none)) else (none)) else (none)) = some r := by first|(rw [hy513];with_reducible exact H)|(have H2_ := (Option.bind_some _ _).symm.trans H;rw [hy513];with_reducible exact H2_)|(have H2_ := (Option.bind_some _ _).symm.trans H;with_reducible exact H2_)|with_reducible exact H|(rw [hy513];exact H)|exact H
      have Ny513 := am hy513
      clear hy513
      by_cases c5 : 0 ≤ x4_1
      ·rw [if_pos c5] at H
       have c5b0 : decide (0 ≤ x4_1) = true := decide_eq_true c5
       clear c5
       by_cases c6 : x4_1 < (y513.length : Int)
       ·rw [if_pos c6] at H
        have c6b0 : decide (x4_1 < (y513.length : Int)) = true := decide_eq_true c6
        clear c6
        obtain ⟨y516,hy516⟩ : ∃ y_ : List Int,y_ = (y513.set (x4_1 : Int).toNat 1) := ⟨_,rfl⟩
        replace H : (if x3_1.length < 5864062014805 then (privityref06_One.l0 k1 a0 (x3_1 ++ [y516]) (wrap64 (x4_1 + 1))) else (none)) = some r := by first|(rw [hy516];with_reducible exact H)|(have H2_ := (Option.bind_some _ _).symm.trans H;rw [hy516];with_reducible exact H2_)|(have H2_ := (Option.bind_some _ _).symm.trans H;with_reducible exact H2_)|with_reducible exact H|(rw [hy516];exact H)|exact H
        have Ny516 := am hy516
        clear hy516
        by_cases c8 : x3_1.length < 5864062014805
        ·rw [if_pos c8] at H
         have LMc8 := am c8
         clear c8
         obtain ⟨y517,hy517⟩ : ∃ y_ : List (List Int),y_ = (x3_1 ++ [y516]) := ⟨_,rfl⟩
         replace H : (privityref06_One.l0 k1 a0 y517 (wrap64 (x4_1 + 1))) = some r := by first|(rw [hy517];with_reducible exact H)|(have H2_ := (Option.bind_some _ _).symm.trans H;rw [hy517];with_reducible exact H2_)|(have H2_ := (Option.bind_some _ _).symm.trans H;with_reducible exact H2_)|with_reducible exact H|(rw [hy517];exact H)|exact H
         have Ny517 := am hy517
         clear hy517
         have H' := am H
         clear H
         go_wp2_with (first|((with_reducible refine gate_dst (N := 12) rfl ?_);refine Kd.R_make (Kd.int .u64) _ 22 rfl (N := 12) rfl 40 _ _ rfl a0 rfl rfl Try.underlying40 (.int .u64 0) 8 info22 rfl (by decide) (by omega) 0 (ok := fun _ => True) (okp := fun _ => True) rfl (fun _ hk => hk) trivial (od) (Nat.le_trans (Nat.mul_le_mul_right _ (od : a0.toNat ≤ 35184372088832)) (by omega)) (Below.refl _ _) (Nat.le_refl _) ?_;intro v514 w9 ho10 hb hg_ hnew_;clear hg_ hnew_;(first|rw [← Ny513.out] at ho10|(simp only [Int.reduceToNat] at ho10;rw [← Ny513.out] at ho10));have n0_ := am (Kd.S_elder' (by (with_reducible repeat (first|apply Kd.S_alloc|apply Kd.S_drewN|apply Kd.S_drew));exact HO_3.out) (Kd.R_base ho10) hb);have n1_ := am (Kd.R_lower ho10 (below_size (bb HB)));have n2_ := am (below_step (bb HB) hb);clear HO_3 HB;have HO_3 := n0_;have HO515 := n1_;have HB := n2_;clear n0_ n1_ n2_;clear hb ho10;have p7 : 0 ≤ (x4_1 : Int) := od;have q7 : (x4_1 : Int) < ((y513.length : Int) : Int) := od;obtain ⟨go7,co7,eo7,gb7,gl7,cl7,HG7⟩ := Kd.R_form HO515.out (by omega);(first|cases eo7|(injection eo7 with ea_ en_ ec_;(first|subst ea_|(injection ea_ with ea_;subst ea_));subst ec_;clear en_));have GB7 := am gb7;have GG7 := am HG7;clear gb7 gl7 HG7;obtain ⟨hx7_0,hf7_0⟩ := Kd.R_celln 0 HO515.out (x4_1 : Int) p7 q7;replace p7 := eq_true p7;replace q7 := eq_true q7;obtain ⟨hy11_,hz11_⟩ := Kd.R_celln 0 HO515.out (x4_1 : Int) (od) (od);have HP11 := Kd.R_putg HO515.out (x4_1 : Int) 1)|((with_reducible refine gate_store (t := 22) (p := 15) rfl ?_);refine store_event (t := 22) (p := 15) (v := ?vo_w12) (w1 := (w9.setCell ⟨go7,(x4_1 : Int).toNat,none⟩ (.int .u64 1))) ?hg ?ho ?hn ?hr ?_;(case ho => rfl);(case hg => rfl);(case hn => rfl);(case hr => first|(go_simp;done)|(go_simp;rfl));intro w12 hw;have hg : w9.grownBy w12 (some go7) := (by rw [hw];exact HP11.2);have hp_ : Kd.R (Kd.int .u64) 22 w12 w.heap.size (fun _ => True) (.slice (some ⟨go7,0,none⟩) y513.length co7) y516 := (by rw [hw,Ny516.out];exact HP11.1);clear HP11;have n0_ := am (Kd.S_after (v := (.slice (some ⟨go7,0,none⟩) y513.length co7)) (v1 := (.slice (some ⟨go7,0,none⟩) y513.length co7)) (ok := (fun _ => True)) (by (with_reducible repeat (first|apply Kd.S_alloc|apply Kd.S_drewN|apply Kd.S_drew));exact HO_3.out) hg (.inl rfl));have n1_ := am (hp_);have n2_ := am ((by rw [hw];exact below_set (HB.out) GB7.out : Below w.heap.size w w12));clear HO_3 HO515 HB;have HO_3 := n0_;have HO515 := n1_;have HB := n2_;clear n0_ n1_ n2_;clear hg hw hp_)|((with_reducible refine gate_builtin (b := .append) (xs := #[.tmp 16,.tmp 18]) rfl ?_);at_builtin;refine Kd.S_append (Kd.slice 22 (Kd.int .u64)) (w0 := w) w.heap.size rfl (.tmp 16) (.tmp 18) 25 40 (.slice none 0 0) 24 rfl Try.underlying25 info40 rfl (by decide) (by omega) u3 x3_1 y516 [.slice (some ⟨go7,0,none⟩) y513.length co7] (fun _ => True) (fun k_ => some k_ = (.slice (some ⟨go7,0,none⟩) y513.length co7 : Value).ownBlock) rfl rfl ?aP (fun k_ hk_ => ((Kd.R_mono (ok' := fun k_ => ((fun _ => True)) k_ ∧ some k_ ≠ (u3 : Value).ownBlock) (Kd.R_apart' (HO515.out) (Kd.S_typed HO_3.out) (by decide)) (fun k_ hk => ⟨trivial,hk.2⟩))).1 k_ hk_.symm) ?aF ?aO ?aB ?aS ?aL ?_;(case aP => exact Kd.M_row (Kd.R_mono (Kd.R_tight rfl (Kd.R_mono (ok' := fun k_ => ((fun _ => True)) k_ ∧ some k_ ≠ (u3 : Value).ownBlock) (Kd.R_apart' (HO515.out) (Kd.S_typed HO_3.out) (by decide)) (fun k_ hk => ⟨trivial,hk.2⟩))) (fun _ h_ => h_)));(case aB => exact (bb HB));(case aF => exact (fun _ _ => trivial));(case aO => exact (by (with_reducible repeat (first|apply Kd.S_alloc|apply Kd.S_drewN|apply Kd.S_drew));exact Kd.S_mono HO_3.out (fun k_ hk => ⟨trivial,fun e_ => hk.2 e_⟩)));(case aS => exact (below_size (bb HB)));(case aL => have := LMc8.out;omega);intro v518 w13 ho hb hg hat;rw [← Ny517.out] at ho;have n0_ := am (hb);have n1_ := am (ho);clear HB HO_3 HO515;have HB := n0_;have HO519 := n1_;clear n0_ n1_;clear ho hb hg hat))
         go_roundg k1
         case measure => have := HK1.out;omega
         case rel => exact ⟨(y517),(wrap64 (x4_1 + 1)),(by first|rfl|(simp;done)|(simp [*];done)),H',⟨by have := HK1.out;omega⟩,⟨by (with_reducible repeat (first|apply Kd.S_alloc|apply Kd.S_drewN|apply Kd.S_drew));exact HO519.out⟩,⟨bb HB⟩⟩
        ·rw [if_neg c8] at H
         exact absurd H (by simp)
       ·rw [if_neg c6] at H
        exact absurd H (by simp)
      ·rw [if_neg c5] at H
       exact absurd H (by simp)
     ·rw [if_neg c4] at H
      exact absurd H (by simp)
    ·rw [if_neg c3] at H
     exact absurd H (by simp)
   ·rw [if_neg c2] at H
    have c2b0 : decide (x4_1 < a0) = false := decide_eq_false c2
    clear c2
    obtain rfl := Option.some.inj H
    go_wp2
    go_ret
    exact ⟨_,by first|rfl|(simp [errW_none,errW_some] <;> rfl)|(simp [*,errW_none,errW_some] <;> rfl),by (with_reducible repeat (first|apply Kd.S_alloc|apply Kd.S_drewN|apply Kd.S_drew));exact HO_3.out,bb HB⟩
end Go.Proofs.Ytmdoaijkaaaglaa.Pr
end
section
namespace Go.Proofs.Ytmdoaijkaaaglaa.Hw
open Go.RowKit Go.Proofs.Ytmdoaijkaaaglaa.Pr Go.Proofs.YtmdoaijkaaaglaaW.PrintWords Go.Proofs.YtmdoaijkaaaglaaW.PrintLast Go.Proofs.YtmdoaijkaaaglaaW.PrintMore Go.Proofs.Ytmdoaijkaaaglaa.E
def rowsB (p : Int) (n : Nat) (l : List (List Int)) : Bool := l.all fun r => decide (r.length = n) && ressB p r
theorem rowsB_iff {p : Int} {n : Nat} {l : List (List Int)} : rowsB p n l = true ↔ RowsOk p n l := by
 unfold rowsB RowsOk;simp only [List.all_eq_true,Bool.and_eq_true,decide_eq_true_eq,ressB_iff]
end Go.Proofs.Ytmdoaijkaaaglaa.Hw
end
section
namespace Go.Proofs.Ytmdoaijkaaaglaa.Hw
open Go.RowKit Go.Proofs.Ytmdoaijkaaaglaa.Pr Go.Proofs.YtmdoaijkaaaglaaW.PrintWords Go.Proofs.YtmdoaijkaaaglaaW.PrintLast Go.Proofs.YtmdoaijkaaaglaaW.PrintMore
structure Wq (w : World) (base : Nat) (mv : Value) (vs : List Value) (rs : List (List Int)) (pv : Value) (ps : List Int) : Prop where
 arr : w.ownsRow base 40 1 mv vs.length vs
 len : rs.length = vs.length
 row : ∀ (j : Nat) v r,vs[j]? = some v → rs[j]? = some r → w.ownsRow base 22 1 v r.length (nums .u64 r)
 apart : ∀ (i j b : Nat) u v,vs[i]? = some u → vs[j]? = some v → u.ownBlock = some b → v.ownBlock = some b → i = j
 piv : w.ownsRow base 3 1 pv ps.length (nums .i64 ps)
section
variable {w w1 : World} {base : Nat} {mv : Value} {vs : List Value} {rs : List (List Int)} {pv : Value} {ps : List Int}
theorem Wq.below (h : Wq w base mv vs rs pv ps) (hb : Below w.heap.size w w1) : Wq w1 base mv vs rs pv ps :=
 ⟨own_below0 h.arr hb,h.len,fun j v r hv hr => own_below0 (h.row j v r hv hr) hb,h.apart,own_below0 h.piv hb⟩
theorem Wq.drew (h : Wq w base mv vs rs pv ps) : Wq w.drew base mv vs rs pv ps := h.below (below_drew (Below.refl _ _))
theorem Wq.mform (h : Wq w base mv vs rs pv ps) (hm : 0 < rs.length) : ∃ bo co,mv = .slice (some ⟨bo,0,none⟩) rs.length co ∧ rs.length ≤ co ∧ base ≤ bo := by
 obtain ⟨g,cap,e,hb,_,hc⟩ := own_form0 h.arr (by rw [← h.len];exact hm)
 rw [← h.len] at e hc
 exact ⟨g,cap,e,hc,hb⟩
theorem Wq.rform (h : Wq w base mv vs rs pv ps) (i : Nat) (hi : i < rs.length) (h0 : 0 < rs[i].length) : ∃ b c,vs[i]? = some (.slice (some ⟨b,0,none⟩) rs[i].length c) ∧ rs[i].length ≤ c ∧ base ≤ b := by
 have hv : vs[i]? = some (vs[i]'(by rw [← h.len];exact hi)) := List.getElem?_eq_getElem _
 obtain ⟨g,cap,e,hb,_,hc⟩ := own_form0 (h.row i _ _ hv (List.getElem?_eq_getElem hi)) h0
 rw [e] at hv
 exact ⟨g,cap,hv,hc,hb⟩
theorem Wq.ahead {bo m co : Nat} (h : Wq w base (.slice (some ⟨bo,0,none⟩) m co) vs rs pv ps) {i : Nat} {v : Value} (hv : vs[i]? = some v) : w.cell? ⟨bo,i,none⟩ = some v := by
 have hi := (List.getElem?_eq_some_iff.1 hv).1
 have := h.arr.cells (g := bo) rfl i v hv
 rwa [Addr.add_lit,Nat.zero_add] at this
theorem Wq.rcell {i b n c : Nat} (h : Wq w base mv vs rs pv ps) (hv : vs[i]? = some (.slice (some ⟨b,0,none⟩) n c)) {r : List Int} (hr : rs[i]? = some r) {j : Nat} (hj : j < r.length) : w.cell? ⟨b,j,none⟩ = some (.int .u64 r[j]) := by
 have := (h.row i _ r hv hr).cells (g := b) rfl j (.int .u64 r[j]) (by unfold nums;rw [List.getElem?_map,List.getElem?_eq_getElem hj];rfl)
 rwa [Addr.add_lit,Nat.zero_add] at this
theorem Wq.rfz {i b n c : Nat} (h : Wq w base mv vs rs pv ps) (hv : vs[i]? = some (.slice (some ⟨b,0,none⟩) n c)) {r : List Int} (hr : rs[i]? = some r) (j : Nat) : w.frozen? ⟨b,j,none⟩ = false := by
 obtain ⟨cs,hc⟩ := own_typed2 (g := b) (h.row i _ r hv hr) rfl
 exact blk_frozen hc j
theorem Wq.afz {bo m co : Nat} (h : Wq w base (.slice (some ⟨bo,0,none⟩) m co) vs rs pv ps) (j : Nat) : w.frozen? ⟨bo,j,none⟩ = false := by
 obtain ⟨cs,hc⟩ := own_typed2 (g := bo) h.arr rfl
 exact blk_frozen hc j
theorem Wq.setRow {i b n c : Nat} (h : Wq w base mv vs rs pv ps) (hv : vs[i]? = some (.slice (some ⟨b,0,none⟩) n c)) {r : List Int} (hr : rs[i]? = some r) (j : Nat) (x : Int) :
  Wq (w.setCell ⟨b,j,none⟩ (.int .u64 x)) base mv vs (rs.set i (r.set j x)) pv ps := by
 have hi := h.row i _ r hv hr
 obtain ⟨cs,hc⟩ := own_typed2 (g := b) hi rfl
 have hil := (List.getElem?_eq_some_iff.1 hr).1
 refine ⟨own_far0 h.arr (own_ne0 h.arr hc (by decide)),by rw [List.length_set];exact h.len,?_,h.apart,own_far0 h.piv (own_ne0 h.piv hc (by decide))⟩
 intro k v r' hkv hkr
 by_cases e : i = k
 ·subst e
  rw [hv] at hkv
  obtain rfl := Option.some.inj hkv
  rw [List.getElem?_set_self hil] at hkr
  obtain rfl := Option.some.inj hkr
  have hn : n = r.length := by
   rcases hi.2 with ⟨h1,_⟩|⟨_,_,_,h1,_⟩
   ·simp at h1
   ·simp only [Value.slice.injEq] at h1;exact h1.2.1
  subst hn
  have := (hi.stored j (.int .u64 x)).1
  rw [List.length_set,show nums .u64 (r.set j x) = (nums .u64 r).set j (.int .u64 x) from by simp [nums,List.map_set]]
  exact this
 ·rw [List.getElem?_set_ne e] at hkr
  have hk := h.row k v r' hkv hkr
  refine own_far0 hk ?_
  rintro g hg rfl
  exact e (h.apart i k g _ v hv hkv rfl hg)
theorem Wq.swap {bo m co : Nat} (h : Wq w base (.slice (some ⟨bo,0,none⟩) m co) vs rs pv ps) (i k : Nat) {u v : Value} (hi : vs[i]? = some u) (hk : vs[k]? = some v) {r s : List Int} (hr : rs[i]? = some r) (hs : rs[k]? = some s) :
  Wq ((w.setCell ⟨bo,i,none⟩ v).setCell ⟨bo,k,none⟩ u) base (.slice (some ⟨bo,0,none⟩) m co) ((vs.set i v).set k u) ((rs.set i s).set k r) pv ps := by
 obtain ⟨cs,hc⟩ := own_typed2 (g := bo) h.arr rfl
 have hm : m = vs.length := by
  rcases h.arr.2 with ⟨h1,_⟩|⟨_,_,_,h1,_⟩
  ·simp at h1
  ·simp only [Value.slice.injEq] at h1;exact h1.2.1
 subst hm
 have hil := (List.getElem?_eq_some_iff.1 hi).1
 have hkl := (List.getElem?_eq_some_iff.1 hk).1
 have hil2 : i < rs.length := by rw [h.len];exact hil
 have hkl2 : k < rs.length := by rw [h.len];exact hkl
 have a1 := (h.arr.stored i v).1
 have a2 := (a1.stored k u).1
 have hc1 : ∃ cs1,(w.setCell ⟨bo,i,none⟩ v).heap[bo]? = some (.cells cs1 40 (0,0)) := own_typed2 (g := bo) a1 rfl
 obtain ⟨cs1,hc1⟩ := hc1
 have two : ∀ {e : TypeId} {n : Nat} {v' : Value} {xs : List Value},e ≠ 40 → w.ownsRow base e 1 v' n xs → ((w.setCell ⟨bo,i,none⟩ v).setCell ⟨bo,k,none⟩ u).ownsRow base e 1 v' n xs := by
  intro e n v' xs he ho
  have o1 := own_far0 (g := bo) (j := i) (u := v) ho (own_ne0 ho hc he)
  exact own_far0 (g := bo) (j := k) (u := u) o1 (own_ne0 o1 hc1 he)
 have look : ∀ {α : Type} (l : List α) (a b : α),i < l.length → k < l.length → l[i]? = some b → l[k]? = some a → ∀ q x,((l.set i a).set k b)[q]? = some x → ∃ q',l[q']? = some x ∧ (q' = if q = k then i else if q = i then k else q) := by
  intro α l a b h1 h2 hb ha q x hq
  by_cases e1 : q = k
  ·subst e1
   rw [List.getElem?_set_self (by rw [List.length_set];exact h2)] at hq
   exact ⟨i,by rw [hb,hq],by rw [if_pos rfl]⟩
  ·rw [List.getElem?_set_ne (Ne.symm e1)] at hq
   by_cases e2 : q = i
   ·subst e2
    rw [List.getElem?_set_self h1] at hq
    exact ⟨k,by rw [ha,hq],by rw [if_neg e1,if_pos rfl]⟩
   ·rw [List.getElem?_set_ne (Ne.symm e2)] at hq
    exact ⟨q,hq,by rw [if_neg e1,if_neg e2]⟩
 refine ⟨?_,by simp only [List.length_set];exact h.len,?_,?_,two (by decide) h.piv⟩
 ·simp only [List.length_set];exact a2
 ·intro q v' r' hv' hr'
  obtain ⟨q1,h1,e1⟩ := look vs v u hil hkl hi hk q v' hv'
  obtain ⟨q2,h2,e2⟩ := look rs s r hil2 hkl2 hr hs q r' hr'
  rw [← e1] at e2
  subst e2
  exact two (by decide) (h.row q2 v' r' h1 h2)
 ·intro a b g x y hx hy hgx hgy
  obtain ⟨q1,h1,e1⟩ := look vs v u hil hkl hi hk a x hx
  obtain ⟨q2,h2,e2⟩ := look vs v u hil hkl hi hk b y hy
  have := h.apart q1 q2 g x y h1 h2 hgx hgy
  subst this
  rw [e1] at e2
  (repeat' split at e2) <;> omega
theorem Wq.push {pv1 : Value} {c : Int} (h : Wq w base mv vs rs pv ps) (hg : w.grownBy w1 pv.ownBlock) (hp : w1.ownsRow base 3 1 pv1 (ps ++ [c]).length (nums .i64 (ps ++ [c]))) :
  Wq w1 base mv vs rs pv1 (ps ++ [c]) := by
 have hty : ∀ k,pv.ownBlock = some k → ∃ cs,w.heap[k]? = some (.cells cs 3 (0,0)) := fun k hk => own_typed h.piv k hk
 have oth : ∀ {e : TypeId} {n : Nat} {v' : Value} {xs : List Value},e ≠ 3 → w.ownsRow base e 1 v' n xs → w1.ownsRow base e 1 v' n xs := by
  intro e n v' xs he ho
  refine own_grown0 ho hg ?_
  intro k hk e2
  obtain ⟨cs,hc⟩ := hty k e2.symm
  exact own_ne0 ho hc he k hk rfl
 exact ⟨oth (by decide) h.arr,h.len,fun k v r hv hr => oth (by decide) (h.row k v r hv hr),h.apart,hp⟩
theorem Wq.of_S (h : Kd.S (Kd.slice 22 (Kd.int .u64)) 40 w base (fun _ => True) mv rs) : ∃ vs,Wq w base mv vs rs (.slice none 0 0) [] := by
 obtain ⟨f,h0,inner,ho,hr⟩ := h
 have ho : w.ownsRow base 40 1 mv rs.zipIdx.length inner := ho
 rw [List.length_zipIdx] at ho
 have hl : inner.length = rs.length := by
  have := hr.1
  rw [List.length_zipIdx] at this
  rw [this];exact Nat.mul_one _
 have key : ∀ (j : Nat) (v : Value) (r : List Int),inner[j]? = some v → rs[j]? = some r → Kd.R (Kd.int .u64) 22 w base (fun k => ((True ∧ some k ≠ mv.ownBlock) ∧ f k = j)) v r := by
  intro j v r hv hr'
  have := hr.2 j (r,j) (by rw [List.getElem?_zipIdx,hr',Nat.zero_add];rfl)
  obtain ⟨v2,e2,hR⟩ := this
  have hjl := (List.getElem?_eq_some_iff.1 hv).1
  have e3 : (inner.drop (j * (Kd.tag f (Kd.slice 22 (Kd.int .u64))).sz)).take (Kd.tag f (Kd.slice 22 (Kd.int .u64))).sz = [v] := by
   show (inner.drop (j * 1)).take 1 = [v]
   rw [Nat.mul_one,List.drop_eq_getElem_cons hjl,List.take_succ_cons,List.take_zero]
   rw [List.getElem?_eq_getElem hjl] at hv
   rw [Option.some.inj hv]
  rw [e3] at e2
  injection e2 with e2 _
  subst e2
  exact hR
 have hne : ∀ (j : Nat),j < inner.length → ∃ r,rs[j]? = some r := fun j hj => ⟨rs[j]'(by omega),List.getElem?_eq_getElem _⟩
 refine ⟨inner,by rw [hl];exact ho,hl.symm,fun j v r hv hr' => Kd.own_of_R (key j v r hv hr'),?_,World.ownsRow_nil _ _ _ _⟩
 intro i j b u v hu hv hbu hbv
 obtain ⟨r1,h1⟩ := hne i (List.getElem?_eq_some_iff.1 hu).1
 obtain ⟨r2,h2⟩ := hne j (List.getElem?_eq_some_iff.1 hv).1
 have k1 := ((key i u r1 hu h1).1 b hbu).2
 have k2 := ((key j v r2 hv h2).1 b hbv).2
 omega
theorem Wq.to_S (h : Wq w base mv vs rs pv ps) : Kd.S (Kd.slice 22 (Kd.int .u64)) 40 w base (fun _ => True) mv rs := by
 have harr : w.ownsRow base 40 1 mv rs.length vs := by rw [h.len];exact h.arr
 obtain ⟨f,hf⟩ := Kd.reps_tag (d := Kd.slice 22 (Kd.int .u64)) (w := w) (base := base) (ok := fun k => True ∧ some k ≠ mv.ownBlock) (xs := rs) (inner := vs) (fun j k => some k = (vs.getD j (.bool false)).ownBlock)
  (fun i j k h1 h2 => by
   have hi : i < vs.length := by
    refine Classical.byContradiction fun hn => ?_
    rw [List.getD_eq_getElem?_getD,List.getElem?_eq_none (by omega)] at h1
    simp [Value.ownBlock] at h1
   have hj : j < vs.length := by
    refine Classical.byContradiction fun hn => ?_
    rw [List.getD_eq_getElem?_getD,List.getElem?_eq_none (by omega)] at h2
    simp [Value.ownBlock] at h2
   rw [List.getD_eq_getElem?_getD,List.getElem?_eq_getElem hi] at h1
   rw [List.getD_eq_getElem?_getD,List.getElem?_eq_getElem hj] at h2
   exact h.apart i j k _ _ (List.getElem?_eq_getElem hi) (List.getElem?_eq_getElem hj) h1.symm h2.symm)
  (fun j k h1 => by
   have hj : j < vs.length := by
    refine Classical.byContradiction fun hn => ?_
    rw [List.getD_eq_getElem?_getD,List.getElem?_eq_none (by omega)] at h1
    simp [Value.ownBlock] at h1
   rw [List.getD_eq_getElem?_getD,List.getElem?_eq_getElem hj] at h1
   refine ⟨trivial,fun e => ?_⟩
   have ho := h.row j _ (rs[j]'(by rw [h.len];exact hj)) (List.getElem?_eq_getElem hj) (List.getElem?_eq_getElem _)
   obtain ⟨cs,hc⟩ := own_typed2 h.arr e.symm
   exact own_ne0 ho hc (by decide) k h1.symm rfl)
  (by rw [← h.len];exact (Nat.mul_one _).symm)
  (fun j r hr => by
   have hj : j < vs.length := by rw [← h.len];exact (List.getElem?_eq_some_iff.1 hr).1
   have ho := h.row j _ r (List.getElem?_eq_getElem hj) hr
   refine ⟨vs[j],?_,?_⟩
   ·show (vs.drop (j * 1)).take 1 = [vs[j]]
    rw [Nat.mul_one,List.drop_eq_getElem_cons hj,List.take_succ_cons,List.take_zero]
   ·exact Kd.R_of_own ho (fun k hk => by rw [List.getD_eq_getElem?_getD,List.getElem?_eq_getElem hj];exact hk.symm))
 exact ⟨f,fun _ _ => trivial,vs,by rw [List.length_zipIdx];exact harr,hf⟩
end
end Go.Proofs.Ytmdoaijkaaaglaa.Hw
end
