/- Part 12 of the proof's texts, joined in build order. -/
import Derived.Test.YtmdoaijkaaaglaaZB711
import Derived.Test.YtmdoaijkaaaglaaZB71
import Derived.Test.YtmdoaijkaaaglaaZB77
set_option linter.unusedVariables false
set_option linter.unusedSimpArgs false
section
namespace Go.Proofs.Ytmdoaijkaaaglaa.Hw
open Go.RowKit Go.Proofs.Ytmdoaijkaaaglaa.Pr Go.Proofs.YtmdoaijkaaaglaaW.PrintWords Go.Proofs.YtmdoaijkaaaglaaW.PrintLast Go.Proofs.YtmdoaijkaaaglaaW.PrintMore Go.Proofs.Ytmdoaijkaaaglaa.E
def ptB (p : Int) (l : List S56) : Bool := l.all fun x => (decide (0 ≤ x.f0) && decide (x.f0 < 18446744073709551616)) && resB p x.f1
def cpOkB (p : Int) (m : List (List Int)) (ins outs : List S56) : Bool := supB p && (decide (m.length ≤ 60) && ((m.all fun r => decide (r.length ≤ 60) && ressB p r) && (decide (ins.length ≤ 60) && (decide (outs.length ≤ 60) && (ptB p ins && ptB p outs)))))
theorem ptB_iff {p : Int} {l : List S56} : ptB p l = true ↔ ∀ x ∈ l,(0 ≤ x.f0 ∧ x.f0 < 18446744073709551616) ∧ Res p x.f1 := by
 unfold ptB;simp only [List.all_eq_true,Bool.and_eq_true,decide_eq_true_eq,resB_iff]
theorem cpOkB_iff {p : Int} {m : List (List Int)} {ins outs : List S56} : cpOkB p m ins outs = true ↔ CpOk p m ins outs := by
 unfold cpOkB
 simp only [List.all_eq_true,Bool.and_eq_true,decide_eq_true_eq,supB_iff,ptB_iff,ressB_iff]
 exact ⟨fun h => ⟨h.1,h.2.1,h.2.2.1,h.2.2.2.1,h.2.2.2.2.1,h.2.2.2.2.2.1,h.2.2.2.2.2.2⟩,fun h => ⟨h.hp,h.lm,h.rows,h.li,h.lo,h.pi,h.po⟩⟩
def hyperinvertible_Complete.f (a0 : Int) (l1 : List (List Int)) (l2 l3 : List S56) : Option (List Int × List Int × Int) := if cpOkB a0 l1 l2 l3 = true then some (cpR a0 l1 l2 l3) else none
theorem hyperinvertible_Complete.calls (a0 : Int) (A1 : Option Addr) (c1 : Nat) (l1 : List (List Int)) (A2 : Option Addr) (c2 : Nat) (l2 : List S56) (A3 : Option Addr) (c3 : Nat) (l3 : List S56) (r1 r2 : List Int) (r3 : Int) (w : World) (hr1 : Kd.C (Kd.slice 22 (Kd.int .u64)) w A1 l1.length l1) (hc1 : l1.length ≤ c1) (hr2 : Kd.C k56 w A2 l2.length l2) (hc2 : l2.length ≤ c2) (hr3 : Kd.C k56 w A3 l3.length l3) (hc3 : l3.length ≤ c3) (h : hyperinvertible_Complete.f a0 l1 l2 l3 = some (r1,r2,r3)) :
  Calls Try.prog 22 #[.int .u64 a0,.slice A1 l1.length c1,.slice A2 l2.length c2,.slice A3 l3.length c3] w fun e w' => ∃ v0_ v1_ : Value,e = .returned (.tuple #[v0_,v1_,.int .i64 r3]) ∧ Kd.R (Kd.int .u64) 22 w' w.heap.size (fun _ => True) v0_ r1 ∧ Kd.R (Kd.int .u64) 22 w' w.heap.size (fun _ => True) v1_ r2 ∧ Below w.heap.size w w' := by
 unfold hyperinvertible_Complete.f at h
 obtain ⟨hok,h⟩ := ifs h
 have hk := cpOkB_iff.1 hok
 have hr := Option.some.inj h
 have hcalls : Calls Try.prog 22 #[.int .u64 a0,.slice A1 l1.length c1,.slice A2 l2.length c2,.slice A3 l3.length c3] w fun e w' => CpRet (cpR a0 l1 l2 l3) w e w' ∧ Below w.heap.size w w' := by
  by_cases hg : cpGo l1 l2 l3 = true
  ·exact complete_ok hk A1 c1 A2 c2 A3 c3 w hr1 hc1 hr2 hc2 hr3 hc3 hg
  ·have hg2 := Bool.eq_false_iff.2 hg
   have he : cpR a0 l1 l2 l3 = ([],[],1) := by unfold cpR;rw [if_neg hg]
   rw [he]
   exact complete_err hk A1 c1 A2 c2 A3 c3 w hr1 hc1 hr2 hc2 hr3 hc3 hg2
 refine hcalls.mono ?_
 rintro e w' ⟨⟨v0,v1,he,h1,h2⟩,hb⟩
 rw [hr] at he h1 h2
 exact ⟨v0,v1,he,h1,h2,hb⟩
end Go.Proofs.Ytmdoaijkaaaglaa.Hw
end
section
namespace Go.Proofs.Ytmdoaijkaaaglaa.Pr
open Go.RowKit Go.Proofs.YtmdoaijkaaaglaaW.PrintWords Go.Proofs.YtmdoaijkaaaglaaW.PrintLast Go.Proofs.YtmdoaijkaaaglaaW.PrintMore
attribute [local go_sem] max2_int min2_int max_two min_two max_three min_three max_four min_four
open Go.Proofs.Ytmdoaijkaaaglaa.Hw
def privitylaw07_awake.f (k : Nat)  : Option (Bool) := (hyperinvertible_New.f k 31 1 2).bind fun bt412 => ((hyperinvertible_New.f k 31 16 15).bind fun bt416 => ((hyperinvertible_Complete.f 31 (([(([30,2] : List Int))] : List (List Int))) (([(⟨1,5⟩ : S56)] : List (S56))) (([(⟨0,7⟩ : S56)] : List (S56)))).bind fun bt432 => (if bt412.2 = 0 then ((privityref05_SameRows.f k bt412.1 (([(([30,2] : List Int))] : List (List Int)))).bind fun t445 => (if t445 = true then (if bt416.2 = 2 then (if bt432.2.2 = 0 then ((privityref05_Same.f k bt432.1 (([3,5] : List Int))).bind fun t449 => (if t449 = true then ((privityref05_Same.f k bt432.2.1 (([7] : List Int))).bind fun t453 => (some t453)) else (some false))) else (some false)) else (some false)) else (some false))) else (some false))))
theorem privitylaw07_awake.mono : ∀ k,LeO (privitylaw07_awake.f k ) (privitylaw07_awake.f (k + 1) ) := by
 intro  k
 unfold privitylaw07_awake.f
 repeat' first
   | (with_reducible exact hyperinvertible_New.mono _ _ _ _)
   | (with_reducible exact privityref05_Same.mono _ _ _)
   | (with_reducible exact privityref05_SameRows.mono _ _ _)
   | (with_reducible exact LeO.refl _)
   | (with_reducible exact LeO.none _)
   | (with_reducible refine LeO.ite ?_ ?_)
   | (with_reducible refine LeO.bind ?_ (fun _ => ?_))
   | exact hyperinvertible_New.mono _ _ _ _
   | exact privityref05_Same.mono _ _ _
   | exact privityref05_SameRows.mono _ _ _
   | exact LeO.none _
   | refine LeO.ite ?_ ?_
   | refine LeO.bind ?_ (fun _ => ?_)
theorem privitylaw07_awake.more (k : Nat) : ∀ d,LeO (privitylaw07_awake.f k) (privitylaw07_awake.f (k + d))
 | 0 => fun r h => h
 | d + 1 => fun r h => privitylaw07_awake.mono (k + d) r (privitylaw07_awake.more k d r h)
theorem privitylaw07_awake.is : privitylaw07_awake.f 60 = some true := by kernel_rfl
theorem privitylaw07_awake.one (k : Nat) (r : Bool) (h : privitylaw07_awake.f k = some r) : r = true := by
 have h1 := privitylaw07_awake.more k 60 r h
 have h2 := privitylaw07_awake.more 60 k true privitylaw07_awake.is
 rw [Nat.add_comm,h1] at h2
 exact Option.some.inj h2
set_option maxHeartbeats 8000000 in
set_option maxRecDepth 100000 in
theorem privitylaw07_awake.calls (k : Nat)  (r : Bool) (w : World) (h : privitylaw07_awake.f k  = some r) :
  Calls Try.prog 12 #[] w fun e w' => e = .returned (.bool r) ∧ Below w.heap.size w w' := by
 have HR1 := am (privitylaw07_awake.one k r h)
 have hu56 := Try.underlying56
 have HB := am (Below.refl w.heap.size w)
 have H : ((hyperinvertible_New.f k 31 1 2).bind fun bt412 => ((hyperinvertible_New.f k 31 16 15).bind fun bt416 => ((hyperinvertible_Complete.f 31 (([(([30,2] : List Int))] : List (List Int))) (([(⟨1,5⟩ : S56)] : List (S56))) (([(⟨0,7⟩ : S56)] : List (S56)))).bind fun bt432 => (if bt412.2 = 0 then ((privityref05_SameRows.f k bt412.1 (([(([30,2] : List Int))] : List (List Int)))).bind fun t445 => (if t445 = true then (if bt416.2 = 2 then (if bt432.2.2 = 0 then ((privityref05_Same.f k bt432.1 (([3,5] : List Int))).bind fun t449 => (if t449 = true then ((privityref05_Same.f k bt432.2.1 (([7] : List Int))).bind fun t453 => (some t453)) else (some false))) else (some false)) else (some false)) else (some false))) else (some false))))) = some r := h
 clear h
 replace H := Option.bind_eq_some_iff.mp H
 obtain ⟨⟨t412,t413⟩,A10,H⟩ := H
 try dsimp only at H
 have A1 := am A10
 clear A10
 replace H := Option.bind_eq_some_iff.mp H
 obtain ⟨⟨t416,t417⟩,A20,H⟩ := H
 try dsimp only at H
 have A2 := am A20
 clear A20
 obtain ⟨y420,hy420⟩ : ∃ y_ : List Int,y_ = (([30,2] : List Int)) := ⟨_,rfl⟩
 replace H : ((hyperinvertible_Complete.f 31 (([y420] : List (List Int))) (([(⟨1,5⟩ : S56)] : List (S56))) (([(⟨0,7⟩ : S56)] : List (S56)))).bind fun bt432 => (if t413 = 0 then ((privityref05_SameRows.f k t412 (([(([30,2] : List Int))] : List (List Int)))).bind fun t445 => (if t445 = true then (if t417 = 2 then (if bt432.2.2 = 0 then ((privityref05_Same.f k bt432.1 (([3,5] : List Int))).bind fun t449 => (if t449 = true then ((privityref05_Same.f k bt432.2.1 (([7] : List Int))).bind fun t453 => (some t453)) else (some false))) else (some false)) else (some false)) else (some false))) else (some false))) = some r := by first|(rw [hy420];with_reducible exact H)|(have H2_ := (Option.bind_some _ _).symm.trans H;rw [hy420];with_reducible exact H2_)|(have H2_ := (Option.bind_some _ _).symm.trans H;with_reducible exact H2_)|with_reducible exact H|(rw [hy420];exact H)|exact H
 have Ny420 := am hy420
 clear hy420
 obtain ⟨y423,hy423⟩ : ∃ y_ : List (List Int),y_ = (([y420] : List (List Int))) := ⟨_,rfl⟩
 replace H : ((hyperinvertible_Complete.f 31 y423 (([(⟨1,5⟩ : S56)] : List (S56))) (([(⟨0,7⟩ : S56)] : List (S56)))).bind fun bt432 => (if t413 = 0 then ((privityref05_SameRows.f k t412 (([(([30,2] : List Int))] : List (List Int)))).bind fun t445 => (if t445 = true then (if t417 = 2 then (if bt432.2.2 = 0 then ((privityref05_Same.f k bt432.1 (([3,5] : List Int))).bind fun t449 => (if t449 = true then ((privityref05_Same.f k bt432.2.1 (([7] : List Int))).bind fun t453 => (some t453)) else (some false))) else (some false)) else (some false)) else (some false))) else (some false))) = some r := by first|(rw [hy423];with_reducible exact H)|(have H2_ := (Option.bind_some _ _).symm.trans H;rw [hy423];with_reducible exact H2_)|(have H2_ := (Option.bind_some _ _).symm.trans H;with_reducible exact H2_)|with_reducible exact H|(rw [hy423];exact H)|exact H
 have Ny423 := am hy423
 clear hy423
 obtain ⟨y426,hy426⟩ : ∃ y_ : List (S56),y_ = (([(⟨1,5⟩ : S56)] : List (S56))) := ⟨_,rfl⟩
 replace H : ((hyperinvertible_Complete.f 31 y423 y426 (([(⟨0,7⟩ : S56)] : List (S56)))).bind fun bt432 => (if t413 = 0 then ((privityref05_SameRows.f k t412 (([(([30,2] : List Int))] : List (List Int)))).bind fun t445 => (if t445 = true then (if t417 = 2 then (if bt432.2.2 = 0 then ((privityref05_Same.f k bt432.1 (([3,5] : List Int))).bind fun t449 => (if t449 = true then ((privityref05_Same.f k bt432.2.1 (([7] : List Int))).bind fun t453 => (some t453)) else (some false))) else (some false)) else (some false)) else (some false))) else (some false))) = some r := by first|(rw [hy426];with_reducible exact H)|(have H2_ := (Option.bind_some _ _).symm.trans H;rw [hy426];with_reducible exact H2_)|(have H2_ := (Option.bind_some _ _).symm.trans H;with_reducible exact H2_)|with_reducible exact H|(rw [hy426];exact H)|exact H
 have Ny426 := am hy426
 clear hy426
 obtain ⟨y429,hy429⟩ : ∃ y_ : List (S56),y_ = (([(⟨0,7⟩ : S56)] : List (S56))) := ⟨_,rfl⟩
 replace H : ((hyperinvertible_Complete.f 31 y423 y426 y429).bind fun bt432 => (if t413 = 0 then ((privityref05_SameRows.f k t412 (([(([30,2] : List Int))] : List (List Int)))).bind fun t445 => (if t445 = true then (if t417 = 2 then (if bt432.2.2 = 0 then ((privityref05_Same.f k bt432.1 (([3,5] : List Int))).bind fun t449 => (if t449 = true then ((privityref05_Same.f k bt432.2.1 (([7] : List Int))).bind fun t453 => (some t453)) else (some false))) else (some false)) else (some false)) else (some false))) else (some false))) = some r := by first|(rw [hy429];with_reducible exact H)|(have H2_ := (Option.bind_some _ _).symm.trans H;rw [hy429];with_reducible exact H2_)|(have H2_ := (Option.bind_some _ _).symm.trans H;with_reducible exact H2_)|with_reducible exact H|(rw [hy429];exact H)|exact H
 have Ny429 := am hy429
 clear hy429
 replace H := Option.bind_eq_some_iff.mp H
 obtain ⟨⟨t432,t433,t434⟩,A30,H⟩ := H
 try dsimp only at H
 have A3 := am A30
 clear A30
 by_cases c4 : t413 = 0
 ·rw [if_pos c4] at H
  have c4b0 : (t413 == 0) = true := beq_iff_eq.mpr c4
  have c4b1 : (t413 != 0) = false := bne_eq_false_iff_eq.mpr c4
  clear c4
  obtain ⟨y439,hy439⟩ : ∃ y_ : List Int,y_ = (([30,2] : List Int)) := ⟨_,rfl⟩
  replace H : ((privityref05_SameRows.f k t412 (([y439] : List (List Int)))).bind fun t445 => (if t445 = true then (if t417 = 2 then (if t434 = 0 then ((privityref05_Same.f k t432 (([3,5] : List Int))).bind fun t449 => (if t449 = true then ((privityref05_Same.f k t433 (([7] : List Int))).bind fun t453 => (some t453)) else (some false))) else (some false)) else (some false)) else (some false))) = some r := by first|(rw [hy439];with_reducible exact H)|(have H2_ := (Option.bind_some _ _).symm.trans H;rw [hy439];with_reducible exact H2_)|(have H2_ := (Option.bind_some _ _).symm.trans H;with_reducible exact H2_)|with_reducible exact H|(rw [hy439];exact H)|exact H
  have Ny439 := am hy439
  clear hy439
  obtain ⟨y442,hy442⟩ : ∃ y_ : List (List Int),y_ = (([y439] : List (List Int))) := ⟨_,rfl⟩
  replace H : ((privityref05_SameRows.f k t412 y442).bind fun t445 => (if t445 = true then (if t417 = 2 then (if t434 = 0 then ((privityref05_Same.f k t432 (([3,5] : List Int))).bind fun t449 => (if t449 = true then ((privityref05_Same.f k t433 (([7] : List Int))).bind fun t453 => (some t453)) else (some false))) else (some false)) else (some false)) else (some false))) = some r := by first|(rw [hy442];with_reducible exact H)|(have H2_ := (Option.bind_some _ _).symm.trans H;rw [hy442];with_reducible exact H2_)|(have H2_ := (Option.bind_some _ _).symm.trans H;with_reducible exact H2_)|with_reducible exact H|(rw [hy442];exact H)|exact H
  have Ny442 := am hy442
  clear hy442
  replace H := Option.bind_eq_some_iff.mp H
  obtain ⟨t445,A50,H⟩ := H
  try dsimp only at H
  have A5 := am A50
  clear A50
  by_cases c6 : t445 = true
  ·subst c6
   rw [if_pos rfl] at H
   by_cases c7 : t417 = 2
   ·rw [if_pos c7] at H
    have c7b0 : (t417 == 2) = true := beq_iff_eq.mpr c7
    have c7b1 : (t417 != 2) = false := bne_eq_false_iff_eq.mpr c7
    clear c7
    by_cases c8 : t434 = 0
    ·rw [if_pos c8] at H
     have c8b0 : (t434 == 0) = true := beq_iff_eq.mpr c8
     have c8b1 : (t434 != 0) = false := bne_eq_false_iff_eq.mpr c8
     clear c8
     obtain ⟨y446,hy446⟩ : ∃ y_ : List Int,y_ = (([3,5] : List Int)) := ⟨_,rfl⟩
     replace H : ((privityref05_Same.f k t432 y446).bind fun t449 => (if t449 = true then ((privityref05_Same.f k t433 (([7] : List Int))).bind fun t453 => (some t453)) else (some false))) = some r := by first|(rw [hy446];with_reducible exact H)|(have H2_ := (Option.bind_some _ _).symm.trans H;rw [hy446];with_reducible exact H2_)|(have H2_ := (Option.bind_some _ _).symm.trans H;with_reducible exact H2_)|with_reducible exact H|(rw [hy446];exact H)|exact H
     have Ny446 := am hy446
     clear hy446
     replace H := Option.bind_eq_some_iff.mp H
     obtain ⟨t449,A90,H⟩ := H
     try dsimp only at H
     have A9 := am A90
     clear A90
     by_cases c10 : t449 = true
     ·subst c10
      rw [if_pos rfl] at H
      obtain ⟨y450,hy450⟩ : ∃ y_ : List Int,y_ = (([7] : List Int)) := ⟨_,rfl⟩
      replace H : ((privityref05_Same.f k t433 y450).bind fun t453 => (some t453)) = some r := by first|(rw [hy450];with_reducible exact H)|(have H2_ := (Option.bind_some _ _).symm.trans H;rw [hy450];with_reducible exact H2_)|(have H2_ := (Option.bind_some _ _).symm.trans H;with_reducible exact H2_)|with_reducible exact H|(rw [hy450];exact H)|exact H
      have Ny450 := am hy450
      clear hy450
      replace H := Option.bind_eq_some_iff.mp H
      obtain ⟨t453,A110,H⟩ := H
      try dsimp only at H
      have A11 := am A110
      clear A110
      obtain rfl := Option.some.inj H
      go_enter Try.func12,Try.ntmps12
      go_wp2_with (first|((with_reducible refine gate_callee (f := 14) rfl ?_);refine goesL_ (some 9) rfl rfl Try.func14 (by kernel_rfl) rfl #[.int .u64 31,.int .i64 1,.int .i64 2] rfl (by (try simp only [List.map_toArray,List.map_cons,List.map_nil]);first|done|rfl|(simp only [List.length_drop,List.length_take];rfl)) ?_;(with_reducible refine (hyperinvertible_New.calls k 31 1 2 t412 t413 _ A1.out).mono ?_);rintro e w12 ⟨v414,rfl,ho0,hb⟩;refine ⟨_,rfl,?_⟩;have n0_ := am (Kd.N_lower (Kd.N_mono (ok' := fun k_ => True) (Kd.S_N (Kd.S_bound ho0)) (fun k_ hk_ => trivial)) (below_size (bb HB)));have n1_ := am (below_step (bb HB) hb);clear HB;have HO415 := n0_;have HB := n1_;clear n0_ n1_;(try clear hb);(try clear hb2);(try clear hk);(try clear hi);(try clear ho0))|((with_reducible refine gate_callee (f := 14) rfl ?_);refine goesL_ (some 13) rfl rfl Try.func14 (by kernel_rfl) rfl #[.int .u64 31,.int .i64 16,.int .i64 15] rfl (by (try simp only [List.map_toArray,List.map_cons,List.map_nil]);first|done|rfl|(simp only [List.length_drop,List.length_take];rfl)) ?_;(with_reducible refine (hyperinvertible_New.calls k 31 16 15 t416 t417 _ A2.out).mono ?_);rintro e w13 ⟨v418,rfl,ho0,hb⟩;refine ⟨_,rfl,?_⟩;have n0_ := am (Kd.N_elder' (rn HO415) (by first|exact Kd.N_base ho0|exact Kd.S_base ho0) hb);have n1_ := am (Kd.N_lower (Kd.N_mono (ok' := fun k_ => some k_ ≠ (v414 : Value).ownBlock) (Kd.S_N (Kd.S_bound ho0)) (fun k_ hk_ => (Kd.fresh' (Kd.N_lt (rn HO415)) k_ hk_.2.1))) (below_size (bb HB)));have n2_ := am (below_step (bb HB) hb);clear HO415 HB;have HO415 := n0_;have HO419 := n1_;have HB := n2_;clear n0_ n1_ n2_;(try clear hb);(try clear hb2);(try clear hk);(try clear hi);(try clear ho0))|((with_reducible refine gate_dst (N := 17) rfl ?_);(try (refine gate_guard (by rfl) ?_;dsimp only));refine Kd.R_lit (Kd.int .u64) _ 22 ?hg (N := 17) ?hd (xs := ([30,2] : List Int)) (inner := [.int .u64 30,.int .u64 2]) (ok := fun _ => True) (okp := fun _ => True) ?hr ?hp (fun _ hk => hk) trivial (Below.refl _ _) (Nat.le_refl _) (by simp) ?_;(case hd => rfl);(case hg => rfl);(case hr => first|(go_simp;done)|(go_simp;rfl));(case hp => exact (Reps.one (show Kd.M (Kd.int .u64) _ _ _ 30 [.int .u64 30] from rfl) (Reps.one (show Kd.M (Kd.int .u64) _ _ _ 2 [.int .u64 2] from rfl) (Reps.none _ _))));intro v421 w14 ho15 hb hg_ hnew_;clear hg_ hnew_;(first|rw [← Ny420.out] at ho15|(simp only [Int.reduceToNat] at ho15;rw [← Ny420.out] at ho15));have n0_ := am (Kd.N_elder' (rn HO415) (Kd.R_base ho15) hb);have n1_ := am (Kd.N_elder' (rn HO419) (Kd.R_base ho15) hb);have n2_ := am (Kd.R_lower ho15 (below_size (bb HB)));have n3_ := am (below_step (bb HB) hb);clear HO415 HO419 HB;have HO415 := n0_;have HO419 := n1_;have HO422 := n2_;have HB := n3_;clear n0_ n1_ n2_ n3_;clear hb ho15;obtain ⟨Ao16,co16,eo16⟩ := Kd.R_slice HO422.out;subst eo16)|((with_reducible refine gate_dst (N := 18) rfl ?_);(try (refine gate_guard (by rfl) ?_;dsimp only));refine Kd.N_lit (Kd.slice 22 (Kd.int .u64)) _ 40 ?hg (N' := 18) ?hd (xs := ([y420] : List (List Int))) (inner := [.slice Ao16 y420.length co16]) (ok := (fun k_ => some k_ ≠ (v414 : Value).ownBlock ∧ some k_ ≠ (v418 : Value).ownBlock)) (okp := (fun k_ => some k_ ≠ (v414 : Value).ownBlock ∧ some k_ ≠ (v418 : Value).ownBlock)) ?hr ?hp (fun _ hk => hk) ((show ∀ k_,w14.heap.size ≤ k_ → (fun k_ => some k_ ≠ (v414 : Value).ownBlock ∧ some k_ ≠ (v418 : Value).ownBlock) k_ from fun k_ hk => ⟨Kd.fresh' (Kd.N_lt (rn HO415)) k_ hk,Kd.fresh' (Kd.N_lt (rn HO419)) k_ hk⟩) _ (Nat.le_refl _)) (Below.refl _ _) (Nat.le_refl _) (by simp) ?_;(case hd => rfl);(case hg => rfl);(case hr => first|(go_simp;done)|(go_simp;rfl));(case hp => exact (Reps.one (show Kd.FK (Kd.slice 22 (Kd.int .u64)) _ _ y420 [.slice Ao16 y420.length co16] from (Kd.FK_slice_mk (Kd.R_reads' (Kd.R_mono (ok' := (fun k_ => some k_ ≠ (v414 : Value).ownBlock ∧ some k_ ≠ (v418 : Value).ownBlock)) (Kd.R_apart' (Kd.R_apart' (HO422.out) (Kd.N_typed HO415.out) (by decide)) (Kd.N_typed HO419.out) (by decide)) (fun k_ hk => ⟨hk.1.2,hk.2⟩))).2.1 (Kd.R_F (Kd.R_mono (ok' := (fun k_ => some k_ ≠ (v414 : Value).ownBlock ∧ some k_ ≠ (v418 : Value).ownBlock)) (Kd.R_apart' (Kd.R_apart' (HO422.out) (Kd.N_typed HO415.out) (by decide)) (Kd.N_typed HO419.out) (by decide)) (fun k_ hk => ⟨hk.1.2,hk.2⟩))))) (Reps.none _ _)));intro v424 w17 ho18 hb hg_ hnew_;clear hg_ hnew_;(first|rw [← Ny423.out] at ho18|(simp only [Int.reduceToNat] at ho18;rw [← Ny423.out] at ho18));have n0_ := am (Kd.N_elder' (rn HO415) (Kd.N_base ho18) hb);have n1_ := am (Kd.N_elder' (rn HO419) (Kd.N_base ho18) hb);have n2_ := am (Kd.N_lower ho18 (below_size (bb HB)));have n3_ := am (below_step (bb HB) hb);clear HO415 HO419 HB HO422;have HO415 := n0_;have HO419 := n1_;have HO425 := n2_;have HB := n3_;clear n0_ n1_ n2_ n3_;clear hb ho18)|((with_reducible refine gate_dst (N := 20) rfl ?_);(try (refine gate_guard (by rfl) ?_;dsimp only));refine Kd.R_lit k56 _ 56 ?hg (N := 20) ?hd (xs := ([(⟨1,5⟩ : S56)] : List (S56))) (inner := [.int .u64 1,.int .u64 5]) (ok := fun _ => True) (okp := fun _ => True) ?hr ?hp (fun _ hk => hk) trivial (Below.refl _ _) (Nat.le_refl _) (by simp) ?_;(case hd => rfl);(case hg => rfl);(case hr => first|(go_simp;done)|(go_simp;rfl));(case hp => exact (Reps.c2 (show Kd.M k56 _ _ _ (⟨1,5⟩ : S56) [.int .u64 1,.int .u64 5] from (k56_mkM _ _ _ (⟨1,5⟩ : S56) )) (Reps.none _ _)));intro v427 w19 ho20 hb hg_ hnew_;clear hg_ hnew_;(first|rw [← Ny426.out] at ho20|(simp only [Int.reduceToNat] at ho20;rw [← Ny426.out] at ho20));have n0_ := am (Kd.N_elder' (rn HO415) (Kd.R_base ho20) hb);have n1_ := am (Kd.N_elder' (rn HO419) (Kd.R_base ho20) hb);have n2_ := am (Kd.N_elder' (rn HO425) (Kd.R_base ho20) hb);have n3_ := am (Kd.R_lower ho20 (below_size (bb HB)));have n4_ := am (below_step (bb HB) hb);clear HO415 HO419 HO425 HB;have HO415 := n0_;have HO419 := n1_;have HO425 := n2_;have HO428 := n3_;have HB := n4_;clear n0_ n1_ n2_ n3_ n4_;clear hb ho20)|((with_reducible refine gate_dst (N := 22) rfl ?_);(try (refine gate_guard (by rfl) ?_;dsimp only));refine Kd.R_lit k56 _ 56 ?hg (N := 22) ?hd (xs := ([(⟨0,7⟩ : S56)] : List (S56))) (inner := [.int .u64 0,.int .u64 7]) (ok := fun _ => True) (okp := fun _ => True) ?hr ?hp (fun _ hk => hk) trivial (Below.refl _ _) (Nat.le_refl _) (by simp) ?_;(case hd => rfl);(case hg => rfl);(case hr => first|(go_simp;done)|(go_simp;rfl));(case hp => exact (Reps.c2 (show Kd.M k56 _ _ _ (⟨0,7⟩ : S56) [.int .u64 0,.int .u64 7] from (k56_mkM _ _ _ (⟨0,7⟩ : S56) )) (Reps.none _ _)));intro v430 w21 ho22 hb hg_ hnew_;clear hg_ hnew_;(first|rw [← Ny429.out] at ho22|(simp only [Int.reduceToNat] at ho22;rw [← Ny429.out] at ho22));have n0_ := am (Kd.N_elder' (rn HO415) (Kd.R_base ho22) hb);have n1_ := am (Kd.N_elder' (rn HO419) (Kd.R_base ho22) hb);have n2_ := am (Kd.N_elder' (rn HO425) (Kd.R_base ho22) hb);have n3_ := am (Kd.R_elder' (rr HO428) (Kd.R_base ho22) hb);have n4_ := am (Kd.R_lower (Kd.R_new' ho22 (Kd.R_lt (rr HO428))) (below_size (bb HB)));have n5_ := am (below_step (bb HB) hb);clear HO415 HO419 HO425 HO428 HB;have HO415 := n0_;have HO419 := n1_;have HO425 := n2_;have HO428 := n3_;have HO431 := n4_;have HB := n5_;clear n0_ n1_ n2_ n3_ n4_ n5_;clear hb ho22;obtain ⟨Ao23,co23,eo23⟩ := Kd.N_slice HO425.out;subst eo23;obtain ⟨Ao24,co24,eo24⟩ := Kd.R_slice HO428.out;subst eo24;obtain ⟨Ao25,co25,eo25⟩ := Kd.R_slice HO431.out;subst eo25)|((with_reducible refine gate_callee (f := 22) rfl ?_);refine goesL_ (some 23) rfl rfl Try.func22 (by kernel_rfl) rfl #[.int .u64 31,.slice Ao23 y423.length co23,.slice Ao24 y426.length co24,.slice Ao25 y429.length co25] rfl (by (try simp only [List.map_toArray,List.map_cons,List.map_nil]);first|done|rfl|(simp only [List.length_drop,List.length_take];rfl)) ?_;(with_reducible refine (hyperinvertible_Complete.calls 31 _ _ y423 _ _ y426 _ _ y429 t432 t433 t434 _ ?side1 ?side2 ?side3 ?side4 ?side5 ?side6 A3.out).mono ?_);(case side1 => repeat (first|exact (Kd.N_reads' HO425.out).2.2|(with_reducible refine Kd.C_alloc ?_ _)|(with_reducible refine Kd.C_drewN ?_ _)|(with_reducible refine Kd.C_drew ?_)));(case side2 => exact (Kd.N_reads' HO425.out).2.1);(case side3 => exact cr HO428);(case side4 => exact (Kd.R_reads' HO428.out).2.1);(case side5 => exact cr HO431);(case side6 => exact (Kd.R_reads' HO431.out).2.1);rintro e w26 ⟨v435,v437,rfl,ho0,ho1,hb⟩;refine ⟨_,rfl,?_⟩;have n0_ := am (Kd.N_mono (Kd.N_told (Kd.N_told (Kd.N_old (rn HO415) hb) (Kd.R_base ho0)) (Kd.R_base ho1)) (fun _ h_ => h_.1));have n1_ := am (Kd.N_mono (Kd.N_told (Kd.N_told (Kd.N_old (rn HO419) hb) (Kd.R_base ho0)) (Kd.R_base ho1)) (fun _ h_ => h_.1));have n2_ := am (Kd.N_mono (Kd.N_told (Kd.N_told (Kd.N_old (rn HO425) hb) (Kd.R_base ho0)) (Kd.R_base ho1)) (fun _ h_ => h_.1));have n3_ := am (Kd.R_below (rr HO428) hb);have n4_ := am (Kd.R_below (rr HO431) hb);have n5_ := am (Kd.R_lower ho0 (below_size (bb HB)));have n6_ := am (Kd.R_lower ho1 (below_size (bb HB)));have n7_ := am (below_step (bb HB) hb);clear HO415 HO419 HO425 HO428 HO431 HB;have HO415 := n0_;have HO419 := n1_;have HO425 := n2_;have HO428 := n3_;have HO431 := n4_;have HO436 := n5_;have HO438 := n6_;have HB := n7_;clear n0_ n1_ n2_ n3_ n4_ n5_ n6_ n7_;(try clear hb);(try clear hb2);(try clear hk);(try clear hi);(try clear ho0);(try clear ho1))|((with_reducible refine gate_dst (N := 31) rfl ?_);(try (refine gate_guard (by rfl) ?_;dsimp only));refine Kd.R_lit (Kd.int .u64) _ 22 ?hg (N := 31) ?hd (xs := ([30,2] : List Int)) (inner := [.int .u64 30,.int .u64 2]) (ok := fun _ => True) (okp := fun _ => True) ?hr ?hp (fun _ hk => hk) trivial (Below.refl _ _) (Nat.le_refl _) (by simp) ?_;(case hd => rfl);(case hg => rfl);(case hr => first|(go_simp;done)|(go_simp;rfl));(case hp => exact (Reps.one (show Kd.M (Kd.int .u64) _ _ _ 30 [.int .u64 30] from rfl) (Reps.one (show Kd.M (Kd.int .u64) _ _ _ 2 [.int .u64 2] from rfl) (Reps.none _ _))));intro v440 w27 ho28 hb hg_ hnew_;clear hg_ hnew_;(first|rw [← Ny439.out] at ho28|(simp only [Int.reduceToNat] at ho28;rw [← Ny439.out] at ho28));have n0_ := am (Kd.N_elder' (rn HO415) (Kd.R_base ho28) hb);have n1_ := am (Kd.N_elder' (rn HO419) (Kd.R_base ho28) hb);have n2_ := am (Kd.N_elder' (rn HO425) (Kd.R_base ho28) hb);have n3_ := am (Kd.R_below (rr HO428) hb);have n4_ := am (Kd.R_below (rr HO431) hb);have n5_ := am (Kd.R_elder' (rr HO436) (Kd.R_base ho28) hb);have n6_ := am (Kd.R_elder' (rr HO438) (Kd.R_base ho28) hb);have n7_ := am (Kd.R_lower (Kd.R_new' (Kd.R_new' ho28 (Kd.R_lt (rr HO436))) (Kd.R_lt (rr HO438))) (below_size (bb HB)));have n8_ := am (below_step (bb HB) hb);clear HO415 HO419 HO425 HO428 HO431 HO436 HO438 HB;have HO415 := n0_;have HO419 := n1_;have HO425 := n2_;have HO428 := n3_;have HO431 := n4_;have HO436 := n5_;have HO438 := n6_;have HO441 := n7_;have HB := n8_;clear n0_ n1_ n2_ n3_ n4_ n5_ n6_ n7_ n8_;clear hb ho28;obtain ⟨Ao29,co29,eo29⟩ := Kd.R_slice HO441.out;subst eo29)|((with_reducible refine gate_dst (N := 32) rfl ?_);(try (refine gate_guard (by rfl) ?_;dsimp only));refine Kd.N_lit (Kd.slice 22 (Kd.int .u64)) _ 40 ?hg (N' := 32) ?hd (xs := ([y439] : List (List Int))) (inner := [.slice Ao29 y439.length co29]) (ok := (fun k_ => some k_ ≠ (v414 : Value).ownBlock ∧ some k_ ≠ (v418 : Value).ownBlock ∧ some k_ ≠ (.slice Ao23 y423.length co23 : Value).ownBlock ∧ some k_ ≠ (.slice Ao24 y426.length co24 : Value).ownBlock ∧ some k_ ≠ (.slice Ao25 y429.length co25 : Value).ownBlock ∧ some k_ ≠ (v435 : Value).ownBlock ∧ some k_ ≠ (v437 : Value).ownBlock)) (okp := (fun k_ => some k_ ≠ (v414 : Value).ownBlock ∧ some k_ ≠ (v418 : Value).ownBlock ∧ some k_ ≠ (.slice Ao23 y423.length co23 : Value).ownBlock ∧ some k_ ≠ (.slice Ao24 y426.length co24 : Value).ownBlock ∧ some k_ ≠ (.slice Ao25 y429.length co25 : Value).ownBlock ∧ some k_ ≠ (v435 : Value).ownBlock ∧ some k_ ≠ (v437 : Value).ownBlock)) ?hr ?hp (fun _ hk => hk) ((show ∀ k_,w27.heap.size ≤ k_ → (fun k_ => some k_ ≠ (v414 : Value).ownBlock ∧ some k_ ≠ (v418 : Value).ownBlock ∧ some k_ ≠ (.slice Ao23 y423.length co23 : Value).ownBlock ∧ some k_ ≠ (.slice Ao24 y426.length co24 : Value).ownBlock ∧ some k_ ≠ (.slice Ao25 y429.length co25 : Value).ownBlock ∧ some k_ ≠ (v435 : Value).ownBlock ∧ some k_ ≠ (v437 : Value).ownBlock) k_ from fun k_ hk => ⟨Kd.fresh' (Kd.N_lt (rn HO415)) k_ hk,Kd.fresh' (Kd.N_lt (rn HO419)) k_ hk,Kd.fresh' (Kd.N_lt (rn HO425)) k_ hk,Kd.fresh' (Kd.R_lt (rr HO428)) k_ hk,Kd.fresh' (Kd.R_lt (rr HO431)) k_ hk,Kd.fresh' (Kd.R_lt (rr HO436)) k_ hk,Kd.fresh' (Kd.R_lt (rr HO438)) k_ hk⟩) _ (Nat.le_refl _)) (Below.refl _ _) (Nat.le_refl _) (by simp) ?_;(case hd => rfl);(case hg => rfl);(case hr => first|(go_simp;done)|(go_simp;rfl));(case hp => exact (Reps.one (show Kd.FK (Kd.slice 22 (Kd.int .u64)) _ _ y439 [.slice Ao29 y439.length co29] from (Kd.FK_slice_mk (Kd.R_reads' (Kd.R_mono (ok' := (fun k_ => some k_ ≠ (v414 : Value).ownBlock ∧ some k_ ≠ (v418 : Value).ownBlock ∧ some k_ ≠ (.slice Ao23 y423.length co23 : Value).ownBlock ∧ some k_ ≠ (.slice Ao24 y426.length co24 : Value).ownBlock ∧ some k_ ≠ (.slice Ao25 y429.length co25 : Value).ownBlock ∧ some k_ ≠ (v435 : Value).ownBlock ∧ some k_ ≠ (v437 : Value).ownBlock)) (Kd.R_apart' (Kd.R_apart' (Kd.R_apart' (Kd.R_apart' (Kd.R_apart' (HO441.out) (Kd.N_typed HO415.out) (by decide)) (Kd.N_typed HO419.out) (by decide)) (Kd.N_typed HO425.out) (by decide)) (Kd.R_typed HO428.out) (by decide)) (Kd.R_typed HO431.out) (by decide)) (fun k_ hk => ⟨hk.1.1.1.1.2,⟨hk.1.1.1.2,⟨hk.1.1.2,⟨hk.1.2,⟨hk.2,⟨hk.1.1.1.1.1.1.2,hk.1.1.1.1.1.2⟩⟩⟩⟩⟩⟩))).2.1 (Kd.R_F (Kd.R_mono (ok' := (fun k_ => some k_ ≠ (v414 : Value).ownBlock ∧ some k_ ≠ (v418 : Value).ownBlock ∧ some k_ ≠ (.slice Ao23 y423.length co23 : Value).ownBlock ∧ some k_ ≠ (.slice Ao24 y426.length co24 : Value).ownBlock ∧ some k_ ≠ (.slice Ao25 y429.length co25 : Value).ownBlock ∧ some k_ ≠ (v435 : Value).ownBlock ∧ some k_ ≠ (v437 : Value).ownBlock)) (Kd.R_apart' (Kd.R_apart' (Kd.R_apart' (Kd.R_apart' (Kd.R_apart' (HO441.out) (Kd.N_typed HO415.out) (by decide)) (Kd.N_typed HO419.out) (by decide)) (Kd.N_typed HO425.out) (by decide)) (Kd.R_typed HO428.out) (by decide)) (Kd.R_typed HO431.out) (by decide)) (fun k_ hk => ⟨hk.1.1.1.1.2,⟨hk.1.1.1.2,⟨hk.1.1.2,⟨hk.1.2,⟨hk.2,⟨hk.1.1.1.1.1.1.2,hk.1.1.1.1.1.2⟩⟩⟩⟩⟩⟩))))) (Reps.none _ _)));intro v443 w30 ho31 hb hg_ hnew_;clear hg_ hnew_;(first|rw [← Ny442.out] at ho31|(simp only [Int.reduceToNat] at ho31;rw [← Ny442.out] at ho31));have n0_ := am (Kd.N_elder' (rn HO415) (Kd.N_base ho31) hb);have n1_ := am (Kd.N_elder' (rn HO419) (Kd.N_base ho31) hb);have n2_ := am (Kd.N_elder' (rn HO425) (Kd.N_base ho31) hb);have n3_ := am (Kd.R_below (rr HO428) hb);have n4_ := am (Kd.R_below (rr HO431) hb);have n5_ := am (Kd.R_below (rr HO436) hb);have n6_ := am (Kd.R_below (rr HO438) hb);have n7_ := am (Kd.N_lower ho31 (below_size (bb HB)));have n8_ := am (below_step (bb HB) hb);clear HO415 HO419 HO425 HO428 HO431 HO436 HO438 HB HO441;have HO415 := n0_;have HO419 := n1_;have HO425 := n2_;have HO428 := n3_;have HO431 := n4_;have HO436 := n5_;have HO438 := n6_;have HO444 := n7_;have HB := n8_;clear n0_ n1_ n2_ n3_ n4_ n5_ n6_ n7_ n8_;clear hb ho31;obtain ⟨Ao32,co32,eo32⟩ := Kd.N_slice HO415.out;subst eo32;obtain ⟨Ao33,co33,eo33⟩ := Kd.N_slice HO444.out;subst eo33)|(go_at_call 16;(with_reducible refine (privityref05_SameRows.calls k _ _ t412 _ _ y442 true _ ?side1 ?side2 ?side3 ?side4 A5.out).mono ?_);(case side1 => repeat (first|exact (Kd.N_reads' HO415.out).2.2|(with_reducible refine Kd.C_alloc ?_ _)|(with_reducible refine Kd.C_drewN ?_ _)|(with_reducible refine Kd.C_drew ?_)));(case side2 => exact (Kd.N_reads' HO415.out).2.1);(case side3 => repeat (first|exact (Kd.N_reads' HO444.out).2.2|(with_reducible refine Kd.C_alloc ?_ _)|(with_reducible refine Kd.C_drewN ?_ _)|(with_reducible refine Kd.C_drew ?_)));(case side4 => exact (Kd.N_reads' HO444.out).2.1);rintro e w' ⟨rfl,⟨nd,rfl⟩⟩)|((with_reducible refine gate_dst (N := 45) rfl ?_);(try (refine gate_guard (by rfl) ?_;dsimp only));refine Kd.R_lit (Kd.int .u64) _ 22 ?hg (N := 45) ?hd (xs := ([3,5] : List Int)) (inner := [.int .u64 3,.int .u64 5]) (ok := fun _ => True) (okp := fun _ => True) ?hr ?hp (fun _ hk => hk) trivial (Below.refl _ _) (Nat.le_refl _) (by simp) ?_;(case hd => rfl);(case hg => rfl);(case hr => first|(go_simp;done)|(go_simp;rfl));(case hp => exact (Reps.one (show Kd.M (Kd.int .u64) _ _ _ 3 [.int .u64 3] from rfl) (Reps.one (show Kd.M (Kd.int .u64) _ _ _ 5 [.int .u64 5] from rfl) (Reps.none _ _))));intro v447 w34 ho35 hb hg_ hnew_;clear hg_ hnew_;(first|rw [← Ny446.out] at ho35|(simp only [Int.reduceToNat] at ho35;rw [← Ny446.out] at ho35));have n0_ := am (Kd.N_elder' (rn HO415) (Kd.R_base ho35) hb);have n1_ := am (Kd.N_elder' (rn HO419) (Kd.R_base ho35) hb);have n2_ := am (Kd.N_elder' (rn HO425) (Kd.R_base ho35) hb);have n3_ := am (Kd.R_below (rr HO428) hb);have n4_ := am (Kd.R_below (rr HO431) hb);have n5_ := am (Kd.R_elder' (rr HO436) (Kd.R_base ho35) hb);have n6_ := am (Kd.R_elder' (rr HO438) (Kd.R_base ho35) hb);have n7_ := am (Kd.N_elder' (rn HO444) (Kd.R_base ho35) hb);have n8_ := am (Kd.R_lower (Kd.R_new' (Kd.R_new' ho35 (Kd.R_lt (rr HO436))) (Kd.R_lt (rr HO438))) (below_size (bb HB)));have n9_ := am (below_step (bb HB) hb);clear HO415 HO419 HO425 HO428 HO431 HO436 HO438 HO444 HB;have HO415 := n0_;have HO419 := n1_;have HO425 := n2_;have HO428 := n3_;have HO431 := n4_;have HO436 := n5_;have HO438 := n6_;have HO444 := n7_;have HO448 := n8_;have HB := n9_;clear n0_ n1_ n2_ n3_ n4_ n5_ n6_ n7_ n8_ n9_;clear hb ho35;obtain ⟨Ao36,co36,eo36⟩ := Kd.R_slice HO436.out;subst eo36;obtain ⟨Ao37,co37,eo37⟩ := Kd.R_slice HO448.out;subst eo37)|(go_at_call 24;(with_reducible refine (privityref05_Same.calls k _ _ t432 _ _ y446 true _ ?side1 ?side2 ?side3 ?side4 A9.out).mono ?_);(case side1 => exact cr HO436);(case side2 => exact (Kd.R_reads' HO436.out).2.1);(case side3 => exact cr HO448);(case side4 => exact (Kd.R_reads' HO448.out).2.1);rintro e w' ⟨rfl,⟨nd,rfl⟩⟩)|((with_reducible refine gate_dst (N := 50) rfl ?_);(try (refine gate_guard (by rfl) ?_;dsimp only));refine Kd.R_lit (Kd.int .u64) _ 22 ?hg (N := 50) ?hd (xs := ([7] : List Int)) (inner := [.int .u64 7]) (ok := fun _ => True) (okp := fun _ => True) ?hr ?hp (fun _ hk => hk) trivial (Below.refl _ _) (Nat.le_refl _) (by simp) ?_;(case hd => rfl);(case hg => rfl);(case hr => first|(go_simp;done)|(go_simp;rfl));(case hp => exact (Reps.one (show Kd.M (Kd.int .u64) _ _ _ 7 [.int .u64 7] from rfl) (Reps.none _ _)));intro v451 w38 ho39 hb hg_ hnew_;clear hg_ hnew_;(first|rw [← Ny450.out] at ho39|(simp only [Int.reduceToNat] at ho39;rw [← Ny450.out] at ho39));have n0_ := am (Kd.N_elder' (rn HO415) (Kd.R_base ho39) hb);have n1_ := am (Kd.N_elder' (rn HO419) (Kd.R_base ho39) hb);have n2_ := am (Kd.N_elder' (rn HO425) (Kd.R_base ho39) hb);have n3_ := am (Kd.R_below (rr HO428) hb);have n4_ := am (Kd.R_below (rr HO431) hb);have n5_ := am (Kd.R_elder' (rr HO436) (Kd.R_base ho39) hb);have n6_ := am (Kd.R_elder' (rr HO438) (Kd.R_base ho39) hb);have n7_ := am (Kd.N_elder' (rn HO444) (Kd.R_base ho39) hb);have n8_ := am (Kd.R_elder' (rr HO448) (Kd.R_base ho39) hb);have n9_ := am (Kd.R_lower (Kd.R_new' (Kd.R_new' (Kd.R_new' ho39 (Kd.R_lt (rr HO436))) (Kd.R_lt (rr HO438))) (Kd.R_lt (rr HO448))) (below_size (bb HB)));have n10_ := am (below_step (bb HB) hb);clear HO415 HO419 HO425 HO428 HO431 HO436 HO438 HO444 HO448 HB;have HO415 := n0_;have HO419 := n1_;have HO425 := n2_;have HO428 := n3_;have HO431 := n4_;have HO436 := n5_;have HO438 := n6_;have HO444 := n7_;have HO448 := n8_;have HO452 := n9_;have HB := n10_;clear n0_ n1_ n2_ n3_ n4_ n5_ n6_ n7_ n8_ n9_ n10_;clear hb ho39;obtain ⟨Ao40,co40,eo40⟩ := Kd.R_slice HO438.out;subst eo40;obtain ⟨Ao41,co41,eo41⟩ := Kd.R_slice HO452.out;subst eo41)|(go_at_call 24;(with_reducible refine (privityref05_Same.calls k _ _ t433 _ _ y450 t453 _ ?side1 ?side2 ?side3 ?side4 A11.out).mono ?_);(case side1 => exact cr HO438);(case side2 => exact (Kd.R_reads' HO438.out).2.1);(case side3 => exact cr HO452);(case side4 => exact (Kd.R_reads' HO452.out).2.1);rintro e w' ⟨rfl,⟨nd,rfl⟩⟩))
      go_ret
      exact ⟨by first|rfl|(simp [errW_none,errW_some] <;> rfl)|(simp [*,errW_none,errW_some] <;> rfl),bb HB⟩
     ·replace c10 := Bool.eq_false_iff.mpr c10
      subst c10
      rw [if_neg (show ¬ (false = true) by decide)] at H
      exact absurd (Option.some.inj H) (by rw [HR1.out];simp)
    ·rw [if_neg c8] at H
     have c8b0 : (t434 == 0) = false := beq_eq_false_iff_ne.mpr c8
     have c8b1 : (t434 != 0) = true := bne_iff_ne.mpr c8
     exact absurd (Option.some.inj H) (by rw [HR1.out];simp)
   ·rw [if_neg c7] at H
    have c7b0 : (t417 == 2) = false := beq_eq_false_iff_ne.mpr c7
    have c7b1 : (t417 != 2) = true := bne_iff_ne.mpr c7
    exact absurd (Option.some.inj H) (by rw [HR1.out];simp)
  ·replace c6 := Bool.eq_false_iff.mpr c6
   subst c6
   rw [if_neg (show ¬ (false = true) by decide)] at H
   exact absurd (Option.some.inj H) (by rw [HR1.out];simp)
 ·rw [if_neg c4] at H
  have c4b0 : (t413 == 0) = false := beq_eq_false_iff_ne.mpr c4
  have c4b1 : (t413 != 0) = true := bne_iff_ne.mpr c4
  exact absurd (Option.some.inj H) (by rw [HR1.out];simp)
def privityref07_Small.l0 : Nat → List (List Int) → Int → Int → Option (Bool)
 | 0,_,_,_ => none
 | k + 1,x0,x2,x7 => if x7 < (x0.length : Int) then (if 0 ≤ x7 then (if ((rd_L2 x0 x7).length : Int) > x2 then (some false) else (privityref07_Small.l0 k x0 x2 (wrap64 (x7 + 1)))) else (none)) else (some true)
def privityref07_Small.f (k : Nat) (l0 : List (List Int)) (a1 : Int) (a2 : Int) : Option (Bool) := if (l0.length : Int) > a1 then (some false) else (privityref07_Small.l0 k l0 a2 0)
set_option maxHeartbeats 8000000 in
set_option maxRecDepth 100000 in
theorem privityref07_Small.calls (k : Nat) (A0 : Option Addr) (c0 : Nat) (l0 : List (List Int)) (a1 : Int) (a2 : Int) (r : Bool) (w : World) (hr0 : Kd.C (Kd.slice 22 (Kd.int .u64)) w A0 l0.length l0) (hc0 : l0.length ≤ c0) (h : privityref07_Small.f k l0 a1 a2 = some r) :
  Calls Try.prog 17 #[.slice A0 l0.length c0,.int .i64 a1,.int .i64 a2] w fun e w' => e = .returned (.bool r) ∧ Drawn0 w w' := by
 have HR0 := am hr0
 have HC0 := am hc0
 clear hr0 hc0
 have H : (if (l0.length : Int) > a1 then (some false) else (privityref07_Small.l0 k l0 a2 0)) = some r := h
 clear h
 by_cases c4 : (l0.length : Int) > a1
 ·rw [if_pos c4] at H
  have c4b0 : decide (a1 < (l0.length : Int)) = true := decide_eq_true c4
  clear c4
  obtain rfl := Option.some.inj H
  go_enter Try.func17,Try.ntmps17
  go_wp2
  go_ret
  exact ⟨by first|rfl|(simp;done)|(simp [*];done),by repeat (first|exact Drawn0.refl _|apply Drawn0.step)⟩
 ·rw [if_neg c4] at H
  have c4b0 : decide (a1 < (l0.length : Int)) = false := decide_eq_false c4
  clear c4
  have H' := am H
  clear H
  go_enter Try.func17,Try.ntmps17
  go_wp2
  go_loopg [7] k (fun kq v7 w' => ∃ (x7_1 : Int),v7 = .int .i64 x7_1 ∧ Aside0 (privityref07_Small.l0 kq l0 a2 x7_1 = some r) ∧ Aside0 (kq ≤ k) ∧ Drawn0 w w')
  case atStart => exact ⟨(0),(by first|rfl|(simp;done)|(simp [*];done)),H',⟨Nat.le_refl _⟩,by repeat (first|exact Drawn0.refl _|apply Drawn0.step)⟩
  case round =>
   clear H'
   try clear c1
   try clear p2
   try clear c4
   try clear c4b0
   obtain ⟨x7_1,rfl,HA,HK1,⟨m1,rfl⟩⟩ := hrel
   cases gk with
   | zero => exact absurd HA.out (by simp [privityref07_Small.l0])
   | succ k1 =>
    have H := HA.out
    clear HA
    simp only [privityref07_Small.l0] at H
    by_cases c5 : x7_1 < (l0.length : Int)
    ·rw [if_pos c5] at H
     have c5b0 : decide (x7_1 < (l0.length : Int)) = true := decide_eq_true c5
     clear c5
     by_cases c6 : 0 ≤ x7_1
     ·rw [if_pos c6] at H
      have c6b0 : decide (0 ≤ x7_1) = true := decide_eq_true c6
      clear c6
      by_cases c7 : ((rd_L2 l0 x7_1).length : Int) > a2
      ·rw [if_pos c7] at H
       have c7b0 : decide (a2 < ((rd_L2 l0 x7_1).length : Int)) = true := decide_eq_true c7
       clear c7
       obtain rfl := Option.some.inj H
       have p484 : 0 ≤ (x7_1 : Int) := od
       have q484 : x7_1 < (l0.length : Int) := od
       obtain ⟨ad484,A484_0,c484_0,e484,hx484_0,hl484_0,hi484_0⟩ := at_L2 HR0.out x7_1 p484 q484
       cases e484
       have HR484_0 := am hi484_0
       have HC484_0 := am hl484_0
       clear hi484_0 hl484_0
       replace p484 := eq_true p484
       replace q484 := eq_true q484
       go_wp2
       go_ret
       exact ⟨by first|rfl|(simp;done)|(simp [*];done),by repeat (first|exact Drawn0.refl _|apply Drawn0.step)⟩
      ·rw [if_neg c7] at H
       have c7b0 : decide (a2 < ((rd_L2 l0 x7_1).length : Int)) = false := decide_eq_false c7
       clear c7
       have H' := am H
       clear H
       have p484 : 0 ≤ (x7_1 : Int) := od
       have q484 : x7_1 < (l0.length : Int) := od
       obtain ⟨ad484,A484_0,c484_0,e484,hx484_0,hl484_0,hi484_0⟩ := at_L2 HR0.out x7_1 p484 q484
       cases e484
       have HR484_0 := am hi484_0
       have HC484_0 := am hl484_0
       clear hi484_0 hl484_0
       replace p484 := eq_true p484
       replace q484 := eq_true q484
       go_wp2
       go_roundg k1
       case measure => have := HK1.out;omega
       case rel => exact ⟨(wrap64 (x7_1 + 1)),(by first|rfl|(simp;done)|(simp [*];done)),H',⟨by have := HK1.out;omega⟩,by repeat (first|exact Drawn0.refl _|apply Drawn0.step)⟩
     ·rw [if_neg c6] at H
      exact absurd H (by simp)
    ·rw [if_neg c5] at H
     have c5b0 : decide (x7_1 < (l0.length : Int)) = false := decide_eq_false c5
     clear c5
     obtain rfl := Option.some.inj H
     go_wp2
     go_ret
     exact ⟨by first|rfl|(simp;done)|(simp [*];done),by repeat (first|exact Drawn0.refl _|apply Drawn0.step)⟩
def privitylaw07_HyperinvertibleSubmatrixMatchesReference.j0 : Nat → List (List Int) → List Int → List Int → Bool → Option (Bool)
 | 0,_,_,_,_ => none
 | k + 1,x0,x1,x2,x25 => if x25 = true then (some true) else ((hyperinvertible_Submatrix.f k x0 x1 x2).bind fun bt503 => ((privityref07_Submatrix.f k x0 x1 x2).bind fun bt507 => (if bt503.2 = bt507.2 then ((privityref05_SameRows.f k bt503.1 bt507.1).bind fun t511 => (some t511)) else (some false))))
def privitylaw07_HyperinvertibleSubmatrixMatchesReference.f (k : Nat) (l0 : List (List Int)) (l1 : List Int) (l2 : List Int) : Option (Bool) := (privitylaw07_awake.f k).bind fun t501 => (if t501 = true then ((privityref07_Small.f k l0 10 10).bind fun t502 => (if t502 = true then (if (l1.length : Int) > 10 then (privitylaw07_HyperinvertibleSubmatrixMatchesReference.j0 k l0 l1 l2 true) else (privitylaw07_HyperinvertibleSubmatrixMatchesReference.j0 k l0 l1 l2 (decide ((l2.length : Int) > 10)))) else (privitylaw07_HyperinvertibleSubmatrixMatchesReference.j0 k l0 l1 l2 true))) else (some false))
set_option maxHeartbeats 8000000 in
set_option maxRecDepth 100000 in
theorem privitylaw07_HyperinvertibleSubmatrixMatchesReference.calls (k : Nat) (A0 : Option Addr) (c0 : Nat) (l0 : List (List Int)) (A1 : Option Addr) (c1 : Nat) (l1 : List Int) (A2 : Option Addr) (c2 : Nat) (l2 : List Int) (r : Bool) (w : World) (hr0 : Kd.C (Kd.slice 22 (Kd.int .u64)) w A0 l0.length l0) (hc0 : l0.length ≤ c0) (hr1 : Kd.C (Kd.int .i64) w A1 l1.length l1) (hc1 : l1.length ≤ c1) (hr2 : Kd.C (Kd.int .i64) w A2 l2.length l2) (hc2 : l2.length ≤ c2) (hr1_ : r = true) (h : privitylaw07_HyperinvertibleSubmatrixMatchesReference.f k l0 l1 l2 = some r) :
  Calls Try.prog 4 #[.slice A0 l0.length c0,.slice A1 l1.length c1,.slice A2 l2.length c2] w fun e w' => e = .returned (.bool r) ∧ Below w.heap.size w w' := by
 have HRT_ := am hr1_
 clear hr1_
 have HR0 := am hr0
 have HC0 := am hc0
 clear hr0 hc0
 have HR1 := am hr1
 have HC1 := am hc1
 clear hr1 hc1
 have HR2 := am hr2
 have HC2 := am hc2
 clear hr2 hc2
 have HB := am (Below.refl w.heap.size w)
 have H : ((privitylaw07_awake.f k).bind fun t501 => (if t501 = true then ((privityref07_Small.f k l0 10 10).bind fun t502 => (if t502 = true then (if (l1.length : Int) > 10 then (privitylaw07_HyperinvertibleSubmatrixMatchesReference.j0 k l0 l1 l2 true) else (privitylaw07_HyperinvertibleSubmatrixMatchesReference.j0 k l0 l1 l2 (decide ((l2.length : Int) > 10)))) else (privitylaw07_HyperinvertibleSubmatrixMatchesReference.j0 k l0 l1 l2 true))) else (some false))) = some r := h
 clear h
 replace H := Option.bind_eq_some_iff.mp H
 obtain ⟨t501,A40,H⟩ := H
 try dsimp only at H
 have A4 := am A40
 clear A40
 by_cases c5 : t501 = true
 ·subst c5
  rw [if_pos rfl] at H
  have HC6 := am H
  clear H
  go_enter Try.func4,Try.ntmps4
  go_upto_region 3 with (first|((with_reducible refine gate_callee (f := 12) rfl ?_);refine goesL_ (some 11) rfl rfl Try.func12 (by kernel_rfl) rfl #[] rfl (by (try simp only [List.map_toArray,List.map_cons,List.map_nil]);first|done|rfl|(simp only [List.length_drop,List.length_take];rfl)) ?_;(with_reducible refine (privitylaw07_awake.calls k  true _ A4.out).mono ?_);rintro e w7 ⟨rfl,hb⟩;refine ⟨_,rfl,?_⟩;have n0_ := am (below_step (bb HB) hb);clear HB;have HB := n0_;clear n0_;(try clear hb);(try clear hb2);(try clear hk);(try clear hi)))
  (try simp only [Act.put,List.setIfInBounds_toArray,List.set_cons_zero,List.set_cons_succ])
  go_cut [25] (fun v25 wc => ∃ (kq : Nat) (x25_5 : Bool),v25 = .bool x25_5 ∧ Aside0 (privitylaw07_HyperinvertibleSubmatrixMatchesReference.j0 kq l0 l1 l2 x25_5 = some r) ∧ Aside0 (kq ≤ k) ∧ Aside0 (Below w.heap.size w wc))
  case first =>
   have H := HC6.out
   clear HC6
   replace H := Option.bind_eq_some_iff.mp H
   obtain ⟨t502,A80,H⟩ := H
   try dsimp only at H
   have A8 := am A80
   clear A80
   by_cases c9 : t502 = true
   ·subst c9
    rw [if_pos rfl] at H
    by_cases c10 : (l1.length : Int) > 10
    ·rw [if_pos c10] at H
     have c10b0 : decide (10 < (l1.length : Int)) = true := decide_eq_true c10
     have c10b1 : decide (10 < l1.length) = true := decide_eq_true (by omega)
     clear c10
     (first|rw [c10b0]|(simp only [i64_w,i32_w];rw [c10b0])|skip)
     have H' := am H
     clear H
     go_wp2_with (first|((with_reducible refine gate_callee (f := 17) rfl ?_);refine goesL_ (some 14) rfl rfl Try.func17 (by kernel_rfl) rfl #[.slice A0 l0.length c0,.int .i64 10,.int .i64 10] rfl (by (try simp only [List.map_toArray,List.map_cons,List.map_nil]);first|done|rfl|(simp only [List.length_drop,List.length_take];rfl)) ?_;(with_reducible refine (privityref07_Small.calls k _ _ l0 10 10 true _ ?side1 ?side2 A8.out).mono ?_);(case side1 => exact cb HR0 HB);(case side2 => exact HC0.out);rintro e w' ⟨rfl,⟨nd,rfl⟩⟩;refine ⟨_,rfl,?_⟩))
     go_meet
     case rel => exact ⟨_,(true),(by first|rfl|(simp;done)|(simp [*];done)),H',⟨by first|omega|exact Nat.le_refl _⟩,⟨bb HB⟩⟩
    ·rw [if_neg c10] at H
     have c10b0 : decide (10 < (l1.length : Int)) = false := decide_eq_false c10
     have c10b1 : decide (10 < l1.length) = false := decide_eq_false (by omega)
     clear c10
     (first|rw [c10b0]|(simp only [i64_w,i32_w];rw [c10b0])|skip)
     have H' := am H
     clear H
     go_wp2_with (first|((with_reducible refine gate_callee (f := 17) rfl ?_);refine goesL_ (some 14) rfl rfl Try.func17 (by kernel_rfl) rfl #[.slice A0 l0.length c0,.int .i64 10,.int .i64 10] rfl (by (try simp only [List.map_toArray,List.map_cons,List.map_nil]);first|done|rfl|(simp only [List.length_drop,List.length_take];rfl)) ?_;(with_reducible refine (privityref07_Small.calls k _ _ l0 10 10 true _ ?side1 ?side2 A8.out).mono ?_);(case side1 => exact cb HR0 HB);(case side2 => exact HC0.out);rintro e w' ⟨rfl,⟨nd,rfl⟩⟩;refine ⟨_,rfl,?_⟩))
     go_meet
     case rel => exact ⟨_,(decide ((l2.length : Int) > 10)),(by first|rfl|(simp;done)|(simp [*];done)),H',⟨by first|omega|exact Nat.le_refl _⟩,⟨bb HB⟩⟩
   ·replace c9 := Bool.eq_false_iff.mpr c9
    subst c9
    rw [if_neg (show ¬ (false = true) by decide)] at H
    have H' := am H
    clear H
    go_wp2_with (first|((with_reducible refine gate_callee (f := 17) rfl ?_);refine goesL_ (some 14) rfl rfl Try.func17 (by kernel_rfl) rfl #[.slice A0 l0.length c0,.int .i64 10,.int .i64 10] rfl (by (try simp only [List.map_toArray,List.map_cons,List.map_nil]);first|done|rfl|(simp only [List.length_drop,List.length_take];rfl)) ?_;(with_reducible refine (privityref07_Small.calls k _ _ l0 10 10 false _ ?side1 ?side2 A8.out).mono ?_);(case side1 => exact cb HR0 HB);(case side2 => exact HC0.out);rintro e w' ⟨rfl,⟨nd,rfl⟩⟩;refine ⟨_,rfl,?_⟩))
    go_meet
    case rel => exact ⟨_,(true),(by first|rfl|(simp;done)|(simp [*];done)),H',⟨by first|omega|exact Nat.le_refl _⟩,⟨bb HB⟩⟩
  case rest =>
   clear HC6
   try clear c1
   try clear c2
   try clear p2
   try clear c4
   try clear c5
   try clear c9
   try clear c10
   try clear c10b0
   try clear c10b1
   obtain ⟨kq,x25_5,rfl,HA,HJ5,HB⟩ := hcut
   cases kq with
   | zero => exact absurd HA.out (by simp [privitylaw07_HyperinvertibleSubmatrixMatchesReference.j0])
   | succ kj5 =>
    have H := HA.out
    clear HA
    simp only [privitylaw07_HyperinvertibleSubmatrixMatchesReference.j0] at H
    by_cases c11 : x25_5 = true
    ·subst c11
     rw [if_pos rfl] at H
     obtain rfl := Option.some.inj H
     go_wp2
     go_ret
     exact ⟨by first|rfl|(simp [errW_none,errW_some] <;> rfl)|(simp [*,errW_none,errW_some] <;> rfl),bb HB⟩
    ·replace c11 := Bool.eq_false_iff.mpr c11
     subst c11
     rw [if_neg (show ¬ (false = true) by decide)] at H
     replace H := Option.bind_eq_some_iff.mp H
     obtain ⟨⟨t503,t504⟩,A120,H⟩ := H
     try dsimp only at H
     have A12 := am A120
     clear A120
     replace H := Option.bind_eq_some_iff.mp H
     obtain ⟨⟨t507,t508⟩,A130,H⟩ := H
     try dsimp only at H
     have A13 := am A130
     clear A130
     by_cases c14 : t504 = t508
     ·rw [if_pos c14] at H
      have c14b0 : (t504 == t508) = true := beq_iff_eq.mpr c14
      have c14b1 : (t504 != t508) = false := bne_eq_false_iff_eq.mpr c14
      clear c14
      replace H := Option.bind_eq_some_iff.mp H
      obtain ⟨t511,A150,H⟩ := H
      try dsimp only at H
      have A15 := am A150
      clear A150
      obtain rfl := Option.some.inj H
      go_wp2_with (first|((with_reducible refine gate_callee (f := 18) rfl ?_);refine goesL_ (some 30) rfl rfl Try.func18 (by kernel_rfl) rfl #[.slice A0 l0.length c0,.slice A1 l1.length c1,.slice A2 l2.length c2] rfl (by (try simp only [List.map_toArray,List.map_cons,List.map_nil]);first|done|rfl|(simp only [List.length_drop,List.length_take];rfl)) ?_;(with_reducible refine (hyperinvertible_Submatrix.calls kj5 _ _ l0 _ _ l1 _ _ l2 t503 t504 _ ?side1 ?side2 ?side3 ?side4 ?side5 ?side6 A12.out).mono ?_);(case side1 => exact cb HR0 HB);(case side2 => exact HC0.out);(case side3 => exact cb HR1 HB);(case side4 => exact HC1.out);(case side5 => exact cb HR2 HB);(case side6 => exact HC2.out);rintro e w16 ⟨v505,rfl,ho0,hb⟩;refine ⟨_,rfl,?_⟩;have n0_ := am (Kd.S_lower ho0 (below_size (bb HB)));have n1_ := am (below_step (bb HB) hb);clear HB;have HO506 := n0_;have HB := n1_;clear n0_ n1_;(try clear hb);(try clear hb2);(try clear hk);(try clear hi);(try clear ho0))|((with_reducible refine gate_callee (f := 19) rfl ?_);refine goesL_ (some 37) rfl rfl Try.func19 (by kernel_rfl) rfl #[.slice A0 l0.length c0,.slice A1 l1.length c1,.slice A2 l2.length c2] rfl (by (try simp only [List.map_toArray,List.map_cons,List.map_nil]);first|done|rfl|(simp only [List.length_drop,List.length_take];rfl)) ?_;(with_reducible refine (privityref07_Submatrix.calls kj5 _ _ l0 _ _ l1 _ _ l2 t507 t508 _ ?side1 ?side2 ?side3 ?side4 ?side5 ?side6 A13.out).mono ?_);(case side1 => exact cb HR0 HB);(case side2 => exact HC0.out);(case side3 => exact cb HR1 HB);(case side4 => exact HC1.out);(case side5 => exact cb HR2 HB);(case side6 => exact HC2.out);rintro e w17 ⟨v509,rfl,ho0,hb⟩;refine ⟨_,rfl,?_⟩;have n0_ := am (Kd.S_elder' (by (with_reducible repeat (first|apply Kd.S_alloc|apply Kd.S_drewN|apply Kd.S_drew));exact HO506.out) (Kd.S_base ho0) hb);have n1_ := am (Kd.S_lower (Kd.S_new' ho0 (Kd.S_lt (by (with_reducible repeat (first|apply Kd.S_alloc|apply Kd.S_drewN|apply Kd.S_drew));exact HO506.out))) (below_size (bb HB)));have n2_ := am (below_step (bb HB) hb);clear HO506 HB;have HO506 := n0_;have HO510 := n1_;have HB := n2_;clear n0_ n1_ n2_;(try clear hb);(try clear hb2);(try clear hk);(try clear hi);(try clear ho0);obtain ⟨Ao18,co18,eo18⟩ := Kd.S_slice HO506.out;subst eo18;obtain ⟨Ao19,co19,eo19⟩ := Kd.S_slice HO510.out;subst eo19)|(go_at_call 16;(with_reducible refine (privityref05_SameRows.calls kj5 _ _ t503 _ _ t507 t511 _ ?side1 ?side2 ?side3 ?side4 A15.out).mono ?_);(case side1 => repeat (first|exact (Kd.S_reads' HO506.out).2.2|(with_reducible refine Kd.C_alloc ?_ _)|(with_reducible refine Kd.C_drewN ?_ _)|(with_reducible refine Kd.C_drew ?_)));(case side2 => exact (Kd.S_reads' HO506.out).2.1);(case side3 => repeat (first|exact (Kd.S_reads' HO510.out).2.2|(with_reducible refine Kd.C_alloc ?_ _)|(with_reducible refine Kd.C_drewN ?_ _)|(with_reducible refine Kd.C_drew ?_)));(case side4 => exact (Kd.S_reads' HO510.out).2.1);rintro e w' ⟨rfl,⟨nd,rfl⟩⟩))
      go_ret
      exact ⟨by first|rfl|(simp [errW_none,errW_some] <;> rfl)|(simp [*,errW_none,errW_some] <;> rfl),bb HB⟩
     ·rw [if_neg c14] at H
      have c14b0 : (t504 == t508) = false := beq_eq_false_iff_ne.mpr c14
      have c14b1 : (t504 != t508) = true := bne_iff_ne.mpr c14
      exact absurd (Option.some.inj H) (by rw [HRT_.out];simp)
 ·replace c5 := Bool.eq_false_iff.mpr c5
  subst c5
  rw [if_neg (show ¬ (false = true) by decide)] at H
  exact absurd (Option.some.inj H) (by rw [HRT_.out];simp)
def privityref05_Below.l0 : Nat → Int → List Int → Int → Option (Bool)
 | 0,_,_,_ => none
 | k + 1,x0,x1,x5 => if x5 < (x1.length : Int) then (if 0 ≤ x5 then (if (rd x1 x5) ≥ x0 then (some false) else (privityref05_Below.l0 k x0 x1 (wrap64 (x5 + 1)))) else (none)) else (some true)
def privityref05_Below.f (k : Nat) (a0 : Int) (l1 : List Int) : Option (Bool) := privityref05_Below.l0 k a0 l1 0
set_option maxHeartbeats 8000000 in
set_option maxRecDepth 100000 in
theorem privityref05_Below.calls (k : Nat) (a0 : Int) (A1 : Option Addr) (c1 : Nat) (l1 : List Int) (r : Bool) (w : World) (hr1 : Kd.C (Kd.int .u64) w A1 l1.length l1) (hc1 : l1.length ≤ c1) (h : privityref05_Below.f k a0 l1 = some r) :
  Calls Try.prog 25 #[.int .u64 a0,.slice A1 l1.length c1] w fun e w' => e = .returned (.bool r) ∧ Drawn0 w w' := by
 have HR1 := am hr1
 have HC1 := am hc1
 clear hr1 hc1
 have H : (privityref05_Below.l0 k a0 l1 0) = some r := h
 clear h
 have H' := am H
 clear H
 go_enter Try.func25,Try.ntmps25
 go_wp2
 go_loopg [5] k (fun kq v5 w' => ∃ (x5_1 : Int),v5 = .int .i64 x5_1 ∧ Aside0 (privityref05_Below.l0 kq a0 l1 x5_1 = some r) ∧ Aside0 (kq ≤ k) ∧ Drawn0 w w')
 case atStart => exact ⟨(0),(by first|rfl|(simp;done)|(simp [*];done)),H',⟨Nat.le_refl _⟩,by repeat (first|exact Drawn0.refl _|apply Drawn0.step)⟩
 case round =>
  clear H'
  try clear c1
  try clear c2
  try clear p2
  obtain ⟨x5_1,rfl,HA,HK1,⟨m1,rfl⟩⟩ := hrel
  cases gk with
  | zero => exact absurd HA.out (by simp [privityref05_Below.l0])
  | succ k1 =>
   have H := HA.out
   clear HA
   simp only [privityref05_Below.l0] at H
   by_cases c3 : x5_1 < (l1.length : Int)
   ·rw [if_pos c3] at H
    have c3b0 : decide (x5_1 < (l1.length : Int)) = true := decide_eq_true c3
    clear c3
    by_cases c4 : 0 ≤ x5_1
    ·rw [if_pos c4] at H
     have c4b0 : decide (0 ≤ x5_1) = true := decide_eq_true c4
     clear c4
     by_cases c5 : (rd l1 x5_1) ≥ a0
     ·rw [if_pos c5] at H
      have c5b0 : decide (a0 ≤ (rd l1 x5_1)) = true := decide_eq_true c5
      clear c5
      obtain rfl := Option.some.inj H
      have p512 : 0 ≤ (x5_1 : Int) := od
      have q512 : x5_1 < (l1.length : Int) := od
      obtain ⟨ad512,e512,hx512_0⟩ := Kd.at_int HR1.out x5_1 p512 q512
      cases e512
      replace p512 := eq_true p512
      replace q512 := eq_true q512
      go_wp2
      go_ret
      exact ⟨by first|rfl|(simp;done)|(simp [*];done),by repeat (first|exact Drawn0.refl _|apply Drawn0.step)⟩
     ·rw [if_neg c5] at H
      have c5b0 : decide (a0 ≤ (rd l1 x5_1)) = false := decide_eq_false c5
      clear c5
      have H' := am H
      clear H
      have p512 : 0 ≤ (x5_1 : Int) := od
      have q512 : x5_1 < (l1.length : Int) := od
      obtain ⟨ad512,e512,hx512_0⟩ := Kd.at_int HR1.out x5_1 p512 q512
      cases e512
      replace p512 := eq_true p512
      replace q512 := eq_true q512
      go_wp2
      go_roundg k1
      case measure => have := HK1.out;omega
      case rel => exact ⟨(wrap64 (x5_1 + 1)),(by first|rfl|(simp;done)|(simp [*];done)),H',⟨by have := HK1.out;omega⟩,by repeat (first|exact Drawn0.refl _|apply Drawn0.step)⟩
    ·rw [if_neg c4] at H
     exact absurd H (by simp)
   ·rw [if_neg c3] at H
    have c3b0 : decide (x5_1 < (l1.length : Int)) = false := decide_eq_false c3
    clear c3
    obtain rfl := Option.some.inj H
    go_wp2
    go_ret
    exact ⟨by first|rfl|(simp;done)|(simp [*];done),by repeat (first|exact Drawn0.refl _|apply Drawn0.step)⟩
end Go.Proofs.Ytmdoaijkaaaglaa.Pr
end
section
namespace Go.Proofs.Ytmdoaijkaaaglaa.Pl
open Go.Proofs.Ytmdoaijkaaaglaa.Fd
section
variable {p : Nat} [NeZero p]
def ev (x : Fin p) : List (Fin p) → Fin p
 | [] => 0
 | c :: f => c + x * ev x f
def quot (a : Fin p) : List (Fin p) → List (Fin p)
 | [] => []
 | _ :: f => match f with
  | [] => []
  | _ => ev a f :: quot a f
theorem quot_length (a : Fin p) : ∀ f : List (Fin p),(quot a f).length = f.length - 1
 | [] => rfl
 | [_] => rfl
 | _ :: d :: f => by
  have := quot_length a (d :: f)
  simp only [quot,List.length_cons] at *
  omega
theorem quot_spec (a x : Fin p) : ∀ f : List (Fin p),ev x f = (x - a) * ev x (quot a f) + ev a f
 | [] => by simp only [quot,ev];grind
 | [c] => by simp only [quot,ev];grind
 | c :: d :: f => by
  have h := quot_spec a x (d :: f)
  have e : quot a (c :: d :: f) = ev a (d :: f) :: quot a (d :: f) := rfl
  rw [e]
  generalize hq : quot a (d :: f) = q at *
  rw [ev,h]
  show _ = (x - a) * (ev a (d :: f) + x * ev x q) + (c + a * ev a (d :: f))
  grind
theorem zero_of_quot (a : Fin p) : ∀ f : List (Fin p),(∀ c ∈ quot a f,c = 0) → ev a f = 0 → ∀ c ∈ f,c = 0
 | [],_,_ => by simp
 | [c],_,h => by
  intro x hx
  have h : c + a * 0 = 0 := h
  simp only [List.mem_cons,List.not_mem_nil,or_false] at hx
  subst hx;grind
 | c :: d :: f,hq,h => by
  have e : quot a (c :: d :: f) = ev a (d :: f) :: quot a (d :: f) := rfl
  rw [e] at hq
  have h1 : ev a (d :: f) = 0 := hq _ (by simp)
  have ih := zero_of_quot a (d :: f) (fun x hx => hq x (List.mem_cons_of_mem _ hx)) h1
  have h2 : c + a * ev a (d :: f) = 0 := h
  rw [h1] at h2
  have hc : c = 0 := by grind
  intro x hx
  rcases List.mem_cons.1 hx with rfl|hx
  ·exact hc
  ·exact ih x hx
def Dom (p : Nat) [NeZero p] : Prop := ∀ a b : Fin p,a * b = 0 → a = 0 ∨ b = 0
theorem zero_of_roots (hd : Dom p) : ∀ (xs f : List (Fin p)),xs.Nodup → f.length ≤ xs.length → (∀ x ∈ xs,ev x f = 0) → ∀ c ∈ f,c = 0
 | [],f,_,hl,_ => by
  have : f = [] := by cases f with|nil => rfl|cons _ _ => simp at hl
  subst this;simp
 | a :: xs,f,hn,hl,h => by
  have hn' := List.nodup_cons.1 hn
  refine zero_of_quot a f (zero_of_roots hd xs (quot a f) hn'.2 (by rw [quot_length];simp at hl;omega) fun x hx => ?_) (h a (by simp))
  have h1 := quot_spec a x f
  rw [h x (List.mem_cons_of_mem _ hx),h a (by simp)] at h1
  have h2 : (x - a) * ev x (quot a f) = 0 := by grind
  rcases hd _ _ h2 with h3|h3
  ·have : x = a := by grind
   subst this;exact absurd hx hn'.1
  ·exact h3
def sub : List (Fin p) → List (Fin p) → List (Fin p)
 | [],g => g.map fun c => -c
 | f,[] => f
 | c :: f,d :: g => (c - d) :: sub f g
omit [NeZero p] in
theorem sub_length : ∀ f g : List (Fin p),(sub f g).length = max f.length g.length
 | [],g => by simp [sub]
 | _ :: _,[] => by simp [sub]
 | _ :: f,_ :: g => by simp [sub,sub_length f g]
theorem ev_neg (x : Fin p) : ∀ f : List (Fin p),ev x (f.map fun c => -c) = - ev x f
 | [] => by simp only [List.map_nil,ev];grind
 | c :: f => by simp only [List.map_cons,ev,ev_neg x f];grind
theorem ev_sub (x : Fin p) : ∀ f g : List (Fin p),ev x (sub f g) = ev x f - ev x g
 | [],g => by simp only [sub,ev_neg,ev];grind
 | _ :: _,[] => by simp only [sub,ev];grind
 | c :: f,d :: g => by simp only [sub,ev,ev_sub x f g];grind
theorem getD_sub (i : Nat) : ∀ f g : List (Fin p),(sub f g).getD i 0 = f.getD i 0 - g.getD i 0 := by
 induction i with
 | zero =>
  intro f g
  cases f with
  | nil => cases g with
   | nil => simp only [sub,List.map_nil,List.getD_nil];grind
   | cons d g => simp only [sub,List.map_cons,List.getD_cons_zero,List.getD_nil];grind
  | cons c f => cases g with
   | nil => simp only [sub,List.getD_cons_zero,List.getD_nil];grind
   | cons d g => simp only [sub,List.getD_cons_zero]
 | succ i ih =>
  intro f g
  cases f with
  | nil => cases g with
   | nil => simp only [sub,List.map_nil,List.getD_nil];grind
   | cons d g =>
    have := ih [] g
    simp only [sub,List.map_cons,List.getD_cons_succ,List.getD_nil] at *
    exact this
  | cons c f => cases g with
   | nil => simp only [sub,List.getD_cons_succ,List.getD_nil];grind
   | cons d g => simp only [sub,List.getD_cons_succ];exact ih f g
theorem getD_zero {f : List (Fin p)} (h : ∀ c ∈ f,c = 0) (i : Nat) : f.getD i 0 = 0 := by
 rw [List.getD_eq_getElem?_getD]
 by_cases hi : i < f.length
 ·rw [List.getElem?_eq_getElem hi];exact h _ (List.getElem_mem hi)
 ·rw [List.getElem?_eq_none (by omega)];rfl
theorem unique (hd : Dom p) (xs f g : List (Fin p)) (hn : xs.Nodup) (hf : f.length ≤ xs.length) (hg : g.length ≤ xs.length) (h : ∀ x ∈ xs,ev x f = ev x g) (i : Nat) : f.getD i 0 = g.getD i 0 := by
 have h1 := getD_zero (zero_of_roots hd xs (sub f g) hn (by rw [sub_length];omega) fun x hx => by rw [ev_sub,h x hx];grind) i
 rw [getD_sub] at h1
 grind
theorem ev_congr (x : Fin p) : ∀ f g : List (Fin p),(∀ i,f.getD i 0 = g.getD i 0) → ev x f = ev x g := by
 intro f g h
 have : ∀ c ∈ sub f g,c = 0 := by
  intro c hc
  obtain ⟨i,hi,rfl⟩ := List.getElem_of_mem hc
  have := getD_sub i f g
  rw [h i,List.getD_eq_getElem?_getD,List.getElem?_eq_getElem hi] at this
  simp only [Option.getD_some] at this
  rw [this];grind
 have h0 : ∀ l : List (Fin p),(∀ c ∈ l,c = 0) → ev x l = 0 := by
  intro l
  induction l with
  | nil => intro _;rfl
  | cons c l ih => intro hl;rw [ev,ih (fun d hd => hl d (List.mem_cons_of_mem _ hd)),hl c (by simp)];grind
 have h1 := h0 _ this
 rw [ev_sub] at h1
 grind
end
section
variable {p : Nat} [NeZero p]
def mono (x : Fin p) : Nat → Fin p
 | 0 => 1
 | n + 1 => x * mono x n
theorem mono_add (x : Fin p) (a : Nat) : ∀ b,mono x (a + b) = mono x a * mono x b
 | 0 => by simp only [mono,Nat.add_zero];grind
 | b + 1 => by rw [← Nat.add_assoc];simp only [mono];rw [mono_add x a b];grind
theorem ev_append (x : Fin p) : ∀ f g : List (Fin p),ev x (f ++ g) = ev x f + mono x f.length * ev x g
 | [],g => by simp only [List.nil_append,ev,List.length_nil,mono];grind
 | c :: f,g => by simp only [List.cons_append,ev,List.length_cons,mono,ev_append x f g];grind
theorem ev_zeros (x : Fin p) : ∀ n,ev x (List.replicate n 0) = 0
 | 0 => rfl
 | n + 1 => by simp only [List.replicate_succ,ev,ev_zeros x n];grind
theorem ev_set (x v : Fin p) : ∀ (f : List (Fin p)) (i : Nat),i < f.length → ev x (f.set i v) = ev x f + (v - f.getD i 0) * mono x i
 | [],_,h => by simp at h
 | c :: f,0,_ => by simp only [List.set_cons_zero,ev,mono,List.getD_cons_zero];grind
 | c :: f,i + 1,h => by
  have := ev_set x v f i (by simpa using h)
  simp only [List.set_cons_succ,ev,mono,List.getD_cons_succ,this];grind
theorem ev_take_succ (x : Fin p) : ∀ (f : List (Fin p)) (n : Nat),ev x (f.take (n + 1)) = ev x (f.take n) + f.getD n 0 * mono x n
 | [],n => by simp only [List.take_nil,List.getD_nil,ev];grind
 | c :: f,0 => by simp only [List.take_succ_cons,List.take_zero,ev,List.getD_cons_zero,mono];grind
 | c :: f,n + 1 => by
  have := ev_take_succ x f n
  simp only [List.take_succ_cons,ev,List.getD_cons_succ,mono] at *
  rw [this];grind
def tf (p : Nat) [NeZero p] (a : Int) : Fin p := ⟨(a % (p : Int)).toNat,by
 have h : (0 : Int) < p := by have := Nat.pos_of_neZero p;omega
 have := Int.emod_lt_of_pos a h
 have := Int.emod_nonneg a (by omega : (p : Int) ≠ 0)
 omega⟩
theorem tf_val (a : Int) : (((tf p a).val : Nat) : Int) = a % (p : Int) := by
 have h : (0 : Int) < p := by have := Nat.pos_of_neZero p;omega
 show (((a % (p : Int)).toNat : Nat) : Int) = _
 rw [Int.toNat_of_nonneg (Int.emod_nonneg a (by omega))]
theorem tf_eq {a : Int} {x : Fin p} (h : ((x.val : Nat) : Int) = a % (p : Int)) : tf p a = x := by
 apply Fin.ext
 have := tf_val (p := p) a
 omega
theorem tf_of_emod {a b : Int} (h : a % (p : Int) = b % (p : Int)) : tf p a = tf p b := tf_eq (by rw [tf_val,h])
theorem tf_emod (a : Int) : tf p (a % (p : Int)) = tf p a := tf_of_emod (Int.emod_emod_of_dvd _ (Int.dvd_refl _))
theorem tf_add (a b : Int) : tf p (a + b) = tf p a + tf p b := by
 refine tf_eq ?_
 rw [Fin.val_add,Int.natCast_emod,Int.natCast_add,tf_val,tf_val,← Int.add_emod]
theorem tf_mul (a b : Int) : tf p (a * b) = tf p a * tf p b := by
 refine tf_eq ?_
 rw [Fin.val_mul,Int.natCast_emod,Int.natCast_mul,tf_val,tf_val,← Int.mul_emod]
theorem tf_zero : tf p 0 = 0 := tf_eq (by simp)
theorem tf_one : tf p 1 = 1 := by
 refine tf_eq ?_
 rw [show ((1 : Fin p).val) = 1 % p from rfl];simp
theorem tf_neg (a : Int) : tf p (-a) = - tf p a := by
 have h : tf p (-a) + tf p a = 0 := by rw [← tf_add,show -a + a = 0 from by omega,tf_zero]
 grind
theorem tf_sub (a b : Int) : tf p (a - b) = tf p a - tf p b := by rw [Int.sub_eq_add_neg,tf_add,tf_neg];grind
theorem tf_of_val (x : Fin p) : tf p ((x.val : Nat) : Int) = x := tf_eq (by
 have := x.isLt
 rw [← Int.natCast_emod,Nat.mod_eq_of_lt this])
theorem tf_inj {a b : Int} (ha : 0 ≤ a ∧ a < (p : Int)) (hb : 0 ≤ b ∧ b < (p : Int)) (h : tf p a = tf p b) : a = b := by
 have h1 := tf_val (p := p) a
 rw [h,tf_val,Int.emod_eq_of_lt ha.1 ha.2,Int.emod_eq_of_lt hb.1 hb.2] at h1
 exact h1.symm
theorem getD_tf (l : List Int) (i : Nat) : (l.map (tf p)).getD i 0 = tf p (l.getD i 0) := by
 rw [List.getD_eq_getElem?_getD,List.getD_eq_getElem?_getD,List.getElem?_map]
 cases l[i]? with
 | none => simp [tf_zero]
 | some v => rfl
def lin (y : Fin p) : List (Fin p) → Fin p
 | [] => 1
 | o :: l => (y - o) * lin y l
theorem lin_zero {y : Fin p} : ∀ {l : List (Fin p)},y ∈ l → lin y l = 0
 | o :: l,h => by
  rcases List.mem_cons.1 h with h|h
  ·subst h;simp only [lin];grind
  ·simp only [lin];rw [lin_zero h];grind
end
end Go.Proofs.Ytmdoaijkaaaglaa.Pl
end
section
namespace Go.Proofs.Ytmdoaijkaaaglaa.E
open Go.RowKit Go.Proofs.Ytmdoaijkaaaglaa.Pr Go.Proofs.Ytmdoaijkaaaglaa.Hw Go.Proofs.Ytmdoaijkaaaglaa.Pl Go.Proofs.YtmdoaijkaaaglaaW.PrintWords Go.Proofs.YtmdoaijkaaaglaaW.PrintLast Go.Proofs.YtmdoaijkaaaglaaW.PrintMore
theorem nz {p : Int} (hp : Supp p) : NeZero p.toNat := ⟨by have := hp.bd;omega⟩
theorem cast_p {p : Int} (hp : Supp p) : ((p.toNat : Nat) : Int) = p := by have := hp.bd;omega
section
variable {p : Int} (hp : Supp p) [NeZero p.toNat]
def T (p : Int) [NeZero p.toNat] (a : Int) : Fin p.toNat := tf p.toNat a
def M (p : Int) [NeZero p.toNat] (l : List Int) : List (Fin p.toNat) := l.map (T p)
include hp in
theorem T_mod (a : Int) : T p (a % p) = T p a := by
 have h := tf_emod (p := p.toNat) a
 rw [cast_p hp] at h;exact h
theorem T_add (a b : Int) : T p (a + b) = T p a + T p b := tf_add a b
theorem T_mul (a b : Int) : T p (a * b) = T p a * T p b := tf_mul a b
theorem T_sub (a b : Int) : T p (a - b) = T p a - T p b := tf_sub a b
theorem T_neg (a : Int) : T p (-a) = - T p a := tf_neg a
theorem T_zero : T p 0 = 0 := tf_zero
theorem T_one : T p 1 = 1 := tf_one
include hp in
theorem T_inj {a b : Int} (ha : Res p a) (hb : Res p b) (h : T p a = T p b) : a = b :=
 tf_inj (p := p.toNat) (by rw [cast_p hp];exact ha) (by rw [cast_p hp];exact hb) h
include hp in
theorem T_inv {a : Int} (ha : Res p a) (h0 : a ≠ 0) : T p a * T p (invp p a) = 1 := by
 rw [← T_mul,← T_one,← T_mod hp (a * invp p a),inv_spec hp ha h0]
include hp in
theorem T_back (x : Fin p.toNat) : Res p ((x.val : Nat) : Int) ∧ T p ((x.val : Nat) : Int) = x := by
 have := x.isLt
 have := cast_p hp
 exact ⟨⟨by omega,by omega⟩,tf_of_val x⟩
include hp in
theorem dom : Dom p.toNat := by
 intro a b h
 obtain ⟨r,e⟩ := T_back hp a
 by_cases h0 : ((a.val : Nat) : Int) = 0
 ·left;rw [← e,h0,T_zero]
 ·right
  have h1 := T_inv hp r h0
  rw [e] at h1
  grind
include hp in
theorem ev_evI (x : Int) : ∀ l,T p (evI p x l) = ev (T p x) (M p l)
 | [] => T_zero
 | c :: l => by
  have := ev_evI x l
  simp only [evI,M,List.map_cons,ev]
  rw [T_mod hp,T_add,T_mod hp,T_mul,this,M]
  grind
theorem M_getD (l : List Int) (i : Nat) : (M p l).getD i 0 = T p (l.getD i 0) := getD_tf l i
theorem M_length (l : List Int) : (M p l).length = l.length := List.length_map _
theorem ev_trimL (x : Fin p.toNat) (l : List Int) : ev x (M p (trimL l)) = ev x (M p l) :=
 ev_congr x _ _ (fun i => by rw [M_getD,M_getD,trimL_getD])
theorem ev_grow (x : Fin p.toNat) (l : List Int) (n : Nat) : ev x (M p (grow l n)) = ev x (M p l) := by
 have : M p (grow l n) = M p l ++ List.replicate (n - l.length) 0 := by
  unfold grow M;rw [List.map_append,List.map_replicate,T_zero]
 rw [this,ev_append,ev_zeros];grind
include hp in
theorem ev_put (x : Fin p.toNat) (l : List Int) (i : Nat) (k : Int) : ev x (M p (putL p l i k)) = ev x (M p l) + T p k * mono x i := by
 have hg : i < (grow l (i + 1)).length := by unfold grow;simp;omega
 have : M p (putL p l i k) = (M p (grow l (i + 1))).set i (T p ((grow l (i + 1)).getD i 0) + T p k) := by
  unfold putL M;rw [List.map_set,T_mod hp,T_add]
 rw [this,ev_set _ _ _ _ (by rw [M_length];exact hg),ev_grow,M_getD]
 grind
include hp in
theorem ev_puts (x : Fin p.toNat) (m l : List Int) : ∀ n,ev x (M p (putsL p m l n)) = ev x (M p m) + ev x ((M p l).take n)
 | 0 => by simp only [putsL,List.take_zero,ev];grind
 | n + 1 => by rw [putsL,ev_put hp,ev_puts x m l n,ev_take_succ,M_getD];grind
theorem M_take_all (l : List Int) : (M p l).take l.length = M p l := by rw [← M_length (p := p) l,List.take_length]
include hp in
theorem ev_addP (x : Fin p.toNat) (a b : List Int) : ev x (M p (addP p a b)) = ev x (M p a) + ev x (M p b) := by
 unfold addP
 rw [ev_puts hp,ev_puts hp,M_take_all,M_take_all]
 show ev x [] + _ + _ = _
 simp only [ev];grind
include hp in
theorem ev_row (x : Fin p.toNat) (m : List Int) (u : Int) (b : List Int) (i : Nat) : ∀ n,ev x (M p (rowL p m u b i n)) = ev x (M p m) + T p u * mono x i * ev x ((M p b).take n)
 | 0 => by simp only [rowL,List.take_zero,ev];grind
 | n + 1 => by
  rw [rowL,ev_put hp,ev_row x m u b i n,ev_take_succ,M_getD,T_mod hp,T_mul,mono_add,rd_nat];grind
include hp in
theorem ev_muls (x : Fin p.toNat) (a b : List Int) : ∀ n,ev x (M p (mulsL p a b n)) = ev x ((M p a).take n) * ev x (M p b)
 | 0 => by simp only [mulsL,List.take_zero,M,List.map_nil,ev];grind
 | n + 1 => by rw [mulsL,ev_row hp,ev_muls x a b n,M_take_all,ev_take_succ,M_getD,rd_nat];grind
include hp in
theorem ev_scaleL (x : Fin p.toNat) (k : Int) : ∀ l,ev x (M p (l.map fun v => k * v % p)) = T p k * ev x (M p l)
 | [] => by simp only [M,List.map_nil,ev];grind
 | c :: l => by
  have := ev_scaleL x k l
  simp only [M,List.map_cons,ev] at *
  rw [this,T_mod hp,T_mul];grind
include hp in
theorem M_nodup : ∀ {xs : List Int},(∀ x ∈ xs,Res p x) → xs.Nodup → (M p xs).Nodup
 | [],_,_ => List.nodup_nil
 | a :: xs,h,hn => by
  have hn' := List.nodup_cons.1 hn
  refine List.nodup_cons.2 ⟨fun hm => ?_,M_nodup (fun x hx => h x (List.mem_cons_of_mem _ hx)) hn'.2⟩
  obtain ⟨b,hb,e⟩ := List.mem_map.1 hm
  have := T_inj hp (h b (List.mem_cons_of_mem _ hb)) (h a (by simp)) e
  exact hn'.1 (this ▸ hb)
end
theorem uniq {p : Int} (hp : Supp p) {xs f g : List Int} (hx : ∀ x ∈ xs,Res p x) (hn : xs.Nodup) (hf : ∀ x ∈ f,Res p x) (hg : ∀ x ∈ g,Res p x) (lf : f.length ≤ xs.length) (lg : g.length ≤ xs.length)
  (h : ∀ x ∈ xs,evI p x f = evI p x g) : trimL f = trimL g := by
 haveI := nz hp
 have hb := hp.bd
 refine trimL_ext fun i => ?_
 have hz : ∀ {l : List Int},(∀ x ∈ l,Res p x) → Res p (l.getD i 0) := by
  intro l hl
  rw [List.getD_eq_getElem?_getD]
  by_cases hi : i < l.length
  ·rw [List.getElem?_eq_getElem hi];exact hl _ (List.getElem_mem hi)
  ·rw [List.getElem?_eq_none (by omega)];exact ⟨Int.le_refl 0,by show (0 : Int) < p;omega⟩
 refine T_inj hp (hz hf) (hz hg) ?_
 rw [← M_getD,← M_getD]
 refine unique (dom hp) (M p xs) (M p f) (M p g) (M_nodup hp hx hn) (by simp only [M_length];exact lf) (by simp only [M_length];exact lg) (fun y hy => ?_) i
 obtain ⟨x,hxx,rfl⟩ := List.mem_map.1 hy
 rw [← ev_evI hp,← ev_evI hp,h x hxx]
theorem mulsL_lin_length {p : Int} (f : List Int) (o : Int) : ∀ n,(mulsL p f [o,1] n).length ≤ n + 1 := by
 intro n
 induction n with
 | zero => simp [mulsL]
 | succ n ih =>
  show (rowL p (mulsL p f [o,1] n) (rd f n) [o,1] n 2).length ≤ _
  simp only [rowL,putL_length,Nat.add_zero];omega
section
variable {p : Int} (hp : Supp p) [NeZero p.toNat]
include hp in
theorem polS_ev (y : Fin p.toNat) (X : Int) : ∀ (l : List Int) (s : List Int × Int),
  ev y (M p (l.foldl (polStep p X) s).1) = ev y (M p s.1) * lin y (M p l) ∧ T p (l.foldl (polStep p X) s).2 = T p s.2 * lin (T p X) (M p l) ∧ (l.foldl (polStep p X) s).1.length ≤ s.1.length + l.length
 | [],s => ⟨by show _ = _ * 1;grind,by show _ = _ * 1;grind,by simp⟩
 | o :: l,s => by
  obtain ⟨h1,h2,h3⟩ := polS_ev y X l (polStep p X s o)
  have e1 : ev y (M p (polStep p X s o).1) = ev y (M p s.1) * (y - T p o) := by
   show ev y (M p (trimL (mulsL p s.1 [-o % p,1] s.1.length))) = _
   rw [ev_trimL,ev_muls hp,M_take_all]
   simp only [M,List.map_cons,List.map_nil,ev,T_mod hp,T_neg,T_one]
   grind
  have e2 : T p (polStep p X s o).2 = T p s.2 * (T p X - T p o) := by
   show T p (s.2 * ((X - o) % p) % p) = _
   rw [T_mod hp,T_mul,T_mod hp,T_sub]
  have e3 : (polStep p X s o).1.length ≤ s.1.length + 1 := Nat.le_trans (trimL_length _) (mulsL_lin_length s.1 _ _)
  simp only [List.foldl_cons,List.length_cons]
  rw [h1,h2,e1,e2]
  refine ⟨?_,?_,by omega⟩
  ·simp only [M,List.map_cons,lin];grind
  ·simp only [M,List.map_cons,lin];grind
end
theorem othersN_len (xs : List Int) (i : Nat) : ∀ n,(othersN xs i n).length = if i < n then n - 1 else n
 | 0 => rfl
 | n + 1 => by
  have ih := othersN_len xs i n
  unfold othersN
  by_cases h : n = i
  ·subst h;rw [if_pos rfl,ih,if_neg (by omega),if_pos (by omega)];omega
  ·rw [if_neg h,List.length_append,ih]
   by_cases h2 : i < n
   ·rw [if_pos h2,if_pos (by omega)];simp;omega
   ·rw [if_neg h2,if_neg (by omega)];simp
theorem othersN_has (xs : List Int) (i j : Nat) (hne : j ≠ i) : ∀ n,j < n → rd xs j ∈ othersN xs i n
 | n + 1,h => by
  unfold othersN
  by_cases hj : j = n
  ·subst hj;rw [if_neg hne];simp
  ·have := othersN_has xs i j hne n (by omega)
   split
   ·exact this
   ·exact List.mem_append_left _ this
section
variable {p : Int} (hp : Supp p) [NeZero p.toNat]
def sumF (f : Nat → Fin p.toNat) : Nat → Fin p.toNat
 | 0 => 0
 | n + 1 => sumF f n + f n
theorem sumF_congr {f g : Nat → Fin p.toNat} : ∀ n,(∀ i,i < n → f i = g i) → sumF f n = sumF g n
 | 0,_ => rfl
 | n + 1,h => by simp only [sumF];rw [sumF_congr n (fun i hi => h i (by omega)),h n (by omega)]
theorem sumF_one {f : Nat → Fin p.toNat} {j : Nat} : ∀ n,(∀ i,i < n → i ≠ j → f i = 0) → sumF f n = if j < n then f j else 0
 | 0,_ => rfl
 | n + 1,h => by
  simp only [sumF]
  rw [sumF_one n (fun i hi => h i (by omega))]
  by_cases hj : j = n
  ·subst hj;rw [if_neg (by omega),if_pos (by omega)];grind
  ·rw [h n (by omega) (fun e => hj e.symm)]
   by_cases h2 : j < n
   ·rw [if_pos h2,if_pos (by omega)];grind
   ·rw [if_neg h2,if_neg (by omega)];grind
def oth (p : Int) [NeZero p.toNat] (xs : List Int) (i : Nat) : List (Fin p.toNat) := M p (othersN xs i xs.length)
def dinv (p : Int) [NeZero p.toNat] (xs : List Int) (i : Nat) : Fin p.toNat := T p (invp p (lagS p 0 xs i).2)
include hp in
theorem lagS_ev (a : Int) (X : Int) : ∀ (l : List Int) (s : Int × Int),
  T p (l.foldl (lagStep p a X) s).1 = T p s.1 * lin (T p a) (M p l) ∧ T p (l.foldl (lagStep p a X) s).2 = T p s.2 * lin (T p X) (M p l)
 | [],s => ⟨by show _ = _ * 1;grind,by show _ = _ * 1;grind⟩
 | o :: l,s => by
  obtain ⟨h1,h2⟩ := lagS_ev a X l (lagStep p a X s o)
  simp only [List.foldl_cons,M,List.map_cons,lin]
  rw [h1,h2]
  simp only [lagStep,M]
  rw [T_mod hp,T_mod hp,T_mul,T_mul,T_mod hp,T_mod hp,T_sub,T_sub]
  constructor <;> grind
include hp in
theorem dinv_spec {xs : List Int} (hx : ∀ x ∈ xs,Res p x) (hn : xs.Nodup) (i : Nat) (hi : i < xs.length) : lin (T p (rd xs i)) (oth p xs i) * dinv p xs i = 1 := by
 have hb := hp.bd
 obtain ⟨h1,h2,h3⟩ := lagS_ok hp (a := 0) hx hn i hi
 have h := (lagS_ev hp 0 (rd xs i) (othersN xs i xs.length) (1,1)).2
 have e := T_inv hp h2 h3
 have h' : T p (lagS p 0 xs i).2 = lin (T p (rd xs i)) (oth p xs i) := by
  unfold lagS oth;rw [h,T_one];grind
 rw [h'] at e
 exact e
include hp in
theorem lagW_ev (a : Int) {xs : List Int} (hx : ∀ x ∈ xs,Res p x) (hn : xs.Nodup) (i : Nat) (hi : i < xs.length) : T p (lagW p a xs i) = lin (T p a) (oth p xs i) * dinv p xs i := by
 obtain ⟨h1,h2,h3⟩ := lagS_ok hp (a := a) hx hn i hi
 have h := lagS_ev hp a (rd xs i) (othersN xs i xs.length) (1,1)
 have e := T_inv hp h2 h3
 have d := dinv_spec hp hx hn i hi
 have e1 : T p (lagS p a xs i).1 = lin (T p a) (oth p xs i) := by unfold lagS oth;rw [h.1,T_one];grind
 have e2 : T p (lagS p a xs i).2 = lin (T p (rd xs i)) (oth p xs i) := by unfold lagS oth;rw [h.2,T_one];grind
 unfold lagW
 rw [T_mod hp,T_mul,e1]
 rw [e2] at e
 generalize lin (T p (rd xs i)) (oth p xs i) = D at *
 have : T p (invp p (lagS p a xs i).2) = dinv p xs i := by grind
 rw [this]
include hp in
theorem polTerm_ev {pts : List S56} (hx : PtsOk p pts) (hn : (xsOf pts).Nodup) (i : Nat) (hi : i < pts.length) (y : Fin p.toNat) :
  ev y (M p (polTerm p pts i)) = T p (rd_T56 pts (i : Int)).f1 * (lin y (oth p (xsOf pts) i) * dinv p (xsOf pts) i) := by
 have hl : (xsOf pts).length = pts.length := by simp [xsOf]
 obtain ⟨h1,h2,h3⟩ := polS_ev hp y (rd_T56 pts (i : Int)).f0 (othersN (xsOf pts) i pts.length) ([1],1)
 obtain ⟨hr1,hr2,hlen,hD0⟩ := polS_ok hp hx hi hn
 have d := dinv_spec hp hx.xs hn i (by omega)
 have e := T_inv hp hr2 hD0
 unfold polTerm
 rw [ev_trimL,ev_scaleL hp,T_mod hp,T_mul]
 have e1 : ev y (M p (polS p pts i).1) = lin y (oth p (xsOf pts) i) := by
  unfold polS oth;rw [h1,hl];simp only [M,List.map_cons,List.map_nil,ev,T_one];grind
 have e2 : T p (polS p pts i).2 = lin (T p (rd (xsOf pts) i)) (oth p (xsOf pts) i) := by
  unfold polS oth;rw [h2,T_one,xsOf_rd pts i hi,hl];grind
 rw [e1]
 rw [e2] at e
 generalize lin (T p (rd (xsOf pts) i)) (oth p (xsOf pts) i) = D at *
 have : T p (invp p (polS p pts i).2) = dinv p (xsOf pts) i := by grind
 rw [this];grind
include hp in
theorem polSum_ev {pts : List S56} (hx : PtsOk p pts) (hn : (xsOf pts).Nodup) (y : Fin p.toNat) : ∀ n,n ≤ pts.length →
  ev y (M p (polSum p pts n)) = sumF (fun i => T p (rd_T56 pts (i : Int)).f1 * (lin y (oth p (xsOf pts) i) * dinv p (xsOf pts) i)) n
 | 0,_ => rfl
 | n + 1,h => by
  rw [polSum,ev_trimL,ev_addP hp,polSum_ev hx hn y n (by omega),polTerm_ev hp hx hn n (by omega) y];rfl
include hp in
theorem polTerm_len {pts : List S56} (i : Nat) (hi : i < pts.length) : (polTerm p pts i).length ≤ pts.length := by
 obtain ⟨h1,h2,h3⟩ := polS_ev hp 0 (rd_T56 pts (i : Int)).f0 (othersN (xsOf pts) i pts.length) ([1],1)
 rw [othersN_len,if_pos hi] at h3
 simp only [List.length_cons,List.length_nil] at h3
 refine Nat.le_trans (trimL_length _) ?_
 rw [List.length_map]
 unfold polS
 omega
include hp in
theorem polSum_len {pts : List S56} : ∀ n,n ≤ pts.length → (polSum p pts n).length ≤ pts.length
 | 0,_ => by simp [polSum]
 | n + 1,h => by
  have h1 := polSum_len (pts := pts) n (by omega)
  have h2 := polTerm_len hp (pts := pts) n (by omega)
  refine Nat.le_trans (trimL_length _) ?_
  rw [addP_length];omega
include hp in
theorem polL_ev {pts : List S56} (hx : PtsOk p pts) (hn : (xsOf pts).Nodup) (y : Fin p.toNat) :
  ev y (M p (polL p pts)) = sumF (fun i => T p (rd_T56 pts (i : Int)).f1 * (lin y (oth p (xsOf pts) i) * dinv p (xsOf pts) i)) pts.length := by
 unfold polL;rw [ev_trimL,polSum_ev hp hx hn y pts.length (Nat.le_refl _)]
end
theorem polL_res {p : Int} (hp : Supp p) {pts : List S56} (hx : PtsOk p pts) : ∀ x ∈ polL p pts,Res p x := fun x h => (polSum_ok hp hx pts.length (Nat.le_refl _)).1 x (trimL_mem h)
theorem polL_len {p : Int} (hp : Supp p) {pts : List S56} : (polL p pts).length ≤ pts.length := by
 haveI := nz hp
 exact Nat.le_trans (trimL_length _) (polSum_len hp pts.length (Nat.le_refl _))
theorem polL_trim (p : Int) (pts : List S56) : trimL (polL p pts) = polL p pts := trimL_trimL _
theorem polL_at {p : Int} (hp : Supp p) {pts : List S56} (hx : PtsOk p pts) (hn : (xsOf pts).Nodup) (j : Nat) (hj : j < pts.length) :
  evI p (rd_T56 pts (j : Int)).f0 (polL p pts) = (rd_T56 pts (j : Int)).f1 := by
 haveI := nz hp
 have hl : (xsOf pts).length = pts.length := by simp [xsOf]
 refine T_inj hp (evI_res hp _ _) (hx.at_ j hj).2 ?_
 rw [ev_evI hp,polL_ev hp hx hn,sumF_one (j := j) _ (fun i hi hij => ?_),if_pos hj]
 ·have d := dinv_spec hp hx.xs hn j (by omega)
  rw [xsOf_rd pts j hj] at d
  grind
 ·have : lin (T p (rd_T56 pts (j : Int)).f0) (oth p (xsOf pts) i) = 0 := by
   refine lin_zero ?_
   rw [← xsOf_rd pts j hj]
   exact List.mem_map_of_mem (othersN_has _ _ _ (fun e => hij e.symm) _ (by omega))
  rw [this];grind
theorem polL_char {p : Int} (hp : Supp p) {pts : List S56} (hx : PtsOk p pts) (hn : (xsOf pts).Nodup) {g : List Int} (hg : ∀ x ∈ g,Res p x) (lg : g.length ≤ pts.length)
  (h : ∀ j,j < pts.length → evI p (rd_T56 pts (j : Int)).f0 g = (rd_T56 pts (j : Int)).f1) : polL p pts = trimL g := by
 have hl : (xsOf pts).length = pts.length := by simp [xsOf]
 rw [← polL_trim]
 refine uniq hp hx.xs hn (polL_res hp hx) hg (by rw [hl];exact polL_len hp) (by omega) (fun x hxx => ?_)
 obtain ⟨j,hj,rfl⟩ := List.getElem_of_mem hxx
 have e := xsOf_rd pts j (by omega)
 rw [rd_nat,Hw.getD_in _ _ hj] at e
 rw [e,polL_at hp hx hn j (by omega),h j (by omega)]
def ptsOf (p : Int) (xs : List Int) (f : List Int) : List S56 := xs.map fun x => ⟨x,evI p x f⟩
theorem ptsOf_xs (p : Int) (xs f : List Int) : xsOf (ptsOf p xs f) = xs := by unfold xsOf ptsOf;rw [List.map_map];exact List.map_id _
theorem ptsOf_rd (p : Int) (xs f : List Int) (j : Nat) (hj : j < xs.length) : rd_T56 (ptsOf p xs f) (j : Int) = ⟨rd xs j,evI p (rd xs j) f⟩ := by
 rw [rdT_nat _ _ (by unfold ptsOf;simpa using hj),rd_nat,Hw.getD_in _ _ hj];simp [ptsOf]
theorem ptsOf_ok {p : Int} (hp : Supp p) {xs : List Int} (hx : ∀ x ∈ xs,Res p x) (f : List Int) : PtsOk p (ptsOf p xs f) := by
 intro y hy
 obtain ⟨x,h,rfl⟩ := List.mem_map.1 hy
 exact ⟨hx x h,evI_res hp _ _⟩
theorem ptsOf_length (p : Int) (xs f : List Int) : (ptsOf p xs f).length = xs.length := List.length_map _
theorem polL_ptsOf {p : Int} (hp : Supp p) {xs f : List Int} (hx : ∀ x ∈ xs,Res p x) (hn : xs.Nodup) (hf : ∀ x ∈ f,Res p x) (hl : f.length ≤ xs.length) : polL p (ptsOf p xs f) = trimL f := by
 refine polL_char hp (ptsOf_ok hp hx f) (by rw [ptsOf_xs];exact hn) hf (by rw [ptsOf_length];exact hl) (fun j hj => ?_)
 rw [ptsOf_length] at hj
 rw [ptsOf_rd _ _ _ _ hj]
theorem lagW_sum {p : Int} (hp : Supp p) [NeZero p.toNat] {xs f : List Int} (hx : ∀ x ∈ xs,Res p x) (hn : xs.Nodup) (hf : ∀ x ∈ f,Res p x) (hl : f.length ≤ xs.length) (a : Int) :
  sumF (fun i => T p (lagW p a xs i) * T p (evI p (rd xs i) f)) xs.length = T p (evI p a f) := by
 rw [ev_evI hp,← ev_trimL,← polL_ptsOf hp hx hn hf hl,polL_ev hp (ptsOf_ok hp hx f) (by rw [ptsOf_xs];exact hn),ptsOf_length,ptsOf_xs]
 refine sumF_congr _ fun i hi => ?_
 rw [ptsOf_rd _ _ _ _ hi,lagW_ev hp a hx hn i hi]
 grind
end Go.Proofs.Ytmdoaijkaaaglaa.E
end
section
namespace Go.Proofs.Ytmdoaijkaaaglaa.Pr
open Go.RowKit Go.Proofs.YtmdoaijkaaaglaaW.PrintWords Go.Proofs.YtmdoaijkaaaglaaW.PrintLast Go.Proofs.YtmdoaijkaaaglaaW.PrintMore
attribute [local go_sem] max2_int min2_int max_two min_two max_three min_three max_four min_four
open Go.Proofs.Ytmdoaijkaaaglaa.Hw


end Go.Proofs.Ytmdoaijkaaaglaa.Pr
end
section
namespace Go.Proofs.Ytmdoaijkaaaglaa.E
open Go.RowKit Go.Proofs.Ytmdoaijkaaaglaa.Pr Go.Proofs.Ytmdoaijkaaaglaa.Hw Go.Proofs.Ytmdoaijkaaaglaa.Pl Go.Proofs.YtmdoaijkaaaglaaW.PrintWords Go.Proofs.YtmdoaijkaaaglaaW.PrintLast Go.Proofs.YtmdoaijkaaaglaaW.PrintMore
theorem getD_out (l : List Int) (j : Nat) (h : l.length ≤ j) : l.getD j 0 = 0 := by rw [List.getD_eq_getElem?_getD,List.getElem?_eq_none h];rfl
theorem list_ext_getD {a b : List Int} (hl : a.length = b.length) (h : ∀ i,a.getD i 0 = b.getD i 0) : a = b := by
 apply List.ext_getElem hl
 intro i h1 h2
 have := h i
 rwa [Hw.getD_in _ _ h1,Hw.getD_in _ _ h2] at this
end Go.Proofs.Ytmdoaijkaaaglaa.E
end
section
namespace Go.Proofs.Ytmdoaijkaaaglaa.Pr
open Go.RowKit Go.Proofs.YtmdoaijkaaaglaaW.PrintWords Go.Proofs.YtmdoaijkaaaglaaW.PrintLast Go.Proofs.YtmdoaijkaaaglaaW.PrintMore
attribute [local go_sem] max2_int min2_int max_two min_two max_three min_three max_four min_four
open Go.Proofs.Ytmdoaijkaaaglaa.Hw

end Go.Proofs.Ytmdoaijkaaaglaa.Pr
end
section
namespace Go.Proofs.Ytmdoaijkaaaglaa.E
open Go.RowKit Go.Proofs.Ytmdoaijkaaaglaa.Pr Go.Proofs.Ytmdoaijkaaaglaa.Hw Go.Proofs.Ytmdoaijkaaaglaa.Pl Go.Proofs.YtmdoaijkaaaglaaW.PrintWords Go.Proofs.YtmdoaijkaaaglaaW.PrintLast Go.Proofs.YtmdoaijkaaaglaaW.PrintMore
theorem allLoop {F : Nat → Int → Option Bool} {n : Nat} {Q : Nat → Prop} [DecidablePred Q] (hend : ∀ k,F (k + 1) (n : Int) = some true) (hyes : ∀ i,i < n → Q i → ∀ r,Ev (fun k => F k ((i + 1 : Nat) : Int)) r → Ev (fun k => F k (i : Int)) r)
  (hno : ∀ i,i < n → ¬ Q i → Ev (fun k => F k (i : Int)) false) (r : Bool) (hr : r = true ↔ ∀ i,i < n → Q i) : Ev (fun k => F k ((0 : Nat) : Int)) r := by
 have main : ∀ d i,i + d = n → ∀ r : Bool,(r = true ↔ ∀ j,i ≤ j → j < n → Q j) → Ev (fun k => F k (i : Int)) r := by
  intro d
  induction d with
  | zero =>
   intro i hi r hr
   have : i = n := by omega
   subst this
   have : r = true := hr.2 (fun j h1 h2 => by omega)
   subst this
   exact Ev.step (fun k => hend k) (Ev.now _)
  | succ d ih =>
   intro i hi r hr
   by_cases h : Q i
   ·refine hyes i (by omega) h r (ih (i + 1) (by omega) r ⟨fun e j h1 h2 => hr.1 e j (by omega) h2,fun e => hr.2 fun j h1 h2 => ?_⟩)
    by_cases e2 : j = i
    ·rw [e2];exact h
    ·exact e j (by omega) h2
   ·have : r = false := by
     cases r with
     | false => rfl
     | true => exact absurd (hr.1 rfl i (Nat.le_refl _) (by omega)) h
    subst this
    exact hno i (by omega) h
 exact main n 0 (by omega) r ⟨fun e j _ h2 => hr.1 e j h2,fun e => hr.2 fun j h => e j (Nat.zero_le _) h⟩
theorem same_ev (a b : List Int) (ha : a.length ≤ 1000000000) : Ev (fun k => privityref05_Same.f k a b) (decide (a = b)) := by
 by_cases hl : a.length = b.length
 ·have h := allLoop (F := fun k i => privityref05_Same.l0 k a b i) (n := a.length) (Q := fun i => a.getD i 0 = b.getD i 0) (fun k => ?_) (fun i hi hq r h => ?_) (fun i hi hq => ?_) (decide (a = b)) ?_
  ·refine h.congr fun k => ?_
   unfold privityref05_Same.f
   rw [if_pos (by omega)];rfl
  ·simp only [privityref05_Same.l0]
   rw [if_neg (by omega)]
  ·refine Ev.step (fun k => ?_) h
   simp only [privityref05_Same.l0]
   rw [if_pos (by omega),if_pos (by omega),if_pos (by omega),rd_nat,rd_nat,if_pos hq,wnat (by omega)]
  ·refine Ev.step (fun k => ?_) (Ev.now _)
   simp only [privityref05_Same.l0]
   rw [if_pos (by omega),if_pos (by omega),if_pos (by omega),rd_nat,rd_nat,if_neg hq]
  ·rw [decide_eq_true_iff]
   refine ⟨fun e i _ => by rw [e],fun h => list_ext_getD hl fun i => ?_⟩
   by_cases hi : i < a.length
   ·exact h i hi
   ·rw [getD_out a i (by omega),getD_out b i (by omega)]
 ·have : decide (a = b) = false := decide_eq_false fun e => hl (by rw [e])
  rw [this]
  refine Ev.congr (fun k => ?_) (Ev.now _)
  unfold privityref05_Same.f
  rw [if_neg (by omega)]
theorem rdL_nat (l : List (List Int)) (i : Nat) : rd_L2 l (i : Int) = l.getD i [] := by unfold rd_L2;rw [Int.toNat_natCast]
theorem sameRows_ev (a b : List (List Int)) (ha : a.length ≤ 1000000000) (hr : ∀ x ∈ a,x.length ≤ 1000000000) : Ev (fun k => privityref05_SameRows.f k a b) (decide (a = b)) := by
 by_cases hl : a.length = b.length
 ·have hs : ∀ i,i < a.length → Ev (fun k => privityref05_Same.f k (rd_L2 a (i : Int)) (rd_L2 b (i : Int))) (decide (a.getD i [] = b.getD i [])) := by
   intro i hi
   rw [rdL_nat,rdL_nat]
   refine same_ev _ _ (hr _ ?_)
   rw [List.getD_eq_getElem?_getD,List.getElem?_eq_getElem hi];exact List.getElem_mem hi
  have h := allLoop (F := fun k i => privityref05_SameRows.l0 k a b i) (n := a.length) (Q := fun i => a.getD i [] = b.getD i []) (fun k => ?_) (fun i hi hq r h => ?_) (fun i hi hq => ?_) (decide (a = b)) ?_
  ·refine h.congr fun k => ?_
   unfold privityref05_SameRows.f
   rw [if_pos (by omega)];rfl
  ·simp only [privityref05_SameRows.l0]
   rw [if_neg (by omega)]
  ·have h1 := hs i hi
   rw [decide_eq_true hq] at h1
   refine Ev.step (f := fun k => (privityref05_Same.f k (rd_L2 a (i : Int)) (rd_L2 b (i : Int))).bind fun t176 => (if t176 = true then (privityref05_SameRows.l0 k a b ((i + 1 : Nat) : Int)) else (some false))) (fun k => ?_) (Ev.bind h1 ?_)
   ·simp only [privityref05_SameRows.l0]
    rw [if_pos (by omega),if_pos (by omega),if_pos (by omega),wnat (by omega)]
   ·exact h.congr fun k => if_pos rfl
  ·have h1 := hs i hi
   rw [decide_eq_false hq] at h1
   refine Ev.step (f := fun k => (privityref05_Same.f k (rd_L2 a (i : Int)) (rd_L2 b (i : Int))).bind fun t176 => (if t176 = true then (privityref05_SameRows.l0 k a b ((i + 1 : Nat) : Int)) else (some false))) (fun k => ?_) (Ev.bind h1 ?_)
   ·simp only [privityref05_SameRows.l0]
    rw [if_pos (by omega),if_pos (by omega),if_pos (by omega),wnat (by omega)]
   ·exact (Ev.now false).congr fun k => if_neg (by simp)
  ·rw [decide_eq_true_iff]
   refine ⟨fun e i _ => by rw [e],fun h => List.ext_getElem hl fun i h1 h2 => ?_⟩
   have := h i h1
   rw [List.getD_eq_getElem?_getD,List.getD_eq_getElem?_getD,List.getElem?_eq_getElem h1,List.getElem?_eq_getElem h2] at this
   exact this
 ·have : decide (a = b) = false := decide_eq_false fun e => hl (by rw [e])
  rw [this]
  refine Ev.congr (fun k => ?_) (Ev.now _)
  unfold privityref05_SameRows.f
  rw [if_neg (by omega)]
def belowB (p : Int) (l : List Int) : Bool := l.all fun x => decide (x < p)
theorem below_ev (p : Int) (l : List Int) (hl : l.length ≤ 1000000000) : Ev (fun k => privityref05_Below.f k p l) (belowB p l) := by
 have h := allLoop (F := fun k i => privityref05_Below.l0 k p l i) (n := l.length) (Q := fun i => l.getD i 0 < p) (fun k => ?_) (fun i hi hq r h => ?_) (fun i hi hq => ?_) (belowB p l) ?_
 ·exact h
 ·simp only [privityref05_Below.l0]
  rw [if_neg (by omega)]
 ·refine Ev.step (fun k => ?_) h
  simp only [privityref05_Below.l0]
  rw [if_pos (by omega),if_pos (by omega),rd_nat,if_neg (by omega),wnat (by omega)]
 ·refine Ev.step (fun k => ?_) (Ev.now _)
  simp only [privityref05_Below.l0]
  rw [if_pos (by omega),if_pos (by omega),rd_nat,if_pos (by omega)]
 ·unfold belowB
  rw [List.all_eq_true]
  refine ⟨fun h i hi => ?_,fun h x hx => ?_⟩
  ·rw [Hw.getD_in _ _ hi];exact of_decide_eq_true (h _ (List.getElem_mem hi))
  ·obtain ⟨i,hi,rfl⟩ := List.getElem_of_mem hx
   have := h i hi
   rw [Hw.getD_in _ _ hi] at this
   exact decide_eq_true this
theorem below_res {p : Int} {l : List Int} (h : belowB p l = true) (hw : ∀ x ∈ l,0 ≤ x) : ∀ x ∈ l,Res p x := fun x hx => ⟨hw x hx,of_decide_eq_true (List.all_eq_true.1 h x hx)⟩
section
variable {p : Int} (hp : Supp p) [NeZero p.toNat]
end

theorem wf64 {x : Int} (h : (Lit.int .u64 x).wf = true) : 0 ≤ x ∧ x < 18446744073709551616 := by
 have h1 : IntKind.u64.min ≤ x ∧ x ≤ IntKind.u64.max := by simpa [Lit.wf] using h
 have e1 : IntKind.u64.min = 0 := by decide
 have e2 : IntKind.u64.max = 18446744073709551615 := by decide
 omega
theorem ev_if {α : Type} {A : Nat → Option Bool} {b : Bool} (hA : Ev A b) {X Y : Nat → Option α} {r : α} (hx : b = true → Ev X r) (hy : b = false → Ev Y r) : Ev (fun k => (A k).bind fun t => if t = true then X k else Y k) r := by
 refine Ev.bind (f := fun k t => if t = true then X k else Y k) hA ?_
 cases b with
 | true => exact (hx rfl).congr fun k => if_pos rfl
 | false => exact (hy rfl).congr fun k => if_neg (by simp)
theorem ev_ite {α : Type} {c : Prop} [Decidable c] {X Y : Nat → Option α} {r : α} (hx : c → Ev X r) (hy : ¬ c → Ev Y r) : Ev (fun k => if c then X k else Y k) r := by
 by_cases h : c
 ·exact (hx h).congr fun k => if_pos h
 ·exact (hy h).congr fun k => if_neg h
theorem ev_now_bind {α β : Type} {x : Option α} {a : α} (hx : x = some a) {f : Nat → α → Option β} {r : β} (h : Ev (fun k => f k a) r) : Ev (fun k => x.bind (f k)) r := by subst hx;exact h
theorem ilag_eq {p : Int} (hp : Supp p) {xs : List Int} (hx : ∀ x ∈ xs,Res p x) (hl : xs.length ≤ 49) {a : Int} (ha : Res p a) : interpolate_LagrangeWeights.f p xs a = some (if xs.Nodup then lagL p a xs xs.length else [],if xs.Nodup then 0 else 1) := by
 unfold interpolate_LagrangeWeights.f
 rw [if_pos (supB_iff.2 hp),if_pos (ressB_iff.2 hx),if_pos (resB_iff.2 ha),if_pos hl]
def accI (p : Int) (g : Nat → Int) : Nat → Int
 | 0 => 0
 | n + 1 => (accI p g n + g n) % p
theorem accI_res {p : Int} (hp : Supp p) (g : Nat → Int) : ∀ n,Res p (accI p g n)
 | 0 => by have := hp.bd;exact ⟨Int.le_refl 0,by show (0 : Int) < p;omega⟩
 | n + 1 => Res.mod hp _
theorem accI_T {p : Int} (hp : Supp p) [NeZero p.toNat] (g : Nat → Int) : ∀ n,T p (accI p g n) = sumF (fun i => T p (g i)) n
 | 0 => T_zero
 | n + 1 => by rw [accI,T_mod hp,T_add,accI_T hp g n];rfl
theorem lagL_getD (p a : Int) (xs : List Int) : ∀ (n i : Nat),i < n → (lagL p a xs n).getD i 0 = lagW p a xs i
 | n + 1,i,h => by
  rw [lagL,List.getD_eq_getElem?_getD]
  by_cases h2 : i < n
  ·rw [List.getElem?_append_left (by rw [lagL_length];exact h2),← List.getD_eq_getElem?_getD,lagL_getD p a xs n i h2]
  ·rw [List.getElem?_append_right (by rw [lagL_length];omega),lagL_length,show i - n = 0 from by omega,show i = n from by omega];rfl
theorem lagL_res {p : Int} (hp : Supp p) (a : Int) (xs : List Int) : ∀ n,∀ x ∈ lagL p a xs n,Res p x
 | 0 => fun x hx => by cases hx
 | n + 1 => fun x hx => by
  rcases List.mem_append.1 hx with h|h
  ·exact lagL_res hp a xs n x h
  ·simp only [List.mem_cons,List.not_mem_nil,or_false] at h
   rw [h];exact Res.mod hp _
end Go.Proofs.Ytmdoaijkaaaglaa.E
end
section
namespace Go.Proofs.Ytmdoaijkaaaglaa.Pr
open Go.RowKit Go.Proofs.YtmdoaijkaaaglaaW.PrintWords Go.Proofs.YtmdoaijkaaaglaaW.PrintLast Go.Proofs.YtmdoaijkaaaglaaW.PrintMore
attribute [local go_sem] max2_int min2_int max_two min_two max_three min_three max_four min_four
open Go.Proofs.Ytmdoaijkaaaglaa.Hw

end Go.Proofs.Ytmdoaijkaaaglaa.Pr
end
section
namespace Go.Proofs.Ytmdoaijkaaaglaa.E
open Go.RowKit Go.Proofs.Ytmdoaijkaaaglaa.Pr Go.Proofs.Ytmdoaijkaaaglaa.Hw Go.Proofs.Ytmdoaijkaaaglaa.Pl Go.Proofs.YtmdoaijkaaaglaaW.PrintWords Go.Proofs.YtmdoaijkaaaglaaW.PrintLast Go.Proofs.YtmdoaijkaaaglaaW.PrintMore
theorem awake07 : Ev (fun k => privitylaw07_awake.f k) true := Ev.of (fun k => privitylaw07_awake.mono _) (k := 60) (by kernel_rfl)
def pz (a n : Nat) : List Int := (List.range n).map fun (i : Nat) => ((a + i : Nat) : Int)
theorem pz_len (a n : Nat) : (pz a n).length = n := by simp [pz]
theorem pz_next (a n : Nat) : pz a n ++ [((a + n : Nat) : Int)] = pz a (n + 1) := by unfold pz;rw [List.range_succ,List.map_append];rfl
theorem pz_mem {a n : Nat} {x : Int} : x ∈ pz a n ↔ (a : Int) ≤ x ∧ x < (a : Int) + n := by
 unfold pz
 simp only [List.mem_map,List.mem_range]
 constructor
 ·rintro ⟨i,h,rfl⟩;omega
 ·rintro ⟨h1,h2⟩;exact ⟨(x - a).toNat,by omega,by omega⟩
theorem pz_nodup (a n : Nat) : (pz a n).Nodup := by
 unfold pz
 exact List.Pairwise.map (R := fun a c => a ≠ c) _ (fun x y (h : x ≠ y) => fun e => h (by omega)) (List.nodup_range (n := n))
theorem pz_rd {a n i : Nat} (h : i < n) : rd (pz a n) (i : Int) = ((a + i : Nat) : Int) := by
 rw [rd_nat,List.getD_eq_getElem?_getD,List.getElem?_eq_getElem (by rw [pz_len];exact h)]
 simp [pz]
theorem pz_res {p : Int} {a n : Nat} (h : (a : Int) + n ≤ p) : ∀ x ∈ pz a n,Res p x := fun x hx => by
 have := pz_mem.1 hx
 exact ⟨by omega,by omega⟩
theorem points_ev (a n : Nat) (ha : a ≤ 1000) (hn : n ≤ 1000) : Ev (fun k => hyperinvertible_points.f k (a : Int) (n : Int)) (pz a n) := by
 refine (up (Q := fun i => Ev (fun k => hyperinvertible_points.l0 k (a : Int) (pz a i) (n : Int) (i : Int)) (pz a n)) (n := n) ?_ (fun i hi h => ?_)).congr fun k => rfl
 ·refine Ev.step (fun k => ?_) (Ev.now _)
  simp only [hyperinvertible_points.l0]
  rw [if_neg (by omega)]
 ·refine Ev.step (f := fun k => hyperinvertible_points.l0 k (a : Int) (pz a (i + 1)) (n : Int) ((i + 1 : Nat) : Int)) (fun k => ?_) h
  simp only [hyperinvertible_points.l0]
  rw [if_pos (by omega),if_pos (by rw [pz_len];omega),wnat (by omega),wcap (by omega) (by omega),wrapU_id (by omega) (by omega),show (a : Int) + (i : Int) = ((a + i : Nat) : Int) from by omega,pz_next]
def newM (p : Int) (rows cols : Nat) : List (List Int) := (List.range rows).map fun (i : Nat) => lagL p (((cols + 1) + i : Nat) : Int) (pz 1 cols) cols
theorem newM_len (p : Int) (rows cols : Nat) : (newM p rows cols).length = rows := by simp [newM]
theorem newM_next (p : Int) (rows cols : Nat) : newM p rows cols ++ [lagL p (((cols + 1) + rows : Nat) : Int) (pz 1 cols) cols] = newM p (rows + 1) cols := by unfold newM;rw [List.range_succ,List.map_append];rfl
theorem newM_at {p : Int} {rows cols i : Nat} (h : i < rows) : (newM p rows cols).getD i [] = lagL p (((cols + 1) + i : Nat) : Int) (pz 1 cols) cols := by
 rw [List.getD_eq_getElem?_getD,List.getElem?_eq_getElem (by rw [newM_len];exact h)]
 simp [newM]
theorem newM_ok {p : Int} (hp : Supp p) (rows cols : Nat) : RowsOk p cols (newM p rows cols) := by
 intro r hr
 obtain ⟨i,_,rfl⟩ := List.mem_map.1 hr
 exact ⟨lagL_length _ _ _ _,lagL_res hp _ _ _⟩
def newR (p r c : Int) : List (List Int) × Int := if r < 1 ∨ r > 26 ∨ c < 1 ∨ c > 26 ∨ r + c ≥ p then ([],2) else (newM p r.toNat c.toNat,0)
theorem new_main {p : Int} (hp : Supp p) {r c : Nat} (hr1 : 1 ≤ r) (hr : r ≤ 26) (hc1 : 1 ≤ c) (hc : c ≤ 26) (hs : (r : Int) + (c : Int) < p) : Ev (fun k => hyperinvertible_New.j0 k p (r : Int) (c : Int) false) (newM p r c,0) := by
 have hl : ∀ i,i < r → interpolate_LagrangeWeights.f p (pz 1 c) (rd (pz (c + 1) r) (i : Int)) = some (lagL p (((c + 1) + i : Nat) : Int) (pz 1 c) c,0) := fun i hi => by
  rw [pz_rd hi,ilag_eq hp (pz_res (by omega)) (by rw [pz_len];omega) ⟨by omega,by omega⟩,if_pos (pz_nodup _ _),if_pos (pz_nodup _ _),pz_len]
 have main : Ev (fun k => hyperinvertible_New.l0 k p (pz 1 c) ([] : List (List Int)) (pz (c + 1) r) (((pz (c + 1) r).length : Nat) : Int) ((0 : Nat) : Int)) (newM p r c,0) := by
  refine up (Q := fun i => Ev (fun k => hyperinvertible_New.l0 k p (pz 1 c) (newM p i c) (pz (c + 1) r) (((pz (c + 1) r).length : Nat) : Int) (i : Int)) (newM p r c,0)) (n := r) ?_ (fun i hi h => ?_)
  ·refine Ev.step (fun k => ?_) (Ev.now _)
   simp only [hyperinvertible_New.l0]
   rw [if_neg (by rw [pz_len];omega)]
  ·refine Ev.step (f := fun k => (interpolate_LagrangeWeights.f p (pz 1 c) (rd (pz (c + 1) r) (i : Int))).bind fun bt => (if bt.2 = 0 then (if (newM p i c).length < 5864062014805 then hyperinvertible_New.l0 k p (pz 1 c) (newM p i c ++ [bt.1]) (pz (c + 1) r) (((pz (c + 1) r).length : Nat) : Int) ((i + 1 : Nat) : Int) else none) else some ([],bt.2))) (fun k => ?_) (ev_now_bind (hl i hi) ?_)
   ·simp only [hyperinvertible_New.l0]
    rw [if_pos (by rw [pz_len];omega),if_pos (by omega),if_pos (by rw [pz_len];omega),wnat (by omega)]
   ·refine h.congr fun k => ?_
    rw [if_pos rfl,if_pos (by rw [newM_len];omega),newM_next]
 refine Ev.step (f := fun k => (hyperinvertible_points.f k 1 (c : Int)).bind fun t372 => ((hyperinvertible_points.f k ((c + 1 : Nat) : Int) (r : Int)).bind fun t375 => (hyperinvertible_New.l0 k p t372 ([] : List (List Int)) t375 (t375.length : Int) 0))) (fun k => ?_) (Ev.bind (points_ev 1 c (by omega) (by omega)) (Ev.bind (points_ev (c + 1) r (by omega) (by omega)) main))
 simp only [hyperinvertible_New.j0]
 rw [if_neg (by simp),wnat (by omega)]
theorem new_bad (p r c : Int) : Ev (fun k => hyperinvertible_New.j0 k p r c true) (([] : List (List Int)),2) :=
 Ev.step (f := fun _ => some (([] : List (List Int)),2)) (fun k => by simp only [hyperinvertible_New.j0];rw [if_pos trivial]) (Ev.now _)
theorem new_ev {p : Int} (hp : Supp p) (r c : Int) : Ev (fun k => hyperinvertible_New.f k p r c) (newR p r c) := by
 unfold newR
 refine ev_ite (c := r < 1) (fun h => ?_) (fun h1 => ev_ite (c := r > 26) (fun h => ?_) (fun h2 => ev_ite (c := c < 1) (fun h => ?_) (fun h3 => ev_ite (c := c > 26) (fun h => ?_) (fun h4 => ?_))))
 ·rw [if_pos (Or.inl h)];exact new_bad p r c
 ·rw [if_pos (Or.inr (Or.inl h))];exact new_bad p r c
 ·rw [if_pos (Or.inr (Or.inr (Or.inl h)))];exact new_bad p r c
 ·rw [if_pos (Or.inr (Or.inr (Or.inr (Or.inl h))))];exact new_bad p r c
 ·rw [wcap (by omega) (by omega),wrapU_id (by omega) (by omega)]
  by_cases hs : r + c ≥ p
  ·rw [decide_eq_true hs,if_pos (Or.inr (Or.inr (Or.inr (Or.inr hs))))];exact new_bad p r c
  ·rw [decide_eq_false hs,if_neg (by omega)]
   have h := new_main hp (r := r.toNat) (c := c.toNat) (by omega) (by omega) (by omega) (by omega) (by omega)
   rw [show ((r.toNat : Nat) : Int) = r from by omega,show ((c.toNat : Nat) : Int) = c from by omega] at h
   exact h
theorem accI_congr7 {p : Int} {g h : Nat → Int} : ∀ n,(∀ i,i < n → g i = h i) → accI p g n = accI p h n
 | 0,_ => rfl
 | n + 1,e => by
  show (accI p g n + g n) % p = (accI p h n + h n) % p
  rw [accI_congr7 n (fun i hi => e i (by omega)),e n (by omega)]
theorem dotP_acc (p : Int) (r l : List Int) : ∀ n,dotP p r l n = accI p (fun i => r.getD i 0 * l.getD i 0 % p) n
 | 0 => rfl
 | n + 1 => by
  show (dotP p r l n + _) % p = (accI p _ n + _) % p
  rw [dotP_acc p r l n]
theorem weval07 {p : Int} (hp : Supp p) {xs f : List Int} (hx : ∀ x ∈ xs,Res p x) (hn : xs.Nodup) (hf : ∀ x ∈ f,Res p x) (hl : f.length ≤ xs.length) (a : Int) :
  accI p (fun i => (lagL p a xs xs.length).getD i 0 * evI p (xs.getD i 0) f % p) xs.length = evI p a f := by
 haveI := nz hp
 refine T_inj hp (accI_res hp _ _) (evI_res hp _ _) ?_
 rw [accI_T hp,← lagW_sum hp hx hn hf hl a]
 refine sumF_congr _ fun i hi => ?_
 rw [T_mod hp,T_mul,lagL_getD p a xs _ _ hi,rd_nat]
theorem pz_getD {a n i : Nat} (h : i < n) : (pz a n).getD i 0 = ((a + i : Nat) : Int) := by rw [← rd_nat];exact pz_rd h
theorem ne_bool {a b : Int} (h : a = b) : (a != b) = false := by rw [h];simp
theorem newR_ok {p : Int} (hp : Supp p) {r c : Nat} (hr1 : 1 ≤ r) (hr : r ≤ 13) (hc1 : 1 ≤ c) (hc : c ≤ 13) : newR p (r : Int) (c : Int) = (newM p r c,0) := by
 have := hp.bd
 unfold newR
 rw [if_neg (by omega),Int.toNat_natCast,Int.toNat_natCast]
end Go.Proofs.Ytmdoaijkaaaglaa.E
end
