/- Part 5 of the proof's texts, joined in build order. -/
import Derived.Test.YtejeelpnmdfibaaZComplete1
import Derived.Test.YtejeelpnmdfibaaZComplete4
section
/- Printed by a program of this seat (the kit's printer, with the functions that were proved by hand given to it). What stands here: the functions that the statements reach, as plain functions, and that the Go code computes them. -/
namespace Go.Proofs.Ytejeelpnmdfibaa.Pr
open Go.RowKit Go.Proofs.YtejeelpnmdfibaaW.PrintWords Go.Proofs.YtejeelpnmdfibaaW.PrintLast Go.Proofs.YtejeelpnmdfibaaW.PrintMore
attribute [local go_sem] max2_int min2_int max_two min_two max_three min_three max_four min_four   -- for this text's walks alone
set_option linter.unusedVariables false
set_option linter.unusedSimpArgs false

open Go.Proofs.Ytejeelpnmdfibaa.Hw
/-! ### privitylaw43_awake: function 13 -/
def privitylaw43_awake.f (k : Nat)  : Option (Bool) := (privitylaw43_four.f).bind fun bt229 => ((tapeshift_Sharing.f k bt229.1 bt229.2.1 bt229.2.2 (([3] : List Int)) 2 (([5, 2] : List Int)) (([3] : List Int))).bind fun bt241 => ((privitylaw43_four.f).bind fun bt247 => ((tapeshift_Sharing.f k bt247.1 bt247.2.1 bt247.2.2 (([3] : List Int)) 29 (([7, 22] : List Int)) (([17] : List Int))).bind fun bt259 => ((privityref14_Words.f k bt241.1 (([7, 22] : List Int))).bind fun t268 => (if t268 = true then ((privityref14_Words.f k bt241.2 (([17] : List Int))).bind fun t272 => (if t272 = true then ((privityref14_Words.f k bt259.1 (([5, 2] : List Int))).bind fun t276 => (if t276 = true then ((privityref14_Words.f k bt259.2 (([3] : List Int))).bind fun t280 => (some t280)) else (some false))) else (some false))) else (some false))))))
theorem privitylaw43_awake.mono : ∀ k, LeO (privitylaw43_awake.f k ) (privitylaw43_awake.f (k + 1) ) := by
 intro  k
 unfold privitylaw43_awake.f
 repeat' first
   | (with_reducible exact privityref14_Words.mono _ _ _)
   | (with_reducible exact tapeshift_Sharing.mono _ _ _ _ _ _ _ _)
   | (with_reducible exact LeO.refl _)
   | (with_reducible exact LeO.none _)
   | (with_reducible refine LeO.ite ?_ ?_)
   | (with_reducible refine LeO.bind ?_ (fun _ => ?_))
   | exact privityref14_Words.mono _ _ _
   | exact tapeshift_Sharing.mono _ _ _ _ _ _ _ _
   | exact LeO.none _
   | refine LeO.ite ?_ ?_
   | refine LeO.bind ?_ (fun _ => ?_)
theorem privitylaw43_awake.more (k : Nat) : ∀ d, LeO (privitylaw43_awake.f k) (privitylaw43_awake.f (k + d))
 | 0 => fun r h => h
 | d + 1 => fun r h => privitylaw43_awake.mono (k + d) r (privitylaw43_awake.more k d r h)
theorem privitylaw43_awake.is : privitylaw43_awake.f 60 = some true := by kernel_rfl
theorem privitylaw43_awake.one (k : Nat) (r : Bool) (h : privitylaw43_awake.f k = some r) : r = true := by
 have h1 := privitylaw43_awake.more k 60 r h
 have h2 := privitylaw43_awake.more 60 k true privitylaw43_awake.is
 rw [Nat.add_comm,h1] at h2
 exact Option.some.inj h2
set_option maxHeartbeats 8000000 in
set_option maxRecDepth 100000 in
theorem privitylaw43_awake.calls (k : Nat)  (r : Bool) (w : World) (h : privitylaw43_awake.f k  = some r) :
  Calls Try.prog 13 #[] w fun e w' => e = .returned (.bool r) ∧ Below w.heap.size w w' := by
 have HR1 := Aside0.mk (privitylaw43_awake.one k r h)
 have HB := Aside0.mk (Below.refl w.heap.size w)
 have H : ((privitylaw43_four.f).bind fun bt229 => ((tapeshift_Sharing.f k bt229.1 bt229.2.1 bt229.2.2 (([3] : List Int)) 2 (([5,2] : List Int)) (([3] : List Int))).bind fun bt241 => ((privitylaw43_four.f).bind fun bt247 => ((tapeshift_Sharing.f k bt247.1 bt247.2.1 bt247.2.2 (([3] : List Int)) 29 (([7,22] : List Int)) (([17] : List Int))).bind fun bt259 => ((privityref14_Words.f k bt241.1 (([7,22] : List Int))).bind fun t268 => (if t268 = true then ((privityref14_Words.f k bt241.2 (([17] : List Int))).bind fun t272 => (if t272 = true then ((privityref14_Words.f k bt259.1 (([5,2] : List Int))).bind fun t276 => (if t276 = true then ((privityref14_Words.f k bt259.2 (([3] : List Int))).bind fun t280 => (some t280)) else (some false))) else (some false))) else (some false))))))) = some r := h
 clear h
 replace H := Option.bind_eq_some_iff.mp H
 obtain ⟨⟨t229,t230,t231⟩,A10,H⟩ := H
 replace H : ((tapeshift_Sharing.f k t229 t230 t231 (([3] : List Int)) 2 (([5,2] : List Int)) (([3] : List Int))).bind fun bt241 => ((privitylaw43_four.f).bind fun bt247 => ((tapeshift_Sharing.f k bt247.1 bt247.2.1 bt247.2.2 (([3] : List Int)) 29 (([7,22] : List Int)) (([17] : List Int))).bind fun bt259 => ((privityref14_Words.f k bt241.1 (([7,22] : List Int))).bind fun t268 => (if t268 = true then ((privityref14_Words.f k bt241.2 (([17] : List Int))).bind fun t272 => (if t272 = true then ((privityref14_Words.f k bt259.1 (([5,2] : List Int))).bind fun t276 => (if t276 = true then ((privityref14_Words.f k bt259.2 (([3] : List Int))).bind fun t280 => (some t280)) else (some false))) else (some false))) else (some false)))))) = some r := H
 have A1 := Aside0.mk A10
 clear A10
 obtain ⟨y232,hy232⟩ : ∃ y_ : List Int,y_ = (([3] : List Int)) := ⟨_,rfl⟩
 replace H : ((tapeshift_Sharing.f k t229 t230 t231 y232 2 (([5,2] : List Int)) (([3] : List Int))).bind fun bt241 => ((privitylaw43_four.f).bind fun bt247 => ((tapeshift_Sharing.f k bt247.1 bt247.2.1 bt247.2.2 (([3] : List Int)) 29 (([7,22] : List Int)) (([17] : List Int))).bind fun bt259 => ((privityref14_Words.f k bt241.1 (([7,22] : List Int))).bind fun t268 => (if t268 = true then ((privityref14_Words.f k bt241.2 (([17] : List Int))).bind fun t272 => (if t272 = true then ((privityref14_Words.f k bt259.1 (([5,2] : List Int))).bind fun t276 => (if t276 = true then ((privityref14_Words.f k bt259.2 (([3] : List Int))).bind fun t280 => (some t280)) else (some false))) else (some false))) else (some false)))))) = some r := by first|(rw [hy232];with_reducible exact H)|(have H2_ := (Option.bind_some _ _).symm.trans H;rw [hy232];with_reducible exact H2_)|(have H2_ := (Option.bind_some _ _).symm.trans H;with_reducible exact H2_)|with_reducible exact H|(rw [hy232];exact H)|exact H
 have Ny232 := Aside0.mk hy232
 clear hy232
 obtain ⟨y235,hy235⟩ : ∃ y_ : List Int,y_ = (([5,2] : List Int)) := ⟨_,rfl⟩
 replace H : ((tapeshift_Sharing.f k t229 t230 t231 y232 2 y235 (([3] : List Int))).bind fun bt241 => ((privitylaw43_four.f).bind fun bt247 => ((tapeshift_Sharing.f k bt247.1 bt247.2.1 bt247.2.2 (([3] : List Int)) 29 (([7,22] : List Int)) (([17] : List Int))).bind fun bt259 => ((privityref14_Words.f k bt241.1 (([7,22] : List Int))).bind fun t268 => (if t268 = true then ((privityref14_Words.f k bt241.2 (([17] : List Int))).bind fun t272 => (if t272 = true then ((privityref14_Words.f k bt259.1 (([5,2] : List Int))).bind fun t276 => (if t276 = true then ((privityref14_Words.f k bt259.2 (([3] : List Int))).bind fun t280 => (some t280)) else (some false))) else (some false))) else (some false)))))) = some r := by first|(rw [hy235];with_reducible exact H)|(have H2_ := (Option.bind_some _ _).symm.trans H;rw [hy235];with_reducible exact H2_)|(have H2_ := (Option.bind_some _ _).symm.trans H;with_reducible exact H2_)|with_reducible exact H|(rw [hy235];exact H)|exact H
 have Ny235 := Aside0.mk hy235
 clear hy235
 obtain ⟨y238,hy238⟩ : ∃ y_ : List Int,y_ = (([3] : List Int)) := ⟨_,rfl⟩
 replace H : ((tapeshift_Sharing.f k t229 t230 t231 y232 2 y235 y238).bind fun bt241 => ((privitylaw43_four.f).bind fun bt247 => ((tapeshift_Sharing.f k bt247.1 bt247.2.1 bt247.2.2 (([3] : List Int)) 29 (([7,22] : List Int)) (([17] : List Int))).bind fun bt259 => ((privityref14_Words.f k bt241.1 (([7,22] : List Int))).bind fun t268 => (if t268 = true then ((privityref14_Words.f k bt241.2 (([17] : List Int))).bind fun t272 => (if t272 = true then ((privityref14_Words.f k bt259.1 (([5,2] : List Int))).bind fun t276 => (if t276 = true then ((privityref14_Words.f k bt259.2 (([3] : List Int))).bind fun t280 => (some t280)) else (some false))) else (some false))) else (some false)))))) = some r := by first|(rw [hy238];with_reducible exact H)|(have H2_ := (Option.bind_some _ _).symm.trans H;rw [hy238];with_reducible exact H2_)|(have H2_ := (Option.bind_some _ _).symm.trans H;with_reducible exact H2_)|with_reducible exact H|(rw [hy238];exact H)|exact H
 have Ny238 := Aside0.mk hy238
 clear hy238
 replace H := Option.bind_eq_some_iff.mp H
 obtain ⟨⟨t241,t244⟩,A20,H⟩ := H
 replace H : ((privitylaw43_four.f).bind fun bt247 => ((tapeshift_Sharing.f k bt247.1 bt247.2.1 bt247.2.2 (([3] : List Int)) 29 (([7,22] : List Int)) (([17] : List Int))).bind fun bt259 => ((privityref14_Words.f k t241 (([7,22] : List Int))).bind fun t268 => (if t268 = true then ((privityref14_Words.f k t244 (([17] : List Int))).bind fun t272 => (if t272 = true then ((privityref14_Words.f k bt259.1 (([5,2] : List Int))).bind fun t276 => (if t276 = true then ((privityref14_Words.f k bt259.2 (([3] : List Int))).bind fun t280 => (some t280)) else (some false))) else (some false))) else (some false))))) = some r := H
 have A2 := Aside0.mk A20
 clear A20
 replace H := Option.bind_eq_some_iff.mp H
 obtain ⟨⟨t247,t248,t249⟩,A30,H⟩ := H
 replace H : ((tapeshift_Sharing.f k t247 t248 t249 (([3] : List Int)) 29 (([7,22] : List Int)) (([17] : List Int))).bind fun bt259 => ((privityref14_Words.f k t241 (([7,22] : List Int))).bind fun t268 => (if t268 = true then ((privityref14_Words.f k t244 (([17] : List Int))).bind fun t272 => (if t272 = true then ((privityref14_Words.f k bt259.1 (([5,2] : List Int))).bind fun t276 => (if t276 = true then ((privityref14_Words.f k bt259.2 (([3] : List Int))).bind fun t280 => (some t280)) else (some false))) else (some false))) else (some false)))) = some r := H
 have A3 := Aside0.mk A30
 clear A30
 obtain ⟨y250,hy250⟩ : ∃ y_ : List Int,y_ = (([3] : List Int)) := ⟨_,rfl⟩
 replace H : ((tapeshift_Sharing.f k t247 t248 t249 y250 29 (([7,22] : List Int)) (([17] : List Int))).bind fun bt259 => ((privityref14_Words.f k t241 (([7,22] : List Int))).bind fun t268 => (if t268 = true then ((privityref14_Words.f k t244 (([17] : List Int))).bind fun t272 => (if t272 = true then ((privityref14_Words.f k bt259.1 (([5,2] : List Int))).bind fun t276 => (if t276 = true then ((privityref14_Words.f k bt259.2 (([3] : List Int))).bind fun t280 => (some t280)) else (some false))) else (some false))) else (some false)))) = some r := by first|(rw [hy250];with_reducible exact H)|(have H2_ := (Option.bind_some _ _).symm.trans H;rw [hy250];with_reducible exact H2_)|(have H2_ := (Option.bind_some _ _).symm.trans H;with_reducible exact H2_)|with_reducible exact H|(rw [hy250];exact H)|exact H
 have Ny250 := Aside0.mk hy250
 clear hy250
 obtain ⟨y253,hy253⟩ : ∃ y_ : List Int,y_ = (([7,22] : List Int)) := ⟨_,rfl⟩
 replace H : ((tapeshift_Sharing.f k t247 t248 t249 y250 29 y253 (([17] : List Int))).bind fun bt259 => ((privityref14_Words.f k t241 (([7,22] : List Int))).bind fun t268 => (if t268 = true then ((privityref14_Words.f k t244 (([17] : List Int))).bind fun t272 => (if t272 = true then ((privityref14_Words.f k bt259.1 (([5,2] : List Int))).bind fun t276 => (if t276 = true then ((privityref14_Words.f k bt259.2 (([3] : List Int))).bind fun t280 => (some t280)) else (some false))) else (some false))) else (some false)))) = some r := by first|(rw [hy253];with_reducible exact H)|(have H2_ := (Option.bind_some _ _).symm.trans H;rw [hy253];with_reducible exact H2_)|(have H2_ := (Option.bind_some _ _).symm.trans H;with_reducible exact H2_)|with_reducible exact H|(rw [hy253];exact H)|exact H
 have Ny253 := Aside0.mk hy253
 clear hy253
 obtain ⟨y256,hy256⟩ : ∃ y_ : List Int,y_ = (([17] : List Int)) := ⟨_,rfl⟩
 replace H : ((tapeshift_Sharing.f k t247 t248 t249 y250 29 y253 y256).bind fun bt259 => ((privityref14_Words.f k t241 (([7,22] : List Int))).bind fun t268 => (if t268 = true then ((privityref14_Words.f k t244 (([17] : List Int))).bind fun t272 => (if t272 = true then ((privityref14_Words.f k bt259.1 (([5,2] : List Int))).bind fun t276 => (if t276 = true then ((privityref14_Words.f k bt259.2 (([3] : List Int))).bind fun t280 => (some t280)) else (some false))) else (some false))) else (some false)))) = some r := by first|(rw [hy256];with_reducible exact H)|(have H2_ := (Option.bind_some _ _).symm.trans H;rw [hy256];with_reducible exact H2_)|(have H2_ := (Option.bind_some _ _).symm.trans H;with_reducible exact H2_)|with_reducible exact H|(rw [hy256];exact H)|exact H
 have Ny256 := Aside0.mk hy256
 clear hy256
 replace H := Option.bind_eq_some_iff.mp H
 obtain ⟨⟨t259,t262⟩,A40,H⟩ := H
 replace H : ((privityref14_Words.f k t241 (([7,22] : List Int))).bind fun t268 => (if t268 = true then ((privityref14_Words.f k t244 (([17] : List Int))).bind fun t272 => (if t272 = true then ((privityref14_Words.f k t259 (([5,2] : List Int))).bind fun t276 => (if t276 = true then ((privityref14_Words.f k t262 (([3] : List Int))).bind fun t280 => (some t280)) else (some false))) else (some false))) else (some false))) = some r := H
 have A4 := Aside0.mk A40
 clear A40
 obtain ⟨y265,hy265⟩ : ∃ y_ : List Int,y_ = (([7,22] : List Int)) := ⟨_,rfl⟩
 replace H : ((privityref14_Words.f k t241 y265).bind fun t268 => (if t268 = true then ((privityref14_Words.f k t244 (([17] : List Int))).bind fun t272 => (if t272 = true then ((privityref14_Words.f k t259 (([5,2] : List Int))).bind fun t276 => (if t276 = true then ((privityref14_Words.f k t262 (([3] : List Int))).bind fun t280 => (some t280)) else (some false))) else (some false))) else (some false))) = some r := by first|(rw [hy265];with_reducible exact H)|(have H2_ := (Option.bind_some _ _).symm.trans H;rw [hy265];with_reducible exact H2_)|(have H2_ := (Option.bind_some _ _).symm.trans H;with_reducible exact H2_)|with_reducible exact H|(rw [hy265];exact H)|exact H
 have Ny265 := Aside0.mk hy265
 clear hy265
 replace H := Option.bind_eq_some_iff.mp H
 obtain ⟨t268,A50,H⟩ := H
 replace H : (if t268 = true then ((privityref14_Words.f k t244 (([17] : List Int))).bind fun t272 => (if t272 = true then ((privityref14_Words.f k t259 (([5,2] : List Int))).bind fun t276 => (if t276 = true then ((privityref14_Words.f k t262 (([3] : List Int))).bind fun t280 => (some t280)) else (some false))) else (some false))) else (some false)) = some r := H
 have A5 := Aside0.mk A50
 clear A50
 by_cases c6 : t268 = true
 ·subst c6
  have H1 : ((privityref14_Words.f k t244 (([17] : List Int))).bind fun t272 => (if t272 = true then ((privityref14_Words.f k t259 (([5,2] : List Int))).bind fun t276 => (if t276 = true then ((privityref14_Words.f k t262 (([3] : List Int))).bind fun t280 => (some t280)) else (some false))) else (some false))) = some r := by rw [if_pos rfl] at H;exact H
  clear H
  have H := H1
  clear H1
  obtain ⟨y269,hy269⟩ : ∃ y_ : List Int,y_ = (([17] : List Int)) := ⟨_,rfl⟩
  replace H : ((privityref14_Words.f k t244 y269).bind fun t272 => (if t272 = true then ((privityref14_Words.f k t259 (([5,2] : List Int))).bind fun t276 => (if t276 = true then ((privityref14_Words.f k t262 (([3] : List Int))).bind fun t280 => (some t280)) else (some false))) else (some false))) = some r := by first|(rw [hy269];with_reducible exact H)|(have H2_ := (Option.bind_some _ _).symm.trans H;rw [hy269];with_reducible exact H2_)|(have H2_ := (Option.bind_some _ _).symm.trans H;with_reducible exact H2_)|with_reducible exact H|(rw [hy269];exact H)|exact H
  have Ny269 := Aside0.mk hy269
  clear hy269
  replace H := Option.bind_eq_some_iff.mp H
  obtain ⟨t272,A70,H⟩ := H
  replace H : (if t272 = true then ((privityref14_Words.f k t259 (([5,2] : List Int))).bind fun t276 => (if t276 = true then ((privityref14_Words.f k t262 (([3] : List Int))).bind fun t280 => (some t280)) else (some false))) else (some false)) = some r := H
  have A7 := Aside0.mk A70
  clear A70
  by_cases c8 : t272 = true
  ·subst c8
   have H1 : ((privityref14_Words.f k t259 (([5,2] : List Int))).bind fun t276 => (if t276 = true then ((privityref14_Words.f k t262 (([3] : List Int))).bind fun t280 => (some t280)) else (some false))) = some r := by rw [if_pos rfl] at H;exact H
   clear H
   have H := H1
   clear H1
   obtain ⟨y273,hy273⟩ : ∃ y_ : List Int,y_ = (([5,2] : List Int)) := ⟨_,rfl⟩
   replace H : ((privityref14_Words.f k t259 y273).bind fun t276 => (if t276 = true then ((privityref14_Words.f k t262 (([3] : List Int))).bind fun t280 => (some t280)) else (some false))) = some r := by first|(rw [hy273];with_reducible exact H)|(have H2_ := (Option.bind_some _ _).symm.trans H;rw [hy273];with_reducible exact H2_)|(have H2_ := (Option.bind_some _ _).symm.trans H;with_reducible exact H2_)|with_reducible exact H|(rw [hy273];exact H)|exact H
   have Ny273 := Aside0.mk hy273
   clear hy273
   replace H := Option.bind_eq_some_iff.mp H
   obtain ⟨t276,A90,H⟩ := H
   replace H : (if t276 = true then ((privityref14_Words.f k t262 (([3] : List Int))).bind fun t280 => (some t280)) else (some false)) = some r := H
   have A9 := Aside0.mk A90
   clear A90
   by_cases c10 : t276 = true
   ·subst c10
    have H1 : ((privityref14_Words.f k t262 (([3] : List Int))).bind fun t280 => (some t280)) = some r := by rw [if_pos rfl] at H;exact H
    clear H
    have H := H1
    clear H1
    obtain ⟨y277,hy277⟩ : ∃ y_ : List Int,y_ = (([3] : List Int)) := ⟨_,rfl⟩
    replace H : ((privityref14_Words.f k t262 y277).bind fun t280 => (some t280)) = some r := by first|(rw [hy277];with_reducible exact H)|(have H2_ := (Option.bind_some _ _).symm.trans H;rw [hy277];with_reducible exact H2_)|(have H2_ := (Option.bind_some _ _).symm.trans H;with_reducible exact H2_)|with_reducible exact H|(rw [hy277];exact H)|exact H
    have Ny277 := Aside0.mk hy277
    clear hy277
    replace H := Option.bind_eq_some_iff.mp H
    obtain ⟨t280,A110,H⟩ := H
    replace H : (some t280) = some r := H
    have A11 := Aside0.mk A110
    clear A110
    obtain rfl := Option.some.inj H
    go_enter Try.func13,Try.ntmps13
    go_wp2_with (first|((with_reducible refine gate_callee (f := 41) rfl ?_);refine goesL_ (some 6) rfl rfl Try.func41 (by kernel_rfl) rfl #[] rfl (by (try simp only [List.map_toArray,List.map_cons,List.map_nil]);first|done|rfl|(simp only [List.length_drop,List.length_take];rfl)) ?_;(with_reducible refine (privitylaw43_four.calls  t229 t230 t231 _ A1.out).mono ?_);rintro e w12 ⟨rfl,hb⟩;refine ⟨_,rfl,?_⟩;have n0_ := Aside0.mk (below_step (by repeat (first|(with_reducible first|exact HB.out|apply below_alloc|apply pw_below_drewN|apply below_drew1)|exact HB.out)) hb);clear HB;have HB := n0_;clear n0_;(try clear hb);(try clear hb2);(try clear hk);(try clear hi))|((with_reducible refine gate_dst (N := 7) rfl ?_);(try (refine gate_guard (by rfl) ?_;dsimp only));refine Kd.R_lit (Kd.int .i64) _ 3 ?hg (N := 7) ?hd (xs := ([3] : List Int)) (inner := [.int .i64 3]) (ok := fun _ => True) (okp := fun _ => True) ?hr ?hp (fun _ hk => hk) trivial (Below.refl _ _) (Nat.le_refl _) (by simp) ?_;(case hd => rfl);(case hg => rfl);(case hr => first|(go_simp;done)|(go_simp;rfl));(case hp => exact (Reps.one (show Kd.M (Kd.int .i64) _ _ _ 3 [.int .i64 3] from rfl) (Reps.none _ _)));intro v233 w13 ho14 hb hg_ hnew_;clear hg_ hnew_;(first|rw [← Ny232.out] at ho14|(simp only [Int.reduceToNat] at ho14;rw [← Ny232.out] at ho14));have n0_ := Aside0.mk (Kd.R_lower ho14 (below_size (by repeat (first|(with_reducible first|exact HB.out|apply below_alloc|apply pw_below_drewN|apply below_drew1)|exact HB.out))));have n1_ := Aside0.mk (below_step (by repeat (first|(with_reducible first|exact HB.out|apply below_alloc|apply pw_below_drewN|apply below_drew1)|exact HB.out)) hb);clear HB;have HO234 := n0_;have HB := n1_;clear n0_ n1_;clear hb ho14)|((with_reducible refine gate_dst (N := 8) rfl ?_);(try (refine gate_guard (by rfl) ?_;dsimp only));refine Kd.R_lit (Kd.int .u64) _ 22 ?hg (N := 8) ?hd (xs := ([5,2] : List Int)) (inner := [.int .u64 5,.int .u64 2]) (ok := fun _ => True) (okp := fun _ => True) ?hr ?hp (fun _ hk => hk) trivial (Below.refl _ _) (Nat.le_refl _) (by simp) ?_;(case hd => rfl);(case hg => rfl);(case hr => first|(go_simp;done)|(go_simp;rfl));(case hp => exact (Reps.one (show Kd.M (Kd.int .u64) _ _ _ 5 [.int .u64 5] from rfl) (Reps.one (show Kd.M (Kd.int .u64) _ _ _ 2 [.int .u64 2] from rfl) (Reps.none _ _))));intro v236 w15 ho16 hb hg_ hnew_;clear hg_ hnew_;(first|rw [← Ny235.out] at ho16|(simp only [Int.reduceToNat] at ho16;rw [← Ny235.out] at ho16));have n0_ := Aside0.mk (Kd.R_below (by (with_reducible repeat (first|apply Kd.R_alloc|apply Kd.R_drewN|apply Kd.R_drew));exact HO234.out) hb);have n1_ := Aside0.mk (Kd.R_lower ho16 (below_size (by repeat (first|(with_reducible first|exact HB.out|apply below_alloc|apply pw_below_drewN|apply below_drew1)|exact HB.out))));have n2_ := Aside0.mk (below_step (by repeat (first|(with_reducible first|exact HB.out|apply below_alloc|apply pw_below_drewN|apply below_drew1)|exact HB.out)) hb);clear HO234;clear HB;have HO234 := n0_;have HO237 := n1_;have HB := n2_;clear n0_ n1_ n2_;clear hb ho16)|((with_reducible refine gate_dst (N := 9) rfl ?_);(try (refine gate_guard (by rfl) ?_;dsimp only));refine Kd.R_lit (Kd.int .u64) _ 22 ?hg (N := 9) ?hd (xs := ([3] : List Int)) (inner := [.int .u64 3]) (ok := fun _ => True) (okp := fun _ => True) ?hr ?hp (fun _ hk => hk) trivial (Below.refl _ _) (Nat.le_refl _) (by simp) ?_;(case hd => rfl);(case hg => rfl);(case hr => first|(go_simp;done)|(go_simp;rfl));(case hp => exact (Reps.one (show Kd.M (Kd.int .u64) _ _ _ 3 [.int .u64 3] from rfl) (Reps.none _ _)));intro v239 w17 ho18 hb hg_ hnew_;clear hg_ hnew_;(first|rw [← Ny238.out] at ho18|(simp only [Int.reduceToNat] at ho18;rw [← Ny238.out] at ho18));have n0_ := Aside0.mk (Kd.R_below (by (with_reducible repeat (first|apply Kd.R_alloc|apply Kd.R_drewN|apply Kd.R_drew));exact HO234.out) hb);have n1_ := Aside0.mk (Kd.R_elder' (by (with_reducible repeat (first|apply Kd.R_alloc|apply Kd.R_drewN|apply Kd.R_drew));exact HO237.out) (Kd.R_base ho18) hb);have n2_ := Aside0.mk (Kd.R_lower (Kd.R_new' ho18 (Kd.R_lt (by (with_reducible repeat (first|apply Kd.R_alloc|apply Kd.R_drewN|apply Kd.R_drew));exact HO237.out))) (below_size (by repeat (first|(with_reducible first|exact HB.out|apply below_alloc|apply pw_below_drewN|apply below_drew1)|exact HB.out))));have n3_ := Aside0.mk (below_step (by repeat (first|(with_reducible first|exact HB.out|apply below_alloc|apply pw_below_drewN|apply below_drew1)|exact HB.out)) hb);clear HO234;clear HO237;clear HB;have HO234 := n0_;have HO237 := n1_;have HO240 := n2_;have HB := n3_;clear n0_ n1_ n2_ n3_;clear hb ho18;obtain ⟨Ao19,co19,eo19⟩ := Kd.R_slice HO234.out;subst eo19;obtain ⟨Ao20,co20,eo20⟩ := Kd.R_slice HO237.out;subst eo20;obtain ⟨Ao21,co21,eo21⟩ := Kd.R_slice HO240.out;subst eo21)|((with_reducible refine gate_callee (f := 15) rfl ?_);refine goesL_ (some 10) rfl rfl Try.func15 (by kernel_rfl) rfl #[.agg #[.int .u64 t229,.int .i64 t230,.int .i64 t231],.slice Ao19 y232.length co19,.int .u64 2,.slice Ao20 y235.length co20,.slice Ao21 y238.length co21] rfl (by (try simp only [List.map_toArray,List.map_cons,List.map_nil]);first|done|rfl|(simp only [List.length_drop,List.length_take];rfl)) ?_;(with_reducible refine (tapeshift_Sharing.calls k t229 t230 t231 _ _ y232 2 _ _ y235 _ _ y238 t241 t244 _ ?side1 ?side2 ?side3 ?side4 ?side5 ?side6 A2.out).mono ?_);(case side1 => repeat (first|exact (Kd.R_reads' HO234.out).2.2|(with_reducible refine Kd.C_alloc ?_ _)|(with_reducible refine Kd.C_drewN ?_ _)|(with_reducible refine Kd.C_drew ?_)));(case side2 => exact (Kd.R_reads' HO234.out).2.1);(case side3 => repeat (first|exact (Kd.R_reads' HO237.out).2.2|(with_reducible refine Kd.C_alloc ?_ _)|(with_reducible refine Kd.C_drewN ?_ _)|(with_reducible refine Kd.C_drew ?_)));(case side4 => exact (Kd.R_reads' HO237.out).2.1);(case side5 => repeat (first|exact (Kd.R_reads' HO240.out).2.2|(with_reducible refine Kd.C_alloc ?_ _)|(with_reducible refine Kd.C_drewN ?_ _)|(with_reducible refine Kd.C_drew ?_)));(case side6 => exact (Kd.R_reads' HO240.out).2.1);rintro e w22 ⟨v242,v245,rfl,ho0,ho1,hb⟩;refine ⟨_,rfl,?_⟩;have n0_ := Aside0.mk (Kd.R_below (by (with_reducible repeat (first|apply Kd.R_alloc|apply Kd.R_drewN|apply Kd.R_drew));exact HO234.out) hb);have n1_ := Aside0.mk (Kd.R_mono (Kd.R_told (Kd.R_told (Kd.R_old (by (with_reducible repeat (first|apply Kd.R_alloc|apply Kd.R_drewN|apply Kd.R_drew));exact HO237.out) hb) (Kd.R_base ho0)) (Kd.R_base ho1)) (fun _ h_ => h_.1));have n2_ := Aside0.mk (Kd.R_mono (Kd.R_told (Kd.R_told (Kd.R_old (by (with_reducible repeat (first|apply Kd.R_alloc|apply Kd.R_drewN|apply Kd.R_drew));exact HO240.out) hb) (Kd.R_base ho0)) (Kd.R_base ho1)) (fun _ h_ => h_.1));have n3_ := Aside0.mk (Kd.R_lower (Kd.R_new' (Kd.R_new' ho0 (Kd.R_lt (by (with_reducible repeat (first|apply Kd.R_alloc|apply Kd.R_drewN|apply Kd.R_drew));exact HO237.out))) (Kd.R_lt (by (with_reducible repeat (first|apply Kd.R_alloc|apply Kd.R_drewN|apply Kd.R_drew));exact HO240.out))) (below_size (by repeat (first|(with_reducible first|exact HB.out|apply below_alloc|apply pw_below_drewN|apply below_drew1)|exact HB.out))));have n4_ := Aside0.mk (Kd.R_lower (Kd.R_new' (Kd.R_new' ho1 (Kd.R_lt (by (with_reducible repeat (first|apply Kd.R_alloc|apply Kd.R_drewN|apply Kd.R_drew));exact HO237.out))) (Kd.R_lt (by (with_reducible repeat (first|apply Kd.R_alloc|apply Kd.R_drewN|apply Kd.R_drew));exact HO240.out))) (below_size (by repeat (first|(with_reducible first|exact HB.out|apply below_alloc|apply pw_below_drewN|apply below_drew1)|exact HB.out))));have n5_ := Aside0.mk (below_step (by repeat (first|(with_reducible first|exact HB.out|apply below_alloc|apply pw_below_drewN|apply below_drew1)|exact HB.out)) hb);clear HO234;clear HO237;clear HO240;clear HB;have HO234 := n0_;have HO237 := n1_;have HO240 := n2_;have HO243 := n3_;have HO246 := n4_;have HB := n5_;clear n0_ n1_ n2_ n3_ n4_ n5_;(try clear hb);(try clear hb2);(try clear hk);(try clear hi);(try clear ho0);(try clear ho1))|((with_reducible refine gate_callee (f := 41) rfl ?_);refine goesL_ (some 14) rfl rfl Try.func41 (by kernel_rfl) rfl #[] rfl (by (try simp only [List.map_toArray,List.map_cons,List.map_nil]);first|done|rfl|(simp only [List.length_drop,List.length_take];rfl)) ?_;(with_reducible refine (privitylaw43_four.calls  t247 t248 t249 _ A3.out).mono ?_);rintro e w23 ⟨rfl,hb⟩;refine ⟨_,rfl,?_⟩;have n0_ := Aside0.mk (Kd.R_below (by (with_reducible repeat (first|apply Kd.R_alloc|apply Kd.R_drewN|apply Kd.R_drew));exact HO234.out) hb);have n1_ := Aside0.mk (Kd.R_below (by (with_reducible repeat (first|apply Kd.R_alloc|apply Kd.R_drewN|apply Kd.R_drew));exact HO237.out) hb);have n2_ := Aside0.mk (Kd.R_below (by (with_reducible repeat (first|apply Kd.R_alloc|apply Kd.R_drewN|apply Kd.R_drew));exact HO240.out) hb);have n3_ := Aside0.mk (Kd.R_below (by (with_reducible repeat (first|apply Kd.R_alloc|apply Kd.R_drewN|apply Kd.R_drew));exact HO243.out) hb);have n4_ := Aside0.mk (Kd.R_below (by (with_reducible repeat (first|apply Kd.R_alloc|apply Kd.R_drewN|apply Kd.R_drew));exact HO246.out) hb);have n5_ := Aside0.mk (below_step (by repeat (first|(with_reducible first|exact HB.out|apply below_alloc|apply pw_below_drewN|apply below_drew1)|exact HB.out)) hb);clear HO234;clear HO237;clear HO240;clear HO243;clear HO246;clear HB;have HO234 := n0_;have HO237 := n1_;have HO240 := n2_;have HO243 := n3_;have HO246 := n4_;have HB := n5_;clear n0_ n1_ n2_ n3_ n4_ n5_;(try clear hb);(try clear hb2);(try clear hk);(try clear hi))|((with_reducible refine gate_dst (N := 15) rfl ?_);(try (refine gate_guard (by rfl) ?_;dsimp only));refine Kd.R_lit (Kd.int .i64) _ 3 ?hg (N := 15) ?hd (xs := ([3] : List Int)) (inner := [.int .i64 3]) (ok := fun _ => True) (okp := fun _ => True) ?hr ?hp (fun _ hk => hk) trivial (Below.refl _ _) (Nat.le_refl _) (by simp) ?_;(case hd => rfl);(case hg => rfl);(case hr => first|(go_simp;done)|(go_simp;rfl));(case hp => exact (Reps.one (show Kd.M (Kd.int .i64) _ _ _ 3 [.int .i64 3] from rfl) (Reps.none _ _)));intro v251 w24 ho25 hb hg_ hnew_;clear hg_ hnew_;(first|rw [← Ny250.out] at ho25|(simp only [Int.reduceToNat] at ho25;rw [← Ny250.out] at ho25));have n0_ := Aside0.mk (Kd.R_elder' (by (with_reducible repeat (first|apply Kd.R_alloc|apply Kd.R_drewN|apply Kd.R_drew));exact HO234.out) (Kd.R_base ho25) hb);have n1_ := Aside0.mk (Kd.R_below (by (with_reducible repeat (first|apply Kd.R_alloc|apply Kd.R_drewN|apply Kd.R_drew));exact HO237.out) hb);have n2_ := Aside0.mk (Kd.R_below (by (with_reducible repeat (first|apply Kd.R_alloc|apply Kd.R_drewN|apply Kd.R_drew));exact HO240.out) hb);have n3_ := Aside0.mk (Kd.R_below (by (with_reducible repeat (first|apply Kd.R_alloc|apply Kd.R_drewN|apply Kd.R_drew));exact HO243.out) hb);have n4_ := Aside0.mk (Kd.R_below (by (with_reducible repeat (first|apply Kd.R_alloc|apply Kd.R_drewN|apply Kd.R_drew));exact HO246.out) hb);have n5_ := Aside0.mk (Kd.R_lower (Kd.R_new' ho25 (Kd.R_lt (by (with_reducible repeat (first|apply Kd.R_alloc|apply Kd.R_drewN|apply Kd.R_drew));exact HO234.out))) (below_size (by repeat (first|(with_reducible first|exact HB.out|apply below_alloc|apply pw_below_drewN|apply below_drew1)|exact HB.out))));have n6_ := Aside0.mk (below_step (by repeat (first|(with_reducible first|exact HB.out|apply below_alloc|apply pw_below_drewN|apply below_drew1)|exact HB.out)) hb);clear HO234;clear HO237;clear HO240;clear HO243;clear HO246;clear HB;have HO234 := n0_;have HO237 := n1_;have HO240 := n2_;have HO243 := n3_;have HO246 := n4_;have HO252 := n5_;have HB := n6_;clear n0_ n1_ n2_ n3_ n4_ n5_ n6_;clear hb ho25)|((with_reducible refine gate_dst (N := 16) rfl ?_);(try (refine gate_guard (by rfl) ?_;dsimp only));refine Kd.R_lit (Kd.int .u64) _ 22 ?hg (N := 16) ?hd (xs := ([7,22] : List Int)) (inner := [.int .u64 7,.int .u64 22]) (ok := fun _ => True) (okp := fun _ => True) ?hr ?hp (fun _ hk => hk) trivial (Below.refl _ _) (Nat.le_refl _) (by simp) ?_;(case hd => rfl);(case hg => rfl);(case hr => first|(go_simp;done)|(go_simp;rfl));(case hp => exact (Reps.one (show Kd.M (Kd.int .u64) _ _ _ 7 [.int .u64 7] from rfl) (Reps.one (show Kd.M (Kd.int .u64) _ _ _ 22 [.int .u64 22] from rfl) (Reps.none _ _))));intro v254 w26 ho27 hb hg_ hnew_;clear hg_ hnew_;(first|rw [← Ny253.out] at ho27|(simp only [Int.reduceToNat] at ho27;rw [← Ny253.out] at ho27));have n0_ := Aside0.mk (Kd.R_below (by (with_reducible repeat (first|apply Kd.R_alloc|apply Kd.R_drewN|apply Kd.R_drew));exact HO234.out) hb);have n1_ := Aside0.mk (Kd.R_elder' (by (with_reducible repeat (first|apply Kd.R_alloc|apply Kd.R_drewN|apply Kd.R_drew));exact HO237.out) (Kd.R_base ho27) hb);have n2_ := Aside0.mk (Kd.R_elder' (by (with_reducible repeat (first|apply Kd.R_alloc|apply Kd.R_drewN|apply Kd.R_drew));exact HO240.out) (Kd.R_base ho27) hb);have n3_ := Aside0.mk (Kd.R_elder' (by (with_reducible repeat (first|apply Kd.R_alloc|apply Kd.R_drewN|apply Kd.R_drew));exact HO243.out) (Kd.R_base ho27) hb);have n4_ := Aside0.mk (Kd.R_elder' (by (with_reducible repeat (first|apply Kd.R_alloc|apply Kd.R_drewN|apply Kd.R_drew));exact HO246.out) (Kd.R_base ho27) hb);have n5_ := Aside0.mk (Kd.R_below (by (with_reducible repeat (first|apply Kd.R_alloc|apply Kd.R_drewN|apply Kd.R_drew));exact HO252.out) hb);have n6_ := Aside0.mk (Kd.R_lower (Kd.R_new' (Kd.R_new' (Kd.R_new' (Kd.R_new' ho27 (Kd.R_lt (by (with_reducible repeat (first|apply Kd.R_alloc|apply Kd.R_drewN|apply Kd.R_drew));exact HO237.out))) (Kd.R_lt (by (with_reducible repeat (first|apply Kd.R_alloc|apply Kd.R_drewN|apply Kd.R_drew));exact HO240.out))) (Kd.R_lt (by (with_reducible repeat (first|apply Kd.R_alloc|apply Kd.R_drewN|apply Kd.R_drew));exact HO243.out))) (Kd.R_lt (by (with_reducible repeat (first|apply Kd.R_alloc|apply Kd.R_drewN|apply Kd.R_drew));exact HO246.out))) (below_size (by repeat (first|(with_reducible first|exact HB.out|apply below_alloc|apply pw_below_drewN|apply below_drew1)|exact HB.out))));have n7_ := Aside0.mk (below_step (by repeat (first|(with_reducible first|exact HB.out|apply below_alloc|apply pw_below_drewN|apply below_drew1)|exact HB.out)) hb);clear HO234;clear HO237;clear HO240;clear HO243;clear HO246;clear HO252;clear HB;have HO234 := n0_;have HO237 := n1_;have HO240 := n2_;have HO243 := n3_;have HO246 := n4_;have HO252 := n5_;have HO255 := n6_;have HB := n7_;clear n0_ n1_ n2_ n3_ n4_ n5_ n6_ n7_;clear hb ho27)|((with_reducible refine gate_dst (N := 17) rfl ?_);(try (refine gate_guard (by rfl) ?_;dsimp only));refine Kd.R_lit (Kd.int .u64) _ 22 ?hg (N := 17) ?hd (xs := ([17] : List Int)) (inner := [.int .u64 17]) (ok := fun _ => True) (okp := fun _ => True) ?hr ?hp (fun _ hk => hk) trivial (Below.refl _ _) (Nat.le_refl _) (by simp) ?_;(case hd => rfl);(case hg => rfl);(case hr => first|(go_simp;done)|(go_simp;rfl));(case hp => exact (Reps.one (show Kd.M (Kd.int .u64) _ _ _ 17 [.int .u64 17] from rfl) (Reps.none _ _)));intro v257 w28 ho29 hb hg_ hnew_;clear hg_ hnew_;(first|rw [← Ny256.out] at ho29|(simp only [Int.reduceToNat] at ho29;rw [← Ny256.out] at ho29));have n0_ := Aside0.mk (Kd.R_below (by (with_reducible repeat (first|apply Kd.R_alloc|apply Kd.R_drewN|apply Kd.R_drew));exact HO234.out) hb);have n1_ := Aside0.mk (Kd.R_elder' (by (with_reducible repeat (first|apply Kd.R_alloc|apply Kd.R_drewN|apply Kd.R_drew));exact HO237.out) (Kd.R_base ho29) hb);have n2_ := Aside0.mk (Kd.R_elder' (by (with_reducible repeat (first|apply Kd.R_alloc|apply Kd.R_drewN|apply Kd.R_drew));exact HO240.out) (Kd.R_base ho29) hb);have n3_ := Aside0.mk (Kd.R_elder' (by (with_reducible repeat (first|apply Kd.R_alloc|apply Kd.R_drewN|apply Kd.R_drew));exact HO243.out) (Kd.R_base ho29) hb);have n4_ := Aside0.mk (Kd.R_elder' (by (with_reducible repeat (first|apply Kd.R_alloc|apply Kd.R_drewN|apply Kd.R_drew));exact HO246.out) (Kd.R_base ho29) hb);have n5_ := Aside0.mk (Kd.R_below (by (with_reducible repeat (first|apply Kd.R_alloc|apply Kd.R_drewN|apply Kd.R_drew));exact HO252.out) hb);have n6_ := Aside0.mk (Kd.R_elder' (by (with_reducible repeat (first|apply Kd.R_alloc|apply Kd.R_drewN|apply Kd.R_drew));exact HO255.out) (Kd.R_base ho29) hb);have n7_ := Aside0.mk (Kd.R_lower (Kd.R_new' (Kd.R_new' (Kd.R_new' (Kd.R_new' (Kd.R_new' ho29 (Kd.R_lt (by (with_reducible repeat (first|apply Kd.R_alloc|apply Kd.R_drewN|apply Kd.R_drew));exact HO237.out))) (Kd.R_lt (by (with_reducible repeat (first|apply Kd.R_alloc|apply Kd.R_drewN|apply Kd.R_drew));exact HO240.out))) (Kd.R_lt (by (with_reducible repeat (first|apply Kd.R_alloc|apply Kd.R_drewN|apply Kd.R_drew));exact HO243.out))) (Kd.R_lt (by (with_reducible repeat (first|apply Kd.R_alloc|apply Kd.R_drewN|apply Kd.R_drew));exact HO246.out))) (Kd.R_lt (by (with_reducible repeat (first|apply Kd.R_alloc|apply Kd.R_drewN|apply Kd.R_drew));exact HO255.out))) (below_size (by repeat (first|(with_reducible first|exact HB.out|apply below_alloc|apply pw_below_drewN|apply below_drew1)|exact HB.out))));have n8_ := Aside0.mk (below_step (by repeat (first|(with_reducible first|exact HB.out|apply below_alloc|apply pw_below_drewN|apply below_drew1)|exact HB.out)) hb);clear HO234;clear HO237;clear HO240;clear HO243;clear HO246;clear HO252;clear HO255;clear HB;have HO234 := n0_;have HO237 := n1_;have HO240 := n2_;have HO243 := n3_;have HO246 := n4_;have HO252 := n5_;have HO255 := n6_;have HO258 := n7_;have HB := n8_;clear n0_ n1_ n2_ n3_ n4_ n5_ n6_ n7_ n8_;clear hb ho29;obtain ⟨Ao30,co30,eo30⟩ := Kd.R_slice HO252.out;subst eo30;obtain ⟨Ao31,co31,eo31⟩ := Kd.R_slice HO255.out;subst eo31;obtain ⟨Ao32,co32,eo32⟩ := Kd.R_slice HO258.out;subst eo32)|((with_reducible refine gate_callee (f := 15) rfl ?_);refine goesL_ (some 18) rfl rfl Try.func15 (by kernel_rfl) rfl #[.agg #[.int .u64 t247,.int .i64 t248,.int .i64 t249],.slice Ao30 y250.length co30,.int .u64 29,.slice Ao31 y253.length co31,.slice Ao32 y256.length co32] rfl (by (try simp only [List.map_toArray,List.map_cons,List.map_nil]);first|done|rfl|(simp only [List.length_drop,List.length_take];rfl)) ?_;(with_reducible refine (tapeshift_Sharing.calls k t247 t248 t249 _ _ y250 29 _ _ y253 _ _ y256 t259 t262 _ ?side1 ?side2 ?side3 ?side4 ?side5 ?side6 A4.out).mono ?_);(case side1 => repeat (first|exact (Kd.R_reads' HO252.out).2.2|(with_reducible refine Kd.C_alloc ?_ _)|(with_reducible refine Kd.C_drewN ?_ _)|(with_reducible refine Kd.C_drew ?_)));(case side2 => exact (Kd.R_reads' HO252.out).2.1);(case side3 => repeat (first|exact (Kd.R_reads' HO255.out).2.2|(with_reducible refine Kd.C_alloc ?_ _)|(with_reducible refine Kd.C_drewN ?_ _)|(with_reducible refine Kd.C_drew ?_)));(case side4 => exact (Kd.R_reads' HO255.out).2.1);(case side5 => repeat (first|exact (Kd.R_reads' HO258.out).2.2|(with_reducible refine Kd.C_alloc ?_ _)|(with_reducible refine Kd.C_drewN ?_ _)|(with_reducible refine Kd.C_drew ?_)));(case side6 => exact (Kd.R_reads' HO258.out).2.1);rintro e w33 ⟨v260,v263,rfl,ho0,ho1,hb⟩;refine ⟨_,rfl,?_⟩;have n0_ := Aside0.mk (Kd.R_below (by (with_reducible repeat (first|apply Kd.R_alloc|apply Kd.R_drewN|apply Kd.R_drew));exact HO234.out) hb);have n1_ := Aside0.mk (Kd.R_mono (Kd.R_told (Kd.R_told (Kd.R_old (by (with_reducible repeat (first|apply Kd.R_alloc|apply Kd.R_drewN|apply Kd.R_drew));exact HO237.out) hb) (Kd.R_base ho0)) (Kd.R_base ho1)) (fun _ h_ => h_.1));have n2_ := Aside0.mk (Kd.R_mono (Kd.R_told (Kd.R_told (Kd.R_old (by (with_reducible repeat (first|apply Kd.R_alloc|apply Kd.R_drewN|apply Kd.R_drew));exact HO240.out) hb) (Kd.R_base ho0)) (Kd.R_base ho1)) (fun _ h_ => h_.1));have n3_ := Aside0.mk (Kd.R_mono (Kd.R_told (Kd.R_told (Kd.R_old (by (with_reducible repeat (first|apply Kd.R_alloc|apply Kd.R_drewN|apply Kd.R_drew));exact HO243.out) hb) (Kd.R_base ho0)) (Kd.R_base ho1)) (fun _ h_ => h_.1));have n4_ := Aside0.mk (Kd.R_mono (Kd.R_told (Kd.R_told (Kd.R_old (by (with_reducible repeat (first|apply Kd.R_alloc|apply Kd.R_drewN|apply Kd.R_drew));exact HO246.out) hb) (Kd.R_base ho0)) (Kd.R_base ho1)) (fun _ h_ => h_.1));have n5_ := Aside0.mk (Kd.R_below (by (with_reducible repeat (first|apply Kd.R_alloc|apply Kd.R_drewN|apply Kd.R_drew));exact HO252.out) hb);have n6_ := Aside0.mk (Kd.R_mono (Kd.R_told (Kd.R_told (Kd.R_old (by (with_reducible repeat (first|apply Kd.R_alloc|apply Kd.R_drewN|apply Kd.R_drew));exact HO255.out) hb) (Kd.R_base ho0)) (Kd.R_base ho1)) (fun _ h_ => h_.1));have n7_ := Aside0.mk (Kd.R_mono (Kd.R_told (Kd.R_told (Kd.R_old (by (with_reducible repeat (first|apply Kd.R_alloc|apply Kd.R_drewN|apply Kd.R_drew));exact HO258.out) hb) (Kd.R_base ho0)) (Kd.R_base ho1)) (fun _ h_ => h_.1));have n8_ := Aside0.mk (Kd.R_lower (Kd.R_new' (Kd.R_new' (Kd.R_new' (Kd.R_new' (Kd.R_new' (Kd.R_new' ho0 (Kd.R_lt (by (with_reducible repeat (first|apply Kd.R_alloc|apply Kd.R_drewN|apply Kd.R_drew));exact HO237.out))) (Kd.R_lt (by (with_reducible repeat (first|apply Kd.R_alloc|apply Kd.R_drewN|apply Kd.R_drew));exact HO240.out))) (Kd.R_lt (by (with_reducible repeat (first|apply Kd.R_alloc|apply Kd.R_drewN|apply Kd.R_drew));exact HO243.out))) (Kd.R_lt (by (with_reducible repeat (first|apply Kd.R_alloc|apply Kd.R_drewN|apply Kd.R_drew));exact HO246.out))) (Kd.R_lt (by (with_reducible repeat (first|apply Kd.R_alloc|apply Kd.R_drewN|apply Kd.R_drew));exact HO255.out))) (Kd.R_lt (by (with_reducible repeat (first|apply Kd.R_alloc|apply Kd.R_drewN|apply Kd.R_drew));exact HO258.out))) (below_size (by repeat (first|(with_reducible first|exact HB.out|apply below_alloc|apply pw_below_drewN|apply below_drew1)|exact HB.out))));have n9_ := Aside0.mk (Kd.R_lower (Kd.R_new' (Kd.R_new' (Kd.R_new' (Kd.R_new' (Kd.R_new' (Kd.R_new' ho1 (Kd.R_lt (by (with_reducible repeat (first|apply Kd.R_alloc|apply Kd.R_drewN|apply Kd.R_drew));exact HO237.out))) (Kd.R_lt (by (with_reducible repeat (first|apply Kd.R_alloc|apply Kd.R_drewN|apply Kd.R_drew));exact HO240.out))) (Kd.R_lt (by (with_reducible repeat (first|apply Kd.R_alloc|apply Kd.R_drewN|apply Kd.R_drew));exact HO243.out))) (Kd.R_lt (by (with_reducible repeat (first|apply Kd.R_alloc|apply Kd.R_drewN|apply Kd.R_drew));exact HO246.out))) (Kd.R_lt (by (with_reducible repeat (first|apply Kd.R_alloc|apply Kd.R_drewN|apply Kd.R_drew));exact HO255.out))) (Kd.R_lt (by (with_reducible repeat (first|apply Kd.R_alloc|apply Kd.R_drewN|apply Kd.R_drew));exact HO258.out))) (below_size (by repeat (first|(with_reducible first|exact HB.out|apply below_alloc|apply pw_below_drewN|apply below_drew1)|exact HB.out))));have n10_ := Aside0.mk (below_step (by repeat (first|(with_reducible first|exact HB.out|apply below_alloc|apply pw_below_drewN|apply below_drew1)|exact HB.out)) hb);clear HO234;clear HO237;clear HO240;clear HO243;clear HO246;clear HO252;clear HO255;clear HO258;clear HB;have HO234 := n0_;have HO237 := n1_;have HO240 := n2_;have HO243 := n3_;have HO246 := n4_;have HO252 := n5_;have HO255 := n6_;have HO258 := n7_;have HO261 := n8_;have HO264 := n9_;have HB := n10_;clear n0_ n1_ n2_ n3_ n4_ n5_ n6_ n7_ n8_ n9_ n10_;(try clear hb);(try clear hb2);(try clear hk);(try clear hi);(try clear ho0);(try clear ho1))|((with_reducible refine gate_dst (N := 22) rfl ?_);(try (refine gate_guard (by rfl) ?_;dsimp only));refine Kd.R_lit (Kd.int .u64) _ 22 ?hg (N := 22) ?hd (xs := ([7,22] : List Int)) (inner := [.int .u64 7,.int .u64 22]) (ok := fun _ => True) (okp := fun _ => True) ?hr ?hp (fun _ hk => hk) trivial (Below.refl _ _) (Nat.le_refl _) (by simp) ?_;(case hd => rfl);(case hg => rfl);(case hr => first|(go_simp;done)|(go_simp;rfl));(case hp => exact (Reps.one (show Kd.M (Kd.int .u64) _ _ _ 7 [.int .u64 7] from rfl) (Reps.one (show Kd.M (Kd.int .u64) _ _ _ 22 [.int .u64 22] from rfl) (Reps.none _ _))));intro v266 w34 ho35 hb hg_ hnew_;clear hg_ hnew_;(first|rw [← Ny265.out] at ho35|(simp only [Int.reduceToNat] at ho35;rw [← Ny265.out] at ho35));have n0_ := Aside0.mk (Kd.R_below (by (with_reducible repeat (first|apply Kd.R_alloc|apply Kd.R_drewN|apply Kd.R_drew));exact HO234.out) hb);have n1_ := Aside0.mk (Kd.R_elder' (by (with_reducible repeat (first|apply Kd.R_alloc|apply Kd.R_drewN|apply Kd.R_drew));exact HO237.out) (Kd.R_base ho35) hb);have n2_ := Aside0.mk (Kd.R_elder' (by (with_reducible repeat (first|apply Kd.R_alloc|apply Kd.R_drewN|apply Kd.R_drew));exact HO240.out) (Kd.R_base ho35) hb);have n3_ := Aside0.mk (Kd.R_elder' (by (with_reducible repeat (first|apply Kd.R_alloc|apply Kd.R_drewN|apply Kd.R_drew));exact HO243.out) (Kd.R_base ho35) hb);have n4_ := Aside0.mk (Kd.R_elder' (by (with_reducible repeat (first|apply Kd.R_alloc|apply Kd.R_drewN|apply Kd.R_drew));exact HO246.out) (Kd.R_base ho35) hb);have n5_ := Aside0.mk (Kd.R_below (by (with_reducible repeat (first|apply Kd.R_alloc|apply Kd.R_drewN|apply Kd.R_drew));exact HO252.out) hb);have n6_ := Aside0.mk (Kd.R_elder' (by (with_reducible repeat (first|apply Kd.R_alloc|apply Kd.R_drewN|apply Kd.R_drew));exact HO255.out) (Kd.R_base ho35) hb);have n7_ := Aside0.mk (Kd.R_elder' (by (with_reducible repeat (first|apply Kd.R_alloc|apply Kd.R_drewN|apply Kd.R_drew));exact HO258.out) (Kd.R_base ho35) hb);have n8_ := Aside0.mk (Kd.R_elder' (by (with_reducible repeat (first|apply Kd.R_alloc|apply Kd.R_drewN|apply Kd.R_drew));exact HO261.out) (Kd.R_base ho35) hb);have n9_ := Aside0.mk (Kd.R_elder' (by (with_reducible repeat (first|apply Kd.R_alloc|apply Kd.R_drewN|apply Kd.R_drew));exact HO264.out) (Kd.R_base ho35) hb);have n10_ := Aside0.mk (Kd.R_lower (Kd.R_new' (Kd.R_new' (Kd.R_new' (Kd.R_new' (Kd.R_new' (Kd.R_new' (Kd.R_new' (Kd.R_new' ho35 (Kd.R_lt (by (with_reducible repeat (first|apply Kd.R_alloc|apply Kd.R_drewN|apply Kd.R_drew));exact HO237.out))) (Kd.R_lt (by (with_reducible repeat (first|apply Kd.R_alloc|apply Kd.R_drewN|apply Kd.R_drew));exact HO240.out))) (Kd.R_lt (by (with_reducible repeat (first|apply Kd.R_alloc|apply Kd.R_drewN|apply Kd.R_drew));exact HO243.out))) (Kd.R_lt (by (with_reducible repeat (first|apply Kd.R_alloc|apply Kd.R_drewN|apply Kd.R_drew));exact HO246.out))) (Kd.R_lt (by (with_reducible repeat (first|apply Kd.R_alloc|apply Kd.R_drewN|apply Kd.R_drew));exact HO255.out))) (Kd.R_lt (by (with_reducible repeat (first|apply Kd.R_alloc|apply Kd.R_drewN|apply Kd.R_drew));exact HO258.out))) (Kd.R_lt (by (with_reducible repeat (first|apply Kd.R_alloc|apply Kd.R_drewN|apply Kd.R_drew));exact HO261.out))) (Kd.R_lt (by (with_reducible repeat (first|apply Kd.R_alloc|apply Kd.R_drewN|apply Kd.R_drew));exact HO264.out))) (below_size (by repeat (first|(with_reducible first|exact HB.out|apply below_alloc|apply pw_below_drewN|apply below_drew1)|exact HB.out))));have n11_ := Aside0.mk (below_step (by repeat (first|(with_reducible first|exact HB.out|apply below_alloc|apply pw_below_drewN|apply below_drew1)|exact HB.out)) hb);clear HO234;clear HO237;clear HO240;clear HO243;clear HO246;clear HO252;clear HO255;clear HO258;clear HO261;clear HO264;clear HB;have HO234 := n0_;have HO237 := n1_;have HO240 := n2_;have HO243 := n3_;have HO246 := n4_;have HO252 := n5_;have HO255 := n6_;have HO258 := n7_;have HO261 := n8_;have HO264 := n9_;have HO267 := n10_;have HB := n11_;clear n0_ n1_ n2_ n3_ n4_ n5_ n6_ n7_ n8_ n9_ n10_ n11_;clear hb ho35;obtain ⟨Ao36,co36,eo36⟩ := Kd.R_slice HO243.out;subst eo36;obtain ⟨Ao37,co37,eo37⟩ := Kd.R_slice HO267.out;subst eo37)|((with_reducible refine gate_callee (f := 18) rfl ?_);refine goesL_ (some 23) rfl rfl Try.func18 (by kernel_rfl) rfl #[.slice Ao36 t241.length co36,.slice Ao37 y265.length co37] rfl (by (try simp only [List.map_toArray,List.map_cons,List.map_nil]);first|done|rfl|(simp only [List.length_drop,List.length_take];rfl)) ?_;(with_reducible refine (privityref14_Words.calls k _ _ t241 _ _ y265 true _ ?side1 ?side2 ?side3 ?side4 A5.out).mono ?_);(case side1 => repeat (first|exact (Kd.R_reads' HO243.out).2.2|(with_reducible refine Kd.C_alloc ?_ _)|(with_reducible refine Kd.C_drewN ?_ _)|(with_reducible refine Kd.C_drew ?_)));(case side2 => exact (Kd.R_reads' HO243.out).2.1);(case side3 => repeat (first|exact (Kd.R_reads' HO267.out).2.2|(with_reducible refine Kd.C_alloc ?_ _)|(with_reducible refine Kd.C_drewN ?_ _)|(with_reducible refine Kd.C_drew ?_)));(case side4 => exact (Kd.R_reads' HO267.out).2.1);rintro e w' ⟨rfl,⟨nd,rfl⟩⟩;refine ⟨_,rfl,?_⟩)|((with_reducible refine gate_dst (N := 26) rfl ?_);(try (refine gate_guard (by rfl) ?_;dsimp only));refine Kd.R_lit (Kd.int .u64) _ 22 ?hg (N := 26) ?hd (xs := ([17] : List Int)) (inner := [.int .u64 17]) (ok := fun _ => True) (okp := fun _ => True) ?hr ?hp (fun _ hk => hk) trivial (Below.refl _ _) (Nat.le_refl _) (by simp) ?_;(case hd => rfl);(case hg => rfl);(case hr => first|(go_simp;done)|(go_simp;rfl));(case hp => exact (Reps.one (show Kd.M (Kd.int .u64) _ _ _ 17 [.int .u64 17] from rfl) (Reps.none _ _)));intro v270 w38 ho39 hb hg_ hnew_;clear hg_ hnew_;(first|rw [← Ny269.out] at ho39|(simp only [Int.reduceToNat] at ho39;rw [← Ny269.out] at ho39));have n0_ := Aside0.mk (Kd.R_below (by (with_reducible repeat (first|apply Kd.R_alloc|apply Kd.R_drewN|apply Kd.R_drew));exact HO234.out) hb);have n1_ := Aside0.mk (Kd.R_elder' (by (with_reducible repeat (first|apply Kd.R_alloc|apply Kd.R_drewN|apply Kd.R_drew));exact HO237.out) (Kd.R_base ho39) hb);have n2_ := Aside0.mk (Kd.R_elder' (by (with_reducible repeat (first|apply Kd.R_alloc|apply Kd.R_drewN|apply Kd.R_drew));exact HO240.out) (Kd.R_base ho39) hb);have n3_ := Aside0.mk (Kd.R_elder' (by (with_reducible repeat (first|apply Kd.R_alloc|apply Kd.R_drewN|apply Kd.R_drew));exact HO243.out) (Kd.R_base ho39) hb);have n4_ := Aside0.mk (Kd.R_elder' (by (with_reducible repeat (first|apply Kd.R_alloc|apply Kd.R_drewN|apply Kd.R_drew));exact HO246.out) (Kd.R_base ho39) hb);have n5_ := Aside0.mk (Kd.R_below (by (with_reducible repeat (first|apply Kd.R_alloc|apply Kd.R_drewN|apply Kd.R_drew));exact HO252.out) hb);have n6_ := Aside0.mk (Kd.R_elder' (by (with_reducible repeat (first|apply Kd.R_alloc|apply Kd.R_drewN|apply Kd.R_drew));exact HO255.out) (Kd.R_base ho39) hb);have n7_ := Aside0.mk (Kd.R_elder' (by (with_reducible repeat (first|apply Kd.R_alloc|apply Kd.R_drewN|apply Kd.R_drew));exact HO258.out) (Kd.R_base ho39) hb);have n8_ := Aside0.mk (Kd.R_elder' (by (with_reducible repeat (first|apply Kd.R_alloc|apply Kd.R_drewN|apply Kd.R_drew));exact HO261.out) (Kd.R_base ho39) hb);have n9_ := Aside0.mk (Kd.R_elder' (by (with_reducible repeat (first|apply Kd.R_alloc|apply Kd.R_drewN|apply Kd.R_drew));exact HO264.out) (Kd.R_base ho39) hb);have n10_ := Aside0.mk (Kd.R_elder' (by (with_reducible repeat (first|apply Kd.R_alloc|apply Kd.R_drewN|apply Kd.R_drew));exact HO267.out) (Kd.R_base ho39) hb);have n11_ := Aside0.mk (Kd.R_lower (Kd.R_new' (Kd.R_new' (Kd.R_new' (Kd.R_new' (Kd.R_new' (Kd.R_new' (Kd.R_new' (Kd.R_new' (Kd.R_new' ho39 (Kd.R_lt (by (with_reducible repeat (first|apply Kd.R_alloc|apply Kd.R_drewN|apply Kd.R_drew));exact HO237.out))) (Kd.R_lt (by (with_reducible repeat (first|apply Kd.R_alloc|apply Kd.R_drewN|apply Kd.R_drew));exact HO240.out))) (Kd.R_lt (by (with_reducible repeat (first|apply Kd.R_alloc|apply Kd.R_drewN|apply Kd.R_drew));exact HO243.out))) (Kd.R_lt (by (with_reducible repeat (first|apply Kd.R_alloc|apply Kd.R_drewN|apply Kd.R_drew));exact HO246.out))) (Kd.R_lt (by (with_reducible repeat (first|apply Kd.R_alloc|apply Kd.R_drewN|apply Kd.R_drew));exact HO255.out))) (Kd.R_lt (by (with_reducible repeat (first|apply Kd.R_alloc|apply Kd.R_drewN|apply Kd.R_drew));exact HO258.out))) (Kd.R_lt (by (with_reducible repeat (first|apply Kd.R_alloc|apply Kd.R_drewN|apply Kd.R_drew));exact HO261.out))) (Kd.R_lt (by (with_reducible repeat (first|apply Kd.R_alloc|apply Kd.R_drewN|apply Kd.R_drew));exact HO264.out))) (Kd.R_lt (by (with_reducible repeat (first|apply Kd.R_alloc|apply Kd.R_drewN|apply Kd.R_drew));exact HO267.out))) (below_size (by repeat (first|(with_reducible first|exact HB.out|apply below_alloc|apply pw_below_drewN|apply below_drew1)|exact HB.out))));have n12_ := Aside0.mk (below_step (by repeat (first|(with_reducible first|exact HB.out|apply below_alloc|apply pw_below_drewN|apply below_drew1)|exact HB.out)) hb);clear HO234;clear HO237;clear HO240;clear HO243;clear HO246;clear HO252;clear HO255;clear HO258;clear HO261;clear HO264;clear HO267;clear HB;have HO234 := n0_;have HO237 := n1_;have HO240 := n2_;have HO243 := n3_;have HO246 := n4_;have HO252 := n5_;have HO255 := n6_;have HO258 := n7_;have HO261 := n8_;have HO264 := n9_;have HO267 := n10_;have HO271 := n11_;have HB := n12_;clear n0_ n1_ n2_ n3_ n4_ n5_ n6_ n7_ n8_ n9_ n10_ n11_ n12_;clear hb ho39;obtain ⟨Ao40,co40,eo40⟩ := Kd.R_slice HO246.out;subst eo40;obtain ⟨Ao41,co41,eo41⟩ := Kd.R_slice HO271.out;subst eo41)|(go_at_call 18;(with_reducible refine (privityref14_Words.calls k _ _ t244 _ _ y269 true _ ?side1 ?side2 ?side3 ?side4 A7.out).mono ?_);(case side1 => repeat (first|exact (Kd.R_reads' HO246.out).2.2|(with_reducible refine Kd.C_alloc ?_ _)|(with_reducible refine Kd.C_drewN ?_ _)|(with_reducible refine Kd.C_drew ?_)));(case side2 => exact (Kd.R_reads' HO246.out).2.1);(case side3 => repeat (first|exact (Kd.R_reads' HO271.out).2.2|(with_reducible refine Kd.C_alloc ?_ _)|(with_reducible refine Kd.C_drewN ?_ _)|(with_reducible refine Kd.C_drew ?_)));(case side4 => exact (Kd.R_reads' HO271.out).2.1);rintro e w' ⟨rfl,⟨nd,rfl⟩⟩)|((with_reducible refine gate_dst (N := 31) rfl ?_);(try (refine gate_guard (by rfl) ?_;dsimp only));refine Kd.R_lit (Kd.int .u64) _ 22 ?hg (N := 31) ?hd (xs := ([5,2] : List Int)) (inner := [.int .u64 5,.int .u64 2]) (ok := fun _ => True) (okp := fun _ => True) ?hr ?hp (fun _ hk => hk) trivial (Below.refl _ _) (Nat.le_refl _) (by simp) ?_;(case hd => rfl);(case hg => rfl);(case hr => first|(go_simp;done)|(go_simp;rfl));(case hp => exact (Reps.one (show Kd.M (Kd.int .u64) _ _ _ 5 [.int .u64 5] from rfl) (Reps.one (show Kd.M (Kd.int .u64) _ _ _ 2 [.int .u64 2] from rfl) (Reps.none _ _))));intro v274 w42 ho43 hb hg_ hnew_;clear hg_ hnew_;(first|rw [← Ny273.out] at ho43|(simp only [Int.reduceToNat] at ho43;rw [← Ny273.out] at ho43));have n0_ := Aside0.mk (Kd.R_below (by (with_reducible repeat (first|apply Kd.R_alloc|apply Kd.R_drewN|apply Kd.R_drew));exact HO234.out) hb);have n1_ := Aside0.mk (Kd.R_elder' (by (with_reducible repeat (first|apply Kd.R_alloc|apply Kd.R_drewN|apply Kd.R_drew));exact HO237.out) (Kd.R_base ho43) hb);have n2_ := Aside0.mk (Kd.R_elder' (by (with_reducible repeat (first|apply Kd.R_alloc|apply Kd.R_drewN|apply Kd.R_drew));exact HO240.out) (Kd.R_base ho43) hb);have n3_ := Aside0.mk (Kd.R_elder' (by (with_reducible repeat (first|apply Kd.R_alloc|apply Kd.R_drewN|apply Kd.R_drew));exact HO243.out) (Kd.R_base ho43) hb);have n4_ := Aside0.mk (Kd.R_elder' (by (with_reducible repeat (first|apply Kd.R_alloc|apply Kd.R_drewN|apply Kd.R_drew));exact HO246.out) (Kd.R_base ho43) hb);have n5_ := Aside0.mk (Kd.R_below (by (with_reducible repeat (first|apply Kd.R_alloc|apply Kd.R_drewN|apply Kd.R_drew));exact HO252.out) hb);have n6_ := Aside0.mk (Kd.R_elder' (by (with_reducible repeat (first|apply Kd.R_alloc|apply Kd.R_drewN|apply Kd.R_drew));exact HO255.out) (Kd.R_base ho43) hb);have n7_ := Aside0.mk (Kd.R_elder' (by (with_reducible repeat (first|apply Kd.R_alloc|apply Kd.R_drewN|apply Kd.R_drew));exact HO258.out) (Kd.R_base ho43) hb);have n8_ := Aside0.mk (Kd.R_elder' (by (with_reducible repeat (first|apply Kd.R_alloc|apply Kd.R_drewN|apply Kd.R_drew));exact HO261.out) (Kd.R_base ho43) hb);have n9_ := Aside0.mk (Kd.R_elder' (by (with_reducible repeat (first|apply Kd.R_alloc|apply Kd.R_drewN|apply Kd.R_drew));exact HO264.out) (Kd.R_base ho43) hb);have n10_ := Aside0.mk (Kd.R_elder' (by (with_reducible repeat (first|apply Kd.R_alloc|apply Kd.R_drewN|apply Kd.R_drew));exact HO267.out) (Kd.R_base ho43) hb);have n11_ := Aside0.mk (Kd.R_elder' (by (with_reducible repeat (first|apply Kd.R_alloc|apply Kd.R_drewN|apply Kd.R_drew));exact HO271.out) (Kd.R_base ho43) hb);have n12_ := Aside0.mk (Kd.R_lower (Kd.R_new' (Kd.R_new' (Kd.R_new' (Kd.R_new' (Kd.R_new' (Kd.R_new' (Kd.R_new' (Kd.R_new' (Kd.R_new' (Kd.R_new' ho43 (Kd.R_lt (by (with_reducible repeat (first|apply Kd.R_alloc|apply Kd.R_drewN|apply Kd.R_drew));exact HO237.out))) (Kd.R_lt (by (with_reducible repeat (first|apply Kd.R_alloc|apply Kd.R_drewN|apply Kd.R_drew));exact HO240.out))) (Kd.R_lt (by (with_reducible repeat (first|apply Kd.R_alloc|apply Kd.R_drewN|apply Kd.R_drew));exact HO243.out))) (Kd.R_lt (by (with_reducible repeat (first|apply Kd.R_alloc|apply Kd.R_drewN|apply Kd.R_drew));exact HO246.out))) (Kd.R_lt (by (with_reducible repeat (first|apply Kd.R_alloc|apply Kd.R_drewN|apply Kd.R_drew));exact HO255.out))) (Kd.R_lt (by (with_reducible repeat (first|apply Kd.R_alloc|apply Kd.R_drewN|apply Kd.R_drew));exact HO258.out))) (Kd.R_lt (by (with_reducible repeat (first|apply Kd.R_alloc|apply Kd.R_drewN|apply Kd.R_drew));exact HO261.out))) (Kd.R_lt (by (with_reducible repeat (first|apply Kd.R_alloc|apply Kd.R_drewN|apply Kd.R_drew));exact HO264.out))) (Kd.R_lt (by (with_reducible repeat (first|apply Kd.R_alloc|apply Kd.R_drewN|apply Kd.R_drew));exact HO267.out))) (Kd.R_lt (by (with_reducible repeat (first|apply Kd.R_alloc|apply Kd.R_drewN|apply Kd.R_drew));exact HO271.out))) (below_size (by repeat (first|(with_reducible first|exact HB.out|apply below_alloc|apply pw_below_drewN|apply below_drew1)|exact HB.out))));have n13_ := Aside0.mk (below_step (by repeat (first|(with_reducible first|exact HB.out|apply below_alloc|apply pw_below_drewN|apply below_drew1)|exact HB.out)) hb);clear HO234;clear HO237;clear HO240;clear HO243;clear HO246;clear HO252;clear HO255;clear HO258;clear HO261;clear HO264;clear HO267;clear HO271;clear HB;have HO234 := n0_;have HO237 := n1_;have HO240 := n2_;have HO243 := n3_;have HO246 := n4_;have HO252 := n5_;have HO255 := n6_;have HO258 := n7_;have HO261 := n8_;have HO264 := n9_;have HO267 := n10_;have HO271 := n11_;have HO275 := n12_;have HB := n13_;clear n0_ n1_ n2_ n3_ n4_ n5_ n6_ n7_ n8_ n9_ n10_ n11_ n12_ n13_;clear hb ho43;obtain ⟨Ao44,co44,eo44⟩ := Kd.R_slice HO261.out;subst eo44;obtain ⟨Ao45,co45,eo45⟩ := Kd.R_slice HO275.out;subst eo45)|(go_at_call 18;(with_reducible refine (privityref14_Words.calls k _ _ t259 _ _ y273 true _ ?side1 ?side2 ?side3 ?side4 A9.out).mono ?_);(case side1 => repeat (first|exact (Kd.R_reads' HO261.out).2.2|(with_reducible refine Kd.C_alloc ?_ _)|(with_reducible refine Kd.C_drewN ?_ _)|(with_reducible refine Kd.C_drew ?_)));(case side2 => exact (Kd.R_reads' HO261.out).2.1);(case side3 => repeat (first|exact (Kd.R_reads' HO275.out).2.2|(with_reducible refine Kd.C_alloc ?_ _)|(with_reducible refine Kd.C_drewN ?_ _)|(with_reducible refine Kd.C_drew ?_)));(case side4 => exact (Kd.R_reads' HO275.out).2.1);rintro e w' ⟨rfl,⟨nd,rfl⟩⟩)|((with_reducible refine gate_dst (N := 36) rfl ?_);(try (refine gate_guard (by rfl) ?_;dsimp only));refine Kd.R_lit (Kd.int .u64) _ 22 ?hg (N := 36) ?hd (xs := ([3] : List Int)) (inner := [.int .u64 3]) (ok := fun _ => True) (okp := fun _ => True) ?hr ?hp (fun _ hk => hk) trivial (Below.refl _ _) (Nat.le_refl _) (by simp) ?_;(case hd => rfl);(case hg => rfl);(case hr => first|(go_simp;done)|(go_simp;rfl));(case hp => exact (Reps.one (show Kd.M (Kd.int .u64) _ _ _ 3 [.int .u64 3] from rfl) (Reps.none _ _)));intro v278 w46 ho47 hb hg_ hnew_;clear hg_ hnew_;(first|rw [← Ny277.out] at ho47|(simp only [Int.reduceToNat] at ho47;rw [← Ny277.out] at ho47));have n0_ := Aside0.mk (Kd.R_below (by (with_reducible repeat (first|apply Kd.R_alloc|apply Kd.R_drewN|apply Kd.R_drew));exact HO234.out) hb);have n1_ := Aside0.mk (Kd.R_elder' (by (with_reducible repeat (first|apply Kd.R_alloc|apply Kd.R_drewN|apply Kd.R_drew));exact HO237.out) (Kd.R_base ho47) hb);have n2_ := Aside0.mk (Kd.R_elder' (by (with_reducible repeat (first|apply Kd.R_alloc|apply Kd.R_drewN|apply Kd.R_drew));exact HO240.out) (Kd.R_base ho47) hb);have n3_ := Aside0.mk (Kd.R_elder' (by (with_reducible repeat (first|apply Kd.R_alloc|apply Kd.R_drewN|apply Kd.R_drew));exact HO243.out) (Kd.R_base ho47) hb);have n4_ := Aside0.mk (Kd.R_elder' (by (with_reducible repeat (first|apply Kd.R_alloc|apply Kd.R_drewN|apply Kd.R_drew));exact HO246.out) (Kd.R_base ho47) hb);have n5_ := Aside0.mk (Kd.R_below (by (with_reducible repeat (first|apply Kd.R_alloc|apply Kd.R_drewN|apply Kd.R_drew));exact HO252.out) hb);have n6_ := Aside0.mk (Kd.R_elder' (by (with_reducible repeat (first|apply Kd.R_alloc|apply Kd.R_drewN|apply Kd.R_drew));exact HO255.out) (Kd.R_base ho47) hb);have n7_ := Aside0.mk (Kd.R_elder' (by (with_reducible repeat (first|apply Kd.R_alloc|apply Kd.R_drewN|apply Kd.R_drew));exact HO258.out) (Kd.R_base ho47) hb);have n8_ := Aside0.mk (Kd.R_elder' (by (with_reducible repeat (first|apply Kd.R_alloc|apply Kd.R_drewN|apply Kd.R_drew));exact HO261.out) (Kd.R_base ho47) hb);have n9_ := Aside0.mk (Kd.R_elder' (by (with_reducible repeat (first|apply Kd.R_alloc|apply Kd.R_drewN|apply Kd.R_drew));exact HO264.out) (Kd.R_base ho47) hb);have n10_ := Aside0.mk (Kd.R_elder' (by (with_reducible repeat (first|apply Kd.R_alloc|apply Kd.R_drewN|apply Kd.R_drew));exact HO267.out) (Kd.R_base ho47) hb);have n11_ := Aside0.mk (Kd.R_elder' (by (with_reducible repeat (first|apply Kd.R_alloc|apply Kd.R_drewN|apply Kd.R_drew));exact HO271.out) (Kd.R_base ho47) hb);have n12_ := Aside0.mk (Kd.R_elder' (by (with_reducible repeat (first|apply Kd.R_alloc|apply Kd.R_drewN|apply Kd.R_drew));exact HO275.out) (Kd.R_base ho47) hb);have n13_ := Aside0.mk (Kd.R_lower (Kd.R_new' (Kd.R_new' (Kd.R_new' (Kd.R_new' (Kd.R_new' (Kd.R_new' (Kd.R_new' (Kd.R_new' (Kd.R_new' (Kd.R_new' (Kd.R_new' ho47 (Kd.R_lt (by (with_reducible repeat (first|apply Kd.R_alloc|apply Kd.R_drewN|apply Kd.R_drew));exact HO237.out))) (Kd.R_lt (by (with_reducible repeat (first|apply Kd.R_alloc|apply Kd.R_drewN|apply Kd.R_drew));exact HO240.out))) (Kd.R_lt (by (with_reducible repeat (first|apply Kd.R_alloc|apply Kd.R_drewN|apply Kd.R_drew));exact HO243.out))) (Kd.R_lt (by (with_reducible repeat (first|apply Kd.R_alloc|apply Kd.R_drewN|apply Kd.R_drew));exact HO246.out))) (Kd.R_lt (by (with_reducible repeat (first|apply Kd.R_alloc|apply Kd.R_drewN|apply Kd.R_drew));exact HO255.out))) (Kd.R_lt (by (with_reducible repeat (first|apply Kd.R_alloc|apply Kd.R_drewN|apply Kd.R_drew));exact HO258.out))) (Kd.R_lt (by (with_reducible repeat (first|apply Kd.R_alloc|apply Kd.R_drewN|apply Kd.R_drew));exact HO261.out))) (Kd.R_lt (by (with_reducible repeat (first|apply Kd.R_alloc|apply Kd.R_drewN|apply Kd.R_drew));exact HO264.out))) (Kd.R_lt (by (with_reducible repeat (first|apply Kd.R_alloc|apply Kd.R_drewN|apply Kd.R_drew));exact HO267.out))) (Kd.R_lt (by (with_reducible repeat (first|apply Kd.R_alloc|apply Kd.R_drewN|apply Kd.R_drew));exact HO271.out))) (Kd.R_lt (by (with_reducible repeat (first|apply Kd.R_alloc|apply Kd.R_drewN|apply Kd.R_drew));exact HO275.out))) (below_size (by repeat (first|(with_reducible first|exact HB.out|apply below_alloc|apply pw_below_drewN|apply below_drew1)|exact HB.out))));have n14_ := Aside0.mk (below_step (by repeat (first|(with_reducible first|exact HB.out|apply below_alloc|apply pw_below_drewN|apply below_drew1)|exact HB.out)) hb);clear HO234;clear HO237;clear HO240;clear HO243;clear HO246;clear HO252;clear HO255;clear HO258;clear HO261;clear HO264;clear HO267;clear HO271;clear HO275;clear HB;have HO234 := n0_;have HO237 := n1_;have HO240 := n2_;have HO243 := n3_;have HO246 := n4_;have HO252 := n5_;have HO255 := n6_;have HO258 := n7_;have HO261 := n8_;have HO264 := n9_;have HO267 := n10_;have HO271 := n11_;have HO275 := n12_;have HO279 := n13_;have HB := n14_;clear n0_ n1_ n2_ n3_ n4_ n5_ n6_ n7_ n8_ n9_ n10_ n11_ n12_ n13_ n14_;clear hb ho47;obtain ⟨Ao48,co48,eo48⟩ := Kd.R_slice HO264.out;subst eo48;obtain ⟨Ao49,co49,eo49⟩ := Kd.R_slice HO279.out;subst eo49)|(go_at_call 18;(with_reducible refine (privityref14_Words.calls k _ _ t262 _ _ y277 t280 _ ?side1 ?side2 ?side3 ?side4 A11.out).mono ?_);(case side1 => repeat (first|exact (Kd.R_reads' HO264.out).2.2|(with_reducible refine Kd.C_alloc ?_ _)|(with_reducible refine Kd.C_drewN ?_ _)|(with_reducible refine Kd.C_drew ?_)));(case side2 => exact (Kd.R_reads' HO264.out).2.1);(case side3 => repeat (first|exact (Kd.R_reads' HO279.out).2.2|(with_reducible refine Kd.C_alloc ?_ _)|(with_reducible refine Kd.C_drewN ?_ _)|(with_reducible refine Kd.C_drew ?_)));(case side4 => exact (Kd.R_reads' HO279.out).2.1);rintro e w' ⟨rfl,⟨nd,rfl⟩⟩))
    go_ret
    exact ⟨by first|rfl|(simp [errW_none,errW_some] <;> rfl)|(simp [*,errW_none,errW_some] <;> rfl),by repeat (first|(with_reducible first|exact HB.out|apply below_alloc|apply pw_below_drewN|apply below_drew1)|exact HB.out)⟩
   ·replace c10 := Bool.eq_false_iff.mpr c10
    subst c10
    have H1 : (some false) = some r := by rw [if_neg (show ¬ (false = true) by decide)] at H;exact H
    clear H
    have H := H1
    clear H1
    exact absurd (Option.some.inj H) (by rw [HR1.out];simp)
  ·replace c8 := Bool.eq_false_iff.mpr c8
   subst c8
   have H1 : (some false) = some r := by rw [if_neg (show ¬ (false = true) by decide)] at H;exact H
   clear H
   have H := H1
   clear H1
   exact absurd (Option.some.inj H) (by rw [HR1.out];simp)
 ·replace c6 := Bool.eq_false_iff.mpr c6
  subst c6
  have H1 : (some false) = some r := by rw [if_neg (show ¬ (false = true) by decide)] at H;exact H
  clear H
  have H := H1
  clear H1
  exact absurd (Option.some.inj H) (by rw [HR1.out];simp)
/-! ### privitylaw43_cut: function 42 -/
def privitylaw43_cut.l0 : Nat → Int → Int → List Int → Int → Int → Int → Int → List Int → Int → Int → List Int → Option (List Int)
 | 0,_,_,_,_,_,_,_,_,_,_,_ => none
 | k + 1,x1,x2,x7,x8,x282000,x282001,x282002,x282003,x282004,x282005,x282006 => if x8 < (wrap64 (x1 + x2)) then (if x8 < (x282006.length : Int) then (if 0 ≤ x8 then (if x282000 = 0 then (none) else (if x7.length < 17592186044416 then (privitylaw43_cut.l0 k x1 x2 (x7 ++ [Int.tmod (rd x282006 x8) x282000]) (wrap64 (x8 + 1)) x282000 x282001 x282002 x282003 x282004 x282005 x282006) else (none))) else (none)) else (if x7.length < 17592186044416 then (privitylaw43_cut.l0 k x1 x2 (x7 ++ [0]) (wrap64 (x8 + 1)) x282000 x282001 x282002 x282003 x282004 x282005 x282006) else (none))) else (some x7)
def privitylaw43_cut.f (k : Nat) (a0_0 : Int) (a0_1 : Int) (a0_2 : Int) (l0_3 : List Int) (a0_4 : Int) (a0_5 : Int) (l0_6 : List Int) (a1 : Int) (a2 : Int) : Option (List Int) := privitylaw43_cut.l0 k a1 a2 ([] : List Int) a1 a0_0 a0_1 a0_2 l0_3 a0_4 a0_5 l0_6
set_option maxHeartbeats 8000000 in
set_option maxRecDepth 100000 in
theorem privitylaw43_cut.calls (k : Nat) (a0_0 : Int) (a0_1 : Int) (a0_2 : Int) (A0_3 : Option Addr) (c0_3 : Nat) (l0_3 : List Int) (a0_4 : Int) (a0_5 : Int) (A0_6 : Option Addr) (c0_6 : Nat) (l0_6 : List Int) (a1 : Int) (a2 : Int) (r : List Int) (w : World) (hr0_3 : Kd.C (Kd.int .i64) w A0_3 l0_3.length l0_3) (hc0_3 : l0_3.length ≤ c0_3) (hr0_6 : Kd.C (Kd.int .u64) w A0_6 l0_6.length l0_6) (hc0_6 : l0_6.length ≤ c0_6) (h : privitylaw43_cut.f k a0_0 a0_1 a0_2 l0_3 a0_4 a0_5 l0_6 a1 a2 = some r) :
  Calls Try.prog 42 #[.agg #[.int .u64 a0_0,.int .i64 a0_1,.int .i64 a0_2,.slice A0_3 l0_3.length c0_3,.int .u64 a0_4,.int .u64 a0_5,.slice A0_6 l0_6.length c0_6],.int .i64 a1,.int .i64 a2] w fun e w' => ∃ v0_ : Value,e = .returned (v0_) ∧ Kd.R (Kd.int .u64) 22 w' w.heap.size (fun _ => True) v0_ r ∧ Below w.heap.size w w' := by
 have hu28 := Try.underlying28
 have HR0_3 := Aside0.mk hr0_3
 have HC0_3 := Aside0.mk hc0_3
 clear hr0_3 hc0_3
 have HR0_6 := Aside0.mk hr0_6
 have HC0_6 := Aside0.mk hc0_6
 clear hr0_6 hc0_6
 have HB := Aside0.mk (Below.refl w.heap.size w)
 have H : (privitylaw43_cut.l0 k a1 a2 ([] : List Int) a1 a0_0 a0_1 a0_2 l0_3 a0_4 a0_5 l0_6) = some r := h
 clear h
 have H' := Aside0.mk H
 clear H
 go_enter Try.func42,Try.ntmps42
 go_wp2_with (first|((with_reducible refine gate_dst (N := 3) rfl ?_);refine box_event ?hg (N := 3) ?hd (cs := #[.int .u64 a0_0,.int .i64 a0_1,.int .i64 a0_2,.slice A0_3 l0_3.length c0_3,.int .u64 a0_4,.int .u64 a0_5,.slice A0_6 l0_6.length c0_6]) (t := 28) ?hr ?_;(case hd => rfl);(case hg => rfl);(case hr => first|(go_simp;done)|(go_simp;rfl));intro gb281 hg w4 hbox hb;have n0_ := Aside0.mk (below_step (by repeat (first|(with_reducible first|exact HB.out|apply below_alloc|apply pw_below_drewN|apply below_drew1)|exact HB.out)) hb);have n1_ := Aside0.mk (hbox);have n2_ := Aside0.mk ((by rw [hg];exact (below_size (by repeat (first|(with_reducible first|exact HB.out|apply below_alloc|apply pw_below_drewN|apply below_drew1)|exact HB.out))) : w.heap.size ≤ gb281));have n3_ := Aside0.mk ((by rw [hg];exact (below_size (by repeat (first|(with_reducible first|exact HB.out|apply below_alloc|apply pw_below_drewN|apply below_drew1)|exact HB.out))) : w.heap.size ≤ gb281));clear HB;have HB := n0_;have BK281 := n1_;have GW281 := n2_;have GE281 := n3_;clear n0_ n1_ n2_ n3_;clear hb hbox hg))
 repeat (go_quiet (first|((with_reducible refine gate_dst (N := 3) rfl ?_);refine box_event ?hg (N := 3) ?hd (cs := #[.int .u64 a0_0,.int .i64 a0_1,.int .i64 a0_2,.slice A0_3 l0_3.length c0_3,.int .u64 a0_4,.int .u64 a0_5,.slice A0_6 l0_6.length c0_6]) (t := 28) ?hr ?_;(case hd => rfl);(case hg => rfl);(case hr => first|(go_simp;done)|(go_simp;rfl));intro gb281 hg w4 hbox hb;have n0_ := Aside0.mk (below_step (by repeat (first|(with_reducible first|exact HB.out|apply below_alloc|apply pw_below_drewN|apply below_drew1)|exact HB.out)) hb);have n1_ := Aside0.mk (hbox);have n2_ := Aside0.mk ((by rw [hg];exact (below_size (by repeat (first|(with_reducible first|exact HB.out|apply below_alloc|apply pw_below_drewN|apply below_drew1)|exact HB.out))) : w.heap.size ≤ gb281));have n3_ := Aside0.mk ((by rw [hg];exact (below_size (by repeat (first|(with_reducible first|exact HB.out|apply below_alloc|apply pw_below_drewN|apply below_drew1)|exact HB.out))) : w.heap.size ≤ gb281));clear HB;have HB := n0_;have BK281 := n1_;have GW281 := n2_;have GE281 := n3_;clear n0_ n1_ n2_ n3_;clear hb hbox hg));try go_wp2_with (first|((with_reducible refine gate_dst (N := 3) rfl ?_);refine box_event ?hg (N := 3) ?hd (cs := #[.int .u64 a0_0,.int .i64 a0_1,.int .i64 a0_2,.slice A0_3 l0_3.length c0_3,.int .u64 a0_4,.int .u64 a0_5,.slice A0_6 l0_6.length c0_6]) (t := 28) ?hr ?_;(case hd => rfl);(case hg => rfl);(case hr => first|(go_simp;done)|(go_simp;rfl));intro gb281 hg w4 hbox hb;have n0_ := Aside0.mk (below_step (by repeat (first|(with_reducible first|exact HB.out|apply below_alloc|apply pw_below_drewN|apply below_drew1)|exact HB.out)) hb);have n1_ := Aside0.mk (hbox);have n2_ := Aside0.mk ((by rw [hg];exact (below_size (by repeat (first|(with_reducible first|exact HB.out|apply below_alloc|apply pw_below_drewN|apply below_drew1)|exact HB.out))) : w.heap.size ≤ gb281));have n3_ := Aside0.mk ((by rw [hg];exact (below_size (by repeat (first|(with_reducible first|exact HB.out|apply below_alloc|apply pw_below_drewN|apply below_drew1)|exact HB.out))) : w.heap.size ≤ gb281));clear HB;have HB := n0_;have BK281 := n1_;have GW281 := n2_;have GE281 := n3_;clear n0_ n1_ n2_ n3_;clear hb hbox hg)))
 go_loopg [7,8] k (fun kq v7 v8 w' => ∃ (x7_1 : List Int) (x8_1 : Int),v8 = .int .i64 x8_1 ∧ Aside0 (privitylaw43_cut.l0 kq a1 a2 x7_1 x8_1 a0_0 a0_1 a0_2 l0_3 a0_4 a0_5 l0_6 = some r) ∧ Aside0 (kq ≤ k) ∧ Aside0 (Kd.R (Kd.int .u64) 22 w' w.heap.size (fun _ => True) v7 x7_1) ∧ Aside0 (w'.heap[gb281]? = some (.cells #[.int .u64 a0_0,.int .i64 a0_1,.int .i64 a0_2,(.slice A0_3 l0_3.length c0_3),.int .u64 a0_4,.int .u64 a0_5,(.slice A0_6 l0_6.length c0_6)] 28 (0,0))) ∧ Aside0 (Below w.heap.size w w'))
 case atStart => exact ⟨(([] : List Int)),(a1),(by first|rfl|(simp;done)|(simp [*];done)),H',⟨Nat.le_refl _⟩,⟨by first|exact Kd.R_nil _ _ _ _ _|exact Kd.N_nil _ _ _ _ _|exact Kd.V_nil _ _ _ _ _|exact Kd.Q_nil _ _ _ _ _|exact Kd.S_nil _ _ _ _ _⟩,⟨by (with_reducible repeat (first|refine blk_drewN ?_ _|refine blk_drew ?_|refine blk_alloc ?_ _));exact BK281.out⟩,⟨by repeat (first|(with_reducible first|exact HB.out|apply below_alloc|apply pw_below_drewN|apply below_drew1|refine below_set ?_ GE281.out)|exact HB.out)⟩⟩
 case round =>
  clear H'
  try clear p2
  try clear c4
  obtain ⟨x7_1,x8_1,rfl,HA,HK1,HO_7,BK281,HB⟩ := hrel
  cases gk with
  | zero => exact absurd HA.out (by simp [privitylaw43_cut.l0])
  | succ k1 =>
   have H := HA.out
   clear HA
   simp only [privitylaw43_cut.l0] at H
   by_cases c5 : x8_1 < (wrap64 (a1 + a2))
   ·rw [if_pos c5] at H
    have c5b0 : decide (x8_1 < (wrap64 (a1 + a2))) = true := decide_eq_true c5
    clear c5
    by_cases c6 : x8_1 < (l0_6.length : Int)
    ·rw [if_pos c6] at H
     have c6b0 : decide (x8_1 < (l0_6.length : Int)) = true := decide_eq_true c6
     clear c6
     by_cases c7 : 0 ≤ x8_1
     ·rw [if_pos c7] at H
      have c7b0 : decide (0 ≤ x8_1) = true := decide_eq_true c7
      clear c7
      by_cases c8 : a0_0 = 0
      ·rw [if_pos c8] at H
       exact absurd H (by simp)
      ·rw [if_neg c8] at H
       have c8b0 : (a0_0 == 0) = false := beq_eq_false_iff_ne.mpr c8
       have c8b1 : (a0_0 != 0) = true := bne_iff_ne.mpr c8
       by_cases c9 : x7_1.length < 17592186044416
       ·rw [if_pos c9] at H
        have LMc9 := Aside0.mk c9
        clear c9
        obtain ⟨y283,hy283⟩ : ∃ y_ : List Int,y_ = (x7_1 ++ [Int.tmod (rd l0_6 x8_1) a0_0]) := ⟨_,rfl⟩
        replace H : (privitylaw43_cut.l0 k1 a1 a2 y283 (wrap64 (x8_1 + 1)) a0_0 a0_1 a0_2 l0_3 a0_4 a0_5 l0_6) = some r := by first|(rw [hy283];with_reducible exact H)|(have H2_ := (Option.bind_some _ _).symm.trans H;rw [hy283];with_reducible exact H2_)|(have H2_ := (Option.bind_some _ _).symm.trans H;with_reducible exact H2_)|with_reducible exact H|(rw [hy283];exact H)|exact H
        have Ny283 := Aside0.mk hy283
        clear hy283
        have H' := Aside0.mk H
        clear H
        have hcz10_0 : wr.cell? ⟨gb281,0,none⟩ = some (.int .u64 a0_0) := (blk_cell BK281.out 0).trans rfl
        have hcz10_1 : wr.cell? ⟨gb281,1,none⟩ = some (.int .i64 a0_1) := (blk_cell BK281.out 1).trans rfl
        have hcz10_2 : wr.cell? ⟨gb281,2,none⟩ = some (.int .i64 a0_2) := (blk_cell BK281.out 2).trans rfl
        have hcz10_3 : wr.cell? ⟨gb281,3,none⟩ = some (.slice A0_3 l0_3.length c0_3) := (blk_cell BK281.out 3).trans rfl
        have hcz10_4 : wr.cell? ⟨gb281,4,none⟩ = some (.int .u64 a0_4) := (blk_cell BK281.out 4).trans rfl
        have hcz10_5 : wr.cell? ⟨gb281,5,none⟩ = some (.int .u64 a0_5) := (blk_cell BK281.out 5).trans rfl
        have hcz10_6 : wr.cell? ⟨gb281,6,none⟩ = some (.slice A0_6 l0_6.length c0_6) := (blk_cell BK281.out 6).trans rfl
        have hfz10_0 := blk_frozen BK281.out 0
        have hfz10_1 := blk_frozen BK281.out 1
        have hfz10_2 := blk_frozen BK281.out 2
        have hfz10_3 := blk_frozen BK281.out 3
        have hfz10_4 := blk_frozen BK281.out 4
        have hfz10_5 := blk_frozen BK281.out 5
        have hfz10_6 := blk_frozen BK281.out 6
        have p282 : 0 ≤ (x8_1 : Int) := of_decide_eq_true (by first|(with_reducible assumption)|assumption)
        have q282 : x8_1 < (l0_6.length : Int) := of_decide_eq_true (by first|(with_reducible assumption)|assumption)
        obtain ⟨ad282,e282,hx282_0⟩ := Kd.at_int HR0_6.out x8_1 p282 q282
        cases e282
        replace hx282_0 := (HB.out.cell (World.block_lt_of_cell? w _ hx282_0)).trans hx282_0
        replace p282 := eq_true p282
        replace q282 := eq_true q282
        go_wp2_with (first|((with_reducible refine gate_builtin (b := .append) (xs := #[.tmp 32,.tmp 34]) rfl ?_);at_builtin;refine Kd.R_append (Kd.int .u64) (w0 := w) w.heap.size rfl (.tmp 32) (.tmp 34) 26 22 (.int .u64 0) 8 rfl Try.underlying26 info22 rfl (by decide) (by omega) u7 x7_1 (Int.tmod (rd l0_6 x8_1) a0_0) [.int .u64 (Int.tmod (rd l0_6 x8_1) a0_0)] (fun _ => True) (fun _ => False) rfl rfl ?aP (fun _ hk => hk.elim) ?aF ?aO ?aB ?aS ?aL ?_;(case aP => exact rfl);(case aB => exact (by repeat (first|(with_reducible first|exact HB.out|apply below_alloc|apply pw_below_drewN|apply below_drew1|refine below_set ?_ GE281.out)|exact HB.out)));(case aF => exact (fun _ _ => trivial));(case aO => exact (by (with_reducible repeat (first|apply Kd.R_alloc|apply Kd.R_drewN|apply Kd.R_drew));exact HO_7.out));(case aS => exact (below_size (by repeat (first|(with_reducible first|exact HB.out|apply below_alloc|apply pw_below_drewN|apply below_drew1|refine below_set ?_ GE281.out)|exact HB.out))));(case aL => have := LMc9.out;omega);intro v284 w11 ho hb hg hat;rw [← Ny283.out] at ho;have n0_ := Aside0.mk (blk_grown (g := gb281) (o := .cells #[.int .u64 a0_0,.int .i64 a0_1,.int .i64 a0_2,.slice A0_3 l0_3.length c0_3,.int .u64 a0_4,.int .u64 a0_5,.slice (some ad282) l0_6.length c0_6] 28 (0,0)) (by (with_reducible repeat (first|refine blk_drewN ?_ _|refine blk_drew ?_|refine blk_alloc ?_ _));exact BK281.out) hg (Kd.R_ne HO_7.out BK281.out (by decide)));have n1_ := Aside0.mk (hb);have n2_ := Aside0.mk (ho);clear BK281;clear HB;clear HO_7;have BK281 := n0_;have HB := n1_;have HO285 := n2_;clear n0_ n1_ n2_;clear ho hb hg hat))
        repeat (go_quiet (first|((with_reducible refine gate_builtin (b := .append) (xs := #[.tmp 32,.tmp 34]) rfl ?_);at_builtin;refine Kd.R_append (Kd.int .u64) (w0 := w) w.heap.size rfl (.tmp 32) (.tmp 34) 26 22 (.int .u64 0) 8 rfl Try.underlying26 info22 rfl (by decide) (by omega) u7 x7_1 (Int.tmod (rd l0_6 x8_1) a0_0) [.int .u64 (Int.tmod (rd l0_6 x8_1) a0_0)] (fun _ => True) (fun _ => False) rfl rfl ?aP (fun _ hk => hk.elim) ?aF ?aO ?aB ?aS ?aL ?_;(case aP => exact rfl);(case aB => exact (by repeat (first|(with_reducible first|exact HB.out|apply below_alloc|apply pw_below_drewN|apply below_drew1|refine below_set ?_ GE281.out)|exact HB.out)));(case aF => exact (fun _ _ => trivial));(case aO => exact (by (with_reducible repeat (first|apply Kd.R_alloc|apply Kd.R_drewN|apply Kd.R_drew));exact HO_7.out));(case aS => exact (below_size (by repeat (first|(with_reducible first|exact HB.out|apply below_alloc|apply pw_below_drewN|apply below_drew1|refine below_set ?_ GE281.out)|exact HB.out))));(case aL => have := LMc9.out;omega);intro v284 w11 ho hb hg hat;rw [← Ny283.out] at ho;have n0_ := Aside0.mk (blk_grown (g := gb281) (o := .cells #[.int .u64 a0_0,.int .i64 a0_1,.int .i64 a0_2,.slice A0_3 l0_3.length c0_3,.int .u64 a0_4,.int .u64 a0_5,.slice (some ad282) l0_6.length c0_6] 28 (0,0)) (by (with_reducible repeat (first|refine blk_drewN ?_ _|refine blk_drew ?_|refine blk_alloc ?_ _));exact BK281.out) hg (Kd.R_ne HO_7.out BK281.out (by decide)));have n1_ := Aside0.mk (hb);have n2_ := Aside0.mk (ho);clear BK281;clear HB;clear HO_7;have BK281 := n0_;have HB := n1_;have HO285 := n2_;clear n0_ n1_ n2_;clear ho hb hg hat));try go_wp2_with (first|((with_reducible refine gate_builtin (b := .append) (xs := #[.tmp 32,.tmp 34]) rfl ?_);at_builtin;refine Kd.R_append (Kd.int .u64) (w0 := w) w.heap.size rfl (.tmp 32) (.tmp 34) 26 22 (.int .u64 0) 8 rfl Try.underlying26 info22 rfl (by decide) (by omega) u7 x7_1 (Int.tmod (rd l0_6 x8_1) a0_0) [.int .u64 (Int.tmod (rd l0_6 x8_1) a0_0)] (fun _ => True) (fun _ => False) rfl rfl ?aP (fun _ hk => hk.elim) ?aF ?aO ?aB ?aS ?aL ?_;(case aP => exact rfl);(case aB => exact (by repeat (first|(with_reducible first|exact HB.out|apply below_alloc|apply pw_below_drewN|apply below_drew1|refine below_set ?_ GE281.out)|exact HB.out)));(case aF => exact (fun _ _ => trivial));(case aO => exact (by (with_reducible repeat (first|apply Kd.R_alloc|apply Kd.R_drewN|apply Kd.R_drew));exact HO_7.out));(case aS => exact (below_size (by repeat (first|(with_reducible first|exact HB.out|apply below_alloc|apply pw_below_drewN|apply below_drew1|refine below_set ?_ GE281.out)|exact HB.out))));(case aL => have := LMc9.out;omega);intro v284 w11 ho hb hg hat;rw [← Ny283.out] at ho;have n0_ := Aside0.mk (blk_grown (g := gb281) (o := .cells #[.int .u64 a0_0,.int .i64 a0_1,.int .i64 a0_2,.slice A0_3 l0_3.length c0_3,.int .u64 a0_4,.int .u64 a0_5,.slice (some ad282) l0_6.length c0_6] 28 (0,0)) (by (with_reducible repeat (first|refine blk_drewN ?_ _|refine blk_drew ?_|refine blk_alloc ?_ _));exact BK281.out) hg (Kd.R_ne HO_7.out BK281.out (by decide)));have n1_ := Aside0.mk (hb);have n2_ := Aside0.mk (ho);clear BK281;clear HB;clear HO_7;have BK281 := n0_;have HB := n1_;have HO285 := n2_;clear n0_ n1_ n2_;clear ho hb hg hat)))
        go_roundg k1
        case measure => have := HK1.out;omega
        case rel => exact ⟨(y283),(wrap64 (x8_1 + 1)),(by first|rfl|(simp;done)|(simp [*];done)),H',⟨by have := HK1.out;omega⟩,⟨by (with_reducible repeat (first|apply Kd.R_alloc|apply Kd.R_drewN|apply Kd.R_drew));exact HO285.out⟩,⟨by (with_reducible repeat (first|refine blk_drewN ?_ _|refine blk_drew ?_|refine blk_alloc ?_ _));exact BK281.out⟩,⟨by repeat (first|(with_reducible first|exact HB.out|apply below_alloc|apply pw_below_drewN|apply below_drew1|refine below_set ?_ GE281.out)|exact HB.out)⟩⟩
       ·rw [if_neg c9] at H
        exact absurd H (by simp)
     ·rw [if_neg c7] at H
      exact absurd H (by simp)
    ·rw [if_neg c6] at H
     have c6b0 : decide (x8_1 < (l0_6.length : Int)) = false := decide_eq_false c6
     clear c6
     by_cases c12 : x7_1.length < 17592186044416
     ·rw [if_pos c12] at H
      have LMc12 := Aside0.mk c12
      clear c12
      obtain ⟨y286,hy286⟩ : ∃ y_ : List Int,y_ = (x7_1 ++ [0]) := ⟨_,rfl⟩
      replace H : (privitylaw43_cut.l0 k1 a1 a2 y286 (wrap64 (x8_1 + 1)) a0_0 a0_1 a0_2 l0_3 a0_4 a0_5 l0_6) = some r := by first|(rw [hy286];with_reducible exact H)|(have H2_ := (Option.bind_some _ _).symm.trans H;rw [hy286];with_reducible exact H2_)|(have H2_ := (Option.bind_some _ _).symm.trans H;with_reducible exact H2_)|with_reducible exact H|(rw [hy286];exact H)|exact H
      have Ny286 := Aside0.mk hy286
      clear hy286
      have H' := Aside0.mk H
      clear H
      have hcz13_0 : wr.cell? ⟨gb281,0,none⟩ = some (.int .u64 a0_0) := (blk_cell BK281.out 0).trans rfl
      have hcz13_1 : wr.cell? ⟨gb281,1,none⟩ = some (.int .i64 a0_1) := (blk_cell BK281.out 1).trans rfl
      have hcz13_2 : wr.cell? ⟨gb281,2,none⟩ = some (.int .i64 a0_2) := (blk_cell BK281.out 2).trans rfl
      have hcz13_3 : wr.cell? ⟨gb281,3,none⟩ = some (.slice A0_3 l0_3.length c0_3) := (blk_cell BK281.out 3).trans rfl
      have hcz13_4 : wr.cell? ⟨gb281,4,none⟩ = some (.int .u64 a0_4) := (blk_cell BK281.out 4).trans rfl
      have hcz13_5 : wr.cell? ⟨gb281,5,none⟩ = some (.int .u64 a0_5) := (blk_cell BK281.out 5).trans rfl
      have hcz13_6 : wr.cell? ⟨gb281,6,none⟩ = some (.slice A0_6 l0_6.length c0_6) := (blk_cell BK281.out 6).trans rfl
      have hfz13_0 := blk_frozen BK281.out 0
      have hfz13_1 := blk_frozen BK281.out 1
      have hfz13_2 := blk_frozen BK281.out 2
      have hfz13_3 := blk_frozen BK281.out 3
      have hfz13_4 := blk_frozen BK281.out 4
      have hfz13_5 := blk_frozen BK281.out 5
      have hfz13_6 := blk_frozen BK281.out 6
      go_wp2_with (first|((with_reducible refine gate_builtin (b := .append) (xs := #[.tmp 32,.tmp 34]) rfl ?_);at_builtin;refine Kd.R_append (Kd.int .u64) (w0 := w) w.heap.size rfl (.tmp 32) (.tmp 34) 26 22 (.int .u64 0) 8 rfl Try.underlying26 info22 rfl (by decide) (by omega) u7 x7_1 0 [.int .u64 0] (fun _ => True) (fun _ => False) rfl rfl ?aP (fun _ hk => hk.elim) ?aF ?aO ?aB ?aS ?aL ?_;(case aP => exact rfl);(case aB => exact (by repeat (first|(with_reducible first|exact HB.out|apply below_alloc|apply pw_below_drewN|apply below_drew1|refine below_set ?_ GE281.out)|exact HB.out)));(case aF => exact (fun _ _ => trivial));(case aO => exact (by (with_reducible repeat (first|apply Kd.R_alloc|apply Kd.R_drewN|apply Kd.R_drew));exact HO_7.out));(case aS => exact (below_size (by repeat (first|(with_reducible first|exact HB.out|apply below_alloc|apply pw_below_drewN|apply below_drew1|refine below_set ?_ GE281.out)|exact HB.out))));(case aL => have := LMc12.out;omega);intro v287 w14 ho hb hg hat;rw [← Ny286.out] at ho;have n0_ := Aside0.mk (blk_grown (g := gb281) (o := .cells #[.int .u64 a0_0,.int .i64 a0_1,.int .i64 a0_2,.slice A0_3 l0_3.length c0_3,.int .u64 a0_4,.int .u64 a0_5,.slice A0_6 l0_6.length c0_6] 28 (0,0)) (by (with_reducible repeat (first|refine blk_drewN ?_ _|refine blk_drew ?_|refine blk_alloc ?_ _));exact BK281.out) hg (Kd.R_ne HO_7.out BK281.out (by decide)));have n1_ := Aside0.mk (hb);have n2_ := Aside0.mk (ho);clear BK281;clear HB;clear HO_7;have BK281 := n0_;have HB := n1_;have HO288 := n2_;clear n0_ n1_ n2_;clear ho hb hg hat))
      repeat (go_quiet (first|((with_reducible refine gate_builtin (b := .append) (xs := #[.tmp 32,.tmp 34]) rfl ?_);at_builtin;refine Kd.R_append (Kd.int .u64) (w0 := w) w.heap.size rfl (.tmp 32) (.tmp 34) 26 22 (.int .u64 0) 8 rfl Try.underlying26 info22 rfl (by decide) (by omega) u7 x7_1 0 [.int .u64 0] (fun _ => True) (fun _ => False) rfl rfl ?aP (fun _ hk => hk.elim) ?aF ?aO ?aB ?aS ?aL ?_;(case aP => exact rfl);(case aB => exact (by repeat (first|(with_reducible first|exact HB.out|apply below_alloc|apply pw_below_drewN|apply below_drew1|refine below_set ?_ GE281.out)|exact HB.out)));(case aF => exact (fun _ _ => trivial));(case aO => exact (by (with_reducible repeat (first|apply Kd.R_alloc|apply Kd.R_drewN|apply Kd.R_drew));exact HO_7.out));(case aS => exact (below_size (by repeat (first|(with_reducible first|exact HB.out|apply below_alloc|apply pw_below_drewN|apply below_drew1|refine below_set ?_ GE281.out)|exact HB.out))));(case aL => have := LMc12.out;omega);intro v287 w14 ho hb hg hat;rw [← Ny286.out] at ho;have n0_ := Aside0.mk (blk_grown (g := gb281) (o := .cells #[.int .u64 a0_0,.int .i64 a0_1,.int .i64 a0_2,.slice A0_3 l0_3.length c0_3,.int .u64 a0_4,.int .u64 a0_5,.slice A0_6 l0_6.length c0_6] 28 (0,0)) (by (with_reducible repeat (first|refine blk_drewN ?_ _|refine blk_drew ?_|refine blk_alloc ?_ _));exact BK281.out) hg (Kd.R_ne HO_7.out BK281.out (by decide)));have n1_ := Aside0.mk (hb);have n2_ := Aside0.mk (ho);clear BK281;clear HB;clear HO_7;have BK281 := n0_;have HB := n1_;have HO288 := n2_;clear n0_ n1_ n2_;clear ho hb hg hat));try go_wp2_with (first|((with_reducible refine gate_builtin (b := .append) (xs := #[.tmp 32,.tmp 34]) rfl ?_);at_builtin;refine Kd.R_append (Kd.int .u64) (w0 := w) w.heap.size rfl (.tmp 32) (.tmp 34) 26 22 (.int .u64 0) 8 rfl Try.underlying26 info22 rfl (by decide) (by omega) u7 x7_1 0 [.int .u64 0] (fun _ => True) (fun _ => False) rfl rfl ?aP (fun _ hk => hk.elim) ?aF ?aO ?aB ?aS ?aL ?_;(case aP => exact rfl);(case aB => exact (by repeat (first|(with_reducible first|exact HB.out|apply below_alloc|apply pw_below_drewN|apply below_drew1|refine below_set ?_ GE281.out)|exact HB.out)));(case aF => exact (fun _ _ => trivial));(case aO => exact (by (with_reducible repeat (first|apply Kd.R_alloc|apply Kd.R_drewN|apply Kd.R_drew));exact HO_7.out));(case aS => exact (below_size (by repeat (first|(with_reducible first|exact HB.out|apply below_alloc|apply pw_below_drewN|apply below_drew1|refine below_set ?_ GE281.out)|exact HB.out))));(case aL => have := LMc12.out;omega);intro v287 w14 ho hb hg hat;rw [← Ny286.out] at ho;have n0_ := Aside0.mk (blk_grown (g := gb281) (o := .cells #[.int .u64 a0_0,.int .i64 a0_1,.int .i64 a0_2,.slice A0_3 l0_3.length c0_3,.int .u64 a0_4,.int .u64 a0_5,.slice A0_6 l0_6.length c0_6] 28 (0,0)) (by (with_reducible repeat (first|refine blk_drewN ?_ _|refine blk_drew ?_|refine blk_alloc ?_ _));exact BK281.out) hg (Kd.R_ne HO_7.out BK281.out (by decide)));have n1_ := Aside0.mk (hb);have n2_ := Aside0.mk (ho);clear BK281;clear HB;clear HO_7;have BK281 := n0_;have HB := n1_;have HO288 := n2_;clear n0_ n1_ n2_;clear ho hb hg hat)))
      go_roundg k1
      case measure => have := HK1.out;omega
      case rel => exact ⟨(y286),(wrap64 (x8_1 + 1)),(by first|rfl|(simp;done)|(simp [*];done)),H',⟨by have := HK1.out;omega⟩,⟨by (with_reducible repeat (first|apply Kd.R_alloc|apply Kd.R_drewN|apply Kd.R_drew));exact HO288.out⟩,⟨by (with_reducible repeat (first|refine blk_drewN ?_ _|refine blk_drew ?_|refine blk_alloc ?_ _));exact BK281.out⟩,⟨by repeat (first|(with_reducible first|exact HB.out|apply below_alloc|apply pw_below_drewN|apply below_drew1|refine below_set ?_ GE281.out)|exact HB.out)⟩⟩
     ·rw [if_neg c12] at H
      exact absurd H (by simp)
   ·rw [if_neg c5] at H
    have c5b0 : decide (x8_1 < (wrap64 (a1 + a2))) = false := decide_eq_false c5
    clear c5
    obtain rfl := Option.some.inj H
    go_wp2
    repeat (go_quiet (fail);try go_wp2)
    go_ret
    exact ⟨_,by first|rfl|(simp [errW_none,errW_some] <;> rfl)|(simp [*,errW_none,errW_some] <;> rfl),by (with_reducible repeat (first|apply Kd.R_alloc|apply Kd.R_drewN|apply Kd.R_drew));exact HO_7.out,by repeat (first|(with_reducible first|exact HB.out|apply below_alloc|apply pw_below_drewN|apply below_drew1|refine below_set ?_ GE281.out)|exact HB.out)⟩
end Go.Proofs.Ytejeelpnmdfibaa.Pr
end
section
/- Printed by a program of this seat (the kit's printer, with the functions that were proved by hand given to it). What stands here: the functions that the statements reach, as plain functions, and that the Go code computes them. -/
namespace Go.Proofs.Ytejeelpnmdfibaa.Pr
open Go.RowKit Go.Proofs.YtejeelpnmdfibaaW.PrintWords Go.Proofs.YtejeelpnmdfibaaW.PrintLast Go.Proofs.YtejeelpnmdfibaaW.PrintMore
attribute [local go_sem] max2_int min2_int max_two min_two max_three min_three max_four min_four   -- for this text's walks alone
set_option linter.unusedVariables false
set_option linter.unusedSimpArgs false

open Go.Proofs.Ytejeelpnmdfibaa.Hw
/-! ### privitylaw43_one: function 14 -/
def privitylaw43_one.f (k : Nat) (a0_0 : Int) (a0_1 : Int) (a0_2 : Int) (l0_3 : List Int) (a0_4 : Int) (a0_5 : Int) (l0_6 : List Int) : Option (List Int × List Int) := (privitylaw43_cut.f k a0_0 a0_1 a0_2 l0_3 a0_4 a0_5 l0_6 0 (wrap64 (a0_2 + 1))).bind fun t290 => ((privitylaw43_cut.f k a0_0 a0_1 a0_2 l0_3 a0_4 a0_5 l0_6 (wrap64 (a0_2 + 1)) (wrap64 (Int.tdiv (wrap64 (a0_2 * (wrap64 (a0_2 + 1)))) 2))).bind fun t293 => (some (t290, t293)))
def privitylaw43_one.T2 : Bool × List (List Nat × List Nat) := (true, [([], []), ([], []), ([1], [1]), ([0, 2], [0, 2]), ([], []), ([], []), ([5], [5]), ([], []), ([], []), ([8], [8]), ([7, 9], [7, 9]), ([10], [10]), ([4, 6, 11, 3], [4, 6, 11]), ([3, 12, 0, 1, 2, 3], [3]), ([12, 13, 0, 1, 2, 3, 4, 5, 6, 7, 8, 9, 10, 11, 12, 13], [12])])
def privitylaw43_one.B2 : List Nat := [0, 0, 2, 7, 0, 0, 32, 0, 0, 256, 896, 1920, 4095, 8191, 16383]
theorem privitylaw43_one.tab2 : rtab .any (opsOf Try.f14 2) = privitylaw43_one.T2 := by kernel_rfl
theorem privitylaw43_one.bits2 : waitsOk privitylaw43_one.T2.2 privitylaw43_one.B2 = true := by kernel_rfl
set_option maxHeartbeats 8000000 in
set_option maxRecDepth 100000 in
theorem privitylaw43_one.calls (k : Nat) (a0_0 : Int) (a0_1 : Int) (a0_2 : Int) (A0_3 : Option Addr) (c0_3 : Nat) (l0_3 : List Int) (a0_4 : Int) (a0_5 : Int) (A0_6 : Option Addr) (c0_6 : Nat) (l0_6 : List Int) (r1 : List Int) (r2 : List Int) (w : World) (hr0_3 : Kd.C (Kd.int .i64) w A0_3 l0_3.length l0_3) (hc0_3 : l0_3.length ≤ c0_3) (hr0_6 : Kd.C (Kd.int .u64) w A0_6 l0_6.length l0_6) (hc0_6 : l0_6.length ≤ c0_6) (h : privitylaw43_one.f k a0_0 a0_1 a0_2 l0_3 a0_4 a0_5 l0_6 = some (r1, r2)) :
  Calls Try.prog 14 #[.agg #[.int .u64 a0_0,.int .i64 a0_1,.int .i64 a0_2,.slice A0_3 l0_3.length c0_3,.int .u64 a0_4,.int .u64 a0_5,.slice A0_6 l0_6.length c0_6]] w fun e w' => ∃ v0_ v1_ : Value,e = .returned (.tuple #[v0_,v1_]) ∧ Kd.R (Kd.int .u64) 22 w' w.heap.size (fun k_ => some k_ ≠ (v1_ : Value).ownBlock) v0_ r1 ∧ Kd.R (Kd.int .u64) 22 w' w.heap.size (fun k_ => some k_ ≠ (v0_ : Value).ownBlock) v1_ r2 ∧ Below w.heap.size w w' := by
 have hu28 := Try.underlying28
 have HR0_3 := Aside0.mk hr0_3
 have HC0_3 := Aside0.mk hc0_3
 clear hr0_3 hc0_3
 have HR0_6 := Aside0.mk hr0_6
 have HC0_6 := Aside0.mk hc0_6
 clear hr0_6 hc0_6
 have HB := Aside0.mk (Below.refl w.heap.size w)
 have H : ((privitylaw43_cut.f k a0_0 a0_1 a0_2 l0_3 a0_4 a0_5 l0_6 0 (wrap64 (a0_2 + 1))).bind fun t290 => ((privitylaw43_cut.f k a0_0 a0_1 a0_2 l0_3 a0_4 a0_5 l0_6 (wrap64 (a0_2 + 1)) (wrap64 (Int.tdiv (wrap64 (a0_2 * (wrap64 (a0_2 + 1)))) 2))).bind fun t293 => (some (t290,t293)))) = some (r1,r2) := h
 clear h
 replace H := Option.bind_eq_some_iff.mp H
 obtain ⟨t290,A20,H⟩ := H
 replace H : ((privitylaw43_cut.f k a0_0 a0_1 a0_2 l0_3 a0_4 a0_5 l0_6 (wrap64 (a0_2 + 1)) (wrap64 (Int.tdiv (wrap64 (a0_2 * (wrap64 (a0_2 + 1)))) 2))).bind fun t293 => (some (t290,t293))) = some (r1,r2) := H
 have A2 := Aside0.mk A20
 clear A20
 replace H := Option.bind_eq_some_iff.mp H
 obtain ⟨t293,A30,H⟩ := H
 replace H : (some (t290,t293)) = some (r1,r2) := H
 have A3 := Aside0.mk A30
 clear A30
 simp only [Option.some.injEq,Prod.mk.injEq] at H
 obtain ⟨rfl,rfl⟩ := H
 go_enter Try.func14,Try.ntmps14
 try go_wp2_with (first|((with_reducible refine gate_dst (N := 1) rfl ?_);refine box_event ?hg (N := 1) ?hd (cs := #[.int .u64 a0_0,.int .i64 a0_1,.int .i64 a0_2,.slice A0_3 l0_3.length c0_3,.int .u64 a0_4,.int .u64 a0_5,.slice A0_6 l0_6.length c0_6]) (t := 28) ?hr ?_;(case hd => rfl);(case hg => rfl);(case hr => first|(go_simp;done)|(go_simp;rfl));intro gb289 hg w4 hbox hb;have n0_ := Aside0.mk (below_step (by repeat (first|(with_reducible first|exact HB.out|apply below_alloc|apply pw_below_drewN|apply below_drew1)|exact HB.out)) hb);have n1_ := Aside0.mk (hbox);have n2_ := Aside0.mk ((by rw [hg];exact (below_size (by repeat (first|(with_reducible first|exact HB.out|apply below_alloc|apply pw_below_drewN|apply below_drew1)|exact HB.out))) : w.heap.size ≤ gb289));have n3_ := Aside0.mk ((by rw [hg];exact (below_size (by repeat (first|(with_reducible first|exact HB.out|apply below_alloc|apply pw_below_drewN|apply below_drew1)|exact HB.out))) : w.heap.size ≤ gb289));clear HB;have HB := n0_;have BK289 := n1_;have GW289 := n2_;have GE289 := n3_;clear n0_ n1_ n2_ n3_;clear hb hbox hg;have hcz5_0 : w4.cell? ⟨gb289,0,none⟩ = some (.int .u64 a0_0) := (blk_cell BK289.out 0).trans rfl;have hcz5_1 : w4.cell? ⟨gb289,1,none⟩ = some (.int .i64 a0_1) := (blk_cell BK289.out 1).trans rfl;have hcz5_2 : w4.cell? ⟨gb289,2,none⟩ = some (.int .i64 a0_2) := (blk_cell BK289.out 2).trans rfl;have hcz5_3 : w4.cell? ⟨gb289,3,none⟩ = some (.slice A0_3 l0_3.length c0_3) := (blk_cell BK289.out 3).trans rfl;have hcz5_4 : w4.cell? ⟨gb289,4,none⟩ = some (.int .u64 a0_4) := (blk_cell BK289.out 4).trans rfl;have hcz5_5 : w4.cell? ⟨gb289,5,none⟩ = some (.int .u64 a0_5) := (blk_cell BK289.out 5).trans rfl;have hcz5_6 : w4.cell? ⟨gb289,6,none⟩ = some (.slice A0_6 l0_6.length c0_6) := (blk_cell BK289.out 6).trans rfl;have hfz5_0 := blk_frozen BK289.out 0;have hfz5_1 := blk_frozen BK289.out 1;have hfz5_2 := blk_frozen BK289.out 2;have hfz5_3 := blk_frozen BK289.out 3;have hfz5_4 := blk_frozen BK289.out 4;have hfz5_5 := blk_frozen BK289.out 5;have hfz5_6 := blk_frozen BK289.out 6))
 have n0_ := Aside0.mk (blk_drew BK289.out)
 have n1_ := Aside0.mk (below_drew1 HB.out)
 clear BK289
 clear HB
 have BK289 := n0_
 have HB := n1_
 clear n0_ n1_
 refine start_ (n := 15) (S := fun w' => w'.cell? ⟨gb289,0,none⟩ = some (.int .u64 a0_0) ∧ w'.cell? ⟨gb289,1,none⟩ = some (.int .i64 a0_1) ∧ w'.cell? ⟨gb289,2,none⟩ = some (.int .i64 a0_2) ∧ w'.cell? ⟨gb289,3,none⟩ = some (.slice A0_3 l0_3.length c0_3) ∧ w'.cell? ⟨gb289,4,none⟩ = some (.int .u64 a0_4) ∧ w'.cell? ⟨gb289,5,none⟩ = some (.int .u64 a0_5) ∧ w'.cell? ⟨gb289,6,none⟩ = some (.slice A0_6 l0_6.length c0_6)) (ds := []) #[false,false,false,false,false,false,false,false,false,false,false,false,false,false,false] (by kernel_rfl) rfl rfl ⟨(blk_cell BK289.out 0).trans rfl,(blk_cell BK289.out 1).trans rfl,(blk_cell BK289.out 2).trans rfl,(blk_cell BK289.out 3).trans rfl,(blk_cell BK289.out 4).trans rfl,(blk_cell BK289.out 5).trans rfl,(blk_cell BK289.out 6).trans rfl⟩ (fun hHeld => ?_);refine with_tabW privitylaw43_one.tab2 privitylaw43_one.bits2 (fun HT_ HW_ => ?_)
 generalize w4.drew = w6 at BK289 HB hHeld ⊢
 refine pure_ (i := 1) (N := some 9) (v := ?_) (a' := ?_) #[false,true,false,false,false,false,false,false,false,false,false,false,false,false,false] rfl rfl (any_of HT_.out (by kernel_rfl)) (fun _ _ _ h => h) (Or.inl ⟨by rfl,?_⟩) ?_ ?_
 rotate_left
 ·intro w'
  go_simp
  with_reducible rfl
 rotate_left
 ·simp only [Act.put,List.setIfInBounds_toArray,List.set_cons_zero,List.set_cons_succ,i64_w,i32_w]
  rfl
 refine pure_ (i := 2) (N := some 10) (v := ?_) (a' := ?_) #[false,true,true,false,false,false,false,false,false,false,false,false,false,false,false] rfl rfl (any_of HT_.out (by kernel_rfl)) (fun _ _ _ h => h) (Or.inl ⟨by rfl,?_⟩) ?_ ?_
 rotate_left
 ·intro w'
  go_simp
  with_reducible rfl
 rotate_left
 ·simp only [Act.put,List.setIfInBounds_toArray,List.set_cons_zero,List.set_cons_succ,i64_w,i32_w]
  rfl
 refine pure_ (i := 5) (N := some 13) (v := ?_) (a' := ?_) #[false,true,true,false,false,true,false,false,false,false,false,false,false,false,false] rfl rfl (any_of HT_.out (by kernel_rfl)) (fun _ _ _ h => h) (Or.inl ⟨by rfl,?_⟩) ?_ ?_
 rotate_left
 ·intro w'
  go_simp
  with_reducible rfl
 rotate_left
 ·simp only [Act.put,List.setIfInBounds_toArray,List.set_cons_zero,List.set_cons_succ,i64_w,i32_w]
  rfl
 refine pure_ (i := 6) (N := some 14) (v := ?_) (a' := ?_) #[false,true,true,false,false,true,true,false,false,false,false,false,false,false,false] rfl rfl (any_of HT_.out (by kernel_rfl)) (fun _ _ _ h => h) (Or.inl ⟨by rfl,?_⟩) ?_ ?_
 rotate_left
 ·intro w'
  go_simp
  with_reducible rfl
 rotate_left
 ·simp only [Act.put,List.setIfInBounds_toArray,List.set_cons_zero,List.set_cons_succ,i64_w,i32_w]
  rfl
 refine pure_ (i := 7) (N := some 15) (v := ?_) (a' := ?_) #[false,true,true,false,false,true,true,true,false,false,false,false,false,false,false] rfl rfl (any_of HT_.out (by kernel_rfl)) (fun _ _ _ h => h) (Or.inl ⟨by rfl,?_⟩) ?_ ?_
 rotate_left
 ·intro w'
  go_simp
  with_reducible rfl
 rotate_left
 ·simp only [Act.put,List.setIfInBounds_toArray,List.set_cons_zero,List.set_cons_succ,i64_w,i32_w]
  rfl
 refine pure_ (i := 8) (N := some 16) (v := ?_) (a' := ?_) #[false,true,true,false,false,true,true,true,true,false,false,false,false,false,false] rfl rfl (any_of HT_.out (by kernel_rfl)) (fun _ _ _ h => h) (Or.inl ⟨by rfl,?_⟩) ?_ ?_
 rotate_left
 ·intro w'
  go_simp
  with_reducible rfl
 rotate_left
 ·simp only [Act.put,List.setIfInBounds_toArray,List.set_cons_zero,List.set_cons_succ,i64_w,i32_w]
  rfl
 refine pure_ (i := 9) (N := some 17) (v := ?_) (a' := ?_) #[false,true,true,false,false,true,true,true,true,true,false,false,false,false,false] rfl rfl (any_of HT_.out (by kernel_rfl)) (fun _ _ _ h => h) (Or.inl ⟨by rfl,?_⟩) ?_ ?_
 rotate_left
 ·intro w'
  go_simp
  with_reducible rfl
 rotate_left
 ·simp only [Act.put,List.setIfInBounds_toArray,List.set_cons_zero,List.set_cons_succ,i64_w,i32_w]
  rfl
 refine pure_ (i := 10) (N := some 18) (v := ?_) (a' := ?_) #[false,true,true,false,false,true,true,true,true,true,true,false,false,false,false] rfl rfl (any_of HT_.out (by kernel_rfl)) (fun _ _ _ h => h) (Or.inl ⟨by rfl,?_⟩) ?_ ?_
 rotate_left
 ·intro w'
  go_simp
  with_reducible rfl
 rotate_left
 ·simp only [Act.put,List.setIfInBounds_toArray,List.set_cons_zero,List.set_cons_succ,i64_w,i32_w]
  rfl
 refine pure_ (i := 11) (N := some 19) (v := ?_) (a' := ?_) #[false,true,true,false,false,true,true,true,true,true,true,true,false,false,false] rfl rfl (any_of HT_.out (by kernel_rfl)) (fun _ _ _ h => h) (Or.inl ⟨by rfl,?_⟩) ?_ ?_
 rotate_left
 ·intro w'
  go_simp
  with_reducible rfl
 rotate_left
 ·simp only [Act.put,List.setIfInBounds_toArray,List.set_cons_zero,List.set_cons_succ,i64_w,i32_w]
  rfl
 refine take_ (i := 0) (N := some 8) (v := ?_) (a' := ?_) #[true,true,true,false,false,true,true,true,true,true,true,true,false,false,false] rfl rfl (take_ofW HT_.out HW_.out (by kernel_rfl)) (fun _ _ _ h => h) (Or.inl ⟨by rfl,?_⟩) hHeld ?_ ?_
 rotate_left
 ·rintro w' ⟨s0,s1,s2,s3,s4,s5,s6⟩
  go_simp
  with_reducible rfl
 rotate_left
 ·simp only [Act.put,List.setIfInBounds_toArray,List.set_cons_zero,List.set_cons_succ,i64_w,i32_w]
  rfl
 refine take_ (i := 4) (N := some 12) (v := ?_) (a' := ?_) #[true,true,true,false,true,true,true,true,true,true,true,true,false,false,false] rfl rfl (take_ofW HT_.out HW_.out (by kernel_rfl)) (fun _ _ _ h => h) (Or.inl ⟨by rfl,?_⟩) hHeld ?_ ?_
 rotate_left
 ·rintro w' ⟨s0,s1,s2,s3,s4,s5,s6⟩
  go_simp
  with_reducible rfl
 rotate_left
 ·simp only [Act.put,List.setIfInBounds_toArray,List.set_cons_zero,List.set_cons_succ,i64_w,i32_w]
  rfl
 refine one_ (i := 3) (N := some 11) #[true,true,true,true,true,true,true,true,true,true,true,true,false,false,false] rfl rfl (one_of HT_.out (by kernel_rfl)) (by decide) (fun K hK => ?_)
 refine goes_ Try.func42 (by kernel_rfl) rfl #[.agg #[.int .u64 a0_0,.int .i64 a0_1,.int .i64 a0_2,.slice A0_3 l0_3.length c0_3,.int .u64 a0_4,.int .u64 a0_5,.slice A0_6 l0_6.length c0_6],.int .i64 0,.int .i64 (wrap64 (a0_2 + 1))] (by rfl) rfl rfl (by (try simp only [List.map_toArray,List.map_cons,List.map_nil]);first|done|rfl|(simp only [List.length_drop,List.length_take];rfl)) ?_
 with_reducible refine (privitylaw43_cut.calls k a0_0 a0_1 a0_2 _ _ l0_3 a0_4 a0_5 _ _ l0_6 0 (wrap64 (a0_2 + 1)) t290 _ ?side1 ?side2 ?side3 ?side4 A2.out).mono ?_
 (case side1 => repeat (first|exact (Kd.C_below HR0_3.out HB.out)|(with_reducible refine Kd.C_alloc ?_ _)|(with_reducible refine Kd.C_drewN ?_ _)|(with_reducible refine Kd.C_drew ?_)))
 (case side2 => exact HC0_3.out)
 (case side3 => repeat (first|exact (Kd.C_below HR0_6.out HB.out)|(with_reducible refine Kd.C_alloc ?_ _)|(with_reducible refine Kd.C_drewN ?_ _)|(with_reducible refine Kd.C_drew ?_)))
 (case side4 => exact HC0_6.out)
 rintro e w7 ⟨v291,rfl,ho0,hb⟩
 refine ⟨_,rfl,?_⟩
 have n0_ := Aside0.mk (Kd.R_lower ho0 (below_size (by repeat (first|(with_reducible first|exact HB.out|apply below_alloc|apply pw_below_drewN|apply below_drew1|refine below_set ?_ GE289.out)|exact HB.out))))
 have n1_ := Aside0.mk (blk_below (g := gb289) (o := .cells #[.int .u64 a0_0,.int .i64 a0_1,.int .i64 a0_2,.slice A0_3 l0_3.length c0_3,.int .u64 a0_4,.int .u64 a0_5,.slice A0_6 l0_6.length c0_6] 28 (0,0)) (by (with_reducible repeat (first|refine blk_drewN ?_ _|refine blk_drew ?_|refine blk_alloc ?_ _));exact BK289.out) hb)
 have n2_ := Aside0.mk (below_step (by repeat (first|(with_reducible first|exact HB.out|apply below_alloc|apply pw_below_drewN|apply below_drew1|refine below_set ?_ GE289.out)|exact HB.out)) hb)
 clear BK289
 clear HB
 have HO292 := n0_
 have BK289 := n1_
 have HB := n2_
 clear n0_ n1_ n2_
 (try clear hb)
 (try clear hb2)
 (try clear hk)
 (try clear hi)
 (try clear ho0)
 refine hK.out _ _ ⟨(blk_cell BK289.out 0).trans rfl,(blk_cell BK289.out 1).trans rfl,(blk_cell BK289.out 2).trans rfl,(blk_cell BK289.out 3).trans rfl,(blk_cell BK289.out 4).trans rfl,(blk_cell BK289.out 5).trans rfl,(blk_cell BK289.out 6).trans rfl⟩ (fun hHeld => ?_)
 clear hK K
 refine norm_ (a' := ?_) ?_ ?_
 rotate_left
 ·show Act.put _ (some 11) _ = _
  simp only [Act.put,List.setIfInBounds_toArray,List.set_cons_zero,List.set_cons_succ,i64_w,i32_w]
  rfl
 refine one_ (i := 12) (N := some 20) #[true,true,true,true,true,true,true,true,true,true,true,true,true,false,false] rfl rfl (one_of HT_.out (by kernel_rfl)) (by decide) (fun K hK => ?_)
 refine goes_ Try.func42 (by kernel_rfl) rfl #[.agg #[.int .u64 a0_0,.int .i64 a0_1,.int .i64 a0_2,.slice A0_3 l0_3.length c0_3,.int .u64 a0_4,.int .u64 a0_5,.slice A0_6 l0_6.length c0_6],.int .i64 (wrap64 (a0_2 + 1)),.int .i64 (wrap64 (Int.tdiv (wrap64 (a0_2 * (wrap64 (a0_2 + 1)))) 2))] (by rfl) rfl rfl (by (try simp only [List.map_toArray,List.map_cons,List.map_nil]);first|done|rfl|(simp only [List.length_drop,List.length_take];rfl)) ?_
 with_reducible refine (privitylaw43_cut.calls k a0_0 a0_1 a0_2 _ _ l0_3 a0_4 a0_5 _ _ l0_6 (wrap64 (a0_2 + 1)) (wrap64 (Int.tdiv (wrap64 (a0_2 * (wrap64 (a0_2 + 1)))) 2)) t293 _ ?side1 ?side2 ?side3 ?side4 A3.out).mono ?_
 (case side1 => repeat (first|exact (Kd.C_below HR0_3.out HB.out)|(with_reducible refine Kd.C_alloc ?_ _)|(with_reducible refine Kd.C_drewN ?_ _)|(with_reducible refine Kd.C_drew ?_)))
 (case side2 => exact HC0_3.out)
 (case side3 => repeat (first|exact (Kd.C_below HR0_6.out HB.out)|(with_reducible refine Kd.C_alloc ?_ _)|(with_reducible refine Kd.C_drewN ?_ _)|(with_reducible refine Kd.C_drew ?_)))
 (case side4 => exact HC0_6.out)
 rintro e w8 ⟨v294,rfl,ho0,hb⟩
 refine ⟨_,rfl,?_⟩
 have n0_ := Aside0.mk (Kd.R_elder' (by (with_reducible repeat (first|apply Kd.R_alloc|apply Kd.R_drewN|apply Kd.R_drew));exact HO292.out) (Kd.R_base ho0) hb)
 have n1_ := Aside0.mk (Kd.R_lower (Kd.R_new' ho0 (Kd.R_lt (by (with_reducible repeat (first|apply Kd.R_alloc|apply Kd.R_drewN|apply Kd.R_drew));exact HO292.out))) (below_size (by repeat (first|(with_reducible first|exact HB.out|apply below_alloc|apply pw_below_drewN|apply below_drew1|refine below_set ?_ GE289.out)|exact HB.out))))
 have n2_ := Aside0.mk (blk_below (g := gb289) (o := .cells #[.int .u64 a0_0,.int .i64 a0_1,.int .i64 a0_2,.slice A0_3 l0_3.length c0_3,.int .u64 a0_4,.int .u64 a0_5,.slice A0_6 l0_6.length c0_6] 28 (0,0)) (by (with_reducible repeat (first|refine blk_drewN ?_ _|refine blk_drew ?_|refine blk_alloc ?_ _));exact BK289.out) hb)
 have n3_ := Aside0.mk (below_step (by repeat (first|(with_reducible first|exact HB.out|apply below_alloc|apply pw_below_drewN|apply below_drew1|refine below_set ?_ GE289.out)|exact HB.out)) hb)
 clear HO292
 clear BK289
 clear HB
 have HO292 := n0_
 have HO295 := n1_
 have BK289 := n2_
 have HB := n3_
 clear n0_ n1_ n2_ n3_
 (try clear hb)
 (try clear hb2)
 (try clear hk)
 (try clear hi)
 (try clear ho0)
 refine hK.out _ _ ⟨(blk_cell BK289.out 0).trans rfl,(blk_cell BK289.out 1).trans rfl,(blk_cell BK289.out 2).trans rfl,(blk_cell BK289.out 3).trans rfl,(blk_cell BK289.out 4).trans rfl,(blk_cell BK289.out 5).trans rfl,(blk_cell BK289.out 6).trans rfl⟩ (fun hHeld => ?_)
 clear hK K
 refine norm_ (a' := ?_) ?_ ?_
 rotate_left
 ·show Act.put _ (some 20) _ = _
  simp only [Act.put,List.setIfInBounds_toArray,List.set_cons_zero,List.set_cons_succ,i64_w,i32_w]
  rfl
 refine pure_ (i := 13) (N := some 2) (v := ?_) (a' := ?_) #[true,true,true,true,true,true,true,true,true,true,true,true,true,true,false] rfl rfl (any_of HT_.out (by kernel_rfl)) (fun _ _ _ h => h) (Or.inl ⟨by rfl,?_⟩) ?_ ?_
 rotate_left
 ·intro w'
  go_simp
  with_reducible rfl
 rotate_left
 ·simp only [Act.put,List.setIfInBounds_toArray,List.set_cons_zero,List.set_cons_succ,i64_w,i32_w]
  rfl
 refine pure_ (i := 14) (N := some 3) (v := ?_) (a' := ?_) #[true,true,true,true,true,true,true,true,true,true,true,true,true,true,true] rfl rfl (any_of HT_.out (by kernel_rfl)) (fun _ _ _ h => h) (Or.inl ⟨by rfl,?_⟩) ?_ ?_
 rotate_left
 ·intro w'
  go_simp
  with_reducible rfl
 rotate_left
 ·simp only [Act.put,List.setIfInBounds_toArray,List.set_cons_zero,List.set_cons_succ,i64_w,i32_w]
  rfl
 refine done_ (done_of HT_.out (by kernel_rfl)) ?_
 try go_wp2
 go_ret2
 exact ⟨_,_,by first|rfl|(simp [errW_none,errW_some] <;> rfl)|(simp [*,errW_none,errW_some] <;> rfl),by (with_reducible repeat (first|apply Kd.R_alloc|apply Kd.R_drewN|apply Kd.R_drew));exact Kd.R_mono HO292.out (fun _ hk => hk.2),by (with_reducible repeat (first|apply Kd.R_alloc|apply Kd.R_drewN|apply Kd.R_drew));exact Kd.R_mono HO295.out (fun _ hk => hk.2),by repeat (first|(with_reducible first|exact HB.out|apply below_alloc|apply pw_below_drewN|apply below_drew1|refine below_set ?_ GE289.out)|exact HB.out)⟩
end Go.Proofs.Ytejeelpnmdfibaa.Pr
end
section
/-
  New of the reference of layer 10, proved by hand: it makes the same matrix.
-/
namespace Go.Proofs.Ytejeelpnmdfibaa.Hw
open Go.RowKit Go.Proofs.Ytejeelpnmdfibaa.Pr Go.Proofs.YtejeelpnmdfibaaW.PrintWords Go.Proofs.YtejeelpnmdfibaaW.PrintLast Go.Proofs.YtejeelpnmdfibaaW.PrintMore Go.Proofs.Ytejeelpnmdfibaa.E
set_option linter.unusedVariables false
set_option linter.unusedSimpArgs false

/-- What is set when the loops stand at row i, column j, the first row being set up to c. -/
def rS (n : Nat) (first rest : List Int) (c i j a b : Nat) : Int := if (min a b = 0 ∧ max a b < c) ∨ (0 < min a b ∧ (min a b < i ∨ (min a b = i ∧ max a b < j))) then newG n first rest a b else 0
theorem rS_first {n : Nat} {first rest : List Int} (i : Nat) : ∀ a, a < n → ∀ b, b < n → upd (upd (rS n first rest i i i) 0 i (first.getD i 0)) i 0 (first.getD i 0) a b = rS n first rest (i + 1) i i a b := by
  intro a ha b hb
  unfold upd rS newG
  by_cases h1 : a = i ∧ b = 0
  · obtain ⟨rfl, rfl⟩ := h1
    rw [if_pos ⟨rfl, rfl⟩, if_pos (by omega), if_pos (by omega), show max a 0 = a from by omega]
  · rw [if_neg h1]
    by_cases h2 : a = 0 ∧ b = i
    · obtain ⟨rfl, rfl⟩ := h2
      rw [if_pos ⟨rfl, rfl⟩, if_pos (by omega), if_pos (by omega), show max 0 b = b from by omega]
    · rw [if_neg h2]
      by_cases h3 : (min a b = 0 ∧ max a b < i) ∨ (0 < min a b ∧ (min a b < i ∨ (min a b = i ∧ max a b < i)))
      · rw [if_pos h3, if_pos (show (min a b = 0 ∧ max a b < i + 1) ∨ (0 < min a b ∧ (min a b < i ∨ (min a b = i ∧ max a b < i))) from by omega)]
      · rw [if_neg h3, if_neg (show ¬ ((min a b = 0 ∧ max a b < i + 1) ∨ (0 < min a b ∧ (min a b < i ∨ (min a b = i ∧ max a b < i)))) from by omega)]
theorem rS_next {n : Nat} {first rest : List Int} {i : Nat} (h1 : 1 ≤ i) {j : Nat} (hij : i ≤ j) (c : Nat) : ∀ a, a < n → ∀ b, b < n →
    upd (upd (rS n first rest c i j) i j (rest.getD (offs n i + (j - i)) 0)) j i (rest.getD (offs n i + (j - i)) 0) a b = rS n first rest c i (j + 1) a b := by
  intro a ha b hb
  unfold upd rS newG
  by_cases h1 : a = j ∧ b = i
  · obtain ⟨rfl, rfl⟩ := h1
    rw [if_pos ⟨rfl, rfl⟩, if_pos (by omega), if_neg (by omega), show min a b = b from by omega, show max a b = a from by omega]
  · rw [if_neg h1]
    by_cases h2 : a = i ∧ b = j
    · obtain ⟨rfl, rfl⟩ := h2
      rw [if_pos ⟨rfl, rfl⟩, if_pos (by omega), if_neg (by omega), show min a b = a from by omega, show max a b = b from by omega]
    · rw [if_neg h2]
      by_cases h3 : (min a b = 0 ∧ max a b < c) ∨ (0 < min a b ∧ (min a b < i ∨ (min a b = i ∧ max a b < j)))
      · rw [if_pos h3, if_pos (show (min a b = 0 ∧ max a b < c) ∨ (0 < min a b ∧ (min a b < i ∨ (min a b = i ∧ max a b < j + 1))) from by omega)]
      · rw [if_neg h3, if_neg (show ¬ ((min a b = 0 ∧ max a b < c) ∨ (0 < min a b ∧ (min a b < i ∨ (min a b = i ∧ max a b < j + 1)))) from by omega)]
theorem rS_row {n : Nat} {first rest : List Int} (c i j : Nat) (h : i = 0 ∨ j = n) : ∀ a, a < n → ∀ b, b < n → rS n first rest c i j a b = rS n first rest c (i + 1) (i + 1) a b := by
  intro a ha b hb
  unfold rS
  by_cases h3 : (min a b = 0 ∧ max a b < c) ∨ (0 < min a b ∧ (min a b < i ∨ (min a b = i ∧ max a b < j)))
  · rw [if_pos h3, if_pos (show (min a b = 0 ∧ max a b < c) ∨ (0 < min a b ∧ (min a b < i + 1 ∨ (min a b = i + 1 ∧ max a b < i + 1))) from by omega)]
  · rw [if_neg h3, if_neg (show ¬ ((min a b = 0 ∧ max a b < c) ∨ (0 < min a b ∧ (min a b < i + 1 ∨ (min a b = i + 1 ∧ max a b < i + 1)))) from by omega)]
theorem rS_all {n : Nat} {first rest : List Int} (j : Nat) : ∀ a, a < n → ∀ b, b < n → rS n first rest n n j a b = newG n first rest a b := by
  intro a ha b hb
  unfold rS
  rw [if_pos (by omega)]
set_option maxHeartbeats 2000000 in
set_option maxRecDepth 100000 in
theorem rnew_walk (A0 : Option Addr) (c0 : Nat) (first : List Int) (A1 : Option Addr) (c1 : Nat) (rest : List Int) (w : World) (hr0 : Kd.C (Kd.int .u64) w A0 first.length first) (hc0 : first.length ≤ c0) (hr1 : Kd.C (Kd.int .u64) w A1 rest.length rest) (hc1 : rest.length ≤ c1)
    (hn : 0 < first.length) (hn2 : first.length ≤ 1000) (hl : rest.length = offs first.length first.length) :
    Calls Try.prog 16 #[.slice A0 first.length c0, .slice A1 rest.length c1] w fun e w' => ∃ v0_ : Value, e = .returned (.tuple #[v0_, .int .i64 0]) ∧ Kd.S (Kd.slice 22 (Kd.int .u64)) 26 w' w.heap.size (fun _ => True) v0_ (matL first.length (newG first.length first rest)) ∧ Below w.heap.size w w' := by
  have HR0 := Aside0.mk hr0
  have HR1 := Aside0.mk hr1
  have hol := offs_last (n := first.length) hn
  obtain ⟨t, en⟩ : ∃ t, t + 1 = first.length := ⟨first.length - 1, by omega⟩
  rw [← en] at hol hl hn hn2 ⊢
  have HEN := Aside0.mk en
  have HL := Aside0.mk hl
  have hq : ((rest.length : Int) != wrap64 ((wrap64 ((t : Int) * ((t : Int) + 1))).tdiv 2)) = false := by
    have h1 : (t : Int) * ((t : Int) + 1) = 2 * (rest.length : Int) := by rw [hl, hol]; push_cast; grind
    have h2 : (t : Int) * ((t : Int) + 1) ≤ 1000 * 1000 := Int.mul_le_mul (by omega) (by omega) (by omega) (by omega)
    have h3 : wrap64 ((t : Int) * ((t : Int) + 1)) = 2 * (rest.length : Int) := by rw [h1, w64' (by omega) (by omega)]
    rw [h3, Int.mul_tdiv_cancel_left _ (by omega), w64' (by omega) (by omega)]
    simp
  have hmk := mk_run (t := 34) (e := 26) (z := .slice none 0 0) Try.underlying34 infoSl rfl (t + 1) (by omega) (by decide) w
  rw [outC_zero w.heap.size, show ((t + 1 : Nat) : Int) = (t : Int) + 1 from rfl] at hmk
  have q0 : decide ((t : Int) < 0) = false := decide_eq_false (by omega)
  clear hr0 hr1 hl hol en
  go_enter Try.func16, Try.ntmps16
  go_wp2
  obtain ⟨bo, hbo⟩ : ∃ y, y = w.heap.size := ⟨_, rfl⟩
  rw [← hbo]
  have HBO := Aside0.mk hbo
  clear hmk hq q0 hbo
  go_loopg [8] (t + 1) (fun kq v8 w' => ∃ i : Nat, v8 = .int .i64 (i : Int) ∧ Aside0 (kq + i = t + 1) ∧ Aside0 (Mx w' bo (t + 1) i fun _ _ => 0) ∧ Aside0 (w'.heap.size = bo + 1 + i) ∧ Aside0 (Below w.heap.size w w'))
  case atStart => exact ⟨0, rfl, ⟨rfl⟩, ⟨by rw [HBO.out]; exact Mx.start w (t + 1)⟩, ⟨by rw [HBO.out]; exact Array.size_push _⟩, ⟨below_alloc (Below.refl _ _) _⟩⟩
  case round =>
    obtain ⟨i, rfl, HK, HM, HS, HB⟩ := hrel
    by_cases hlt : i < t + 1
    · have q1 : decide ((i : Int) ≤ (t : Int)) = true := decide_eq_true (by omega)
      have q2 : decide (i ≤ t) = true := decide_eq_true (by omega)
      have p1 : ((0 : Int) ≤ (i : Int)) = True := eq_true (by omega)
      have p2 : ((i : Int) < (t : Int) + 1) = True := eq_true (by omega)
      have p3 : (i < t + 1) = True := eq_true hlt
      have hmk := mk_run (t := 26) (e := 22) (z := .int .u64 0) Try.underlying26 info22 rfl (t + 1) (by omega) (by decide) wr
      rw [rowC_zero, HS.out, show ((t + 1 : Nat) : Int) = (t : Int) + 1 from rfl] at hmk
      have h1 := blk_alloc HM.out.out (Obj.cells (rowC (t + 1) fun _ => 0).toArray 22)
      have c1 := blk_cell h1 i
      have f1 := blk_frozen h1 i
      rw [List.getElem?_toArray, outC_get hlt, if_neg (Nat.lt_irrefl i)] at c1
      clear h1
      go_wp2
      go_roundg (t + 1 - (i + 1))
      case measure => have := HK.out; omega
      case rel => exact ⟨i + 1, (by first | go_num | rw [show wrap64 ((i : Int) + 1) = ((i + 1 : Nat) : Int) from by rw [w64' (by omega) (by omega)]; omega]), ⟨by omega⟩, ⟨HM.out.more hlt HS.out fun _ => rfl⟩, ⟨by rw [size_setCell', alloc_size', HS.out]; omega⟩, ⟨below_alloc_set HB.out _ (by rw [← HBO.out]; exact Nat.le_refl _) _ _⟩⟩
    · have q1 : decide ((i : Int) ≤ (t : Int)) = false := decide_eq_false (by omega)
      have q2 : decide (i ≤ t) = false := decide_eq_false (by omega)
      have hin : i = t + 1 := by have := HK.out; omega
      have hM := HM.out
      rw [hin] at hM
      have HM0 := Aside0.mk (show Mx wr bo (t + 1) (t + 1) (rS (t + 1) first rest 0 0 0) from hM.congr fun a ha b hb => by unfold rS; rw [if_neg (by omega)])
      clear HM HS hM
      go_wp2
      go_loopg [9, 10] (t + 1) (fun kq v9 v10 w' => ∃ i : Nat, v10 = .int .i64 (i : Int) ∧ v9 = .int .i64 (offs (t + 1) i : Int) ∧ Aside0 (kq + i = t + 1) ∧ Aside0 (Mx w' bo (t + 1) (t + 1) (rS (t + 1) first rest i i i)) ∧ Aside0 (Below w.heap.size w w'))
      case atStart => exact ⟨0, rfl, rfl, ⟨rfl⟩, HM0, HB⟩
      case round =>
        clear HM0 HB HK hin q1 q2 hlt
        obtain ⟨i, rfl, rfl, HK, HM, HB⟩ := hrel
        by_cases hlt : i < t + 1
        · have q1 : decide ((i : Int) ≤ (t : Int)) = true := decide_eq_true (by omega)
          have q2 : decide (i ≤ t) = true := decide_eq_true (by omega)
          have p1 : ((0 : Int) ≤ (i : Int)) = True := eq_true (by omega)
          have p2 : ((i : Int) < (t : Int) + 1) = True := eq_true (by omega)
          have p3 : ((0 : Int) < (t : Int) + 1) = True := eq_true (by omega)
          have p4 : (i < t + 1) = True := eq_true hlt
          have p5 : (0 < t + 1) = True := eq_true (by omega)
          obtain ⟨ad0, e0, hx0⟩ := Kd.at_int (Kd.C_below HR0.out HB.out) (i : Int) (by omega) (by have := HEN.out; omega)
          cases e0
          rw [Int.toNat_natCast] at hx0
          have hfj : rd first (i : Int) = first.getD i 0 := rd_nat first i
          rw [hfj] at hx0
          obtain ⟨x, hx⟩ : ∃ x, x = first.getD i 0 := ⟨_, rfl⟩
          rw [← hx] at hx0
          have HX := Aside0.mk hx
          have c1 : wr.cell? ⟨bo, 0, none⟩ = some (.slice (some ⟨bo + 1, 0, none⟩) (t + 1) (t + 1)) := HM.out.cellO (i := 0) (by omega) (by omega)
          have c2 : wr.cell? ⟨bo, i, none⟩ = some (.slice (some ⟨bo + 1 + i, 0, none⟩) (t + 1) (t + 1)) := HM.out.cellO hlt hlt
          have d1 : wr.cell? ⟨bo + 1, i, none⟩ = some _ := HM.out.cellR (i := 0) (by omega) hlt
          have g1 : wr.frozen? ⟨bo + 1, i, none⟩ = false := HM.out.frozR (i := 0) (by omega) i
          have hm2 := HM.out.put (i := 0) (j := i) (by omega) hlt x
          have d2 : (wr.setCell ⟨bo + 1, i, none⟩ (.int .u64 x)).cell? ⟨bo + 1 + i, 0, none⟩ = some _ := hm2.cellR hlt (by omega)
          have g2 : wr.frozen? ⟨bo + 1 + i, 0, none⟩ = false := HM.out.frozR hlt 0
          have HM2 := Aside0.mk (show Mx _ bo (t + 1) (t + 1) (rS (t + 1) first rest (i + 1) i i) from Mx.drew ((hm2.put (i := i) (j := 0) hlt (by omega) x).congr fun a ha b hb => by rw [HX.out]; exact rS_first i a ha b hb))
          have hbo : w.heap.size ≤ bo := by rw [← HBO.out]; exact Nat.le_refl _
          have HB2 := Aside0.mk (show Below w.heap.size w _ from below_drew (Below.setCell (Below.setCell HB.out (p := ⟨bo + 1, i, none⟩) (by show w.heap.size ≤ bo + 1; omega) (.int .u64 x)) (p := ⟨bo + 1 + i, 0, none⟩) (by show w.heap.size ≤ bo + 1 + i; omega) (.int .u64 x)))
          clear hx hfj hm2 hbo
          go_wp2
          refine start_ (n := 20) (S := (fun w' => w'.cell? ⟨bo, 0, none⟩ = some (.slice (some ⟨bo + 1, 0, none⟩) (t + 1) (t + 1)) ∧ w'.cell? ⟨bo, i, none⟩ = some (.slice (some ⟨bo + 1 + i, 0, none⟩) (t + 1) (t + 1)) ∧ w'.cell? (ad0.add i) = some (.int .u64 x))) (ds := [17,19]) #[false, false, false, false, false, false, false, false, false, false, false, false, false, false, false, false, false, false, false, false] (by kernel_rfl) rfl rfl ⟨c1, c2, hx0⟩ (fun hHeld => ?_)
          refine pure_ (i := 0) (N := some 46) (v := ?_) (a' := ?_) #[true, false, false, false, false, false, false, false, false, false, false, false, false, false, false, false, false, false, false, false] rfl rfl (by kernel_rfl) (fun _ _ _ h => h) (Or.inl ⟨by rfl, ?_⟩) ?_ ?_
          rotate_left
          · intro w'
            go_simp
            with_reducible rfl
          rotate_left
          · simp only [Act.put, List.setIfInBounds_toArray, List.set_cons_zero, List.set_cons_succ, i64_w, i32_w]
            rfl
          refine pure_ (i := 1) (N := some 47) (v := ?_) (a' := ?_) #[true, true, false, false, false, false, false, false, false, false, false, false, false, false, false, false, false, false, false, false] rfl rfl (by kernel_rfl) (fun _ _ _ h => h) (Or.inl ⟨by rfl, ?_⟩) ?_ ?_
          rotate_left
          · intro w'
            go_simp
            with_reducible rfl
          rotate_left
          · simp only [Act.put, List.setIfInBounds_toArray, List.set_cons_zero, List.set_cons_succ, i64_w, i32_w]
            rfl
          refine take_ (i := 2) (N := some 48) (v := ?_) (a' := ?_) #[true, true, true, false, false, false, false, false, false, false, false, false, false, false, false, false, false, false, false, false] rfl rfl (by kernel_rfl) (fun _ _ _ h => h) (Or.inl ⟨by rfl, ?_⟩) hHeld ?_ ?_
          rotate_left
          · rintro w' ⟨s0, s1, s2⟩
            go_simp
            with_reducible rfl
          rotate_left
          · simp only [Act.put, List.setIfInBounds_toArray, List.set_cons_zero, List.set_cons_succ, i64_w, i32_w]
            rfl
          refine pure_ (i := 3) (N := some 49) (v := ?_) (a' := ?_) #[true, true, true, true, false, false, false, false, false, false, false, false, false, false, false, false, false, false, false, false] rfl rfl (by kernel_rfl) (fun _ _ _ h => h) (Or.inl ⟨by rfl, ?_⟩) ?_ ?_
          rotate_left
          · intro w'
            go_simp
            with_reducible rfl
          rotate_left
          · simp only [Act.put, List.setIfInBounds_toArray, List.set_cons_zero, List.set_cons_succ, i64_w, i32_w]
            rfl
          refine pure_ (i := 4) (N := some 50) (v := ?_) (a' := ?_) #[true, true, true, true, true, false, false, false, false, false, false, false, false, false, false, false, false, false, false, false] rfl rfl (by kernel_rfl) (fun _ _ _ h => h) (Or.inl ⟨by rfl, ?_⟩) ?_ ?_
          rotate_left
          · intro w'
            go_simp
            with_reducible rfl
          rotate_left
          · simp only [Act.put, List.setIfInBounds_toArray, List.set_cons_zero, List.set_cons_succ, i64_w, i32_w]
            rfl
          refine pure_ (i := 5) (N := some 51) (v := ?_) (a' := ?_) #[true, true, true, true, true, true, false, false, false, false, false, false, false, false, false, false, false, false, false, false] rfl rfl (by kernel_rfl) (fun _ _ _ h => h) (Or.inl ⟨by rfl, ?_⟩) ?_ ?_
          rotate_left
          · intro w'
            go_simp
            with_reducible rfl
          rotate_left
          · simp only [Act.put, List.setIfInBounds_toArray, List.set_cons_zero, List.set_cons_succ, i64_w, i32_w]
            rfl
          refine pure_ (i := 6) (N := some 52) (v := ?_) (a' := ?_) #[true, true, true, true, true, true, true, false, false, false, false, false, false, false, false, false, false, false, false, false] rfl rfl (by kernel_rfl) (fun _ _ _ h => h) (Or.inl ⟨by rfl, ?_⟩) ?_ ?_
          rotate_left
          · intro w'
            go_simp
            with_reducible rfl
          rotate_left
          · simp only [Act.put, List.setIfInBounds_toArray, List.set_cons_zero, List.set_cons_succ, i64_w, i32_w]
            rfl
          refine take_ (i := 7) (N := some 53) (v := ?_) (a' := ?_) #[true, true, true, true, true, true, true, true, false, false, false, false, false, false, false, false, false, false, false, false] rfl rfl (by kernel_rfl) (fun _ _ _ h => h) (Or.inl ⟨by rfl, ?_⟩) hHeld ?_ ?_
          rotate_left
          · rintro w' ⟨s0, s1, s2⟩
            go_simp
            with_reducible rfl
          rotate_left
          · simp only [Act.put, List.setIfInBounds_toArray, List.set_cons_zero, List.set_cons_succ, i64_w, i32_w]
            rfl
          refine pure_ (i := 8) (N := some 54) (v := ?_) (a' := ?_) #[true, true, true, true, true, true, true, true, true, false, false, false, false, false, false, false, false, false, false, false] rfl rfl (by kernel_rfl) (fun _ _ _ h => h) (Or.inl ⟨by rfl, ?_⟩) ?_ ?_
          rotate_left
          · intro w'
            go_simp
            with_reducible rfl
          rotate_left
          · simp only [Act.put, List.setIfInBounds_toArray, List.set_cons_zero, List.set_cons_succ, i64_w, i32_w]
            rfl
          refine pure_ (i := 9) (N := some 55) (v := ?_) (a' := ?_) #[true, true, true, true, true, true, true, true, true, true, false, false, false, false, false, false, false, false, false, false] rfl rfl (by kernel_rfl) (fun _ _ _ h => h) (Or.inl ⟨by rfl, ?_⟩) ?_ ?_
          rotate_left
          · intro w'
            go_simp
            with_reducible rfl
          rotate_left
          · simp only [Act.put, List.setIfInBounds_toArray, List.set_cons_zero, List.set_cons_succ, i64_w, i32_w]
            rfl
          refine pure_ (i := 10) (N := some 56) (v := ?_) (a' := ?_) #[true, true, true, true, true, true, true, true, true, true, true, false, false, false, false, false, false, false, false, false] rfl rfl (by kernel_rfl) (fun _ _ _ h => h) (Or.inl ⟨by rfl, ?_⟩) ?_ ?_
          rotate_left
          · intro w'
            go_simp
            with_reducible rfl
          rotate_left
          · simp only [Act.put, List.setIfInBounds_toArray, List.set_cons_zero, List.set_cons_succ, i64_w, i32_w]
            rfl
          refine take_ (i := 11) (N := some 57) (v := ?_) (a' := ?_) #[true, true, true, true, true, true, true, true, true, true, true, true, false, false, false, false, false, false, false, false] rfl rfl (by kernel_rfl) (fun _ _ _ h => h) (Or.inl ⟨by rfl, ?_⟩) hHeld ?_ ?_
          rotate_left
          · rintro w' ⟨s0, s1, s2⟩
            go_simp
            with_reducible rfl
          rotate_left
          · simp only [Act.put, List.setIfInBounds_toArray, List.set_cons_zero, List.set_cons_succ, i64_w, i32_w]
            rfl
          refine pure_ (i := 12) (N := some 58) (v := ?_) (a' := ?_) #[true, true, true, true, true, true, true, true, true, true, true, true, true, false, false, false, false, false, false, false] rfl rfl (by kernel_rfl) (fun _ _ _ h => h) (Or.inl ⟨by rfl, ?_⟩) ?_ ?_
          rotate_left
          · intro w'
            go_simp
            with_reducible rfl
          rotate_left
          · simp only [Act.put, List.setIfInBounds_toArray, List.set_cons_zero, List.set_cons_succ, i64_w, i32_w]
            rfl
          refine pure_ (i := 13) (N := some 59) (v := ?_) (a' := ?_) #[true, true, true, true, true, true, true, true, true, true, true, true, true, true, false, false, false, false, false, false] rfl rfl (by kernel_rfl) (fun _ _ _ h => h) (Or.inl ⟨by rfl, ?_⟩) ?_ ?_
          rotate_left
          · intro w'
            go_simp
            with_reducible rfl
          rotate_left
          · simp only [Act.put, List.setIfInBounds_toArray, List.set_cons_zero, List.set_cons_succ, i64_w, i32_w]
            rfl
          refine pure_ (i := 14) (N := some 60) (v := ?_) (a' := ?_) #[true, true, true, true, true, true, true, true, true, true, true, true, true, true, true, false, false, false, false, false] rfl rfl (by kernel_rfl) (fun _ _ _ h => h) (Or.inl ⟨by rfl, ?_⟩) ?_ ?_
          rotate_left
          · intro w'
            go_simp
            with_reducible rfl
          rotate_left
          · simp only [Act.put, List.setIfInBounds_toArray, List.set_cons_zero, List.set_cons_succ, i64_w, i32_w]
            rfl
          refine take_ (i := 15) (N := some 61) (v := ?_) (a' := ?_) #[true, true, true, true, true, true, true, true, true, true, true, true, true, true, true, true, false, false, false, false] rfl rfl (by kernel_rfl) (fun _ _ _ h => h) (Or.inl ⟨by rfl, ?_⟩) hHeld ?_ ?_
          rotate_left
          · rintro w' ⟨s0, s1, s2⟩
            go_simp
            with_reducible rfl
          rotate_left
          · simp only [Act.put, List.setIfInBounds_toArray, List.set_cons_zero, List.set_cons_succ, i64_w, i32_w]
            rfl
          refine pure_ (i := 16) (N := some 62) (v := ?_) (a' := ?_) #[true, true, true, true, true, true, true, true, true, true, true, true, true, true, true, true, true, false, false, false] rfl rfl (by kernel_rfl) (fun _ _ _ h => h) (Or.inl ⟨by rfl, ?_⟩) ?_ ?_
          rotate_left
          · intro w'
            go_simp
            with_reducible rfl
          rotate_left
          · simp only [Act.put, List.setIfInBounds_toArray, List.set_cons_zero, List.set_cons_succ, i64_w, i32_w]
            rfl
          refine last_ (i := 17) (N := none) #[true, true, true, true, true, true, true, true, true, true, true, true, true, true, true, true, true, true, false, false] rfl rfl (by kernel_rfl) (by decide) (fun K hK => ?_)
          refine skip_ (w1 := ?_) (by rfl) rfl ?_ ?_
          rotate_left
          · go_simp
            rfl
          refine hK.out _ _ ?_
          clear hK K
          refine pure_ (i := 18) (N := some 63) (v := ?_) (a' := ?_) #[true, true, true, true, true, true, true, true, true, true, true, true, true, true, true, true, true, true, true, false] rfl rfl (by kernel_rfl) (fun _ _ _ h => h) (Or.inl ⟨by rfl, ?_⟩) ?_ ?_
          rotate_left
          · intro w'
            go_simp
            with_reducible rfl
          rotate_left
          · simp only [Act.put, List.setIfInBounds_toArray, List.set_cons_zero, List.set_cons_succ, i64_w, i32_w]
            rfl
          refine last_ (i := 19) (N := none) #[true, true, true, true, true, true, true, true, true, true, true, true, true, true, true, true, true, true, true, true] rfl rfl (by kernel_rfl) (by decide) (fun K hK => ?_)
          refine skip_ (w1 := ?_) (by rfl) rfl ?_ ?_
          rotate_left
          · go_simp
            rfl
          refine hK.out _ _ ?_
          clear hK K
          refine done_ (by kernel_rfl) ?_
          clear c1 c2 d1 d2 g1 g2 hx0 p2 p3 p4 p5 q1 q2
          generalize hW : ((wr.setCell { block := bo + 1, off := i } (Value.int IntKind.u64 x)).setCell { block := bo + 1 + i, off := 0 } (Value.int IntKind.u64 x)).drew = W at HM2 HB2 ⊢
          clear hW
          go_wp2
          go_loopg [9, 11] (t + 1 - i) (fun kq v9 v11 w' => ∃ j : Nat, v11 = .int .i64 (j : Int) ∧ v9 = .int .i64 ((offs (t + 1) i + (j - i) : Nat) : Int) ∧ Aside0 (kq + j = t + 1 ∧ i ≤ j) ∧ Aside0 (i = 0 → j = 0) ∧ Aside0 (Mx w' bo (t + 1) (t + 1) (rS (t + 1) first rest (i + 1) i j)) ∧ Aside0 (Below w.heap.size w w'))
          case atStart => exact ⟨i, rfl, (by rw [Nat.sub_self]; rfl), ⟨by omega, Nat.le_refl _⟩, ⟨fun h => h⟩, HM2, HB2⟩
          case round =>
            clear HM2 HB2 HM HB
            obtain ⟨j, rfl, rfl, HK2, HJ0, HM, HB⟩ := hrel
            have hkk := HK2.out.2
            by_cases hlj : j < t + 1 ∧ 0 < i
            · obtain ⟨hlj, hi1⟩ := hlj
              have q3 : decide ((j : Int) ≤ (t : Int)) = true := decide_eq_true (by omega)
              have q4 : decide (j ≤ t) = true := decide_eq_true (by omega)
              have q5 : decide ((0 : Int) < (i : Int)) = true := decide_eq_true (by omega)
              have q6 : decide (0 < i) = true := decide_eq_true hi1
              have hqb : offs (t + 1) i + (j - i) < rest.length := by
                have h1 := offs_next (t + 1) i hi1
                have h2 := offs_mono (n := t + 1) (t + 1 - (i + 1)) (i + 1) (by omega)
                rw [show i + 1 + (t + 1 - (i + 1)) = t + 1 from by omega] at h2
                have := HL.out
                omega
              obtain ⟨q, hq⟩ : ∃ q, q = offs (t + 1) i + (j - i) := ⟨_, rfl⟩
              rw [← hq] at hqb ⊢
              have HQ := Aside0.mk hq
              obtain ⟨ad, e1, hx0⟩ := Kd.at_int (Kd.C_below HR1.out HB.out) (q : Int) (by omega) (by omega)
              cases e1
              rw [Int.toNat_natCast, show rd rest (q : Int) = rest.getD q 0 from rd_nat rest q] at hx0
              obtain ⟨x, hx⟩ : ∃ x, x = rest.getD q 0 := ⟨_, rfl⟩
              rw [← hx] at hx0
              have HX := Aside0.mk hx
              have p2 : ((i : Int) < (t : Int) + 1) = True := eq_true (by omega)
              have p3 : ((0 : Int) ≤ (j : Int)) = True := eq_true (by omega)
              have p4 : ((j : Int) < (t : Int) + 1) = True := eq_true (by omega)
              have p5 : ((0 : Int) ≤ (q : Int)) = True := eq_true (by omega)
              have p6 : ((q : Int) < (rest.length : Int)) = True := eq_true (by omega)
              have c1 : wr.cell? ⟨bo, i, none⟩ = some (.slice (some ⟨bo + 1 + i, 0, none⟩) (t + 1) (t + 1)) := HM.out.cellO hlt hlt
              have c2 : wr.cell? ⟨bo, j, none⟩ = some (.slice (some ⟨bo + 1 + j, 0, none⟩) (t + 1) (t + 1)) := HM.out.cellO hlj hlj
              have d1 : wr.cell? ⟨bo + 1 + i, j, none⟩ = some _ := HM.out.cellR hlt hlj
              have g1 : wr.frozen? ⟨bo + 1 + i, j, none⟩ = false := HM.out.frozR hlt j
              have hm2 := HM.out.put (i := i) (j := j) hlt hlj x
              have d2 : (wr.setCell ⟨bo + 1 + i, j, none⟩ (.int .u64 x)).cell? ⟨bo + 1 + j, i, none⟩ = some _ := hm2.cellR hlj hlt
              have g2 : wr.frozen? ⟨bo + 1 + j, i, none⟩ = false := HM.out.frozR hlj i
              have HM2 := Aside0.mk (show Mx _ bo (t + 1) (t + 1) (rS (t + 1) first rest (i + 1) i (j + 1)) from Mx.drew ((hm2.put (i := j) (j := i) hlj hlt x).congr fun a ha b hb => by rw [HX.out, HQ.out]; exact rS_next hi1 hkk (i + 1) a ha b hb))
              have hbo : w.heap.size ≤ bo := by rw [← HBO.out]; exact Nat.le_refl _
              have HB2 := Aside0.mk (show Below w.heap.size w _ from below_drew (Below.setCell (Below.setCell HB.out (p := ⟨bo + 1 + i, j, none⟩) (by show w.heap.size ≤ bo + 1 + i; omega) (.int .u64 x)) (p := ⟨bo + 1 + j, i, none⟩) (by show w.heap.size ≤ bo + 1 + j; omega) (.int .u64 x)))
              have HQB := Aside0.mk hqb
              have HLJ := Aside0.mk hlj
              clear hm2 hx hq hbo
              go_wp2
              refine start_ (n := 22) (S := (fun w' => w'.cell? ⟨bo, i, none⟩ = some (.slice (some ⟨bo + 1 + i, 0, none⟩) (t + 1) (t + 1)) ∧ w'.cell? ⟨bo, j, none⟩ = some (.slice (some ⟨bo + 1 + j, 0, none⟩) (t + 1) (t + 1)) ∧ w'.cell? (ad.add q) = some (.int .u64 x))) (ds := [19,21]) #[false, false, false, false, false, false, false, false, false, false, false, false, false, false, false, false, false, false, false, false, false, false] (by kernel_rfl) rfl rfl ⟨c1, c2, hx0⟩ (fun hHeld => ?_)
              refine pure_ (i := 0) (N := some 74) (v := ?_) (a' := ?_) #[true, false, false, false, false, false, false, false, false, false, false, false, false, false, false, false, false, false, false, false, false, false] rfl rfl (by kernel_rfl) (fun _ _ _ h => h) (Or.inl ⟨by rfl, ?_⟩) ?_ ?_
              rotate_left
              · intro w'
                go_simp
                with_reducible rfl
              rotate_left
              · simp only [Act.put, List.setIfInBounds_toArray, List.set_cons_zero, List.set_cons_succ, i64_w, i32_w]
                rfl
              refine pure_ (i := 1) (N := some 75) (v := ?_) (a' := ?_) #[true, true, false, false, false, false, false, false, false, false, false, false, false, false, false, false, false, false, false, false, false, false] rfl rfl (by kernel_rfl) (fun _ _ _ h => h) (Or.inl ⟨by rfl, ?_⟩) ?_ ?_
              rotate_left
              · intro w'
                go_simp
                with_reducible rfl
              rotate_left
              · simp only [Act.put, List.setIfInBounds_toArray, List.set_cons_zero, List.set_cons_succ, i64_w, i32_w]
                rfl
              refine pure_ (i := 2) (N := some 76) (v := ?_) (a' := ?_) #[true, true, true, false, false, false, false, false, false, false, false, false, false, false, false, false, false, false, false, false, false, false] rfl rfl (by kernel_rfl) (fun _ _ _ h => h) (Or.inl ⟨by rfl, ?_⟩) ?_ ?_
              rotate_left
              · intro w'
                go_simp
                with_reducible rfl
              rotate_left
              · simp only [Act.put, List.setIfInBounds_toArray, List.set_cons_zero, List.set_cons_succ, i64_w, i32_w]
                rfl
              refine take_ (i := 3) (N := some 77) (v := ?_) (a' := ?_) #[true, true, true, true, false, false, false, false, false, false, false, false, false, false, false, false, false, false, false, false, false, false] rfl rfl (by kernel_rfl) (fun _ _ _ h => h) (Or.inl ⟨by rfl, ?_⟩) hHeld ?_ ?_
              rotate_left
              · rintro w' ⟨s0, s1, s2⟩
                go_simp
                with_reducible rfl
              rotate_left
              · simp only [Act.put, List.setIfInBounds_toArray, List.set_cons_zero, List.set_cons_succ, i64_w, i32_w]
                rfl
              refine pure_ (i := 4) (N := some 78) (v := ?_) (a' := ?_) #[true, true, true, true, true, false, false, false, false, false, false, false, false, false, false, false, false, false, false, false, false, false] rfl rfl (by kernel_rfl) (fun _ _ _ h => h) (Or.inl ⟨by rfl, ?_⟩) ?_ ?_
              rotate_left
              · intro w'
                go_simp
                with_reducible rfl
              rotate_left
              · simp only [Act.put, List.setIfInBounds_toArray, List.set_cons_zero, List.set_cons_succ, i64_w, i32_w]
                rfl
              refine pure_ (i := 5) (N := some 79) (v := ?_) (a' := ?_) #[true, true, true, true, true, true, false, false, false, false, false, false, false, false, false, false, false, false, false, false, false, false] rfl rfl (by kernel_rfl) (fun _ _ _ h => h) (Or.inl ⟨by rfl, ?_⟩) ?_ ?_
              rotate_left
              · intro w'
                go_simp
                with_reducible rfl
              rotate_left
              · simp only [Act.put, List.setIfInBounds_toArray, List.set_cons_zero, List.set_cons_succ, i64_w, i32_w]
                rfl
              refine pure_ (i := 6) (N := some 80) (v := ?_) (a' := ?_) #[true, true, true, true, true, true, true, false, false, false, false, false, false, false, false, false, false, false, false, false, false, false] rfl rfl (by kernel_rfl) (fun _ _ _ h => h) (Or.inl ⟨by rfl, ?_⟩) ?_ ?_
              rotate_left
              · intro w'
                go_simp
                with_reducible rfl
              rotate_left
              · simp only [Act.put, List.setIfInBounds_toArray, List.set_cons_zero, List.set_cons_succ, i64_w, i32_w]
                rfl
              refine pure_ (i := 7) (N := some 81) (v := ?_) (a' := ?_) #[true, true, true, true, true, true, true, true, false, false, false, false, false, false, false, false, false, false, false, false, false, false] rfl rfl (by kernel_rfl) (fun _ _ _ h => h) (Or.inl ⟨by rfl, ?_⟩) ?_ ?_
              rotate_left
              · intro w'
                go_simp
                with_reducible rfl
              rotate_left
              · simp only [Act.put, List.setIfInBounds_toArray, List.set_cons_zero, List.set_cons_succ, i64_w, i32_w]
                rfl
              refine take_ (i := 8) (N := some 82) (v := ?_) (a' := ?_) #[true, true, true, true, true, true, true, true, true, false, false, false, false, false, false, false, false, false, false, false, false, false] rfl rfl (by kernel_rfl) (fun _ _ _ h => h) (Or.inl ⟨by rfl, ?_⟩) hHeld ?_ ?_
              rotate_left
              · rintro w' ⟨s0, s1, s2⟩
                go_simp
                with_reducible rfl
              rotate_left
              · simp only [Act.put, List.setIfInBounds_toArray, List.set_cons_zero, List.set_cons_succ, i64_w, i32_w]
                rfl
              refine pure_ (i := 9) (N := some 83) (v := ?_) (a' := ?_) #[true, true, true, true, true, true, true, true, true, true, false, false, false, false, false, false, false, false, false, false, false, false] rfl rfl (by kernel_rfl) (fun _ _ _ h => h) (Or.inl ⟨by rfl, ?_⟩) ?_ ?_
              rotate_left
              · intro w'
                go_simp
                with_reducible rfl
              rotate_left
              · simp only [Act.put, List.setIfInBounds_toArray, List.set_cons_zero, List.set_cons_succ, i64_w, i32_w]
                rfl
              refine pure_ (i := 10) (N := some 84) (v := ?_) (a' := ?_) #[true, true, true, true, true, true, true, true, true, true, true, false, false, false, false, false, false, false, false, false, false, false] rfl rfl (by kernel_rfl) (fun _ _ _ h => h) (Or.inl ⟨by rfl, ?_⟩) ?_ ?_
              rotate_left
              · intro w'
                go_simp
                with_reducible rfl
              rotate_left
              · simp only [Act.put, List.setIfInBounds_toArray, List.set_cons_zero, List.set_cons_succ, i64_w, i32_w]
                rfl
              refine pure_ (i := 11) (N := some 85) (v := ?_) (a' := ?_) #[true, true, true, true, true, true, true, true, true, true, true, true, false, false, false, false, false, false, false, false, false, false] rfl rfl (by kernel_rfl) (fun _ _ _ h => h) (Or.inl ⟨by rfl, ?_⟩) ?_ ?_
              rotate_left
              · intro w'
                go_simp
                with_reducible rfl
              rotate_left
              · simp only [Act.put, List.setIfInBounds_toArray, List.set_cons_zero, List.set_cons_succ, i64_w, i32_w]
                rfl
              refine pure_ (i := 12) (N := some 86) (v := ?_) (a' := ?_) #[true, true, true, true, true, true, true, true, true, true, true, true, true, false, false, false, false, false, false, false, false, false] rfl rfl (by kernel_rfl) (fun _ _ _ h => h) (Or.inl ⟨by rfl, ?_⟩) ?_ ?_
              rotate_left
              · intro w'
                go_simp
                with_reducible rfl
              rotate_left
              · simp only [Act.put, List.setIfInBounds_toArray, List.set_cons_zero, List.set_cons_succ, i64_w, i32_w]
                rfl
              refine take_ (i := 13) (N := some 87) (v := ?_) (a' := ?_) #[true, true, true, true, true, true, true, true, true, true, true, true, true, true, false, false, false, false, false, false, false, false] rfl rfl (by kernel_rfl) (fun _ _ _ h => h) (Or.inl ⟨by rfl, ?_⟩) hHeld ?_ ?_
              rotate_left
              · rintro w' ⟨s0, s1, s2⟩
                go_simp
                with_reducible rfl
              rotate_left
              · simp only [Act.put, List.setIfInBounds_toArray, List.set_cons_zero, List.set_cons_succ, i64_w, i32_w]
                rfl
              refine pure_ (i := 14) (N := some 88) (v := ?_) (a' := ?_) #[true, true, true, true, true, true, true, true, true, true, true, true, true, true, true, false, false, false, false, false, false, false] rfl rfl (by kernel_rfl) (fun _ _ _ h => h) (Or.inl ⟨by rfl, ?_⟩) ?_ ?_
              rotate_left
              · intro w'
                go_simp
                with_reducible rfl
              rotate_left
              · simp only [Act.put, List.setIfInBounds_toArray, List.set_cons_zero, List.set_cons_succ, i64_w, i32_w]
                rfl
              refine pure_ (i := 15) (N := some 89) (v := ?_) (a' := ?_) #[true, true, true, true, true, true, true, true, true, true, true, true, true, true, true, true, false, false, false, false, false, false] rfl rfl (by kernel_rfl) (fun _ _ _ h => h) (Or.inl ⟨by rfl, ?_⟩) ?_ ?_
              rotate_left
              · intro w'
                go_simp
                with_reducible rfl
              rotate_left
              · simp only [Act.put, List.setIfInBounds_toArray, List.set_cons_zero, List.set_cons_succ, i64_w, i32_w]
                rfl
              refine pure_ (i := 16) (N := some 90) (v := ?_) (a' := ?_) #[true, true, true, true, true, true, true, true, true, true, true, true, true, true, true, true, true, false, false, false, false, false] rfl rfl (by kernel_rfl) (fun _ _ _ h => h) (Or.inl ⟨by rfl, ?_⟩) ?_ ?_
              rotate_left
              · intro w'
                go_simp
                with_reducible rfl
              rotate_left
              · simp only [Act.put, List.setIfInBounds_toArray, List.set_cons_zero, List.set_cons_succ, i64_w, i32_w]
                rfl
              refine take_ (i := 17) (N := some 91) (v := ?_) (a' := ?_) #[true, true, true, true, true, true, true, true, true, true, true, true, true, true, true, true, true, true, false, false, false, false] rfl rfl (by kernel_rfl) (fun _ _ _ h => h) (Or.inl ⟨by rfl, ?_⟩) hHeld ?_ ?_
              rotate_left
              · rintro w' ⟨s0, s1, s2⟩
                go_simp
                with_reducible rfl
              rotate_left
              · simp only [Act.put, List.setIfInBounds_toArray, List.set_cons_zero, List.set_cons_succ, i64_w, i32_w]
                rfl
              refine pure_ (i := 18) (N := some 92) (v := ?_) (a' := ?_) #[true, true, true, true, true, true, true, true, true, true, true, true, true, true, true, true, true, true, true, false, false, false] rfl rfl (by kernel_rfl) (fun _ _ _ h => h) (Or.inl ⟨by rfl, ?_⟩) ?_ ?_
              rotate_left
              · intro w'
                go_simp
                with_reducible rfl
              rotate_left
              · simp only [Act.put, List.setIfInBounds_toArray, List.set_cons_zero, List.set_cons_succ, i64_w, i32_w]
                rfl
              refine last_ (i := 19) (N := none) #[true, true, true, true, true, true, true, true, true, true, true, true, true, true, true, true, true, true, true, true, false, false] rfl rfl (by kernel_rfl) (by decide) (fun K hK => ?_)
              refine skip_ (w1 := ?_) (by rfl) rfl ?_ ?_
              rotate_left
              · go_simp
                rfl
              refine hK.out _ _ ?_
              clear hK K
              refine pure_ (i := 20) (N := some 93) (v := ?_) (a' := ?_) #[true, true, true, true, true, true, true, true, true, true, true, true, true, true, true, true, true, true, true, true, true, false] rfl rfl (by kernel_rfl) (fun _ _ _ h => h) (Or.inl ⟨by rfl, ?_⟩) ?_ ?_
              rotate_left
              · intro w'
                go_simp
                with_reducible rfl
              rotate_left
              · simp only [Act.put, List.setIfInBounds_toArray, List.set_cons_zero, List.set_cons_succ, i64_w, i32_w]
                rfl
              refine last_ (i := 21) (N := none) #[true, true, true, true, true, true, true, true, true, true, true, true, true, true, true, true, true, true, true, true, true, true] rfl rfl (by kernel_rfl) (by decide) (fun K hK => ?_)
              refine skip_ (w1 := ?_) (by rfl) rfl ?_ ?_
              rotate_left
              · go_simp
                rfl
              refine hK.out _ _ ?_
              clear hK K
              refine done_ (by kernel_rfl) ?_
              go_wp2
              go_roundg (t + 1 - (j + 1))
              case measure => have := HK2.out; have := HLJ.out; omega
              case rel =>
                have hqb := HQB.out
                have hlj := HLJ.out
                refine ⟨j + 1, (by first | rfl | rw [show wrap64 ((j : Int) + 1) = ((j + 1 : Nat) : Int) from by rw [w64' (by omega) (by omega)]; omega]), ?_, ⟨by omega, by omega⟩, ⟨fun h => by omega⟩, HM2, HB2⟩
                have h9 := HL.out
                have h10 := offs_last (n := t + 1) (by omega)
                have h11 : ((t + 1 : Nat) : Int) * (((t + 1 : Nat) : Int) - 1) ≤ 1000 * 1000 := Int.mul_le_mul (by omega) (by omega) (by omega) (by omega)
                rw [show wrap64 ((q : Int) + 1) = ((q + 1 : Nat) : Int) from by rw [w64' (by omega) (by omega)]; omega, HQ.out, show offs (t + 1) i + (j - i) + 1 = offs (t + 1) i + (j + 1 - i) from by omega]
            · by_cases hjt : j < t + 1
              · have q3 : decide ((j : Int) ≤ (t : Int)) = true := decide_eq_true (by omega)
                have q4 : decide (j ≤ t) = true := decide_eq_true (by omega)
                have q5 : decide ((0 : Int) < (i : Int)) = false := decide_eq_false (by omega)
                have q6 : decide (0 < i) = false := decide_eq_false (by omega)
                have HM3 := Aside0.mk (HM.out.congr (rS_row (n := t + 1) (first := first) (rest := rest) (i + 1) i j (by have := HK2.out; omega)))
                have hoff : offs (t + 1) i + (j - i) = offs (t + 1) (i + 1) := by
                  by_cases hi0 : i = 0
                  · have := HJ0.out hi0
                    rw [hi0, this]; rfl
                  · rw [offs_next (t + 1) i (by omega)]
                    have := HK2.out; omega
                rw [hoff]
                clear hoff
                go_wp2
                go_roundg (t + 1 - (i + 1))
                case measure => have := HK.out; omega
                case rel => exact ⟨i + 1, (by first | rfl | rw [show wrap64 ((i : Int) + 1) = ((i + 1 : Nat) : Int) from by rw [w64' (by omega) (by omega)]; omega]), rfl, ⟨by have := HK.out; omega⟩, HM3, HB⟩
              · have q3 : decide ((j : Int) ≤ (t : Int)) = false := decide_eq_false (by omega)
                have q4 : decide (j ≤ t) = false := decide_eq_false (by omega)
                have HM3 := Aside0.mk (HM.out.congr (rS_row (n := t + 1) (first := first) (rest := rest) (i + 1) i j (by have := HK2.out; omega)))
                have hoff : offs (t + 1) i + (j - i) = offs (t + 1) (i + 1) := by
                  by_cases hi0 : i = 0
                  · have := HJ0.out hi0
                    rw [hi0, this]; rfl
                  · rw [offs_next (t + 1) i (by omega)]
                    have := HK2.out; omega
                rw [hoff]
                clear hoff
                go_wp2
                go_roundg (t + 1 - (i + 1))
                case measure => have := HK.out; omega
                case rel => exact ⟨i + 1, (by first | rfl | rw [show wrap64 ((i : Int) + 1) = ((i + 1 : Nat) : Int) from by rw [w64' (by omega) (by omega)]; omega]), rfl, ⟨by have := HK.out; omega⟩, HM3, HB⟩
        · have q1 : decide ((i : Int) ≤ (t : Int)) = false := decide_eq_false (by omega)
          have q2 : decide (i ≤ t) = false := decide_eq_false (by omega)
          have hij : i = t + 1 := by have := HK.out; omega
          go_wp2
          first | go_ret2 | ((try simp only [Exit.inBlock, Exit.then]); refine bodyPost_ret (results_tmp2 rfl _ _ _) rfl ?_)
          have hM := HM.out
          rw [hij] at hM
          exact ⟨_, rfl, (hM.congr (rS_all (t + 1))).own (by rw [← HBO.out]; exact Nat.le_refl _) (by omega), HB.out⟩
set_option maxHeartbeats 2000000 in
set_option maxRecDepth 100000 in
theorem rnew_err (A0 : Option Addr) (c0 : Nat) (first : List Int) (A1 : Option Addr) (c1 : Nat) (rest : List Int) (w : World) (hn2 : first.length ≤ 1000) (hlr : rest.length ≤ 1000000000) (hbad : first.length = 0 ∨ rest.length ≠ offs first.length first.length) :
    Calls Try.prog 16 #[.slice A0 first.length c0, .slice A1 rest.length c1] w fun e w' => ∃ v0_ : Value, e = .returned (.tuple #[v0_, .int .i64 1]) ∧ Kd.S (Kd.slice 22 (Kd.int .u64)) 26 w' w.heap.size (fun _ => True) v0_ [] ∧ Below w.heap.size w w' := by
  by_cases hn : first.length = 0
  · have q0 : decide ((first.length : Int) - 1 < 0) = true := decide_eq_true (by omega)
    rw [hn] at q0 ⊢
    clear hbad hn
    go_enter Try.func16, Try.ntmps16
    go_wp2
    first | go_ret2 | ((try simp only [Exit.inBlock, Exit.then]); refine bodyPost_ret (results_tmp2 rfl _ _ _) rfl ?_)
    exact ⟨_, rfl, Kd.S_nil _ _ _ _ _, Below.refl _ _⟩
  · have hl : rest.length ≠ offs first.length first.length := hbad.resolve_left hn
    have hol := offs_last (n := first.length) (by omega)
    obtain ⟨t, en⟩ : ∃ t, t + 1 = first.length := ⟨first.length - 1, by omega⟩
    rw [← en] at hol hl hn2 ⊢
    have hq : ((rest.length : Int) != wrap64 ((wrap64 ((t : Int) * ((t : Int) + 1))).tdiv 2)) = true := by
      have h1 : (t : Int) * ((t : Int) + 1) = 2 * (offs (t + 1) (t + 1) : Int) := by rw [hol]; push_cast; grind
      have h2 : (t : Int) * ((t : Int) + 1) ≤ 1000 * 1000 := Int.mul_le_mul (by omega) (by omega) (by omega) (by omega)
      have h3 : wrap64 ((t : Int) * ((t : Int) + 1)) = 2 * (offs (t + 1) (t + 1) : Int) := by rw [h1, w64' (by omega) (by omega)]
      rw [h3, Int.mul_tdiv_cancel_left _ (by omega), w64' (by omega) (by omega)]
      exact bne_iff_ne.mpr (by omega)
    have q0 : decide ((t : Int) < 0) = false := decide_eq_false (by omega)
    clear hbad hl hol hn en
    go_enter Try.func16, Try.ntmps16
    go_wp2
    first | go_ret2 | ((try simp only [Exit.inBlock, Exit.then]); refine bodyPost_ret (results_tmp2 rfl _ _ _) rfl ?_)
    exact ⟨_, rfl, Kd.S_nil _ _ _ _ _, Below.refl _ _⟩
def privityref10_New.f (l0 l1 : List Int) : Option (List (List Int) × Int) :=
  if l0.length ≤ 1000 then (if l1.length ≤ 1000000000 then (if newBad l0 l1 = true then some ([], 1) else some (matL l0.length (newG l0.length l0 l1), 0)) else none) else none
theorem privityref10_New.calls (A0 : Option Addr) (c0 : Nat) (l0 : List Int) (A1 : Option Addr) (c1 : Nat) (l1 : List Int) (r1 : List (List Int)) (r2 : Int) (w : World) (hr0 : Kd.C (Kd.int .u64) w A0 l0.length l0) (hc0 : l0.length ≤ c0) (hr1 : Kd.C (Kd.int .u64) w A1 l1.length l1) (hc1 : l1.length ≤ c1) (h : privityref10_New.f l0 l1 = some (r1, r2)) :
    Calls Try.prog 16 #[.slice A0 l0.length c0, .slice A1 l1.length c1] w fun e w' => ∃ v0_ : Value, e = .returned (.tuple #[v0_, .int .i64 r2]) ∧ Kd.S (Kd.slice 22 (Kd.int .u64)) 26 w' w.heap.size (fun _ => True) v0_ r1 ∧ Below w.heap.size w w' := by
  unfold privityref10_New.f at h
  obtain ⟨h1, h⟩ := ifs h
  obtain ⟨h2, h⟩ := ifs h
  by_cases hb : newBad l0 l1 = true
  · rw [if_pos hb] at h
    have h := Option.some.inj h
    rw [← (Prod.mk.inj h).1, ← (Prod.mk.inj h).2]
    exact rnew_err A0 c0 l0 A1 c1 l1 w h1 h2 (newBad_iff.1 hb)
  · rw [if_neg hb] at h
    have h := Option.some.inj h
    rw [← (Prod.mk.inj h).1, ← (Prod.mk.inj h).2]
    have hg : ¬ (l0.length = 0 ∨ l1.length ≠ offs l0.length l0.length) := fun hx => hb (newBad_iff.2 hx)
    exact rnew_walk A0 c0 l0 A1 c1 l1 w hr0 hc0 hr1 hc1 (by omega) h1 (Classical.byContradiction fun hx => hg (Or.inr hx))
end Go.Proofs.Ytejeelpnmdfibaa.Hw
end
