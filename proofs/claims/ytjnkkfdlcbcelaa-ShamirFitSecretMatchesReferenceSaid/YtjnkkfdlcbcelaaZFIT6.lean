/- Part 6 of the proof's texts, joined in build order. -/
import Derived.Test.YtjnkkfdlcbcelaaZFIT1
import Derived.Test.YtjnkkfdlcbcelaaZFIT5
set_option linter.unusedVariables false
set_option linter.unusedSimpArgs false
section
namespace Go.Proofs.Ytjnkkfdlcbcelaa.Pr
open Go.RowKit Go.Proofs.YtjnkkfdlcbcelaaW.PrintWords Go.Proofs.YtjnkkfdlcbcelaaW.PrintLast Go.Proofs.YtjnkkfdlcbcelaaW.PrintMore
attribute [local go_sem] max2_int min2_int max_two min_two max_three min_three max_four min_four
open Go.Proofs.Ytjnkkfdlcbcelaa.Hw
def privitylaw09_awake.f (k : Nat)  : Option (Bool) := (shamir_Reconstruct.f k 31 1 (([(⟨3,8⟩ : S49),(⟨1,6⟩ : S49)] : List (S49)))).bind fun bt300 => ((shamir_FitSecret.f 31 1 (([(⟨1,6⟩ : S49)] : List (S49))) 9).bind fun bt305 => ((shamir_Reconstruct.f k 31 1 (([(⟨1,6⟩ : S49)] : List (S49)))).bind fun bt312 => ((shamir_Reconstruct.f k 31 1 (([(⟨1,6⟩ : S49),(⟨2,7⟩ : S49),(⟨3,9⟩ : S49)] : List (S49)))).bind fun bt317 => ((shamir_Constant.f k 31 4 1 7).bind fun t319 => ((shamir_Shares.f k 31 3 (([5,1] : List Int))).bind fun t325 => ((privityref05_Same.f k t325 (([6,7,8] : List Int))).bind fun t331 => (if t331 = true then (if bt300.1 = 5 then (if bt300.2 = 0 then ((privityref05_Same.f k bt305.1 (([9,28] : List Int))).bind fun t335 => (if t335 = true then (if bt305.2 = 0 then (if bt312.2 = 1 then (if bt317.2 = 9 then ((privityref09_Same.f k t319 (([(([7,0] : List Int)),(([7,0] : List Int)),(([7,0] : List Int)),(([7,0] : List Int))] : List (List Int)))).bind fun t351 => (some t351)) else (some false)) else (some false)) else (some false)) else (some false))) else (some false)) else (some false)) else (some false))))))))
theorem privitylaw09_awake.mono : ∀ k,LeO (privitylaw09_awake.f k ) (privitylaw09_awake.f (k + 1) ) := by
 intro  k
 unfold privitylaw09_awake.f
 repeat' first
   | (with_reducible exact privityref05_Same.mono _ _ _)
   | (with_reducible exact privityref09_Same.mono _ _ _)
   | (with_reducible exact shamir_Constant.mono _ _ _ _ _)
   | (with_reducible exact shamir_Reconstruct.mono _ _ _ _)
   | (with_reducible exact shamir_Shares.mono _ _ _ _)
   | (with_reducible exact LeO.refl _)
   | (with_reducible exact LeO.none _)
   | (with_reducible refine LeO.ite ?_ ?_)
   | (with_reducible refine LeO.bind ?_ (fun _ => ?_))
   | exact privityref05_Same.mono _ _ _
   | exact privityref09_Same.mono _ _ _
   | exact shamir_Constant.mono _ _ _ _ _
   | exact shamir_Reconstruct.mono _ _ _ _
   | exact shamir_Shares.mono _ _ _ _
   | exact LeO.none _
   | refine LeO.ite ?_ ?_
   | refine LeO.bind ?_ (fun _ => ?_)
theorem privitylaw09_awake.more (k : Nat) : ∀ d,LeO (privitylaw09_awake.f k) (privitylaw09_awake.f (k + d))
  | 0 => fun r h => h
  | d + 1 => fun r h => privitylaw09_awake.mono (k + d) r (privitylaw09_awake.more k d r h)
theorem privitylaw09_awake.is : privitylaw09_awake.f 60 = some true := by kernel_rfl
theorem privitylaw09_awake.one (k : Nat) (r : Bool) (h : privitylaw09_awake.f k = some r) : r = true := by
  have h1 := privitylaw09_awake.more k 60 r h
  have h2 := privitylaw09_awake.more 60 k true privitylaw09_awake.is
  rw [Nat.add_comm,h1] at h2
  exact Option.some.inj h2
set_option maxHeartbeats 8000000 in
set_option maxRecDepth 100000 in
theorem privitylaw09_awake.calls (k : Nat)  (r : Bool) (w : World) (h : privitylaw09_awake.f k  = some r) :
  Calls Try.prog 6 #[] w fun e w' => e = .returned (.bool r) ∧ Below w.heap.size w w' := by
 have HR1 := am (privitylaw09_awake.one k r h)
 have hu49 := Try.underlying49
 have hu24 := Try.underlying24
 have HB := am (Below.refl w.heap.size w)
 have H : ((shamir_Reconstruct.f k 31 1 (([(⟨3,8⟩ : S49),(⟨1,6⟩ : S49)] : List (S49)))).bind fun bt300 => ((shamir_FitSecret.f 31 1 (([(⟨1,6⟩ : S49)] : List (S49))) 9).bind fun bt305 => ((shamir_Reconstruct.f k 31 1 (([(⟨1,6⟩ : S49)] : List (S49)))).bind fun bt312 => ((shamir_Reconstruct.f k 31 1 (([(⟨1,6⟩ : S49),(⟨2,7⟩ : S49),(⟨3,9⟩ : S49)] : List (S49)))).bind fun bt317 => ((shamir_Constant.f k 31 4 1 7).bind fun t319 => ((shamir_Shares.f k 31 3 (([5,1] : List Int))).bind fun t325 => ((privityref05_Same.f k t325 (([6,7,8] : List Int))).bind fun t331 => (if t331 = true then (if bt300.1 = 5 then (if bt300.2 = 0 then ((privityref05_Same.f k bt305.1 (([9,28] : List Int))).bind fun t335 => (if t335 = true then (if bt305.2 = 0 then (if bt312.2 = 1 then (if bt317.2 = 9 then ((privityref09_Same.f k t319 (([(([7,0] : List Int)),(([7,0] : List Int)),(([7,0] : List Int)),(([7,0] : List Int))] : List (List Int)))).bind fun t351 => (some t351)) else (some false)) else (some false)) else (some false)) else (some false))) else (some false)) else (some false)) else (some false))))))))) = some r := h
 clear h
 obtain ⟨y297,hy297⟩ : ∃ y_ : List (S49),y_ = (([(⟨3,8⟩ : S49),(⟨1,6⟩ : S49)] : List (S49))) := ⟨_,rfl⟩
 replace H : ((shamir_Reconstruct.f k 31 1 y297).bind fun bt300 => ((shamir_FitSecret.f 31 1 (([(⟨1,6⟩ : S49)] : List (S49))) 9).bind fun bt305 => ((shamir_Reconstruct.f k 31 1 (([(⟨1,6⟩ : S49)] : List (S49)))).bind fun bt312 => ((shamir_Reconstruct.f k 31 1 (([(⟨1,6⟩ : S49),(⟨2,7⟩ : S49),(⟨3,9⟩ : S49)] : List (S49)))).bind fun bt317 => ((shamir_Constant.f k 31 4 1 7).bind fun t319 => ((shamir_Shares.f k 31 3 (([5,1] : List Int))).bind fun t325 => ((privityref05_Same.f k t325 (([6,7,8] : List Int))).bind fun t331 => (if t331 = true then (if bt300.1 = 5 then (if bt300.2 = 0 then ((privityref05_Same.f k bt305.1 (([9,28] : List Int))).bind fun t335 => (if t335 = true then (if bt305.2 = 0 then (if bt312.2 = 1 then (if bt317.2 = 9 then ((privityref09_Same.f k t319 (([(([7,0] : List Int)),(([7,0] : List Int)),(([7,0] : List Int)),(([7,0] : List Int))] : List (List Int)))).bind fun t351 => (some t351)) else (some false)) else (some false)) else (some false)) else (some false))) else (some false)) else (some false)) else (some false))))))))) = some r := by first|(rw [hy297];with_reducible exact H)|(have H2_ := (Option.bind_some _ _).symm.trans H;rw [hy297];with_reducible exact H2_)|(have H2_ := (Option.bind_some _ _).symm.trans H;with_reducible exact H2_)|with_reducible exact H|(rw [hy297];exact H)|exact H
 have Ny297 := am hy297
 clear hy297
 replace H := Option.bind_eq_some_iff.mp H
 obtain ⟨⟨t300,t301⟩,A10,H⟩ := H
 try dsimp only at H
 have A1 := am A10
 clear A10
 obtain ⟨y302,hy302⟩ : ∃ y_ : List (S49),y_ = (([(⟨1,6⟩ : S49)] : List (S49))) := ⟨_,rfl⟩
 replace H : ((shamir_FitSecret.f 31 1 y302 9).bind fun bt305 => ((shamir_Reconstruct.f k 31 1 (([(⟨1,6⟩ : S49)] : List (S49)))).bind fun bt312 => ((shamir_Reconstruct.f k 31 1 (([(⟨1,6⟩ : S49),(⟨2,7⟩ : S49),(⟨3,9⟩ : S49)] : List (S49)))).bind fun bt317 => ((shamir_Constant.f k 31 4 1 7).bind fun t319 => ((shamir_Shares.f k 31 3 (([5,1] : List Int))).bind fun t325 => ((privityref05_Same.f k t325 (([6,7,8] : List Int))).bind fun t331 => (if t331 = true then (if t300 = 5 then (if t301 = 0 then ((privityref05_Same.f k bt305.1 (([9,28] : List Int))).bind fun t335 => (if t335 = true then (if bt305.2 = 0 then (if bt312.2 = 1 then (if bt317.2 = 9 then ((privityref09_Same.f k t319 (([(([7,0] : List Int)),(([7,0] : List Int)),(([7,0] : List Int)),(([7,0] : List Int))] : List (List Int)))).bind fun t351 => (some t351)) else (some false)) else (some false)) else (some false)) else (some false))) else (some false)) else (some false)) else (some false)))))))) = some r := by first|(rw [hy302];with_reducible exact H)|(have H2_ := (Option.bind_some _ _).symm.trans H;rw [hy302];with_reducible exact H2_)|(have H2_ := (Option.bind_some _ _).symm.trans H;with_reducible exact H2_)|with_reducible exact H|(rw [hy302];exact H)|exact H
 have Ny302 := am hy302
 clear hy302
 replace H := Option.bind_eq_some_iff.mp H
 obtain ⟨⟨t305,t306⟩,A20,H⟩ := H
 try dsimp only at H
 have A2 := am A20
 clear A20
 obtain ⟨y309,hy309⟩ : ∃ y_ : List (S49),y_ = (([(⟨1,6⟩ : S49)] : List (S49))) := ⟨_,rfl⟩
 replace H : ((shamir_Reconstruct.f k 31 1 y309).bind fun bt312 => ((shamir_Reconstruct.f k 31 1 (([(⟨1,6⟩ : S49),(⟨2,7⟩ : S49),(⟨3,9⟩ : S49)] : List (S49)))).bind fun bt317 => ((shamir_Constant.f k 31 4 1 7).bind fun t319 => ((shamir_Shares.f k 31 3 (([5,1] : List Int))).bind fun t325 => ((privityref05_Same.f k t325 (([6,7,8] : List Int))).bind fun t331 => (if t331 = true then (if t300 = 5 then (if t301 = 0 then ((privityref05_Same.f k t305 (([9,28] : List Int))).bind fun t335 => (if t335 = true then (if t306 = 0 then (if bt312.2 = 1 then (if bt317.2 = 9 then ((privityref09_Same.f k t319 (([(([7,0] : List Int)),(([7,0] : List Int)),(([7,0] : List Int)),(([7,0] : List Int))] : List (List Int)))).bind fun t351 => (some t351)) else (some false)) else (some false)) else (some false)) else (some false))) else (some false)) else (some false)) else (some false))))))) = some r := by first|(rw [hy309];with_reducible exact H)|(have H2_ := (Option.bind_some _ _).symm.trans H;rw [hy309];with_reducible exact H2_)|(have H2_ := (Option.bind_some _ _).symm.trans H;with_reducible exact H2_)|with_reducible exact H|(rw [hy309];exact H)|exact H
 have Ny309 := am hy309
 clear hy309
 replace H := Option.bind_eq_some_iff.mp H
 obtain ⟨⟨t312,t313⟩,A30,H⟩ := H
 try dsimp only at H
 have A3 := am A30
 clear A30
 obtain ⟨y314,hy314⟩ : ∃ y_ : List (S49),y_ = (([(⟨1,6⟩ : S49),(⟨2,7⟩ : S49),(⟨3,9⟩ : S49)] : List (S49))) := ⟨_,rfl⟩
 replace H : ((shamir_Reconstruct.f k 31 1 y314).bind fun bt317 => ((shamir_Constant.f k 31 4 1 7).bind fun t319 => ((shamir_Shares.f k 31 3 (([5,1] : List Int))).bind fun t325 => ((privityref05_Same.f k t325 (([6,7,8] : List Int))).bind fun t331 => (if t331 = true then (if t300 = 5 then (if t301 = 0 then ((privityref05_Same.f k t305 (([9,28] : List Int))).bind fun t335 => (if t335 = true then (if t306 = 0 then (if t313 = 1 then (if bt317.2 = 9 then ((privityref09_Same.f k t319 (([(([7,0] : List Int)),(([7,0] : List Int)),(([7,0] : List Int)),(([7,0] : List Int))] : List (List Int)))).bind fun t351 => (some t351)) else (some false)) else (some false)) else (some false)) else (some false))) else (some false)) else (some false)) else (some false)))))) = some r := by first|(rw [hy314];with_reducible exact H)|(have H2_ := (Option.bind_some _ _).symm.trans H;rw [hy314];with_reducible exact H2_)|(have H2_ := (Option.bind_some _ _).symm.trans H;with_reducible exact H2_)|with_reducible exact H|(rw [hy314];exact H)|exact H
 have Ny314 := am hy314
 clear hy314
 replace H := Option.bind_eq_some_iff.mp H
 obtain ⟨⟨t317,t318⟩,A40,H⟩ := H
 try dsimp only at H
 have A4 := am A40
 clear A40
 replace H := Option.bind_eq_some_iff.mp H
 obtain ⟨t319,A50,H⟩ := H
 try dsimp only at H
 have A5 := am A50
 clear A50
 obtain ⟨y322,hy322⟩ : ∃ y_ : List Int,y_ = (([5,1] : List Int)) := ⟨_,rfl⟩
 replace H : ((shamir_Shares.f k 31 3 y322).bind fun t325 => ((privityref05_Same.f k t325 (([6,7,8] : List Int))).bind fun t331 => (if t331 = true then (if t300 = 5 then (if t301 = 0 then ((privityref05_Same.f k t305 (([9,28] : List Int))).bind fun t335 => (if t335 = true then (if t306 = 0 then (if t313 = 1 then (if t318 = 9 then ((privityref09_Same.f k t319 (([(([7,0] : List Int)),(([7,0] : List Int)),(([7,0] : List Int)),(([7,0] : List Int))] : List (List Int)))).bind fun t351 => (some t351)) else (some false)) else (some false)) else (some false)) else (some false))) else (some false)) else (some false)) else (some false)))) = some r := by first|(rw [hy322];with_reducible exact H)|(have H2_ := (Option.bind_some _ _).symm.trans H;rw [hy322];with_reducible exact H2_)|(have H2_ := (Option.bind_some _ _).symm.trans H;with_reducible exact H2_)|with_reducible exact H|(rw [hy322];exact H)|exact H
 have Ny322 := am hy322
 clear hy322
 replace H := Option.bind_eq_some_iff.mp H
 obtain ⟨t325,A60,H⟩ := H
 try dsimp only at H
 have A6 := am A60
 clear A60
 obtain ⟨y328,hy328⟩ : ∃ y_ : List Int,y_ = (([6,7,8] : List Int)) := ⟨_,rfl⟩
 replace H : ((privityref05_Same.f k t325 y328).bind fun t331 => (if t331 = true then (if t300 = 5 then (if t301 = 0 then ((privityref05_Same.f k t305 (([9,28] : List Int))).bind fun t335 => (if t335 = true then (if t306 = 0 then (if t313 = 1 then (if t318 = 9 then ((privityref09_Same.f k t319 (([(([7,0] : List Int)),(([7,0] : List Int)),(([7,0] : List Int)),(([7,0] : List Int))] : List (List Int)))).bind fun t351 => (some t351)) else (some false)) else (some false)) else (some false)) else (some false))) else (some false)) else (some false)) else (some false))) = some r := by first|(rw [hy328];with_reducible exact H)|(have H2_ := (Option.bind_some _ _).symm.trans H;rw [hy328];with_reducible exact H2_)|(have H2_ := (Option.bind_some _ _).symm.trans H;with_reducible exact H2_)|with_reducible exact H|(rw [hy328];exact H)|exact H
 have Ny328 := am hy328
 clear hy328
 replace H := Option.bind_eq_some_iff.mp H
 obtain ⟨t331,A70,H⟩ := H
 try dsimp only at H
 have A7 := am A70
 clear A70
 by_cases c8 : t331 = true
 ·subst c8
  rw [if_pos rfl] at H
  by_cases c9 : t300 = 5
  ·rw [if_pos c9] at H
   have c9b0 : (t300 == 5) = true := beq_iff_eq.mpr c9
   have c9b1 : (t300 != 5) = false := bne_eq_false_iff_eq.mpr c9
   clear c9
   by_cases c10 : t301 = 0
   ·rw [if_pos c10] at H
    have c10b0 : (t301 == 0) = true := beq_iff_eq.mpr c10
    have c10b1 : (t301 != 0) = false := bne_eq_false_iff_eq.mpr c10
    clear c10
    obtain ⟨y332,hy332⟩ : ∃ y_ : List Int,y_ = (([9,28] : List Int)) := ⟨_,rfl⟩
    replace H : ((privityref05_Same.f k t305 y332).bind fun t335 => (if t335 = true then (if t306 = 0 then (if t313 = 1 then (if t318 = 9 then ((privityref09_Same.f k t319 (([(([7,0] : List Int)),(([7,0] : List Int)),(([7,0] : List Int)),(([7,0] : List Int))] : List (List Int)))).bind fun t351 => (some t351)) else (some false)) else (some false)) else (some false)) else (some false))) = some r := by first|(rw [hy332];with_reducible exact H)|(have H2_ := (Option.bind_some _ _).symm.trans H;rw [hy332];with_reducible exact H2_)|(have H2_ := (Option.bind_some _ _).symm.trans H;with_reducible exact H2_)|with_reducible exact H|(rw [hy332];exact H)|exact H
    have Ny332 := am hy332
    clear hy332
    replace H := Option.bind_eq_some_iff.mp H
    obtain ⟨t335,A110,H⟩ := H
    try dsimp only at H
    have A11 := am A110
    clear A110
    by_cases c12 : t335 = true
    ·subst c12
     rw [if_pos rfl] at H
     by_cases c13 : t306 = 0
     ·rw [if_pos c13] at H
      have c13b0 : (t306 == 0) = true := beq_iff_eq.mpr c13
      have c13b1 : (t306 != 0) = false := bne_eq_false_iff_eq.mpr c13
      clear c13
      by_cases c14 : t313 = 1
      ·rw [if_pos c14] at H
       have c14b0 : (t313 == 1) = true := beq_iff_eq.mpr c14
       have c14b1 : (t313 != 1) = false := bne_eq_false_iff_eq.mpr c14
       clear c14
       by_cases c15 : t318 = 9
       ·rw [if_pos c15] at H
        have c15b0 : (t318 == 9) = true := beq_iff_eq.mpr c15
        have c15b1 : (t318 != 9) = false := bne_eq_false_iff_eq.mpr c15
        clear c15
        obtain ⟨y336,hy336⟩ : ∃ y_ : List Int,y_ = (([7,0] : List Int)) := ⟨_,rfl⟩
        replace H : ((privityref09_Same.f k t319 (([y336,(([7,0] : List Int)),(([7,0] : List Int)),(([7,0] : List Int))] : List (List Int)))).bind fun t351 => (some t351)) = some r := by first|(rw [hy336];with_reducible exact H)|(have H2_ := (Option.bind_some _ _).symm.trans H;rw [hy336];with_reducible exact H2_)|(have H2_ := (Option.bind_some _ _).symm.trans H;with_reducible exact H2_)|with_reducible exact H|(rw [hy336];exact H)|exact H
        have Ny336 := am hy336
        clear hy336
        obtain ⟨y339,hy339⟩ : ∃ y_ : List Int,y_ = (([7,0] : List Int)) := ⟨_,rfl⟩
        replace H : ((privityref09_Same.f k t319 (([y336,y339,(([7,0] : List Int)),(([7,0] : List Int))] : List (List Int)))).bind fun t351 => (some t351)) = some r := by first|(rw [hy339];with_reducible exact H)|(have H2_ := (Option.bind_some _ _).symm.trans H;rw [hy339];with_reducible exact H2_)|(have H2_ := (Option.bind_some _ _).symm.trans H;with_reducible exact H2_)|with_reducible exact H|(rw [hy339];exact H)|exact H
        have Ny339 := am hy339
        clear hy339
        obtain ⟨y342,hy342⟩ : ∃ y_ : List Int,y_ = (([7,0] : List Int)) := ⟨_,rfl⟩
        replace H : ((privityref09_Same.f k t319 (([y336,y339,y342,(([7,0] : List Int))] : List (List Int)))).bind fun t351 => (some t351)) = some r := by first|(rw [hy342];with_reducible exact H)|(have H2_ := (Option.bind_some _ _).symm.trans H;rw [hy342];with_reducible exact H2_)|(have H2_ := (Option.bind_some _ _).symm.trans H;with_reducible exact H2_)|with_reducible exact H|(rw [hy342];exact H)|exact H
        have Ny342 := am hy342
        clear hy342
        obtain ⟨y345,hy345⟩ : ∃ y_ : List Int,y_ = (([7,0] : List Int)) := ⟨_,rfl⟩
        replace H : ((privityref09_Same.f k t319 (([y336,y339,y342,y345] : List (List Int)))).bind fun t351 => (some t351)) = some r := by first|(rw [hy345];with_reducible exact H)|(have H2_ := (Option.bind_some _ _).symm.trans H;rw [hy345];with_reducible exact H2_)|(have H2_ := (Option.bind_some _ _).symm.trans H;with_reducible exact H2_)|with_reducible exact H|(rw [hy345];exact H)|exact H
        have Ny345 := am hy345
        clear hy345
        obtain ⟨y348,hy348⟩ : ∃ y_ : List (List Int),y_ = (([y336,y339,y342,y345] : List (List Int))) := ⟨_,rfl⟩
        replace H : ((privityref09_Same.f k t319 y348).bind fun t351 => (some t351)) = some r := by first|(rw [hy348];with_reducible exact H)|(have H2_ := (Option.bind_some _ _).symm.trans H;rw [hy348];with_reducible exact H2_)|(have H2_ := (Option.bind_some _ _).symm.trans H;with_reducible exact H2_)|with_reducible exact H|(rw [hy348];exact H)|exact H
        have Ny348 := am hy348
        clear hy348
        replace H := Option.bind_eq_some_iff.mp H
        obtain ⟨t351,A160,H⟩ := H
        try dsimp only at H
        have A16 := am A160
        clear A160
        obtain rfl := Option.some.inj H
        go_enter Try.func6,Try.ntmps6
        go_wp2_with (first|((with_reducible refine gate_dst (N := 13) rfl ?_);(try (refine gate_guard (by rfl) ?_;dsimp only));refine Kd.R_lit k49 _ 49 ?hg (N := 13) ?hd (xs := ([(⟨3,8⟩ : S49),(⟨1,6⟩ : S49)] : List (S49))) (inner := [.int .u64 3,.int .u64 8,.int .u64 1,.int .u64 6]) (ok := fun _ => True) (okp := fun _ => True) ?hr ?hp (fun _ hk => hk) trivial (Below.refl _ _) (Nat.le_refl _) (by simp) ?_;(case hd => rfl);(case hg => rfl);(case hr => first|(go_simp;done)|(go_simp;rfl));(case hp => exact (Reps.c2 (show Kd.M k49 _ _ _ (⟨3,8⟩ : S49) [.int .u64 3,.int .u64 8] from (k49_mkM _ _ _ (⟨3,8⟩ : S49) )) (Reps.c2 (show Kd.M k49 _ _ _ (⟨1,6⟩ : S49) [.int .u64 1,.int .u64 6] from (k49_mkM _ _ _ (⟨1,6⟩ : S49) )) (Reps.none _ _))));intro v298 w17 ho18 hb hg_ hnew_;clear hg_ hnew_;(first|rw [← Ny297.out] at ho18|(simp only [Int.reduceToNat] at ho18;rw [← Ny297.out] at ho18));have n0_ := am (Kd.R_lower ho18 (below_size (bb HB)));have n1_ := am (below_step (bb HB) hb);clear HB;have HO299 := n0_;have HB := n1_;clear n0_ n1_;clear hb ho18;obtain ⟨Ao19,co19,eo19⟩ := Kd.R_slice HO299.out;subst eo19)|((with_reducible refine gate_callee (f := 24) rfl ?_);refine goesL_ (some 14) rfl rfl Try.func24 (by kernel_rfl) rfl #[.int .u64 31,.int .i64 1,.slice Ao19 y297.length co19] rfl (by (try simp only [List.map_toArray,List.map_cons,List.map_nil]);first|done|rfl|(simp only [List.length_drop,List.length_take];rfl)) ?_;(with_reducible refine (shamir_Reconstruct.calls k 31 1 _ _ y297 t300 t301 _ ?side1 ?side2 A1.out).mono ?_);(case side1 => exact cr HO299);(case side2 => exact (Kd.R_reads' HO299.out).2.1);rintro e w20 ⟨rfl,hb⟩;refine ⟨_,rfl,?_⟩;have n0_ := am (Kd.R_below (rr HO299) hb);have n1_ := am (below_step (bb HB) hb);clear HO299 HB;have HO299 := n0_;have HB := n1_;clear n0_ n1_;(try clear hb);(try clear hb2);(try clear hk);(try clear hi))|((with_reducible refine gate_dst (N := 19) rfl ?_);(try (refine gate_guard (by rfl) ?_;dsimp only));refine Kd.R_lit k49 _ 49 ?hg (N := 19) ?hd (xs := ([(⟨1,6⟩ : S49)] : List (S49))) (inner := [.int .u64 1,.int .u64 6]) (ok := fun _ => True) (okp := fun _ => True) ?hr ?hp (fun _ hk => hk) trivial (Below.refl _ _) (Nat.le_refl _) (by simp) ?_;(case hd => rfl);(case hg => rfl);(case hr => first|(go_simp;done)|(go_simp;rfl));(case hp => exact (Reps.c2 (show Kd.M k49 _ _ _ (⟨1,6⟩ : S49) [.int .u64 1,.int .u64 6] from (k49_mkM _ _ _ (⟨1,6⟩ : S49) )) (Reps.none _ _)));intro v303 w21 ho22 hb hg_ hnew_;clear hg_ hnew_;(first|rw [← Ny302.out] at ho22|(simp only [Int.reduceToNat] at ho22;rw [← Ny302.out] at ho22));have n0_ := am (Kd.R_elder' (rr HO299) (Kd.R_base ho22) hb);have n1_ := am (Kd.R_lower (Kd.R_new' ho22 (Kd.R_lt (rr HO299))) (below_size (bb HB)));have n2_ := am (below_step (bb HB) hb);clear HO299 HB;have HO299 := n0_;have HO304 := n1_;have HB := n2_;clear n0_ n1_ n2_;clear hb ho22;obtain ⟨Ao23,co23,eo23⟩ := Kd.R_slice HO304.out;subst eo23)|((with_reducible refine gate_callee (f := 29) rfl ?_);refine goesL_ (some 20) rfl rfl Try.func29 (by kernel_rfl) rfl #[.int .u64 31,.int .i64 1,.slice Ao23 y302.length co23,.int .u64 9] rfl (by (try simp only [List.map_toArray,List.map_cons,List.map_nil]);first|done|rfl|(simp only [List.length_drop,List.length_take];rfl)) ?_;(with_reducible refine (shamir_FitSecret.calls 31 1 _ _ y302 9 t305 t306 _ ?side1 ?side2 A2.out).mono ?_);(case side1 => exact cr HO304);(case side2 => exact (Kd.R_reads' HO304.out).2.1);rintro e w24 ⟨v307,rfl,ho0,hb⟩;refine ⟨_,rfl,?_⟩;have n0_ := am (Kd.R_below (rr HO299) hb);have n1_ := am (Kd.R_below (rr HO304) hb);have n2_ := am (Kd.R_lower ho0 (below_size (bb HB)));have n3_ := am (below_step (bb HB) hb);clear HO299 HO304 HB;have HO299 := n0_;have HO304 := n1_;have HO308 := n2_;have HB := n3_;clear n0_ n1_ n2_ n3_;(try clear hb);(try clear hb2);(try clear hk);(try clear hi);(try clear ho0))|((with_reducible refine gate_dst (N := 25) rfl ?_);(try (refine gate_guard (by rfl) ?_;dsimp only));refine Kd.R_lit k49 _ 49 ?hg (N := 25) ?hd (xs := ([(⟨1,6⟩ : S49)] : List (S49))) (inner := [.int .u64 1,.int .u64 6]) (ok := fun _ => True) (okp := fun _ => True) ?hr ?hp (fun _ hk => hk) trivial (Below.refl _ _) (Nat.le_refl _) (by simp) ?_;(case hd => rfl);(case hg => rfl);(case hr => first|(go_simp;done)|(go_simp;rfl));(case hp => exact (Reps.c2 (show Kd.M k49 _ _ _ (⟨1,6⟩ : S49) [.int .u64 1,.int .u64 6] from (k49_mkM _ _ _ (⟨1,6⟩ : S49) )) (Reps.none _ _)));intro v310 w25 ho26 hb hg_ hnew_;clear hg_ hnew_;(first|rw [← Ny309.out] at ho26|(simp only [Int.reduceToNat] at ho26;rw [← Ny309.out] at ho26));have n0_ := am (Kd.R_elder' (rr HO299) (Kd.R_base ho26) hb);have n1_ := am (Kd.R_elder' (rr HO304) (Kd.R_base ho26) hb);have n2_ := am (Kd.R_below (rr HO308) hb);have n3_ := am (Kd.R_lower (Kd.R_new' (Kd.R_new' ho26 (Kd.R_lt (rr HO299))) (Kd.R_lt (rr HO304))) (below_size (bb HB)));have n4_ := am (below_step (bb HB) hb);clear HO299 HO304 HO308 HB;have HO299 := n0_;have HO304 := n1_;have HO308 := n2_;have HO311 := n3_;have HB := n4_;clear n0_ n1_ n2_ n3_ n4_;clear hb ho26;obtain ⟨Ao27,co27,eo27⟩ := Kd.R_slice HO311.out;subst eo27)|((with_reducible refine gate_callee (f := 24) rfl ?_);refine goesL_ (some 26) rfl rfl Try.func24 (by kernel_rfl) rfl #[.int .u64 31,.int .i64 1,.slice Ao27 y309.length co27] rfl (by (try simp only [List.map_toArray,List.map_cons,List.map_nil]);first|done|rfl|(simp only [List.length_drop,List.length_take];rfl)) ?_;(with_reducible refine (shamir_Reconstruct.calls k 31 1 _ _ y309 t312 t313 _ ?side1 ?side2 A3.out).mono ?_);(case side1 => exact cr HO311);(case side2 => exact (Kd.R_reads' HO311.out).2.1);rintro e w28 ⟨rfl,hb⟩;refine ⟨_,rfl,?_⟩;have n0_ := am (Kd.R_below (rr HO299) hb);have n1_ := am (Kd.R_below (rr HO304) hb);have n2_ := am (Kd.R_below (rr HO308) hb);have n3_ := am (Kd.R_below (rr HO311) hb);have n4_ := am (below_step (bb HB) hb);clear HO299 HO304 HO308 HO311 HB;have HO299 := n0_;have HO304 := n1_;have HO308 := n2_;have HO311 := n3_;have HB := n4_;clear n0_ n1_ n2_ n3_ n4_;(try clear hb);(try clear hb2);(try clear hk);(try clear hi))|((with_reducible refine gate_dst (N := 33) rfl ?_);(try (refine gate_guard (by rfl) ?_;dsimp only));refine Kd.R_lit k49 _ 49 ?hg (N := 33) ?hd (xs := ([(⟨1,6⟩ : S49),(⟨2,7⟩ : S49),(⟨3,9⟩ : S49)] : List (S49))) (inner := [.int .u64 1,.int .u64 6,.int .u64 2,.int .u64 7,.int .u64 3,.int .u64 9]) (ok := fun _ => True) (okp := fun _ => True) ?hr ?hp (fun _ hk => hk) trivial (Below.refl _ _) (Nat.le_refl _) (by simp) ?_;(case hd => rfl);(case hg => rfl);(case hr => first|(go_simp;done)|(go_simp;rfl));(case hp => exact (Reps.c2 (show Kd.M k49 _ _ _ (⟨1,6⟩ : S49) [.int .u64 1,.int .u64 6] from (k49_mkM _ _ _ (⟨1,6⟩ : S49) )) (Reps.c2 (show Kd.M k49 _ _ _ (⟨2,7⟩ : S49) [.int .u64 2,.int .u64 7] from (k49_mkM _ _ _ (⟨2,7⟩ : S49) )) (Reps.c2 (show Kd.M k49 _ _ _ (⟨3,9⟩ : S49) [.int .u64 3,.int .u64 9] from (k49_mkM _ _ _ (⟨3,9⟩ : S49) )) (Reps.none _ _)))));intro v315 w29 ho30 hb hg_ hnew_;clear hg_ hnew_;(first|rw [← Ny314.out] at ho30|(simp only [Int.reduceToNat] at ho30;rw [← Ny314.out] at ho30));have n0_ := am (Kd.R_elder' (rr HO299) (Kd.R_base ho30) hb);have n1_ := am (Kd.R_elder' (rr HO304) (Kd.R_base ho30) hb);have n2_ := am (Kd.R_below (rr HO308) hb);have n3_ := am (Kd.R_elder' (rr HO311) (Kd.R_base ho30) hb);have n4_ := am (Kd.R_lower (Kd.R_new' (Kd.R_new' (Kd.R_new' ho30 (Kd.R_lt (rr HO299))) (Kd.R_lt (rr HO304))) (Kd.R_lt (rr HO311))) (below_size (bb HB)));have n5_ := am (below_step (bb HB) hb);clear HO299 HO304 HO308 HO311 HB;have HO299 := n0_;have HO304 := n1_;have HO308 := n2_;have HO311 := n3_;have HO316 := n4_;have HB := n5_;clear n0_ n1_ n2_ n3_ n4_ n5_;clear hb ho30;obtain ⟨Ao31,co31,eo31⟩ := Kd.R_slice HO316.out;subst eo31)|((with_reducible refine gate_callee (f := 24) rfl ?_);refine goesL_ (some 34) rfl rfl Try.func24 (by kernel_rfl) rfl #[.int .u64 31,.int .i64 1,.slice Ao31 y314.length co31] rfl (by (try simp only [List.map_toArray,List.map_cons,List.map_nil]);first|done|rfl|(simp only [List.length_drop,List.length_take];rfl)) ?_;(with_reducible refine (shamir_Reconstruct.calls k 31 1 _ _ y314 t317 t318 _ ?side1 ?side2 A4.out).mono ?_);(case side1 => exact cr HO316);(case side2 => exact (Kd.R_reads' HO316.out).2.1);rintro e w32 ⟨rfl,hb⟩;refine ⟨_,rfl,?_⟩;have n0_ := am (Kd.R_below (rr HO299) hb);have n1_ := am (Kd.R_below (rr HO304) hb);have n2_ := am (Kd.R_below (rr HO308) hb);have n3_ := am (Kd.R_below (rr HO311) hb);have n4_ := am (Kd.R_below (rr HO316) hb);have n5_ := am (below_step (bb HB) hb);clear HO299 HO304 HO308 HO311 HO316 HB;have HO299 := n0_;have HO304 := n1_;have HO308 := n2_;have HO311 := n3_;have HO316 := n4_;have HB := n5_;clear n0_ n1_ n2_ n3_ n4_ n5_;(try clear hb);(try clear hb2);(try clear hk);(try clear hi))|((with_reducible refine gate_callee (f := 17) rfl ?_);refine goesL_ (some 38) rfl rfl Try.func17 (by kernel_rfl) rfl #[.agg #[.int .u64 31,.int .i64 4,.int .i64 1],.int .u64 7] rfl (by (try simp only [List.map_toArray,List.map_cons,List.map_nil]);first|done|rfl|(simp only [List.length_drop,List.length_take];rfl)) ?_;(with_reducible refine (shamir_Constant.calls k 31 4 1 7 t319 _ A5.out).mono ?_);rintro e w33 ⟨v320,rfl,ho0,hb⟩;refine ⟨_,rfl,?_⟩;have n0_ := am (Kd.R_below (rr HO299) hb);have n1_ := am (Kd.R_below (rr HO304) hb);have n2_ := am (Kd.R_below (rr HO308) hb);have n3_ := am (Kd.R_below (rr HO311) hb);have n4_ := am (Kd.R_below (rr HO316) hb);have n5_ := am (Kd.N_lower (Kd.N_mono (ok' := fun k_ => some k_ ≠ (.slice Ao19 y297.length co19 : Value).ownBlock ∧ some k_ ≠ (.slice Ao23 y302.length co23 : Value).ownBlock ∧ some k_ ≠ (v307 : Value).ownBlock ∧ some k_ ≠ (.slice Ao27 y309.length co27 : Value).ownBlock ∧ some k_ ≠ (.slice Ao31 y314.length co31 : Value).ownBlock) (Kd.S_N (Kd.S_bound ho0)) (fun k_ hk_ => ⟨(Kd.fresh' (Kd.R_lt (rr HO299)) k_ hk_.2.1),(Kd.fresh' (Kd.R_lt (rr HO304)) k_ hk_.2.1),(Kd.fresh' (Kd.R_lt (rr HO308)) k_ hk_.2.1),(Kd.fresh' (Kd.R_lt (rr HO311)) k_ hk_.2.1),(Kd.fresh' (Kd.R_lt (rr HO316)) k_ hk_.2.1)⟩)) (below_size (bb HB)));have n6_ := am (below_step (bb HB) hb);clear HO299 HO304 HO308 HO311 HO316 HB;have HO299 := n0_;have HO304 := n1_;have HO308 := n2_;have HO311 := n3_;have HO316 := n4_;have HO321 := n5_;have HB := n6_;clear n0_ n1_ n2_ n3_ n4_ n5_ n6_;(try clear hb);(try clear hb2);(try clear hk);(try clear hi);(try clear ho0))|((with_reducible refine gate_dst (N := 39) rfl ?_);(try (refine gate_guard (by rfl) ?_;dsimp only));refine Kd.R_lit (Kd.int .u64) _ 22 ?hg (N := 39) ?hd (xs := ([5,1] : List Int)) (inner := [.int .u64 5,.int .u64 1]) (ok := fun _ => True) (okp := fun _ => True) ?hr ?hp (fun _ hk => hk) trivial (Below.refl _ _) (Nat.le_refl _) (by simp) ?_;(case hd => rfl);(case hg => rfl);(case hr => first|(go_simp;done)|(go_simp;rfl));(case hp => exact (Reps.one (show Kd.M (Kd.int .u64) _ _ _ 5 [.int .u64 5] from rfl) (Reps.one (show Kd.M (Kd.int .u64) _ _ _ 1 [.int .u64 1] from rfl) (Reps.none _ _))));intro v323 w34 ho35 hb hg_ hnew_;clear hg_ hnew_;(first|rw [← Ny322.out] at ho35|(simp only [Int.reduceToNat] at ho35;rw [← Ny322.out] at ho35));have n0_ := am (Kd.R_below (rr HO299) hb);have n1_ := am (Kd.R_below (rr HO304) hb);have n2_ := am (Kd.R_elder' (rr HO308) (Kd.R_base ho35) hb);have n3_ := am (Kd.R_below (rr HO311) hb);have n4_ := am (Kd.R_below (rr HO316) hb);have n5_ := am (Kd.N_elder' (rn HO321) (Kd.R_base ho35) hb);have n6_ := am (Kd.R_lower (Kd.R_new' ho35 (Kd.R_lt (rr HO308))) (below_size (bb HB)));have n7_ := am (below_step (bb HB) hb);clear HO299 HO304 HO308 HO311 HO316 HO321 HB;have HO299 := n0_;have HO304 := n1_;have HO308 := n2_;have HO311 := n3_;have HO316 := n4_;have HO321 := n5_;have HO324 := n6_;have HB := n7_;clear n0_ n1_ n2_ n3_ n4_ n5_ n6_ n7_;clear hb ho35;obtain ⟨Ao36,co36,eo36⟩ := Kd.R_slice HO324.out;subst eo36)|((with_reducible refine gate_callee (f := 23) rfl ?_);refine goesL_ (some 40) rfl rfl Try.func23 (by kernel_rfl) rfl #[.int .u64 31,.int .i64 3,.slice Ao36 y322.length co36] rfl (by (try simp only [List.map_toArray,List.map_cons,List.map_nil]);first|done|rfl|(simp only [List.length_drop,List.length_take];rfl)) ?_;(with_reducible refine (shamir_Shares.calls k 31 3 _ _ y322 t325 _ ?side1 ?side2 A6.out).mono ?_);(case side1 => exact cr HO324);(case side2 => exact (Kd.R_reads' HO324.out).2.1);rintro e w37 ⟨v326,rfl,ho0,hb⟩;refine ⟨_,rfl,?_⟩;have n0_ := am (Kd.R_below (rr HO299) hb);have n1_ := am (Kd.R_below (rr HO304) hb);have n2_ := am (Kd.R_elder' (rr HO308) (Kd.R_base ho0) hb);have n3_ := am (Kd.R_below (rr HO311) hb);have n4_ := am (Kd.R_below (rr HO316) hb);have n5_ := am (Kd.N_elder' (rn HO321) (Kd.R_base ho0) hb);have n6_ := am (Kd.R_elder' (rr HO324) (Kd.R_base ho0) hb);have n7_ := am (Kd.R_lower (Kd.R_new' (Kd.R_new' ho0 (Kd.R_lt (rr HO308))) (Kd.R_lt (rr HO324))) (below_size (bb HB)));have n8_ := am (below_step (bb HB) hb);clear HO299 HO304 HO308 HO311 HO316 HO321 HO324 HB;have HO299 := n0_;have HO304 := n1_;have HO308 := n2_;have HO311 := n3_;have HO316 := n4_;have HO321 := n5_;have HO324 := n6_;have HO327 := n7_;have HB := n8_;clear n0_ n1_ n2_ n3_ n4_ n5_ n6_ n7_ n8_;(try clear hb);(try clear hb2);(try clear hk);(try clear hi);(try clear ho0))|((with_reducible refine gate_dst (N := 41) rfl ?_);(try (refine gate_guard (by rfl) ?_;dsimp only));refine Kd.R_lit (Kd.int .u64) _ 22 ?hg (N := 41) ?hd (xs := ([6,7,8] : List Int)) (inner := [.int .u64 6,.int .u64 7,.int .u64 8]) (ok := fun _ => True) (okp := fun _ => True) ?hr ?hp (fun _ hk => hk) trivial (Below.refl _ _) (Nat.le_refl _) (by simp) ?_;(case hd => rfl);(case hg => rfl);(case hr => first|(go_simp;done)|(go_simp;rfl));(case hp => exact (Reps.one (show Kd.M (Kd.int .u64) _ _ _ 6 [.int .u64 6] from rfl) (Reps.one (show Kd.M (Kd.int .u64) _ _ _ 7 [.int .u64 7] from rfl) (Reps.one (show Kd.M (Kd.int .u64) _ _ _ 8 [.int .u64 8] from rfl) (Reps.none _ _)))));intro v329 w38 ho39 hb hg_ hnew_;clear hg_ hnew_;(first|rw [← Ny328.out] at ho39|(simp only [Int.reduceToNat] at ho39;rw [← Ny328.out] at ho39));have n0_ := am (Kd.R_below (rr HO299) hb);have n1_ := am (Kd.R_below (rr HO304) hb);have n2_ := am (Kd.R_elder' (rr HO308) (Kd.R_base ho39) hb);have n3_ := am (Kd.R_below (rr HO311) hb);have n4_ := am (Kd.R_below (rr HO316) hb);have n5_ := am (Kd.N_elder' (rn HO321) (Kd.R_base ho39) hb);have n6_ := am (Kd.R_elder' (rr HO324) (Kd.R_base ho39) hb);have n7_ := am (Kd.R_elder' (rr HO327) (Kd.R_base ho39) hb);have n8_ := am (Kd.R_lower (Kd.R_new' (Kd.R_new' (Kd.R_new' ho39 (Kd.R_lt (rr HO308))) (Kd.R_lt (rr HO324))) (Kd.R_lt (rr HO327))) (below_size (bb HB)));have n9_ := am (below_step (bb HB) hb);clear HO299 HO304 HO308 HO311 HO316 HO321 HO324 HO327 HB;have HO299 := n0_;have HO304 := n1_;have HO308 := n2_;have HO311 := n3_;have HO316 := n4_;have HO321 := n5_;have HO324 := n6_;have HO327 := n7_;have HO330 := n8_;have HB := n9_;clear n0_ n1_ n2_ n3_ n4_ n5_ n6_ n7_ n8_ n9_;clear hb ho39;obtain ⟨Ao40,co40,eo40⟩ := Kd.R_slice HO327.out;subst eo40;obtain ⟨Ao41,co41,eo41⟩ := Kd.R_slice HO330.out;subst eo41)|((with_reducible refine gate_callee (f := 31) rfl ?_);refine goesL_ (some 42) rfl rfl Try.func31 (by kernel_rfl) rfl #[.slice Ao40 t325.length co40,.slice Ao41 y328.length co41] rfl (by (try simp only [List.map_toArray,List.map_cons,List.map_nil]);first|done|rfl|(simp only [List.length_drop,List.length_take];rfl)) ?_;(with_reducible refine (privityref05_Same.calls k _ _ t325 _ _ y328 true _ ?side1 ?side2 ?side3 ?side4 A7.out).mono ?_);(case side1 => exact cr HO327);(case side2 => exact (Kd.R_reads' HO327.out).2.1);(case side3 => exact cr HO330);(case side4 => exact (Kd.R_reads' HO330.out).2.1);rintro e w' ⟨rfl,⟨nd,rfl⟩⟩;refine ⟨_,rfl,?_⟩)|((with_reducible refine gate_dst (N := 53) rfl ?_);(try (refine gate_guard (by rfl) ?_;dsimp only));refine Kd.R_lit (Kd.int .u64) _ 22 ?hg (N := 53) ?hd (xs := ([9,28] : List Int)) (inner := [.int .u64 9,.int .u64 28]) (ok := fun _ => True) (okp := fun _ => True) ?hr ?hp (fun _ hk => hk) trivial (Below.refl _ _) (Nat.le_refl _) (by simp) ?_;(case hd => rfl);(case hg => rfl);(case hr => first|(go_simp;done)|(go_simp;rfl));(case hp => exact (Reps.one (show Kd.M (Kd.int .u64) _ _ _ 9 [.int .u64 9] from rfl) (Reps.one (show Kd.M (Kd.int .u64) _ _ _ 28 [.int .u64 28] from rfl) (Reps.none _ _))));intro v333 w42 ho43 hb hg_ hnew_;clear hg_ hnew_;(first|rw [← Ny332.out] at ho43|(simp only [Int.reduceToNat] at ho43;rw [← Ny332.out] at ho43));have n0_ := am (Kd.R_below (rr HO299) hb);have n1_ := am (Kd.R_below (rr HO304) hb);have n2_ := am (Kd.R_elder' (rr HO308) (Kd.R_base ho43) hb);have n3_ := am (Kd.R_below (rr HO311) hb);have n4_ := am (Kd.R_below (rr HO316) hb);have n5_ := am (Kd.N_elder' (rn HO321) (Kd.R_base ho43) hb);have n6_ := am (Kd.R_elder' (rr HO324) (Kd.R_base ho43) hb);have n7_ := am (Kd.R_elder' (rr HO327) (Kd.R_base ho43) hb);have n8_ := am (Kd.R_elder' (rr HO330) (Kd.R_base ho43) hb);have n9_ := am (Kd.R_lower (Kd.R_new' (Kd.R_new' (Kd.R_new' (Kd.R_new' ho43 (Kd.R_lt (rr HO308))) (Kd.R_lt (rr HO324))) (Kd.R_lt (rr HO327))) (Kd.R_lt (rr HO330))) (below_size (bb HB)));have n10_ := am (below_step (bb HB) hb);clear HO299 HO304 HO308 HO311 HO316 HO321 HO324 HO327 HO330 HB;have HO299 := n0_;have HO304 := n1_;have HO308 := n2_;have HO311 := n3_;have HO316 := n4_;have HO321 := n5_;have HO324 := n6_;have HO327 := n7_;have HO330 := n8_;have HO334 := n9_;have HB := n10_;clear n0_ n1_ n2_ n3_ n4_ n5_ n6_ n7_ n8_ n9_ n10_;clear hb ho43;obtain ⟨Ao44,co44,eo44⟩ := Kd.R_slice HO308.out;subst eo44;obtain ⟨Ao45,co45,eo45⟩ := Kd.R_slice HO334.out;subst eo45)|(go_at_call 31;(with_reducible refine (privityref05_Same.calls k _ _ t305 _ _ y332 true _ ?side1 ?side2 ?side3 ?side4 A11.out).mono ?_);(case side1 => exact cr HO308);(case side2 => exact (Kd.R_reads' HO308.out).2.1);(case side3 => exact cr HO334);(case side4 => exact (Kd.R_reads' HO334.out).2.1);rintro e w' ⟨rfl,⟨nd,rfl⟩⟩)|((with_reducible refine gate_dst (N := 70) rfl ?_);(try (refine gate_guard (by rfl) ?_;dsimp only));refine Kd.R_lit (Kd.int .u64) _ 22 ?hg (N := 70) ?hd (xs := ([7,0] : List Int)) (inner := [.int .u64 7,.int .u64 0]) (ok := fun _ => True) (okp := fun _ => True) ?hr ?hp (fun _ hk => hk) trivial (Below.refl _ _) (Nat.le_refl _) (by simp) ?_;(case hd => rfl);(case hg => rfl);(case hr => first|(go_simp;done)|(go_simp;rfl));(case hp => exact (Reps.one (show Kd.M (Kd.int .u64) _ _ _ 7 [.int .u64 7] from rfl) (Reps.one (show Kd.M (Kd.int .u64) _ _ _ 0 [.int .u64 0] from rfl) (Reps.none _ _))));intro v337 w46 ho47 hb hg_ hnew_;clear hg_ hnew_;(first|rw [← Ny336.out] at ho47|(simp only [Int.reduceToNat] at ho47;rw [← Ny336.out] at ho47));have n0_ := am (Kd.R_below (rr HO299) hb);have n1_ := am (Kd.R_below (rr HO304) hb);have n2_ := am (Kd.R_elder' (rr HO308) (Kd.R_base ho47) hb);have n3_ := am (Kd.R_below (rr HO311) hb);have n4_ := am (Kd.R_below (rr HO316) hb);have n5_ := am (Kd.N_elder' (rn HO321) (Kd.R_base ho47) hb);have n6_ := am (Kd.R_elder' (rr HO324) (Kd.R_base ho47) hb);have n7_ := am (Kd.R_elder' (rr HO327) (Kd.R_base ho47) hb);have n8_ := am (Kd.R_elder' (rr HO330) (Kd.R_base ho47) hb);have n9_ := am (Kd.R_elder' (rr HO334) (Kd.R_base ho47) hb);have n10_ := am (Kd.R_lower (Kd.R_new' (Kd.R_new' (Kd.R_new' (Kd.R_new' (Kd.R_new' ho47 (Kd.R_lt (rr HO308))) (Kd.R_lt (rr HO324))) (Kd.R_lt (rr HO327))) (Kd.R_lt (rr HO330))) (Kd.R_lt (rr HO334))) (below_size (bb HB)));have n11_ := am (below_step (bb HB) hb);clear HO299 HO304 HO308 HO311 HO316 HO321 HO324 HO327 HO330 HO334 HB;have HO299 := n0_;have HO304 := n1_;have HO308 := n2_;have HO311 := n3_;have HO316 := n4_;have HO321 := n5_;have HO324 := n6_;have HO327 := n7_;have HO330 := n8_;have HO334 := n9_;have HO338 := n10_;have HB := n11_;clear n0_ n1_ n2_ n3_ n4_ n5_ n6_ n7_ n8_ n9_ n10_ n11_;clear hb ho47)|((with_reducible refine gate_dst (N := 71) rfl ?_);(try (refine gate_guard (by rfl) ?_;dsimp only));refine Kd.R_lit (Kd.int .u64) _ 22 ?hg (N := 71) ?hd (xs := ([7,0] : List Int)) (inner := [.int .u64 7,.int .u64 0]) (ok := fun _ => True) (okp := fun _ => True) ?hr ?hp (fun _ hk => hk) trivial (Below.refl _ _) (Nat.le_refl _) (by simp) ?_;(case hd => rfl);(case hg => rfl);(case hr => first|(go_simp;done)|(go_simp;rfl));(case hp => exact (Reps.one (show Kd.M (Kd.int .u64) _ _ _ 7 [.int .u64 7] from rfl) (Reps.one (show Kd.M (Kd.int .u64) _ _ _ 0 [.int .u64 0] from rfl) (Reps.none _ _))));intro v340 w48 ho49 hb hg_ hnew_;clear hg_ hnew_;(first|rw [← Ny339.out] at ho49|(simp only [Int.reduceToNat] at ho49;rw [← Ny339.out] at ho49));have n0_ := am (Kd.R_below (rr HO299) hb);have n1_ := am (Kd.R_below (rr HO304) hb);have n2_ := am (Kd.R_elder' (rr HO308) (Kd.R_base ho49) hb);have n3_ := am (Kd.R_below (rr HO311) hb);have n4_ := am (Kd.R_below (rr HO316) hb);have n5_ := am (Kd.N_elder' (rn HO321) (Kd.R_base ho49) hb);have n6_ := am (Kd.R_elder' (rr HO324) (Kd.R_base ho49) hb);have n7_ := am (Kd.R_elder' (rr HO327) (Kd.R_base ho49) hb);have n8_ := am (Kd.R_elder' (rr HO330) (Kd.R_base ho49) hb);have n9_ := am (Kd.R_elder' (rr HO334) (Kd.R_base ho49) hb);have n10_ := am (Kd.R_elder' (rr HO338) (Kd.R_base ho49) hb);have n11_ := am (Kd.R_lower (Kd.R_new' (Kd.R_new' (Kd.R_new' (Kd.R_new' (Kd.R_new' (Kd.R_new' ho49 (Kd.R_lt (rr HO308))) (Kd.R_lt (rr HO324))) (Kd.R_lt (rr HO327))) (Kd.R_lt (rr HO330))) (Kd.R_lt (rr HO334))) (Kd.R_lt (rr HO338))) (below_size (bb HB)));have n12_ := am (below_step (bb HB) hb);clear HO299 HO304 HO308 HO311 HO316 HO321 HO324 HO327 HO330 HO334 HO338 HB;have HO299 := n0_;have HO304 := n1_;have HO308 := n2_;have HO311 := n3_;have HO316 := n4_;have HO321 := n5_;have HO324 := n6_;have HO327 := n7_;have HO330 := n8_;have HO334 := n9_;have HO338 := n10_;have HO341 := n11_;have HB := n12_;clear n0_ n1_ n2_ n3_ n4_ n5_ n6_ n7_ n8_ n9_ n10_ n11_ n12_;clear hb ho49)|((with_reducible refine gate_dst (N := 72) rfl ?_);(try (refine gate_guard (by rfl) ?_;dsimp only));refine Kd.R_lit (Kd.int .u64) _ 22 ?hg (N := 72) ?hd (xs := ([7,0] : List Int)) (inner := [.int .u64 7,.int .u64 0]) (ok := fun _ => True) (okp := fun _ => True) ?hr ?hp (fun _ hk => hk) trivial (Below.refl _ _) (Nat.le_refl _) (by simp) ?_;(case hd => rfl);(case hg => rfl);(case hr => first|(go_simp;done)|(go_simp;rfl));(case hp => exact (Reps.one (show Kd.M (Kd.int .u64) _ _ _ 7 [.int .u64 7] from rfl) (Reps.one (show Kd.M (Kd.int .u64) _ _ _ 0 [.int .u64 0] from rfl) (Reps.none _ _))));intro v343 w50 ho51 hb hg_ hnew_;clear hg_ hnew_;(first|rw [← Ny342.out] at ho51|(simp only [Int.reduceToNat] at ho51;rw [← Ny342.out] at ho51));have n0_ := am (Kd.R_below (rr HO299) hb);have n1_ := am (Kd.R_below (rr HO304) hb);have n2_ := am (Kd.R_elder' (rr HO308) (Kd.R_base ho51) hb);have n3_ := am (Kd.R_below (rr HO311) hb);have n4_ := am (Kd.R_below (rr HO316) hb);have n5_ := am (Kd.N_elder' (rn HO321) (Kd.R_base ho51) hb);have n6_ := am (Kd.R_elder' (rr HO324) (Kd.R_base ho51) hb);have n7_ := am (Kd.R_elder' (rr HO327) (Kd.R_base ho51) hb);have n8_ := am (Kd.R_elder' (rr HO330) (Kd.R_base ho51) hb);have n9_ := am (Kd.R_elder' (rr HO334) (Kd.R_base ho51) hb);have n10_ := am (Kd.R_elder' (rr HO338) (Kd.R_base ho51) hb);have n11_ := am (Kd.R_elder' (rr HO341) (Kd.R_base ho51) hb);have n12_ := am (Kd.R_lower (Kd.R_new' (Kd.R_new' (Kd.R_new' (Kd.R_new' (Kd.R_new' (Kd.R_new' (Kd.R_new' ho51 (Kd.R_lt (rr HO308))) (Kd.R_lt (rr HO324))) (Kd.R_lt (rr HO327))) (Kd.R_lt (rr HO330))) (Kd.R_lt (rr HO334))) (Kd.R_lt (rr HO338))) (Kd.R_lt (rr HO341))) (below_size (bb HB)));have n13_ := am (below_step (bb HB) hb);clear HO299 HO304 HO308 HO311 HO316 HO321 HO324 HO327 HO330 HO334 HO338 HO341 HB;have HO299 := n0_;have HO304 := n1_;have HO308 := n2_;have HO311 := n3_;have HO316 := n4_;have HO321 := n5_;have HO324 := n6_;have HO327 := n7_;have HO330 := n8_;have HO334 := n9_;have HO338 := n10_;have HO341 := n11_;have HO344 := n12_;have HB := n13_;clear n0_ n1_ n2_ n3_ n4_ n5_ n6_ n7_ n8_ n9_ n10_ n11_ n12_ n13_;clear hb ho51)|((with_reducible refine gate_dst (N := 73) rfl ?_);(try (refine gate_guard (by rfl) ?_;dsimp only));refine Kd.R_lit (Kd.int .u64) _ 22 ?hg (N := 73) ?hd (xs := ([7,0] : List Int)) (inner := [.int .u64 7,.int .u64 0]) (ok := fun _ => True) (okp := fun _ => True) ?hr ?hp (fun _ hk => hk) trivial (Below.refl _ _) (Nat.le_refl _) (by simp) ?_;(case hd => rfl);(case hg => rfl);(case hr => first|(go_simp;done)|(go_simp;rfl));(case hp => exact (Reps.one (show Kd.M (Kd.int .u64) _ _ _ 7 [.int .u64 7] from rfl) (Reps.one (show Kd.M (Kd.int .u64) _ _ _ 0 [.int .u64 0] from rfl) (Reps.none _ _))));intro v346 w52 ho53 hb hg_ hnew_;clear hg_ hnew_;(first|rw [← Ny345.out] at ho53|(simp only [Int.reduceToNat] at ho53;rw [← Ny345.out] at ho53));have n0_ := am (Kd.R_below (rr HO299) hb);have n1_ := am (Kd.R_below (rr HO304) hb);have n2_ := am (Kd.R_elder' (rr HO308) (Kd.R_base ho53) hb);have n3_ := am (Kd.R_below (rr HO311) hb);have n4_ := am (Kd.R_below (rr HO316) hb);have n5_ := am (Kd.N_elder' (rn HO321) (Kd.R_base ho53) hb);have n6_ := am (Kd.R_elder' (rr HO324) (Kd.R_base ho53) hb);have n7_ := am (Kd.R_elder' (rr HO327) (Kd.R_base ho53) hb);have n8_ := am (Kd.R_elder' (rr HO330) (Kd.R_base ho53) hb);have n9_ := am (Kd.R_elder' (rr HO334) (Kd.R_base ho53) hb);have n10_ := am (Kd.R_elder' (rr HO338) (Kd.R_base ho53) hb);have n11_ := am (Kd.R_elder' (rr HO341) (Kd.R_base ho53) hb);have n12_ := am (Kd.R_elder' (rr HO344) (Kd.R_base ho53) hb);have n13_ := am (Kd.R_lower (Kd.R_new' (Kd.R_new' (Kd.R_new' (Kd.R_new' (Kd.R_new' (Kd.R_new' (Kd.R_new' (Kd.R_new' ho53 (Kd.R_lt (rr HO308))) (Kd.R_lt (rr HO324))) (Kd.R_lt (rr HO327))) (Kd.R_lt (rr HO330))) (Kd.R_lt (rr HO334))) (Kd.R_lt (rr HO338))) (Kd.R_lt (rr HO341))) (Kd.R_lt (rr HO344))) (below_size (bb HB)));have n14_ := am (below_step (bb HB) hb);clear HO299 HO304 HO308 HO311 HO316 HO321 HO324 HO327 HO330 HO334 HO338 HO341 HO344 HB;have HO299 := n0_;have HO304 := n1_;have HO308 := n2_;have HO311 := n3_;have HO316 := n4_;have HO321 := n5_;have HO324 := n6_;have HO327 := n7_;have HO330 := n8_;have HO334 := n9_;have HO338 := n10_;have HO341 := n11_;have HO344 := n12_;have HO347 := n13_;have HB := n14_;clear n0_ n1_ n2_ n3_ n4_ n5_ n6_ n7_ n8_ n9_ n10_ n11_ n12_ n13_ n14_;clear hb ho53;obtain ⟨Ao54,co54,eo54⟩ := Kd.R_slice HO338.out;subst eo54;obtain ⟨Ao55,co55,eo55⟩ := Kd.R_slice HO341.out;subst eo55;obtain ⟨Ao56,co56,eo56⟩ := Kd.R_slice HO344.out;subst eo56;obtain ⟨Ao57,co57,eo57⟩ := Kd.R_slice HO347.out;subst eo57)|((with_reducible refine gate_dst (N := 74) rfl ?_);(try (refine gate_guard (by rfl) ?_;dsimp only));refine Kd.N_lit (Kd.slice 22 (Kd.int .u64)) _ 41 ?hg (N' := 74) ?hd (xs := ([y336,y339,y342,y345] : List (List Int))) (inner := [.slice Ao54 y336.length co54,.slice Ao55 y339.length co55,.slice Ao56 y342.length co56,.slice Ao57 y345.length co57]) (ok := (fun k_ => some k_ ≠ (.slice Ao19 y297.length co19 : Value).ownBlock ∧ some k_ ≠ (.slice Ao23 y302.length co23 : Value).ownBlock ∧ some k_ ≠ (.slice Ao44 t305.length co44 : Value).ownBlock ∧ some k_ ≠ (.slice Ao27 y309.length co27 : Value).ownBlock ∧ some k_ ≠ (.slice Ao31 y314.length co31 : Value).ownBlock ∧ some k_ ≠ (v320 : Value).ownBlock ∧ some k_ ≠ (.slice Ao36 y322.length co36 : Value).ownBlock ∧ some k_ ≠ (.slice Ao40 t325.length co40 : Value).ownBlock ∧ some k_ ≠ (.slice Ao41 y328.length co41 : Value).ownBlock ∧ some k_ ≠ (.slice Ao45 y332.length co45 : Value).ownBlock)) (okp := (fun k_ => some k_ ≠ (.slice Ao19 y297.length co19 : Value).ownBlock ∧ some k_ ≠ (.slice Ao23 y302.length co23 : Value).ownBlock ∧ some k_ ≠ (.slice Ao44 t305.length co44 : Value).ownBlock ∧ some k_ ≠ (.slice Ao27 y309.length co27 : Value).ownBlock ∧ some k_ ≠ (.slice Ao31 y314.length co31 : Value).ownBlock ∧ some k_ ≠ (v320 : Value).ownBlock ∧ some k_ ≠ (.slice Ao36 y322.length co36 : Value).ownBlock ∧ some k_ ≠ (.slice Ao40 t325.length co40 : Value).ownBlock ∧ some k_ ≠ (.slice Ao41 y328.length co41 : Value).ownBlock ∧ some k_ ≠ (.slice Ao45 y332.length co45 : Value).ownBlock)) ?hr ?hp (fun _ hk => hk) ((show ∀ k_,w52.heap.size ≤ k_ → (fun k_ => some k_ ≠ (.slice Ao19 y297.length co19 : Value).ownBlock ∧ some k_ ≠ (.slice Ao23 y302.length co23 : Value).ownBlock ∧ some k_ ≠ (.slice Ao44 t305.length co44 : Value).ownBlock ∧ some k_ ≠ (.slice Ao27 y309.length co27 : Value).ownBlock ∧ some k_ ≠ (.slice Ao31 y314.length co31 : Value).ownBlock ∧ some k_ ≠ (v320 : Value).ownBlock ∧ some k_ ≠ (.slice Ao36 y322.length co36 : Value).ownBlock ∧ some k_ ≠ (.slice Ao40 t325.length co40 : Value).ownBlock ∧ some k_ ≠ (.slice Ao41 y328.length co41 : Value).ownBlock ∧ some k_ ≠ (.slice Ao45 y332.length co45 : Value).ownBlock) k_ from fun k_ hk => ⟨Kd.fresh' (Kd.R_lt (rr HO299)) k_ hk,Kd.fresh' (Kd.R_lt (rr HO304)) k_ hk,Kd.fresh' (Kd.R_lt (rr HO308)) k_ hk,Kd.fresh' (Kd.R_lt (rr HO311)) k_ hk,Kd.fresh' (Kd.R_lt (rr HO316)) k_ hk,Kd.fresh' (Kd.N_lt (rn HO321)) k_ hk,Kd.fresh' (Kd.R_lt (rr HO324)) k_ hk,Kd.fresh' (Kd.R_lt (rr HO327)) k_ hk,Kd.fresh' (Kd.R_lt (rr HO330)) k_ hk,Kd.fresh' (Kd.R_lt (rr HO334)) k_ hk⟩) _ (Nat.le_refl _)) (Below.refl _ _) (Nat.le_refl _) (by simp) ?_;(case hd => rfl);(case hg => rfl);(case hr => first|(go_simp;done)|(go_simp;rfl));(case hp => exact (Reps.one (show Kd.FK (Kd.slice 22 (Kd.int .u64)) _ _ y336 [.slice Ao54 y336.length co54] from (Kd.FK_slice_mk (Kd.R_reads' (Kd.R_mono (ok' := (fun k_ => some k_ ≠ (.slice Ao19 y297.length co19 : Value).ownBlock ∧ some k_ ≠ (.slice Ao23 y302.length co23 : Value).ownBlock ∧ some k_ ≠ (.slice Ao44 t305.length co44 : Value).ownBlock ∧ some k_ ≠ (.slice Ao27 y309.length co27 : Value).ownBlock ∧ some k_ ≠ (.slice Ao31 y314.length co31 : Value).ownBlock ∧ some k_ ≠ (v320 : Value).ownBlock ∧ some k_ ≠ (.slice Ao36 y322.length co36 : Value).ownBlock ∧ some k_ ≠ (.slice Ao40 t325.length co40 : Value).ownBlock ∧ some k_ ≠ (.slice Ao41 y328.length co41 : Value).ownBlock ∧ some k_ ≠ (.slice Ao45 y332.length co45 : Value).ownBlock)) (Kd.R_apart' (Kd.R_apart' (Kd.R_apart' (Kd.R_apart' (Kd.R_apart' (HO338.out) (Kd.R_typed HO299.out) (by decide)) (Kd.R_typed HO304.out) (by decide)) (Kd.R_typed HO311.out) (by decide)) (Kd.R_typed HO316.out) (by decide)) (Kd.N_typed HO321.out) (by decide)) (fun k_ hk => ⟨hk.1.1.1.1.2,⟨hk.1.1.1.2,⟨hk.1.1.1.1.1.1.1.1.1.1.1.1.2,⟨hk.1.1.2,⟨hk.1.2,⟨hk.2,⟨hk.1.1.1.1.1.1.1.1.1.1.1.2,⟨hk.1.1.1.1.1.1.1.1.1.1.2,⟨hk.1.1.1.1.1.1.1.1.1.2,hk.1.1.1.1.1.1.1.1.2⟩⟩⟩⟩⟩⟩⟩⟩⟩))).2.1 (Kd.R_F (Kd.R_mono (ok' := (fun k_ => some k_ ≠ (.slice Ao19 y297.length co19 : Value).ownBlock ∧ some k_ ≠ (.slice Ao23 y302.length co23 : Value).ownBlock ∧ some k_ ≠ (.slice Ao44 t305.length co44 : Value).ownBlock ∧ some k_ ≠ (.slice Ao27 y309.length co27 : Value).ownBlock ∧ some k_ ≠ (.slice Ao31 y314.length co31 : Value).ownBlock ∧ some k_ ≠ (v320 : Value).ownBlock ∧ some k_ ≠ (.slice Ao36 y322.length co36 : Value).ownBlock ∧ some k_ ≠ (.slice Ao40 t325.length co40 : Value).ownBlock ∧ some k_ ≠ (.slice Ao41 y328.length co41 : Value).ownBlock ∧ some k_ ≠ (.slice Ao45 y332.length co45 : Value).ownBlock)) (Kd.R_apart' (Kd.R_apart' (Kd.R_apart' (Kd.R_apart' (Kd.R_apart' (HO338.out) (Kd.R_typed HO299.out) (by decide)) (Kd.R_typed HO304.out) (by decide)) (Kd.R_typed HO311.out) (by decide)) (Kd.R_typed HO316.out) (by decide)) (Kd.N_typed HO321.out) (by decide)) (fun k_ hk => ⟨hk.1.1.1.1.2,⟨hk.1.1.1.2,⟨hk.1.1.1.1.1.1.1.1.1.1.1.1.2,⟨hk.1.1.2,⟨hk.1.2,⟨hk.2,⟨hk.1.1.1.1.1.1.1.1.1.1.1.2,⟨hk.1.1.1.1.1.1.1.1.1.1.2,⟨hk.1.1.1.1.1.1.1.1.1.2,hk.1.1.1.1.1.1.1.1.2⟩⟩⟩⟩⟩⟩⟩⟩⟩))))) (Reps.one (show Kd.FK (Kd.slice 22 (Kd.int .u64)) _ _ y339 [.slice Ao55 y339.length co55] from (Kd.FK_slice_mk (Kd.R_reads' (Kd.R_mono (ok' := (fun k_ => some k_ ≠ (.slice Ao19 y297.length co19 : Value).ownBlock ∧ some k_ ≠ (.slice Ao23 y302.length co23 : Value).ownBlock ∧ some k_ ≠ (.slice Ao44 t305.length co44 : Value).ownBlock ∧ some k_ ≠ (.slice Ao27 y309.length co27 : Value).ownBlock ∧ some k_ ≠ (.slice Ao31 y314.length co31 : Value).ownBlock ∧ some k_ ≠ (v320 : Value).ownBlock ∧ some k_ ≠ (.slice Ao36 y322.length co36 : Value).ownBlock ∧ some k_ ≠ (.slice Ao40 t325.length co40 : Value).ownBlock ∧ some k_ ≠ (.slice Ao41 y328.length co41 : Value).ownBlock ∧ some k_ ≠ (.slice Ao45 y332.length co45 : Value).ownBlock)) (Kd.R_apart' (Kd.R_apart' (Kd.R_apart' (Kd.R_apart' (Kd.R_apart' (HO341.out) (Kd.R_typed HO299.out) (by decide)) (Kd.R_typed HO304.out) (by decide)) (Kd.R_typed HO311.out) (by decide)) (Kd.R_typed HO316.out) (by decide)) (Kd.N_typed HO321.out) (by decide)) (fun k_ hk => ⟨hk.1.1.1.1.2,⟨hk.1.1.1.2,⟨hk.1.1.1.1.1.1.1.1.1.1.1.1.2,⟨hk.1.1.2,⟨hk.1.2,⟨hk.2,⟨hk.1.1.1.1.1.1.1.1.1.1.1.2,⟨hk.1.1.1.1.1.1.1.1.1.1.2,⟨hk.1.1.1.1.1.1.1.1.1.2,hk.1.1.1.1.1.1.1.1.2⟩⟩⟩⟩⟩⟩⟩⟩⟩))).2.1 (Kd.R_F (Kd.R_mono (ok' := (fun k_ => some k_ ≠ (.slice Ao19 y297.length co19 : Value).ownBlock ∧ some k_ ≠ (.slice Ao23 y302.length co23 : Value).ownBlock ∧ some k_ ≠ (.slice Ao44 t305.length co44 : Value).ownBlock ∧ some k_ ≠ (.slice Ao27 y309.length co27 : Value).ownBlock ∧ some k_ ≠ (.slice Ao31 y314.length co31 : Value).ownBlock ∧ some k_ ≠ (v320 : Value).ownBlock ∧ some k_ ≠ (.slice Ao36 y322.length co36 : Value).ownBlock ∧ some k_ ≠ (.slice Ao40 t325.length co40 : Value).ownBlock ∧ some k_ ≠ (.slice Ao41 y328.length co41 : Value).ownBlock ∧ some k_ ≠ (.slice Ao45 y332.length co45 : Value).ownBlock)) (Kd.R_apart' (Kd.R_apart' (Kd.R_apart' (Kd.R_apart' (Kd.R_apart' (HO341.out) (Kd.R_typed HO299.out) (by decide)) (Kd.R_typed HO304.out) (by decide)) (Kd.R_typed HO311.out) (by decide)) (Kd.R_typed HO316.out) (by decide)) (Kd.N_typed HO321.out) (by decide)) (fun k_ hk => ⟨hk.1.1.1.1.2,⟨hk.1.1.1.2,⟨hk.1.1.1.1.1.1.1.1.1.1.1.1.2,⟨hk.1.1.2,⟨hk.1.2,⟨hk.2,⟨hk.1.1.1.1.1.1.1.1.1.1.1.2,⟨hk.1.1.1.1.1.1.1.1.1.1.2,⟨hk.1.1.1.1.1.1.1.1.1.2,hk.1.1.1.1.1.1.1.1.2⟩⟩⟩⟩⟩⟩⟩⟩⟩))))) (Reps.one (show Kd.FK (Kd.slice 22 (Kd.int .u64)) _ _ y342 [.slice Ao56 y342.length co56] from (Kd.FK_slice_mk (Kd.R_reads' (Kd.R_mono (ok' := (fun k_ => some k_ ≠ (.slice Ao19 y297.length co19 : Value).ownBlock ∧ some k_ ≠ (.slice Ao23 y302.length co23 : Value).ownBlock ∧ some k_ ≠ (.slice Ao44 t305.length co44 : Value).ownBlock ∧ some k_ ≠ (.slice Ao27 y309.length co27 : Value).ownBlock ∧ some k_ ≠ (.slice Ao31 y314.length co31 : Value).ownBlock ∧ some k_ ≠ (v320 : Value).ownBlock ∧ some k_ ≠ (.slice Ao36 y322.length co36 : Value).ownBlock ∧ some k_ ≠ (.slice Ao40 t325.length co40 : Value).ownBlock ∧ some k_ ≠ (.slice Ao41 y328.length co41 : Value).ownBlock ∧ some k_ ≠ (.slice Ao45 y332.length co45 : Value).ownBlock)) (Kd.R_apart' (Kd.R_apart' (Kd.R_apart' (Kd.R_apart' (Kd.R_apart' (HO344.out) (Kd.R_typed HO299.out) (by decide)) (Kd.R_typed HO304.out) (by decide)) (Kd.R_typed HO311.out) (by decide)) (Kd.R_typed HO316.out) (by decide)) (Kd.N_typed HO321.out) (by decide)) (fun k_ hk => ⟨hk.1.1.1.1.2,⟨hk.1.1.1.2,⟨hk.1.1.1.1.1.1.1.1.1.1.1.1.2,⟨hk.1.1.2,⟨hk.1.2,⟨hk.2,⟨hk.1.1.1.1.1.1.1.1.1.1.1.2,⟨hk.1.1.1.1.1.1.1.1.1.1.2,⟨hk.1.1.1.1.1.1.1.1.1.2,hk.1.1.1.1.1.1.1.1.2⟩⟩⟩⟩⟩⟩⟩⟩⟩))).2.1 (Kd.R_F (Kd.R_mono (ok' := (fun k_ => some k_ ≠ (.slice Ao19 y297.length co19 : Value).ownBlock ∧ some k_ ≠ (.slice Ao23 y302.length co23 : Value).ownBlock ∧ some k_ ≠ (.slice Ao44 t305.length co44 : Value).ownBlock ∧ some k_ ≠ (.slice Ao27 y309.length co27 : Value).ownBlock ∧ some k_ ≠ (.slice Ao31 y314.length co31 : Value).ownBlock ∧ some k_ ≠ (v320 : Value).ownBlock ∧ some k_ ≠ (.slice Ao36 y322.length co36 : Value).ownBlock ∧ some k_ ≠ (.slice Ao40 t325.length co40 : Value).ownBlock ∧ some k_ ≠ (.slice Ao41 y328.length co41 : Value).ownBlock ∧ some k_ ≠ (.slice Ao45 y332.length co45 : Value).ownBlock)) (Kd.R_apart' (Kd.R_apart' (Kd.R_apart' (Kd.R_apart' (Kd.R_apart' (HO344.out) (Kd.R_typed HO299.out) (by decide)) (Kd.R_typed HO304.out) (by decide)) (Kd.R_typed HO311.out) (by decide)) (Kd.R_typed HO316.out) (by decide)) (Kd.N_typed HO321.out) (by decide)) (fun k_ hk => ⟨hk.1.1.1.1.2,⟨hk.1.1.1.2,⟨hk.1.1.1.1.1.1.1.1.1.1.1.1.2,⟨hk.1.1.2,⟨hk.1.2,⟨hk.2,⟨hk.1.1.1.1.1.1.1.1.1.1.1.2,⟨hk.1.1.1.1.1.1.1.1.1.1.2,⟨hk.1.1.1.1.1.1.1.1.1.2,hk.1.1.1.1.1.1.1.1.2⟩⟩⟩⟩⟩⟩⟩⟩⟩))))) (Reps.one (show Kd.FK (Kd.slice 22 (Kd.int .u64)) _ _ y345 [.slice Ao57 y345.length co57] from (Kd.FK_slice_mk (Kd.R_reads' (Kd.R_mono (ok' := (fun k_ => some k_ ≠ (.slice Ao19 y297.length co19 : Value).ownBlock ∧ some k_ ≠ (.slice Ao23 y302.length co23 : Value).ownBlock ∧ some k_ ≠ (.slice Ao44 t305.length co44 : Value).ownBlock ∧ some k_ ≠ (.slice Ao27 y309.length co27 : Value).ownBlock ∧ some k_ ≠ (.slice Ao31 y314.length co31 : Value).ownBlock ∧ some k_ ≠ (v320 : Value).ownBlock ∧ some k_ ≠ (.slice Ao36 y322.length co36 : Value).ownBlock ∧ some k_ ≠ (.slice Ao40 t325.length co40 : Value).ownBlock ∧ some k_ ≠ (.slice Ao41 y328.length co41 : Value).ownBlock ∧ some k_ ≠ (.slice Ao45 y332.length co45 : Value).ownBlock)) (Kd.R_apart' (Kd.R_apart' (Kd.R_apart' (Kd.R_apart' (Kd.R_apart' (HO347.out) (Kd.R_typed HO299.out) (by decide)) (Kd.R_typed HO304.out) (by decide)) (Kd.R_typed HO311.out) (by decide)) (Kd.R_typed HO316.out) (by decide)) (Kd.N_typed HO321.out) (by decide)) (fun k_ hk => ⟨hk.1.1.1.1.2,⟨hk.1.1.1.2,⟨hk.1.1.1.1.1.1.1.1.1.1.1.1.2,⟨hk.1.1.2,⟨hk.1.2,⟨hk.2,⟨hk.1.1.1.1.1.1.1.1.1.1.1.2,⟨hk.1.1.1.1.1.1.1.1.1.1.2,⟨hk.1.1.1.1.1.1.1.1.1.2,hk.1.1.1.1.1.1.1.1.2⟩⟩⟩⟩⟩⟩⟩⟩⟩))).2.1 (Kd.R_F (Kd.R_mono (ok' := (fun k_ => some k_ ≠ (.slice Ao19 y297.length co19 : Value).ownBlock ∧ some k_ ≠ (.slice Ao23 y302.length co23 : Value).ownBlock ∧ some k_ ≠ (.slice Ao44 t305.length co44 : Value).ownBlock ∧ some k_ ≠ (.slice Ao27 y309.length co27 : Value).ownBlock ∧ some k_ ≠ (.slice Ao31 y314.length co31 : Value).ownBlock ∧ some k_ ≠ (v320 : Value).ownBlock ∧ some k_ ≠ (.slice Ao36 y322.length co36 : Value).ownBlock ∧ some k_ ≠ (.slice Ao40 t325.length co40 : Value).ownBlock ∧ some k_ ≠ (.slice Ao41 y328.length co41 : Value).ownBlock ∧ some k_ ≠ (.slice Ao45 y332.length co45 : Value).ownBlock)) (Kd.R_apart' (Kd.R_apart' (Kd.R_apart' (Kd.R_apart' (Kd.R_apart' (HO347.out) (Kd.R_typed HO299.out) (by decide)) (Kd.R_typed HO304.out) (by decide)) (Kd.R_typed HO311.out) (by decide)) (Kd.R_typed HO316.out) (by decide)) (Kd.N_typed HO321.out) (by decide)) (fun k_ hk => ⟨hk.1.1.1.1.2,⟨hk.1.1.1.2,⟨hk.1.1.1.1.1.1.1.1.1.1.1.1.2,⟨hk.1.1.2,⟨hk.1.2,⟨hk.2,⟨hk.1.1.1.1.1.1.1.1.1.1.1.2,⟨hk.1.1.1.1.1.1.1.1.1.1.2,⟨hk.1.1.1.1.1.1.1.1.1.2,hk.1.1.1.1.1.1.1.1.2⟩⟩⟩⟩⟩⟩⟩⟩⟩))))) (Reps.none _ _))))));intro v349 w58 ho59 hb hg_ hnew_;clear hg_ hnew_;(first|rw [← Ny348.out] at ho59|(simp only [Int.reduceToNat] at ho59;rw [← Ny348.out] at ho59));have n0_ := am (Kd.R_below (rr HO299) hb);have n1_ := am (Kd.R_below (rr HO304) hb);have n2_ := am (Kd.R_below (rr HO308) hb);have n3_ := am (Kd.R_below (rr HO311) hb);have n4_ := am (Kd.R_below (rr HO316) hb);have n5_ := am (Kd.N_elder' (rn HO321) (Kd.N_base ho59) hb);have n6_ := am (Kd.R_below (rr HO324) hb);have n7_ := am (Kd.R_below (rr HO327) hb);have n8_ := am (Kd.R_below (rr HO330) hb);have n9_ := am (Kd.R_below (rr HO334) hb);have n10_ := am (Kd.N_lower ho59 (below_size (bb HB)));have n11_ := am (below_step (bb HB) hb);clear HO299 HO304 HO308 HO311 HO316 HO321 HO324 HO327 HO330 HO334 HB HO338 HO341 HO344 HO347;have HO299 := n0_;have HO304 := n1_;have HO308 := n2_;have HO311 := n3_;have HO316 := n4_;have HO321 := n5_;have HO324 := n6_;have HO327 := n7_;have HO330 := n8_;have HO334 := n9_;have HO350 := n10_;have HB := n11_;clear n0_ n1_ n2_ n3_ n4_ n5_ n6_ n7_ n8_ n9_ n10_ n11_;clear hb ho59;obtain ⟨Ao60,co60,eo60⟩ := Kd.N_slice HO321.out;subst eo60;obtain ⟨Ao61,co61,eo61⟩ := Kd.N_slice HO350.out;subst eo61)|(go_at_call 10;(with_reducible refine (privityref09_Same.calls k _ _ t319 _ _ y348 t351 _ ?side1 ?side2 ?side3 ?side4 A16.out).mono ?_);(case side1 => repeat (first|exact (Kd.N_reads' HO321.out).2.2|(with_reducible refine Kd.C_alloc ?_ _)|(with_reducible refine Kd.C_drewN ?_ _)|(with_reducible refine Kd.C_drew ?_)));(case side2 => exact (Kd.N_reads' HO321.out).2.1);(case side3 => repeat (first|exact (Kd.N_reads' HO350.out).2.2|(with_reducible refine Kd.C_alloc ?_ _)|(with_reducible refine Kd.C_drewN ?_ _)|(with_reducible refine Kd.C_drew ?_)));(case side4 => exact (Kd.N_reads' HO350.out).2.1);rintro e w' ⟨rfl,⟨nd,rfl⟩⟩))
        go_ret
        exact ⟨by first|rfl|(simp [errW_none,errW_some] <;> rfl)|(simp [*,errW_none,errW_some] <;> rfl),bb HB⟩
       ·rw [if_neg c15] at H
        have c15b0 : (t318 == 9) = false := beq_eq_false_iff_ne.mpr c15
        have c15b1 : (t318 != 9) = true := bne_iff_ne.mpr c15
        exact absurd (Option.some.inj H) (by rw [HR1.out];simp)
      ·rw [if_neg c14] at H
       have c14b0 : (t313 == 1) = false := beq_eq_false_iff_ne.mpr c14
       have c14b1 : (t313 != 1) = true := bne_iff_ne.mpr c14
       exact absurd (Option.some.inj H) (by rw [HR1.out];simp)
     ·rw [if_neg c13] at H
      have c13b0 : (t306 == 0) = false := beq_eq_false_iff_ne.mpr c13
      have c13b1 : (t306 != 0) = true := bne_iff_ne.mpr c13
      exact absurd (Option.some.inj H) (by rw [HR1.out];simp)
    ·replace c12 := Bool.eq_false_iff.mpr c12
     subst c12
     rw [if_neg (show ¬ (false = true) by decide)] at H
     exact absurd (Option.some.inj H) (by rw [HR1.out];simp)
   ·rw [if_neg c10] at H
    have c10b0 : (t301 == 0) = false := beq_eq_false_iff_ne.mpr c10
    have c10b1 : (t301 != 0) = true := bne_iff_ne.mpr c10
    exact absurd (Option.some.inj H) (by rw [HR1.out];simp)
  ·rw [if_neg c9] at H
   have c9b0 : (t300 == 5) = false := beq_eq_false_iff_ne.mpr c9
   have c9b1 : (t300 != 5) = true := bne_iff_ne.mpr c9
   exact absurd (Option.some.inj H) (by rw [HR1.out];simp)
 ·replace c8 := Bool.eq_false_iff.mpr c8
  subst c8
  rw [if_neg (show ¬ (false = true) by decide)] at H
  exact absurd (Option.some.inj H) (by rw [HR1.out];simp)
def privityref01_exps.f  : Option (List Int) := some (([5,7,13,17,19,31,61] : List Int))
set_option maxHeartbeats 8000000 in
set_option maxRecDepth 100000 in
theorem privityref01_exps.calls  (r : List Int) (w : World) (h : privityref01_exps.f  = some r) :
  Calls Try.prog 47 #[] w fun e w' => ∃ v0_ : Value,e = .returned (v0_) ∧ Kd.R (Kd.int .i64) 3 w' w.heap.size (fun _ => True) v0_ r ∧ Below w.heap.size w w' := by
 have HB := am (Below.refl w.heap.size w)
 have H : (some (([5,7,13,17,19,31,61] : List Int))) = some r := h
 clear h
 obtain ⟨y352,hy352⟩ : ∃ y_ : List Int,y_ = (([5,7,13,17,19,31,61] : List Int)) := ⟨_,rfl⟩
 replace H : (some y352) = some r := by first|(rw [hy352];with_reducible exact H)|(have H2_ := (Option.bind_some _ _).symm.trans H;rw [hy352];with_reducible exact H2_)|(have H2_ := (Option.bind_some _ _).symm.trans H;with_reducible exact H2_)|with_reducible exact H|(rw [hy352];exact H)|exact H
 have Ny352 := am hy352
 clear hy352
 obtain rfl := Option.some.inj H
 go_enter Try.func47,Try.ntmps47
 go_wp2_with (first|((with_reducible refine gate_dst (N := 1) rfl ?_);refine Kd.R_lit (Kd.int .i64) _ 3 ?hg (N := 1) ?hd (xs := ([5,7,13,17,19,31,61] : List Int)) (inner := [.int .i64 5,.int .i64 7,.int .i64 13,.int .i64 17,.int .i64 19,.int .i64 31,.int .i64 61]) (ok := fun _ => True) (okp := fun _ => True) ?hr ?hp (fun _ hk => hk) trivial (Below.refl _ _) (Nat.le_refl _) (by simp) ?_;(case hd => rfl);(case hg => rfl);(case hr => first|(go_simp;done)|(go_simp;rfl));(case hp => exact (Reps.one (show Kd.M (Kd.int .i64) _ _ _ 5 [.int .i64 5] from rfl) (Reps.one (show Kd.M (Kd.int .i64) _ _ _ 7 [.int .i64 7] from rfl) (Reps.one (show Kd.M (Kd.int .i64) _ _ _ 13 [.int .i64 13] from rfl) (Reps.one (show Kd.M (Kd.int .i64) _ _ _ 17 [.int .i64 17] from rfl) (Reps.one (show Kd.M (Kd.int .i64) _ _ _ 19 [.int .i64 19] from rfl) (Reps.one (show Kd.M (Kd.int .i64) _ _ _ 31 [.int .i64 31] from rfl) (Reps.one (show Kd.M (Kd.int .i64) _ _ _ 61 [.int .i64 61] from rfl) (Reps.none _ _)))))))));intro v353 w1 ho2 hb hg_ hnew_;clear hg_ hnew_;(first|rw [← Ny352.out] at ho2|(simp only [Int.reduceToNat] at ho2;rw [← Ny352.out] at ho2));have n0_ := am (Kd.R_lower ho2 (below_size (bb HB)));have n1_ := am (below_step (bb HB) hb);clear HB;have HO354 := n0_;have HB := n1_;clear n0_ n1_;clear hb ho2))
 go_ret
 exact ⟨_,by first|rfl|(simp [errW_none,errW_some] <;> rfl)|(simp [*,errW_none,errW_some] <;> rfl),by (with_reducible repeat (first|apply Kd.R_alloc|apply Kd.R_drewN|apply Kd.R_drew));exact HO354.out,bb HB⟩
def privityref01_Exponent.l0 : Nat → Int → List Int → Int → Option (Int)
 | 0,_,_,_ => none
 | k + 1,x0,x3,x4 => if x4 < (x3.length : Int) then (if 0 ≤ x4 then (if 0 ≤ (IntKind.u64.wrap (rd x3 x4)) then (if x0 = (IntKind.u64.wrap ((shl .u64 1 (IntKind.u64.wrap (rd x3 x4))) - 1)) then (some (rd x3 x4)) else (privityref01_Exponent.l0 k x0 x3 (wrap64 (x4 + 1)))) else (none)) else (none)) else (some 0)
def privityref01_Exponent.f (k : Nat) (a0 : Int) : Option (Int) := (privityref01_exps.f).bind fun t355 => (privityref01_Exponent.l0 k a0 t355 0)
theorem privityref01_Exponent.mono_l : ∀ k,(∀ y0 y1 y2,LeO (privityref01_Exponent.l0 k y0 y1 y2) (privityref01_Exponent.l0 (k + 1) y0 y1 y2))
 | 0 => fun _ _ _ r h => by simp [privityref01_Exponent.l0] at h
 | k + 1 => by
  have ih0 := privityref01_Exponent.mono_l k
  ·intro y0 y1 y2
   unfold privityref01_Exponent.l0
   repeat' first
   | (with_reducible exact ih0 _ _ _)
   | (with_reducible exact LeO.refl _)
   | (with_reducible exact LeO.none _)
   | (with_reducible refine LeO.ite ?_ ?_)
   | (with_reducible refine LeO.bind ?_ (fun _ => ?_))
   | exact ih0 _ _ _
   | exact LeO.none _
   | refine LeO.ite ?_ ?_
   | refine LeO.bind ?_ (fun _ => ?_)
theorem privityref01_Exponent.mono : ∀ a0 k,LeO (privityref01_Exponent.f k a0) (privityref01_Exponent.f (k + 1) a0) := by
 intro a0 k
 have ih0 := privityref01_Exponent.mono_l k
 unfold privityref01_Exponent.f
 repeat' first
   | (with_reducible exact ih0 _ _ _)
   | (with_reducible exact LeO.refl _)
   | (with_reducible exact LeO.none _)
   | (with_reducible refine LeO.ite ?_ ?_)
   | (with_reducible refine LeO.bind ?_ (fun _ => ?_))
   | exact ih0 _ _ _
   | exact LeO.none _
   | refine LeO.ite ?_ ?_
   | refine LeO.bind ?_ (fun _ => ?_)
set_option maxHeartbeats 8000000 in
set_option maxRecDepth 100000 in
theorem privityref01_Exponent.calls (k : Nat) (a0 : Int) (r : Int) (w : World) (h : privityref01_Exponent.f k a0 = some r) :
  Calls Try.prog 32 #[.int .u64 a0] w fun e w' => e = .returned (.int .i64 r) ∧ Below w.heap.size w w' := by
 have HB := am (Below.refl w.heap.size w)
 have H : ((privityref01_exps.f).bind fun t355 => (privityref01_Exponent.l0 k a0 t355 0)) = some r := h
 clear h
 replace H := Option.bind_eq_some_iff.mp H
 obtain ⟨t355,A20,H⟩ := H
 try dsimp only at H
 have A2 := am A20
 clear A20
 have H' := am H
 clear H
 go_enter Try.func32,Try.ntmps32
 go_wp2_with (first|((with_reducible refine gate_callee (f := 47) rfl ?_);refine goesL_ (some 5) rfl rfl Try.func47 (by kernel_rfl) rfl #[] rfl (by (try simp only [List.map_toArray,List.map_cons,List.map_nil]);first|done|rfl|(simp only [List.length_drop,List.length_take];rfl)) ?_;(with_reducible refine (privityref01_exps.calls  t355 _ A2.out).mono ?_);rintro e w3 ⟨v356,rfl,ho0,hb⟩;refine ⟨_,rfl,?_⟩;have n0_ := am (Kd.R_lower ho0 (below_size (bb HB)));have n1_ := am (below_step (bb HB) hb);clear HB;have HO357 := n0_;have HB := n1_;clear n0_ n1_;(try clear hb);(try clear hb2);(try clear hk);(try clear hi);(try clear ho0)))
 go_loopg [4] k (fun kq v4 w' => ∃ (x4_1 : Int),v4 = .int .i64 x4_1 ∧ Aside0 (privityref01_Exponent.l0 kq a0 t355 x4_1 = some r) ∧ Aside0 (kq ≤ k) ∧ Aside0 (Kd.R (Kd.int .i64) 3 w' w.heap.size (fun _ => True) v356 t355) ∧ Aside0 (Below w.heap.size w w'))
 case atStart => exact ⟨(0),(by first|rfl|(simp;done)|(simp [*];done)),H',⟨Nat.le_refl _⟩,⟨by (with_reducible repeat (first|apply Kd.R_alloc|apply Kd.R_drewN|apply Kd.R_drew));exact HO357.out⟩,⟨bb HB⟩⟩
 case round =>
  clear H'
  try clear p2
  try clear c3
  obtain ⟨x4_1,rfl,HA,HK1,HO_3,HB⟩ := hrel
  cases gk with
  | zero => exact absurd HA.out (by simp [privityref01_Exponent.l0])
  | succ k1 =>
   have H := HA.out
   clear HA
   simp only [privityref01_Exponent.l0] at H
   by_cases c4 : x4_1 < (t355.length : Int)
   ·rw [if_pos c4] at H
    have c4b0 : decide (x4_1 < (t355.length : Int)) = true := decide_eq_true c4
    clear c4
    by_cases c5 : 0 ≤ x4_1
    ·rw [if_pos c5] at H
     have c5b0 : decide (0 ≤ x4_1) = true := decide_eq_true c5
     clear c5
     obtain ⟨ji6,hji6⟩ : ∃ j_ : Int,(IntKind.u64.wrap (rd t355 x4_1)) = j_ := ⟨_,rfl⟩
     first|rw [hji6] at H|simp only [hji6] at H
     by_cases c7 : 0 ≤ (ji6)
     ·rw [if_pos c7] at H
      have c7b0 := eq_true c7
      have c7b1 : decide (0 ≤ (ji6)) = true := decide_eq_true c7
      clear c7
      obtain ⟨ji8,hji8⟩ : ∃ j_ : Int,(shl .u64 1 (ji6)) = j_ := ⟨_,rfl⟩
      first|rw [hji8] at H|simp only [hji8] at H
      have hji8_ : (IntKind.u64.wrap (1 * 2 ^ min (ji6).toNat 64)) = ji8 := hji8
      have hji8z : (ji6) ≤ 64 → (IntKind.u64.wrap (1 * 2 ^ (ji6).toNat)) = ji8 := shl_small hji8
      have hji8u : (IntKind.u64.wrap (2 ^ min (ji6).toNat 64)) = ji8 := by have h_ := hji8_;rw [Int.one_mul] at h_;exact h_
      have hji8v : (ji6) ≤ 64 → (IntKind.u64.wrap (2 ^ (ji6).toNat)) = ji8 := fun hle_ => by have h_ := hji8z hle_;rw [Int.one_mul] at h_;exact h_
      by_cases c9 : a0 = (IntKind.u64.wrap ((ji8) - 1))
      ·rw [if_pos c9] at H
       have c9b0 : (a0 == (IntKind.u64.wrap ((ji8) - 1))) = true := beq_iff_eq.mpr c9
       have c9b1 : (a0 != (IntKind.u64.wrap ((ji8) - 1))) = false := bne_eq_false_iff_eq.mpr c9
       clear c9
       obtain rfl := Option.some.inj H
       obtain ⟨Ao10,co10,eo10⟩ := Kd.R_slice HO_3.out
       subst eo10
       have p358 : 0 ≤ (x4_1 : Int) := od
       have q358 : x4_1 < (t355.length : Int) := od
       obtain ⟨ad358,e358,hx358_0⟩ := Kd.at_int (Kd.R_reads' HO_3.out).2.2 x4_1 p358 q358
       cases e358
       replace p358 := eq_true p358
       replace q358 := eq_true q358
       have p359 : 0 ≤ (x4_1 : Int) := od
       have q359 : x4_1 < (t355.length : Int) := od
       obtain ⟨ad359,e359,hx359_0⟩ := Kd.at_int (Kd.R_reads' HO_3.out).2.2 x4_1 p359 q359
       obtain rfl : ad358 = ad359 := (by injection e359)
       replace p359 := eq_true p359
       replace q359 := eq_true q359
       go_wp2
       go_ret
       exact ⟨by first|rfl|(simp [errW_none,errW_some] <;> rfl)|(simp only [← hji6,← hji8];first|rfl|(simp [errW_none,errW_some] <;> rfl))|(simp [*,errW_none,errW_some] <;> rfl),bb HB⟩
      ·rw [if_neg c9] at H
       have c9b0 : (a0 == (IntKind.u64.wrap ((ji8) - 1))) = false := beq_eq_false_iff_ne.mpr c9
       have c9b1 : (a0 != (IntKind.u64.wrap ((ji8) - 1))) = true := bne_iff_ne.mpr c9
       have H' := am H
       clear H
       obtain ⟨Ao11,co11,eo11⟩ := Kd.R_slice HO_3.out
       subst eo11
       have p358 : 0 ≤ (x4_1 : Int) := od
       have q358 : x4_1 < (t355.length : Int) := od
       obtain ⟨ad358,e358,hx358_0⟩ := Kd.at_int (Kd.R_reads' HO_3.out).2.2 x4_1 p358 q358
       cases e358
       replace p358 := eq_true p358
       replace q358 := eq_true q358
       go_wp2
       go_roundg k1
       case measure => have := HK1.out;omega
       case rel => exact ⟨(wrap64 (x4_1 + 1)),(by first|rfl|(simp;done)|(simp [*];done)),H',⟨by have := HK1.out;omega⟩,⟨by (with_reducible repeat (first|apply Kd.R_alloc|apply Kd.R_drewN|apply Kd.R_drew));exact HO_3.out⟩,⟨bb HB⟩⟩
     ·rw [if_neg c7] at H
      exact absurd H (by simp)
    ·rw [if_neg c5] at H
     exact absurd H (by simp)
   ·rw [if_neg c4] at H
    have c4b0 : decide (x4_1 < (t355.length : Int)) = false := decide_eq_false c4
    clear c4
    obtain rfl := Option.some.inj H
    obtain ⟨Ao12,co12,eo12⟩ := Kd.R_slice HO_3.out
    subst eo12
    go_wp2
    go_ret
    exact ⟨by first|rfl|(simp [errW_none,errW_some] <;> rfl)|(simp [*,errW_none,errW_some] <;> rfl),bb HB⟩
def privityref01_Supported.f (k : Nat) (a0 : Int) : Option (Bool) := (privityref01_Exponent.f k a0).bind fun t360 => (some (decide (t360 > 0)))
theorem privityref01_Supported.mono : ∀ a0 k,LeO (privityref01_Supported.f k a0) (privityref01_Supported.f (k + 1) a0) := by
 intro a0 k
 unfold privityref01_Supported.f
 repeat' first
   | (with_reducible exact privityref01_Exponent.mono _ _)
   | (with_reducible exact LeO.refl _)
   | (with_reducible exact LeO.none _)
   | (with_reducible refine LeO.ite ?_ ?_)
   | (with_reducible refine LeO.bind ?_ (fun _ => ?_))
   | exact privityref01_Exponent.mono _ _
   | exact LeO.none _
   | refine LeO.ite ?_ ?_
   | refine LeO.bind ?_ (fun _ => ?_)
set_option maxHeartbeats 8000000 in
set_option maxRecDepth 100000 in
theorem privityref01_Supported.calls (k : Nat) (a0 : Int) (r : Bool) (w : World) (h : privityref01_Supported.f k a0 = some r) :
  Calls Try.prog 7 #[.int .u64 a0] w fun e w' => e = .returned (.bool r) ∧ Below w.heap.size w w' := by
 have HB := am (Below.refl w.heap.size w)
 have H : ((privityref01_Exponent.f k a0).bind fun t360 => (some (decide (t360 > 0)))) = some r := h
 clear h
 replace H := Option.bind_eq_some_iff.mp H
 obtain ⟨t360,A20,H⟩ := H
 try dsimp only at H
 have A2 := am A20
 clear A20
 obtain rfl := Option.some.inj H
 go_enter Try.func7,Try.ntmps7
 go_wp2_with (first|((with_reducible refine gate_callee (f := 32) rfl ?_);refine goesL_ (some 4) rfl rfl Try.func32 (by kernel_rfl) rfl #[.int .u64 a0] rfl (by (try simp only [List.map_toArray,List.map_cons,List.map_nil]);first|done|rfl|(simp only [List.length_drop,List.length_take];rfl)) ?_;(with_reducible refine (privityref01_Exponent.calls k a0 t360 _ A2.out).mono ?_);rintro e w3 ⟨rfl,hb⟩;refine ⟨_,rfl,?_⟩;have n0_ := am (below_step (bb HB) hb);clear HB;have HB := n0_;clear n0_;(try clear hb);(try clear hb2);(try clear hk);(try clear hi)))
 go_ret
 exact ⟨by first|rfl|(simp [errW_none,errW_some] <;> rfl)|(simp [*,errW_none,errW_some] <;> rfl),bb HB⟩
def privityref05_Points.l0 : Nat → Int → List (S49) → Int → Option (Bool)
 | 0,_,_,_ => none
 | k + 1,x0,x1,x5 => if x5 < (x1.length : Int) then (if 0 ≤ x5 then (if ((rd_T49 x1 x5).f0) ≥ x0 then (some false) else (if ((rd_T49 x1 x5).f1) ≥ x0 then (some false) else (privityref05_Points.l0 k x0 x1 (wrap64 (x5 + 1))))) else (none)) else (some true)
def privityref05_Points.f (k : Nat) (a0 : Int) (l1 : List (S49)) : Option (Bool) := privityref05_Points.l0 k a0 l1 0
set_option maxHeartbeats 8000000 in
set_option maxRecDepth 100000 in
theorem privityref05_Points.calls (k : Nat) (a0 : Int) (A1 : Option Addr) (c1 : Nat) (l1 : List (S49)) (r : Bool) (w : World) (hr1 : Kd.C k49 w A1 l1.length l1) (hc1 : l1.length ≤ c1) (h : privityref05_Points.f k a0 l1 = some r) :
  Calls Try.prog 28 #[.int .u64 a0,.slice A1 l1.length c1] w fun e w' => e = .returned (.bool r) ∧ Drawn0 w w' := by
 have HR1 := am hr1
 have HC1 := am hc1
 clear hr1 hc1
 have H : (privityref05_Points.l0 k a0 l1 0) = some r := h
 clear h
 have H' := am H
 clear H
 go_enter Try.func28,Try.ntmps28
 go_wp2
 go_loopg [5] k (fun kq v5 w' => ∃ (x5_1 : Int),v5 = .int .i64 x5_1 ∧ Aside0 (privityref05_Points.l0 kq a0 l1 x5_1 = some r) ∧ Aside0 (kq ≤ k) ∧ Drawn0 w w')
 case atStart => exact ⟨(0),(by first|rfl|(simp;done)|(simp [*];done)),H',⟨Nat.le_refl _⟩,by repeat (first|exact Drawn0.refl _|apply Drawn0.step)⟩
 case round =>
  clear H'
  try clear c1
  try clear c2
  try clear p2
  obtain ⟨x5_1,rfl,HA,HK1,⟨m1,rfl⟩⟩ := hrel
  cases gk with
  | zero => exact absurd HA.out (by simp [privityref05_Points.l0])
  | succ k1 =>
   have H := HA.out
   clear HA
   simp only [privityref05_Points.l0] at H
   by_cases c3 : x5_1 < (l1.length : Int)
   ·rw [if_pos c3] at H
    have c3b0 : decide (x5_1 < (l1.length : Int)) = true := decide_eq_true c3
    clear c3
    by_cases c4 : 0 ≤ x5_1
    ·rw [if_pos c4] at H
     have c4b0 : decide (0 ≤ x5_1) = true := decide_eq_true c4
     clear c4
     by_cases c5 : ((rd_T49 l1 x5_1).f0) ≥ a0
     ·rw [if_pos c5] at H
      have c5b0 : decide (a0 ≤ ((rd_T49 l1 x5_1).f0)) = true := decide_eq_true c5
      clear c5
      obtain rfl := Option.some.inj H
      have p361 : 0 ≤ (x5_1 : Int) := od
      have q361 : x5_1 < (l1.length : Int) := od
      obtain ⟨ad361,e361,hx361_0,hx361_1⟩ := at_T49 HR1.out x5_1 p361 q361
      cases e361
      replace p361 := eq_true p361
      replace q361 := eq_true q361
      go_wp2
      go_ret
      exact ⟨by first|rfl|(simp;done)|(simp [*];done),by repeat (first|exact Drawn0.refl _|apply Drawn0.step)⟩
     ·rw [if_neg c5] at H
      have c5b0 : decide (a0 ≤ ((rd_T49 l1 x5_1).f0)) = false := decide_eq_false c5
      clear c5
      by_cases c6 : ((rd_T49 l1 x5_1).f1) ≥ a0
      ·rw [if_pos c6] at H
       have c6b0 : decide (a0 ≤ ((rd_T49 l1 x5_1).f1)) = true := decide_eq_true c6
       clear c6
       obtain rfl := Option.some.inj H
       have p361 : 0 ≤ (x5_1 : Int) := od
       have q361 : x5_1 < (l1.length : Int) := od
       obtain ⟨ad361,e361,hx361_0,hx361_1⟩ := at_T49 HR1.out x5_1 p361 q361
       cases e361
       replace p361 := eq_true p361
       replace q361 := eq_true q361
       have p362 : 0 ≤ (x5_1 : Int) := od
       have q362 : x5_1 < (l1.length : Int) := od
       obtain ⟨ad362,e362,hx362_0,hx362_1⟩ := at_T49 HR1.out x5_1 p362 q362
       obtain rfl : ad361 = ad362 := (by injection e362)
       replace p362 := eq_true p362
       replace q362 := eq_true q362
       go_wp2
       go_ret
       exact ⟨by first|rfl|(simp;done)|(simp [*];done),by repeat (first|exact Drawn0.refl _|apply Drawn0.step)⟩
      ·rw [if_neg c6] at H
       have c6b0 : decide (a0 ≤ ((rd_T49 l1 x5_1).f1)) = false := decide_eq_false c6
       clear c6
       have H' := am H
       clear H
       have p361 : 0 ≤ (x5_1 : Int) := od
       have q361 : x5_1 < (l1.length : Int) := od
       obtain ⟨ad361,e361,hx361_0,hx361_1⟩ := at_T49 HR1.out x5_1 p361 q361
       cases e361
       replace p361 := eq_true p361
       replace q361 := eq_true q361
       have p362 : 0 ≤ (x5_1 : Int) := od
       have q362 : x5_1 < (l1.length : Int) := od
       obtain ⟨ad362,e362,hx362_0,hx362_1⟩ := at_T49 HR1.out x5_1 p362 q362
       obtain rfl : ad361 = ad362 := (by injection e362)
       replace p362 := eq_true p362
       replace q362 := eq_true q362
       go_wp2
       go_roundg k1
       case measure => have := HK1.out;omega
       case rel => exact ⟨(wrap64 (x5_1 + 1)),(by first|rfl|(simp;done)|(simp [*];done)),H',⟨by have := HK1.out;omega⟩,by repeat (first|exact Drawn0.refl _|apply Drawn0.step)⟩
    ·rw [if_neg c4] at H
     exact absurd H (by simp)
   ·rw [if_neg c3] at H
    have c3b0 : decide (x5_1 < (l1.length : Int)) = false := decide_eq_false c3
    clear c3
    obtain rfl := Option.some.inj H
    go_wp2
    go_ret
    exact ⟨by first|rfl|(simp;done)|(simp [*];done),by repeat (first|exact Drawn0.refl _|apply Drawn0.step)⟩
mutual
def privityref05_Unlike.l0 : Nat → List Int → Int → Option (Bool)
 | 0,_,_ => none
 | k + 1,x0,x3 => if x3 < (x0.length : Int) then (privityref05_Unlike.l1 k x0 x3 0) else (some true)
def privityref05_Unlike.l1 : Nat → List Int → Int → Int → Option (Bool)
 | 0,_,_,_ => none
 | k + 1,x0,x3,x4 => if x4 < x3 then (if 0 ≤ x3 then (if x3 < (x0.length : Int) then (if 0 ≤ x4 then (if x4 < (x0.length : Int) then (if (rd x0 x3) = (rd x0 x4) then (some false) else (privityref05_Unlike.l1 k x0 x3 (wrap64 (x4 + 1)))) else (none)) else (none)) else (none)) else (none)) else (privityref05_Unlike.l0 k x0 (wrap64 (x3 + 1)))
end
def privityref05_Unlike.f (k : Nat) (l0 : List Int) : Option (Bool) := privityref05_Unlike.l0 k l0 0
set_option maxHeartbeats 8000000 in
set_option maxRecDepth 100000 in
theorem privityref05_Unlike.calls (k : Nat) (A0 : Option Addr) (c0 : Nat) (l0 : List Int) (r : Bool) (w : World) (hr0 : Kd.C (Kd.int .u64) w A0 l0.length l0) (hc0 : l0.length ≤ c0) (h : privityref05_Unlike.f k l0 = some r) :
  Calls Try.prog 62 #[.slice A0 l0.length c0] w fun e w' => e = .returned (.bool r) ∧ Drawn0 w w' := by
 have HR0 := am hr0
 have HC0 := am hc0
 clear hr0 hc0
 have H : (privityref05_Unlike.l0 k l0 0) = some r := h
 clear h
 have H' := am H
 clear H
 go_enter Try.func62,Try.ntmps62
 go_wp2
 repeat (go_quiet (fail);try go_wp2)
 go_loopg [3] k (fun kq v3 w' => ∃ (x3_1 : Int),v3 = .int .i64 x3_1 ∧ Aside0 (privityref05_Unlike.l0 kq l0 x3_1 = some r) ∧ Aside0 (kq ≤ k) ∧ Drawn0 w w')
 case atStart => exact ⟨(0),(by first|rfl|(simp;done)|(simp [*];done)),H',⟨Nat.le_refl _⟩,by repeat (first|exact Drawn0.refl _|apply Drawn0.step)⟩
 case round =>
  clear H'
  obtain ⟨x3_1,rfl,HA,HK1,⟨m1,rfl⟩⟩ := hrel
  cases gk with
  | zero => exact absurd HA.out (by simp [privityref05_Unlike.l0])
  | succ k1 =>
   have H := HA.out
   clear HA
   simp only [privityref05_Unlike.l0] at H
   by_cases c2 : x3_1 < (l0.length : Int)
   ·rw [if_pos c2] at H
    have c2b0 : decide (x3_1 < (l0.length : Int)) = true := decide_eq_true c2
    clear c2
    have H' := am H
    clear H
    go_wp2
    repeat (go_quiet (fail);try go_wp2)
    go_loopg [4] k1 (fun kq v4 w' => ∃ (x4_2 : Int),v4 = .int .i64 x4_2 ∧ Aside0 (privityref05_Unlike.l1 kq l0 x3_1 x4_2 = some r) ∧ Aside0 (kq ≤ k1) ∧ Drawn0 w w')
    case atStart => exact ⟨(0),(by first|rfl|(simp;done)|(simp [*];done)),H',⟨Nat.le_refl _⟩,by repeat (first|exact Drawn0.refl _|apply Drawn0.step)⟩
    case round =>
     clear H'
     try clear c2
     try clear c2b0
     try clear p2
     obtain ⟨x4_2,rfl,HA,HK2,⟨m2,rfl⟩⟩ := hrel
     cases gk with
     | zero => exact absurd HA.out (by simp [privityref05_Unlike.l1])
     | succ k2 =>
      have H := HA.out
      clear HA
      simp only [privityref05_Unlike.l1] at H
      by_cases c3 : x4_2 < x3_1
      ·rw [if_pos c3] at H
       have c3b0 : decide (x4_2 < x3_1) = true := decide_eq_true c3
       clear c3
       by_cases c4 : 0 ≤ x3_1
       ·rw [if_pos c4] at H
        have c4b0 : decide (0 ≤ x3_1) = true := decide_eq_true c4
        clear c4
        by_cases c5 : x3_1 < (l0.length : Int)
        ·rw [if_pos c5] at H
         have c5b0 : decide (x3_1 < (l0.length : Int)) = true := decide_eq_true c5
         clear c5
         by_cases c6 : 0 ≤ x4_2
         ·rw [if_pos c6] at H
          have c6b0 : decide (0 ≤ x4_2) = true := decide_eq_true c6
          clear c6
          by_cases c7 : x4_2 < (l0.length : Int)
          ·rw [if_pos c7] at H
           have c7b0 : decide (x4_2 < (l0.length : Int)) = true := decide_eq_true c7
           clear c7
           by_cases c8 : (rd l0 x3_1) = (rd l0 x4_2)
           ·rw [if_pos c8] at H
            have c8b0 : ((rd l0 x3_1) == (rd l0 x4_2)) = true := beq_iff_eq.mpr c8
            have c8b1 : ((rd l0 x3_1) != (rd l0 x4_2)) = false := bne_eq_false_iff_eq.mpr c8
            clear c8
            obtain rfl := Option.some.inj H
            have p363 : 0 ≤ (x3_1 : Int) := od
            have q363 : x3_1 < (l0.length : Int) := od
            obtain ⟨ad363,e363,hx363_0⟩ := Kd.at_int HR0.out x3_1 p363 q363
            cases e363
            replace p363 := eq_true p363
            replace q363 := eq_true q363
            have p364 : 0 ≤ (x4_2 : Int) := od
            have q364 : x4_2 < (l0.length : Int) := od
            obtain ⟨ad364,e364,hx364_0⟩ := Kd.at_int HR0.out x4_2 p364 q364
            obtain rfl : ad363 = ad364 := (by injection e364)
            replace p364 := eq_true p364
            replace q364 := eq_true q364
            go_wp2
            repeat (go_quiet (fail);try go_wp2)
            go_ret
            exact ⟨by first|rfl|(simp;done)|(simp [*];done),by repeat (first|exact Drawn0.refl _|apply Drawn0.step)⟩
           ·rw [if_neg c8] at H
            have c8b0 : ((rd l0 x3_1) == (rd l0 x4_2)) = false := beq_eq_false_iff_ne.mpr c8
            have c8b1 : ((rd l0 x3_1) != (rd l0 x4_2)) = true := bne_iff_ne.mpr c8
            have H' := am H
            clear H
            have p363 : 0 ≤ (x3_1 : Int) := od
            have q363 : x3_1 < (l0.length : Int) := od
            obtain ⟨ad363,e363,hx363_0⟩ := Kd.at_int HR0.out x3_1 p363 q363
            cases e363
            replace p363 := eq_true p363
            replace q363 := eq_true q363
            have p364 : 0 ≤ (x4_2 : Int) := od
            have q364 : x4_2 < (l0.length : Int) := od
            obtain ⟨ad364,e364,hx364_0⟩ := Kd.at_int HR0.out x4_2 p364 q364
            obtain rfl : ad363 = ad364 := (by injection e364)
            replace p364 := eq_true p364
            replace q364 := eq_true q364
            go_wp2
            repeat (go_quiet (fail);try go_wp2)
            go_roundg k2
            case measure => have := HK1.out;have := HK2.out;omega
            case rel => exact ⟨(wrap64 (x4_2 + 1)),(by first|rfl|(simp;done)|(simp [*];done)),H',⟨by have := HK1.out;have := HK2.out;omega⟩,by repeat (first|exact Drawn0.refl _|apply Drawn0.step)⟩
          ·rw [if_neg c7] at H
           exact absurd H (by simp)
         ·rw [if_neg c6] at H
          exact absurd H (by simp)
        ·rw [if_neg c5] at H
         exact absurd H (by simp)
       ·rw [if_neg c4] at H
        exact absurd H (by simp)
      ·rw [if_neg c3] at H
       have c3b0 : decide (x4_2 < x3_1) = false := decide_eq_false c3
       clear c3
       have H' := am H
       clear H
       go_wp2
       repeat (go_quiet (fail);try go_wp2)
       go_roundg k2
       case measure => have := HK1.out;have := HK2.out;omega
       case rel => exact ⟨(wrap64 (x3_1 + 1)),(by first|rfl|(simp;done)|(simp [*];done)),H',⟨by have := HK1.out;have := HK2.out;omega⟩,by repeat (first|exact Drawn0.refl _|apply Drawn0.step)⟩
   ·rw [if_neg c2] at H
    have c2b0 : decide (x3_1 < (l0.length : Int)) = false := decide_eq_false c2
    clear c2
    obtain rfl := Option.some.inj H
    go_wp2
    repeat (go_quiet (fail);try go_wp2)
    go_ret
    exact ⟨by first|rfl|(simp;done)|(simp [*];done),by repeat (first|exact Drawn0.refl _|apply Drawn0.step)⟩
def privityref05_Places.l0 : Nat → List (S49) → List Int → Int → Option (List Int)
 | 0,_,_,_ => none
 | k + 1,x0,x3,x4 => if x4 < (x0.length : Int) then (if 0 ≤ x4 then (if x3.length < 17592186044416 then (privityref05_Places.l0 k x0 (x3 ++ [(rd_T49 x0 x4).f0]) (wrap64 (x4 + 1))) else (none)) else (none)) else (some x3)
def privityref05_Places.f (k : Nat) (l0 : List (S49)) : Option (List Int) := privityref05_Places.l0 k l0 ([] : List Int) 0
set_option maxHeartbeats 8000000 in
set_option maxRecDepth 100000 in
theorem privityref05_Places.calls (k : Nat) (A0 : Option Addr) (c0 : Nat) (l0 : List (S49)) (r : List Int) (w : World) (hr0 : Kd.C k49 w A0 l0.length l0) (hc0 : l0.length ≤ c0) (h : privityref05_Places.f k l0 = some r) :
  Calls Try.prog 63 #[.slice A0 l0.length c0] w fun e w' => ∃ v0_ : Value,e = .returned (v0_) ∧ Kd.R (Kd.int .u64) 22 w' w.heap.size (fun _ => True) v0_ r ∧ Below w.heap.size w w' := by
 have HR0 := am hr0
 have HC0 := am hc0
 clear hr0 hc0
 have HB := am (Below.refl w.heap.size w)
 have H : (privityref05_Places.l0 k l0 ([] : List Int) 0) = some r := h
 clear h
 have H' := am H
 clear H
 go_enter Try.func63,Try.ntmps63
 go_wp2
 go_loopg [3,4] k (fun kq v3 v4 w' => ∃ (x3_1 : List Int) (x4_1 : Int),v4 = .int .i64 x4_1 ∧ Aside0 (privityref05_Places.l0 kq l0 x3_1 x4_1 = some r) ∧ Aside0 (kq ≤ k) ∧ Aside0 (Kd.R (Kd.int .u64) 22 w' w.heap.size (fun _ => True) v3 x3_1) ∧ Aside0 (Below w.heap.size w w'))
 case atStart => exact ⟨(([] : List Int)),(0),(by first|rfl|(simp;done)|(simp [*];done)),H',⟨Nat.le_refl _⟩,⟨by first|exact Kd.R_nil _ _ _ _ _|exact Kd.N_nil _ _ _ _ _|exact Kd.V_nil _ _ _ _ _|exact Kd.Q_nil _ _ _ _ _|exact Kd.S_nil _ _ _ _ _⟩,⟨bb HB⟩⟩
 case round =>
  clear H'
  obtain ⟨x3_1,x4_1,rfl,HA,HK1,HO_3,HB⟩ := hrel
  cases gk with
  | zero => exact absurd HA.out (by simp [privityref05_Places.l0])
  | succ k1 =>
   have H := HA.out
   clear HA
   simp only [privityref05_Places.l0] at H
   by_cases c2 : x4_1 < (l0.length : Int)
   ·rw [if_pos c2] at H
    have c2b0 : decide (x4_1 < (l0.length : Int)) = true := decide_eq_true c2
    clear c2
    by_cases c3 : 0 ≤ x4_1
    ·rw [if_pos c3] at H
     have c3b0 : decide (0 ≤ x4_1) = true := decide_eq_true c3
     clear c3
     by_cases c4 : x3_1.length < 17592186044416
     ·rw [if_pos c4] at H
      have LMc4 := am c4
      clear c4
      obtain ⟨y366,hy366⟩ : ∃ y_ : List Int,y_ = (x3_1 ++ [(rd_T49 l0 x4_1).f0]) := ⟨_,rfl⟩
      replace H : (privityref05_Places.l0 k1 l0 y366 (wrap64 (x4_1 + 1))) = some r := by first|(rw [hy366];with_reducible exact H)|(have H2_ := (Option.bind_some _ _).symm.trans H;rw [hy366];with_reducible exact H2_)|(have H2_ := (Option.bind_some _ _).symm.trans H;with_reducible exact H2_)|with_reducible exact H|(rw [hy366];exact H)|exact H
      have Ny366 := am hy366
      clear hy366
      have H' := am H
      clear H
      have p365 : 0 ≤ (x4_1 : Int) := od
      have q365 : x4_1 < (l0.length : Int) := od
      obtain ⟨ad365,e365,hx365_0,hx365_1⟩ := at_T49 HR0.out x4_1 p365 q365
      cases e365
      replace hx365_0 := (HB.out.cell (World.block_lt_of_cell? w _ hx365_0)).trans hx365_0
      replace hx365_1 := (HB.out.cell (World.block_lt_of_cell? w _ hx365_1)).trans hx365_1
      replace p365 := eq_true p365
      replace q365 := eq_true q365
      go_wp2_with (first|((with_reducible refine gate_builtin (b := .append) (xs := #[.tmp 11,.tmp 17]) rfl ?_);at_builtin;refine Kd.R_append (Kd.int .u64) (w0 := w) w.heap.size rfl (.tmp 11) (.tmp 17) 41 22 (.int .u64 0) 8 rfl Try.underlying41 info22 rfl (by decide) (by omega) u3 x3_1 ((rd_T49 l0 x4_1).f0) [.int .u64 ((rd_T49 l0 x4_1).f0)] (fun _ => True) (fun _ => False) rfl rfl ?aP (fun _ hk => hk.elim) ?aF ?aO ?aB ?aS ?aL ?_;(case aP => exact rfl);(case aB => exact (bb HB));(case aF => exact (fun _ _ => trivial));(case aO => exact (rr HO_3));(case aS => exact (below_size (bb HB)));(case aL => have := LMc4.out;omega);intro v367 w5 ho hb hg hat;rw [← Ny366.out] at ho;have n0_ := am (hb);have n1_ := am (ho);clear HB HO_3;have HB := n0_;have HO368 := n1_;clear n0_ n1_;clear ho hb hg hat))
      go_roundg k1
      case measure => have := HK1.out;omega
      case rel => exact ⟨(y366),(wrap64 (x4_1 + 1)),(by first|rfl|(simp;done)|(simp [*];done)),H',⟨by have := HK1.out;omega⟩,⟨by (with_reducible repeat (first|apply Kd.R_alloc|apply Kd.R_drewN|apply Kd.R_drew));exact HO368.out⟩,⟨bb HB⟩⟩
     ·rw [if_neg c4] at H
      exact absurd H (by simp)
    ·rw [if_neg c3] at H
     exact absurd H (by simp)
   ·rw [if_neg c2] at H
    have c2b0 : decide (x4_1 < (l0.length : Int)) = false := decide_eq_false c2
    clear c2
    obtain rfl := Option.some.inj H
    go_wp2
    go_ret
    exact ⟨_,by first|rfl|(simp [errW_none,errW_some] <;> rfl)|(simp [*,errW_none,errW_some] <;> rfl),by (with_reducible repeat (first|apply Kd.R_alloc|apply Kd.R_drewN|apply Kd.R_drew));exact HO_3.out,bb HB⟩
def privityref09_Places.l0 : Nat → List (S49) → Int → Option (Bool)
 | 0,_,_ => none
 | k + 1,x0,x3 => if x3 < (x0.length : Int) then (if 0 ≤ x3 then (if ((rd_T49 x0 x3).f0) = 0 then (some false) else (privityref09_Places.l0 k x0 (wrap64 (x3 + 1)))) else (none)) else ((privityref05_Places.f k x0).bind fun t370 => ((privityref05_Unlike.f k t370).bind fun t373 => (some t373)))
def privityref09_Places.f (k : Nat) (l0 : List (S49)) : Option (Bool) := privityref09_Places.l0 k l0 0
set_option maxHeartbeats 8000000 in
set_option maxRecDepth 100000 in
theorem privityref09_Places.calls (k : Nat) (A0 : Option Addr) (c0 : Nat) (l0 : List (S49)) (r : Bool) (w : World) (hr0 : Kd.C k49 w A0 l0.length l0) (hc0 : l0.length ≤ c0) (h : privityref09_Places.f k l0 = some r) :
  Calls Try.prog 45 #[.slice A0 l0.length c0] w fun e w' => e = .returned (.bool r) ∧ Below w.heap.size w w' := by
 have HR0 := am hr0
 have HC0 := am hc0
 clear hr0 hc0
 have HB := am (Below.refl w.heap.size w)
 have H : (privityref09_Places.l0 k l0 0) = some r := h
 clear h
 have H' := am H
 clear H
 go_enter Try.func45,Try.ntmps45
 go_wp2
 go_loopg [3] k (fun kq v3 w' => ∃ (x3_1 : Int),v3 = .int .i64 x3_1 ∧ Aside0 (privityref09_Places.l0 kq l0 x3_1 = some r) ∧ Aside0 (kq ≤ k) ∧ Aside0 (Below w.heap.size w w'))
 case atStart => exact ⟨(0),(by first|rfl|(simp;done)|(simp [*];done)),H',⟨Nat.le_refl _⟩,⟨bb HB⟩⟩
 case round =>
  clear H'
  obtain ⟨x3_1,rfl,HA,HK1,HB⟩ := hrel
  cases gk with
  | zero => exact absurd HA.out (by simp [privityref09_Places.l0])
  | succ k1 =>
   have H := HA.out
   clear HA
   simp only [privityref09_Places.l0] at H
   by_cases c2 : x3_1 < (l0.length : Int)
   ·rw [if_pos c2] at H
    have c2b0 : decide (x3_1 < (l0.length : Int)) = true := decide_eq_true c2
    clear c2
    by_cases c3 : 0 ≤ x3_1
    ·rw [if_pos c3] at H
     have c3b0 : decide (0 ≤ x3_1) = true := decide_eq_true c3
     clear c3
     by_cases c4 : ((rd_T49 l0 x3_1).f0) = 0
     ·rw [if_pos c4] at H
      have c4b0 : (((rd_T49 l0 x3_1).f0) == 0) = true := beq_iff_eq.mpr c4
      have c4b1 : (((rd_T49 l0 x3_1).f0) != 0) = false := bne_eq_false_iff_eq.mpr c4
      clear c4
      obtain rfl := Option.some.inj H
      have p369 : 0 ≤ (x3_1 : Int) := od
      have q369 : x3_1 < (l0.length : Int) := od
      obtain ⟨ad369,e369,hx369_0,hx369_1⟩ := at_T49 HR0.out x3_1 p369 q369
      cases e369
      replace hx369_0 := (HB.out.cell (World.block_lt_of_cell? w _ hx369_0)).trans hx369_0
      replace hx369_1 := (HB.out.cell (World.block_lt_of_cell? w _ hx369_1)).trans hx369_1
      replace p369 := eq_true p369
      replace q369 := eq_true q369
      go_wp2
      go_ret
      exact ⟨by first|rfl|(simp [errW_none,errW_some] <;> rfl)|(simp [*,errW_none,errW_some] <;> rfl),bb HB⟩
     ·rw [if_neg c4] at H
      have c4b0 : (((rd_T49 l0 x3_1).f0) == 0) = false := beq_eq_false_iff_ne.mpr c4
      have c4b1 : (((rd_T49 l0 x3_1).f0) != 0) = true := bne_iff_ne.mpr c4
      have H' := am H
      clear H
      have p369 : 0 ≤ (x3_1 : Int) := od
      have q369 : x3_1 < (l0.length : Int) := od
      obtain ⟨ad369,e369,hx369_0,hx369_1⟩ := at_T49 HR0.out x3_1 p369 q369
      cases e369
      replace hx369_0 := (HB.out.cell (World.block_lt_of_cell? w _ hx369_0)).trans hx369_0
      replace hx369_1 := (HB.out.cell (World.block_lt_of_cell? w _ hx369_1)).trans hx369_1
      replace p369 := eq_true p369
      replace q369 := eq_true q369
      go_wp2
      go_roundg k1
      case measure => have := HK1.out;omega
      case rel => exact ⟨(wrap64 (x3_1 + 1)),(by first|rfl|(simp;done)|(simp [*];done)),H',⟨by have := HK1.out;omega⟩,⟨bb HB⟩⟩
    ·rw [if_neg c3] at H
     exact absurd H (by simp)
   ·rw [if_neg c2] at H
    have c2b0 : decide (x3_1 < (l0.length : Int)) = false := decide_eq_false c2
    clear c2
    replace H := Option.bind_eq_some_iff.mp H
    obtain ⟨t370,A50,H⟩ := H
    try dsimp only at H
    have A5 := am A50
    clear A50
    replace H := Option.bind_eq_some_iff.mp H
    obtain ⟨t373,A60,H⟩ := H
    try dsimp only at H
    have A6 := am A60
    clear A60
    obtain rfl := Option.some.inj H
    go_wp2_with (first|((with_reducible refine gate_callee (f := 63) rfl ?_);refine goesL_ (some 17) rfl rfl Try.func63 (by kernel_rfl) rfl #[.slice A0 l0.length c0] rfl (by (try simp only [List.map_toArray,List.map_cons,List.map_nil]);first|done|rfl|(simp only [List.length_drop,List.length_take];rfl)) ?_;(with_reducible refine (privityref05_Places.calls k1 _ _ l0 t370 _ ?side1 ?side2 A5.out).mono ?_);(case side1 => exact cb HR0 HB);(case side2 => exact HC0.out);rintro e w7 ⟨v371,rfl,ho0,hb⟩;refine ⟨_,rfl,?_⟩;have n0_ := am (Kd.R_lower ho0 (below_size (bb HB)));have n1_ := am (below_step (bb HB) hb);clear HB;have HO372 := n0_;have HB := n1_;clear n0_ n1_;(try clear hb);(try clear hb2);(try clear hk);(try clear hi);(try clear ho0);obtain ⟨Ao8,co8,eo8⟩ := Kd.R_slice HO372.out;subst eo8)|((with_reducible refine gate_callee (f := 62) rfl ?_);refine goesL_ (some 18) rfl rfl Try.func62 (by kernel_rfl) rfl #[.slice Ao8 t370.length co8] rfl (by (try simp only [List.map_toArray,List.map_cons,List.map_nil]);first|done|rfl|(simp only [List.length_drop,List.length_take];rfl)) ?_;(with_reducible refine (privityref05_Unlike.calls k1 _ _ t370 t373 _ ?side1 ?side2 A6.out).mono ?_);(case side1 => exact cr HO372);(case side2 => exact (Kd.R_reads' HO372.out).2.1);rintro e w' ⟨rfl,⟨nd,rfl⟩⟩;refine ⟨_,rfl,?_⟩))
    go_ret
    exact ⟨by first|rfl|(simp [errW_none,errW_some] <;> rfl)|(simp [*,errW_none,errW_some] <;> rfl),bb HB⟩
def privityref01_Add.f (a0 : Int) (a1 : Int) (a2 : Int) : Option (Int) := if a0 = 0 then (none) else (some (Int.tmod (IntKind.u64.wrap (a1 + a2)) a0))
set_option maxHeartbeats 8000000 in
set_option maxRecDepth 100000 in
theorem privityref01_Add.calls (a0 : Int) (a1 : Int) (a2 : Int) (r : Int) (w : World) (h : privityref01_Add.f a0 a1 a2 = some r) :
  Calls Try.prog 34 #[.int .u64 a0,.int .u64 a1,.int .u64 a2] w fun e w' => e = .returned (.int .u64 r) ∧ Drawn0 w w' := by
 have H : (if a0 = 0 then (none) else (some (Int.tmod (IntKind.u64.wrap (a1 + a2)) a0))) = some r := h
 clear h
 by_cases c4 : a0 = 0
 ·rw [if_pos c4] at H
  exact absurd H (by simp)
 ·rw [if_neg c4] at H
  have c4b0 : (a0 == 0) = false := beq_eq_false_iff_ne.mpr c4
  have c4b1 : (a0 != 0) = true := bne_iff_ne.mpr c4
  obtain rfl := Option.some.inj H
  go_enter Try.func34,Try.ntmps34
  go_wp2
  go_ret
  exact ⟨by first|rfl|(simp;done)|(simp [*];done),by repeat (first|exact Drawn0.refl _|apply Drawn0.step)⟩
def privityref04_Coefficient.f (l0 : List Int) (a1 : Int) : Option (Int) := if a1 < 0 then (some 0) else (if a1 ≥ (l0.length : Int) then (some 0) else (if 0 ≤ a1 then (if a1 < (l0.length : Int) then (some (rd l0 a1)) else (none)) else (none)))
set_option maxHeartbeats 8000000 in
set_option maxRecDepth 100000 in
theorem privityref04_Coefficient.calls (A0 : Option Addr) (c0 : Nat) (l0 : List Int) (a1 : Int) (r : Int) (w : World) (hr0 : Kd.C (Kd.int .u64) w A0 l0.length l0) (hc0 : l0.length ≤ c0) (h : privityref04_Coefficient.f l0 a1 = some r) :
  Calls Try.prog 73 #[.slice A0 l0.length c0,.int .i64 a1] w fun e w' => e = .returned (.int .u64 r) ∧ Drawn0 w w' := by
 have HR0 := am hr0
 have HC0 := am hc0
 clear hr0 hc0
 have H : (if a1 < 0 then (some 0) else (if a1 ≥ (l0.length : Int) then (some 0) else (if 0 ≤ a1 then (if a1 < (l0.length : Int) then (some (rd l0 a1)) else (none)) else (none)))) = some r := h
 clear h
 by_cases c3 : a1 < 0
 ·rw [if_pos c3] at H
  have c3b0 : decide (a1 < 0) = true := decide_eq_true c3
  clear c3
  obtain rfl := Option.some.inj H
  go_enter Try.func73,Try.ntmps73
  go_wp2
  go_ret
  exact ⟨by first|rfl|(simp;done)|(simp [*];done),by repeat (first|exact Drawn0.refl _|apply Drawn0.step)⟩
 ·rw [if_neg c3] at H
  have c3b0 : decide (a1 < 0) = false := decide_eq_false c3
  clear c3
  by_cases c4 : a1 ≥ (l0.length : Int)
  ·rw [if_pos c4] at H
   have c4b0 : decide ((l0.length : Int) ≤ a1) = true := decide_eq_true c4
   clear c4
   obtain rfl := Option.some.inj H
   go_enter Try.func73,Try.ntmps73
   go_wp2
   go_ret
   exact ⟨by first|rfl|(simp;done)|(simp [*];done),by repeat (first|exact Drawn0.refl _|apply Drawn0.step)⟩
  ·rw [if_neg c4] at H
   have c4b0 : decide ((l0.length : Int) ≤ a1) = false := decide_eq_false c4
   clear c4
   by_cases c5 : 0 ≤ a1
   ·rw [if_pos c5] at H
    have c5b0 : decide (0 ≤ a1) = true := decide_eq_true c5
    clear c5
    by_cases c6 : a1 < (l0.length : Int)
    ·rw [if_pos c6] at H
     have c6b0 : decide (a1 < (l0.length : Int)) = true := decide_eq_true c6
     clear c6
     obtain rfl := Option.some.inj H
     have p374 : 0 ≤ (a1 : Int) := od
     have q374 : a1 < (l0.length : Int) := od
     obtain ⟨ad374,e374,hx374_0⟩ := Kd.at_int HR0.out a1 p374 q374
     cases e374
     replace p374 := eq_true p374
     replace q374 := eq_true q374
     go_enter Try.func73,Try.ntmps73
     go_wp2
     go_ret
     exact ⟨by first|rfl|(simp;done)|(simp [*];done),by repeat (first|exact Drawn0.refl _|apply Drawn0.step)⟩
    ·rw [if_neg c6] at H
     exact absurd H (by simp)
   ·rw [if_neg c5] at H
    exact absurd H (by simp)
def privityref04_Trim.l0 : Nat → List Int → Int → Option (List Int)
 | 0,_,_ => none
 | k + 1,x0,x3 => if x3 > 0 then (if 0 ≤ (wrap64 (x3 - 1)) then (if (wrap64 (x3 - 1)) < (x0.length : Int) then (if (rd x0 (wrap64 (x3 - 1))) = 0 then (privityref04_Trim.l0 k x0 (wrap64 (x3 - 1))) else ((some (([] : List Int) : List Int)).bind fun y376 => (if 0 ≤ x3 then (if x3 ≤ (x0.length : Int) then (if y376.length + (x0.take (x3 : Int).toNat).length < 17592186044416 then (some (y376 ++ (x0.take (x3 : Int).toNat))) else (none)) else (none)) else (none)))) else (none)) else (none)) else ((some (([] : List Int) : List Int)).bind fun y383 => (if 0 ≤ x3 then (if x3 ≤ (x0.length : Int) then (if y383.length + (x0.take (x3 : Int).toNat).length < 17592186044416 then (some (y383 ++ (x0.take (x3 : Int).toNat))) else (none)) else (none)) else (none)))
def privityref04_Trim.f (k : Nat) (l0 : List Int) : Option (List Int) := privityref04_Trim.l0 k l0 (l0.length : Int)
set_option maxHeartbeats 8000000 in
set_option maxRecDepth 100000 in
theorem privityref04_Trim.calls (k : Nat) (A0 : Option Addr) (c0 : Nat) (l0 : List Int) (r : List Int) (w : World) (hr0 : Kd.C (Kd.int .u64) w A0 l0.length l0) (hc0 : l0.length ≤ c0) (h : privityref04_Trim.f k l0 = some r) :
  Calls Try.prog 74 #[.slice A0 l0.length c0] w fun e w' => ∃ v0_ : Value,e = .returned (v0_) ∧ Kd.R (Kd.int .u64) 22 w' w.heap.size (fun _ => True) v0_ r ∧ Below w.heap.size w w' := by
 have HR0 := am hr0
 have HC0 := am hc0
 clear hr0 hc0
 have HB := am (Below.refl w.heap.size w)
 have H : (privityref04_Trim.l0 k l0 (l0.length : Int)) = some r := h
 clear h
 have H' := am H
 clear H
 go_enter Try.func74,Try.ntmps74
 go_wp2
 go_loopg [3] k (fun kq v3 w' => ∃ (x3_1 : Int),v3 = .int .i64 x3_1 ∧ Aside0 (privityref04_Trim.l0 kq l0 x3_1 = some r) ∧ Aside0 (kq ≤ k) ∧ Aside0 (Below w.heap.size w w'))
 case atStart => exact ⟨((l0.length : Int)),(by first|rfl|(simp;done)|(simp [*];done)),H',⟨Nat.le_refl _⟩,⟨bb HB⟩⟩
 case round =>
  clear H'
  obtain ⟨x3_1,rfl,HA,HK1,HB⟩ := hrel
  cases gk with
  | zero => exact absurd HA.out (by simp [privityref04_Trim.l0])
  | succ k1 =>
   have H := HA.out
   clear HA
   simp only [privityref04_Trim.l0] at H
   by_cases c2 : x3_1 > 0
   ·rw [if_pos c2] at H
    have c2b0 : decide (0 < x3_1) = true := decide_eq_true c2
    clear c2
    obtain ⟨ji3,hji3⟩ : ∃ j_ : Int,(wrap64 (x3_1 - 1)) = j_ := ⟨_,rfl⟩
    first|rw [hji3] at H|simp only [hji3] at H
    have hji3w : (IntKind.i64.wrap (x3_1 - 1)) = ji3 := (i64_w _).trans hji3
    by_cases c4 : 0 ≤ (ji3)
    ·rw [if_pos c4] at H
     have c4b0 : decide (0 ≤ (ji3)) = true := decide_eq_true c4
     clear c4
     by_cases c5 : (ji3) < (l0.length : Int)
     ·rw [if_pos c5] at H
      have c5b0 : decide ((ji3) < (l0.length : Int)) = true := decide_eq_true c5
      clear c5
      by_cases c6 : (rd l0 (ji3)) = 0
      ·rw [if_pos c6] at H
       have c6b0 : ((rd l0 (ji3)) == 0) = true := beq_iff_eq.mpr c6
       have c6b1 : ((rd l0 (ji3)) != 0) = false := bne_eq_false_iff_eq.mpr c6
       clear c6
       have H' := am H
       clear H
       have p375 : 0 ≤ ((ji3) : Int) := od
       have q375 : (ji3) < (l0.length : Int) := od
       obtain ⟨ad375,e375,hx375_0⟩ := Kd.at_int HR0.out (ji3) p375 q375
       cases e375
       replace hx375_0 := (HB.out.cell (World.block_lt_of_cell? w _ hx375_0)).trans hx375_0
       replace p375 := eq_true p375
       replace q375 := eq_true q375
       go_wp2
       go_roundg k1
       case measure => have := HK1.out;omega
       case rel => exact ⟨(ji3),(by first|rfl|(simp;done)|(simp only [← hji3] <;> (first|rfl|simp))|(simp [*];done)),H',⟨by have := HK1.out;omega⟩,⟨bb HB⟩⟩
      ·rw [if_neg c6] at H
       have c6b0 : ((rd l0 (ji3)) == 0) = false := beq_eq_false_iff_ne.mpr c6
       have c6b1 : ((rd l0 (ji3)) != 0) = true := bne_iff_ne.mpr c6
       obtain ⟨y376,hy376⟩ : ∃ y_ : List Int,y_ = (([] : List Int)) := ⟨_,rfl⟩
       replace H : (if 0 ≤ x3_1 then (if x3_1 ≤ (l0.length : Int) then (if y376.length + (l0.take (x3_1 : Int).toNat).length < 17592186044416 then (some (y376 ++ (l0.take (x3_1 : Int).toNat))) else (none)) else (none)) else (none)) = some r := by first|(rw [hy376];with_reducible exact H)|(have H2_ := (Option.bind_some _ _).symm.trans H;rw [hy376];with_reducible exact H2_)|(have H2_ := (Option.bind_some _ _).symm.trans H;with_reducible exact H2_)|with_reducible exact H|(rw [hy376];exact H)|exact H
       have Ny376 := am hy376
       clear hy376
       by_cases c7 : 0 ≤ x3_1
       ·rw [if_pos c7] at H
        have c7b0 := eq_true c7
        have c7b1 : decide (0 ≤ x3_1) = true := decide_eq_true c7
        clear c7
        by_cases c8 : x3_1 ≤ (l0.length : Int)
        ·rw [if_pos c8] at H
         have c8b0 := eq_true c8
         have c8b1 : decide (x3_1 ≤ (l0.length : Int)) = true := decide_eq_true c8
         clear c8
         by_cases c9 : y376.length + (l0.take (x3_1 : Int).toNat).length < 17592186044416
         ·rw [if_pos c9] at H
          have LMc9 := am c9
          clear c9
          obtain ⟨y380,hy380⟩ : ∃ y_ : List Int,y_ = (y376 ++ (l0.take (x3_1 : Int).toNat)) := ⟨_,rfl⟩
          replace H : (some y380) = some r := by first|(rw [hy380];with_reducible exact H)|(have H2_ := (Option.bind_some _ _).symm.trans H;rw [hy380];with_reducible exact H2_)|(have H2_ := (Option.bind_some _ _).symm.trans H;with_reducible exact H2_)|with_reducible exact H|(rw [hy380];exact H)|exact H
          have Ny380 := am hy380
          clear hy380
          obtain rfl := Option.some.inj H
          have p375 : 0 ≤ ((ji3) : Int) := od
          have q375 : (ji3) < (l0.length : Int) := od
          obtain ⟨ad375,e375,hx375_0⟩ := Kd.at_int HR0.out (ji3) p375 q375
          cases e375
          replace hx375_0 := (HB.out.cell (World.block_lt_of_cell? w _ hx375_0)).trans hx375_0
          replace p375 := eq_true p375
          replace q375 := eq_true q375
          go_wp2_with (first|((with_reducible refine gate_dst (N := 18) rfl ?_);refine Kd.R_lit (Kd.int .u64) _ 22 ?hg (N := 18) ?hd (xs := ([] : List Int)) (inner := []) (ok := fun _ => True) (okp := fun _ => True) ?hr ?hp (fun _ hk => hk) trivial (Below.refl _ _) (Nat.le_refl _) (by simp) ?_;(case hd => rfl);(case hg => rfl);(case hr => first|(go_simp;done)|(go_simp;rfl));(case hp => exact (Reps.none _ _));intro v377 w10 ho11 hb hg_ hnew_;clear hg_ hnew_;(first|rw [← Ny376.out] at ho11|(simp only [Int.reduceToNat] at ho11;rw [← Ny376.out] at ho11));have n0_ := am (Kd.R_lower ho11 (below_size (bb HB)));have n1_ := am (below_step (bb HB) hb);clear HB;have HO378 := n0_;have HB := n1_;clear n0_ n1_;clear hb ho11;obtain ⟨i012,hi012,_,hsz12,_⟩ := info_parts info22;obtain ⟨hcut12,hA12,hC12⟩ := print_take_of (P := Try.prog) (Value.int .u64) 0 41 22 .i64 Try.underlying41 hi012 hsz12 (some ad375) c0 l0 x3_1 (od) (od) HC0.out;have HR379 := am (Kd.C_of_reads (h1 := fun _ => rfl) (hA12 _ (Kd.reads_of_C HR0.out)));have HC379 := am hC12;clear hA12 hC12 hi012 hsz12)|((with_reducible refine gate_builtin (b := .append) (xs := #[.tmp 18,.tmp 21]) rfl ?_);at_builtin;refine Kd.R_append_rows (Kd.int .u64) (w0 := w) w.heap.size rfl (.tmp 18) (.tmp 21) 41 22 (.int .u64 0) 8 rfl Try.underlying41 info22 rfl (by decide) (by omega) v377 y376 (l0.take (x3_1 : Int).toNat) _ _ _ (fun _ => True) (fun _ => False) rfl rfl ?aO ?aR (fun _ _ h => h) (fun _ h => h.elim) ?aF ?aB ?aS ?aL ?_;(case aR => first|(refine cut_cast (show (l0.take (x3_1 : Int).toNat).length = x3_1.toNat from (by rw [List.length_take];have h_ : (x3_1 : Int) ≤ (l0.length : Int) := od;omega)) ?_;repeat (first|exact (Kd.C_below HR379.out HB.out)|(with_reducible refine Kd.C_alloc ?_ _)|(with_reducible refine Kd.C_drewN ?_ _)|(with_reducible refine Kd.C_drew ?_)))|(repeat (first|exact (Kd.C_below HR379.out HB.out)|(with_reducible refine Kd.C_alloc ?_ _)|(with_reducible refine Kd.C_drewN ?_ _)|(with_reducible refine Kd.C_drew ?_))));(case aB => exact (bb HB));(case aF => exact (fun _ _ => trivial));(case aO => exact (rr HO378));(case aS => exact (below_size (bb HB)));(case aL => have := LMc9.out;have hlx_ := (show (l0.take (x3_1 : Int).toNat).length = x3_1.toNat from (by rw [List.length_take];have h_ : (x3_1 : Int) ≤ (l0.length : Int) := od;omega));omega);intro v381 w13 ho hb hg hat;rw [← Ny380.out] at ho;have n0_ := am (hb);have n1_ := am (ho);clear HB HO378;have HB := n0_;have HO382 := n1_;clear n0_ n1_;clear ho hb hg hat))
          go_ret
          exact ⟨_,by first|rfl|(simp [errW_none,errW_some] <;> rfl)|(simp only [← hji3];first|rfl|(simp [errW_none,errW_some] <;> rfl))|(simp [*,errW_none,errW_some] <;> rfl),by (with_reducible repeat (first|apply Kd.R_alloc|apply Kd.R_drewN|apply Kd.R_drew));exact HO382.out,bb HB⟩
         ·rw [if_neg c9] at H
          exact absurd H (by simp)
        ·rw [if_neg c8] at H
         exact absurd H (by simp)
       ·rw [if_neg c7] at H
        exact absurd H (by simp)
     ·rw [if_neg c5] at H
      exact absurd H (by simp)
    ·rw [if_neg c4] at H
     exact absurd H (by simp)
   ·rw [if_neg c2] at H
    have c2b0 : decide (0 < x3_1) = false := decide_eq_false c2
    clear c2
    obtain ⟨y383,hy383⟩ : ∃ y_ : List Int,y_ = (([] : List Int)) := ⟨_,rfl⟩
    replace H : (if 0 ≤ x3_1 then (if x3_1 ≤ (l0.length : Int) then (if y383.length + (l0.take (x3_1 : Int).toNat).length < 17592186044416 then (some (y383 ++ (l0.take (x3_1 : Int).toNat))) else (none)) else (none)) else (none)) = some r := by first|(rw [hy383];with_reducible exact H)|(have H2_ := (Option.bind_some _ _).symm.trans H;rw [hy383];with_reducible exact H2_)|(have H2_ := (Option.bind_some _ _).symm.trans H;with_reducible exact H2_)|with_reducible exact H|(rw [hy383];exact H)|exact H
    have Ny383 := am hy383
    clear hy383
    by_cases c14 : 0 ≤ x3_1
    ·rw [if_pos c14] at H
     have c14b0 := eq_true c14
     have c14b1 : decide (0 ≤ x3_1) = true := decide_eq_true c14
     clear c14
     by_cases c15 : x3_1 ≤ (l0.length : Int)
     ·rw [if_pos c15] at H
      have c15b0 := eq_true c15
      have c15b1 : decide (x3_1 ≤ (l0.length : Int)) = true := decide_eq_true c15
      clear c15
      by_cases c16 : y383.length + (l0.take (x3_1 : Int).toNat).length < 17592186044416
      ·rw [if_pos c16] at H
       have LMc16 := am c16
       clear c16
       obtain ⟨y387,hy387⟩ : ∃ y_ : List Int,y_ = (y383 ++ (l0.take (x3_1 : Int).toNat)) := ⟨_,rfl⟩
       replace H : (some y387) = some r := by first|(rw [hy387];with_reducible exact H)|(have H2_ := (Option.bind_some _ _).symm.trans H;rw [hy387];with_reducible exact H2_)|(have H2_ := (Option.bind_some _ _).symm.trans H;with_reducible exact H2_)|with_reducible exact H|(rw [hy387];exact H)|exact H
       have Ny387 := am hy387
       clear hy387
       obtain rfl := Option.some.inj H
       go_wp2_with (first|((with_reducible refine gate_dst (N := 18) rfl ?_);refine Kd.R_lit (Kd.int .u64) _ 22 ?hg (N := 18) ?hd (xs := ([] : List Int)) (inner := []) (ok := fun _ => True) (okp := fun _ => True) ?hr ?hp (fun _ hk => hk) trivial (Below.refl _ _) (Nat.le_refl _) (by simp) ?_;(case hd => rfl);(case hg => rfl);(case hr => first|(go_simp;done)|(go_simp;rfl));(case hp => exact (Reps.none _ _));intro v384 w17 ho18 hb hg_ hnew_;clear hg_ hnew_;(first|rw [← Ny383.out] at ho18|(simp only [Int.reduceToNat] at ho18;rw [← Ny383.out] at ho18));have n0_ := am (Kd.R_lower ho18 (below_size (bb HB)));have n1_ := am (below_step (bb HB) hb);clear HB;have HO385 := n0_;have HB := n1_;clear n0_ n1_;clear hb ho18;obtain ⟨i019,hi019,_,hsz19,_⟩ := info_parts info22;obtain ⟨hcut19,hA19,hC19⟩ := print_take_of (P := Try.prog) (Value.int .u64) 0 41 22 .i64 Try.underlying41 hi019 hsz19 A0 c0 l0 x3_1 (od) (od) HC0.out;have HR386 := am (Kd.C_of_reads (h1 := fun _ => rfl) (hA19 _ (Kd.reads_of_C HR0.out)));have HC386 := am hC19;clear hA19 hC19 hi019 hsz19)|((with_reducible refine gate_builtin (b := .append) (xs := #[.tmp 18,.tmp 21]) rfl ?_);at_builtin;refine Kd.R_append_rows (Kd.int .u64) (w0 := w) w.heap.size rfl (.tmp 18) (.tmp 21) 41 22 (.int .u64 0) 8 rfl Try.underlying41 info22 rfl (by decide) (by omega) v384 y383 (l0.take (x3_1 : Int).toNat) _ _ _ (fun _ => True) (fun _ => False) rfl rfl ?aO ?aR (fun _ _ h => h) (fun _ h => h.elim) ?aF ?aB ?aS ?aL ?_;(case aR => first|(refine cut_cast (show (l0.take (x3_1 : Int).toNat).length = x3_1.toNat from (by rw [List.length_take];have h_ : (x3_1 : Int) ≤ (l0.length : Int) := od;omega)) ?_;repeat (first|exact (Kd.C_below HR386.out HB.out)|(with_reducible refine Kd.C_alloc ?_ _)|(with_reducible refine Kd.C_drewN ?_ _)|(with_reducible refine Kd.C_drew ?_)))|(repeat (first|exact (Kd.C_below HR386.out HB.out)|(with_reducible refine Kd.C_alloc ?_ _)|(with_reducible refine Kd.C_drewN ?_ _)|(with_reducible refine Kd.C_drew ?_))));(case aB => exact (bb HB));(case aF => exact (fun _ _ => trivial));(case aO => exact (rr HO385));(case aS => exact (below_size (bb HB)));(case aL => have := LMc16.out;have hlx_ := (show (l0.take (x3_1 : Int).toNat).length = x3_1.toNat from (by rw [List.length_take];have h_ : (x3_1 : Int) ≤ (l0.length : Int) := od;omega));omega);intro v388 w20 ho hb hg hat;rw [← Ny387.out] at ho;have n0_ := am (hb);have n1_ := am (ho);clear HB HO385;have HB := n0_;have HO389 := n1_;clear n0_ n1_;clear ho hb hg hat))
       go_ret
       exact ⟨_,by first|rfl|(simp [errW_none,errW_some] <;> rfl)|(simp [*,errW_none,errW_some] <;> rfl),by (with_reducible repeat (first|apply Kd.R_alloc|apply Kd.R_drewN|apply Kd.R_drew));exact HO389.out,bb HB⟩
      ·rw [if_neg c16] at H
       exact absurd H (by simp)
     ·rw [if_neg c15] at H
      exact absurd H (by simp)
    ·rw [if_neg c14] at H
     exact absurd H (by simp)
mutual
def privityref04_Add.l0 : Nat → Int → List Int → List Int → List Int → Int → Option (List Int)
 | 0,_,_,_,_,_ => none
 | k + 1,x0,x1,x2,x7,x8 => if x8 < (x1.length : Int) then (privityref04_Add.j1 k x0 x1 x2 x7 x8 true) else (privityref04_Add.j1 k x0 x1 x2 x7 x8 (decide (x8 < (x2.length : Int))))
def privityref04_Add.j1 : Nat → Int → List Int → List Int → List Int → Int → Bool → Option (List Int)
 | 0,_,_,_,_,_,_ => none
 | k + 1,x0,x1,x2,x7,x8,x18 => if x18 = true then ((privityref04_Coefficient.f x1 x8).bind fun t390 => ((privityref04_Coefficient.f x2 x8).bind fun t391 => ((privityref01_Add.f x0 t390 t391).bind fun t392 => (if x7.length < 17592186044416 then (privityref04_Add.l0 k x0 x1 x2 (x7 ++ [t392]) (wrap64 (x8 + 1))) else (none))))) else ((privityref04_Trim.f k x7).bind fun t396 => (some t396))
end
def privityref04_Add.f (k : Nat) (a0 : Int) (l1 : List Int) (l2 : List Int) : Option (List Int) := privityref04_Add.l0 k a0 l1 l2 ([] : List Int) 0
set_option maxHeartbeats 8000000 in
set_option maxRecDepth 100000 in
theorem privityref04_Add.calls (k : Nat) (a0 : Int) (A1 : Option Addr) (c1 : Nat) (l1 : List Int) (A2 : Option Addr) (c2 : Nat) (l2 : List Int) (r : List Int) (w : World) (hr1 : Kd.C (Kd.int .u64) w A1 l1.length l1) (hc1 : l1.length ≤ c1) (hr2 : Kd.C (Kd.int .u64) w A2 l2.length l2) (hc2 : l2.length ≤ c2) (h : privityref04_Add.f k a0 l1 l2 = some r) :
  Calls Try.prog 64 #[.int .u64 a0,.slice A1 l1.length c1,.slice A2 l2.length c2] w fun e w' => ∃ v0_ : Value,e = .returned (v0_) ∧ Kd.R (Kd.int .u64) 22 w' w.heap.size (fun _ => True) v0_ r ∧ Below w.heap.size w w' := by
 have HR1 := am hr1
 have HC1 := am hc1
 clear hr1 hc1
 have HR2 := am hr2
 have HC2 := am hc2
 clear hr2 hc2
 have HB := am (Below.refl w.heap.size w)
 have H : (privityref04_Add.l0 k a0 l1 l2 ([] : List Int) 0) = some r := h
 clear h
 have H' := am H
 clear H
 go_enter Try.func64,Try.ntmps64
 go_wp2
 go_loopg [7,8] k (fun kq v7 v8 w' => ∃ (x7_1 : List Int) (x8_1 : Int),v8 = .int .i64 x8_1 ∧ Aside0 (privityref04_Add.l0 kq a0 l1 l2 x7_1 x8_1 = some r) ∧ Aside0 (kq ≤ k) ∧ Aside0 (Kd.R (Kd.int .u64) 22 w' w.heap.size (fun _ => True) v7 x7_1) ∧ Aside0 (Below w.heap.size w w'))
 case atStart => exact ⟨(([] : List Int)),(0),(by first|rfl|(simp;done)|(simp [*];done)),H',⟨Nat.le_refl _⟩,⟨by first|exact Kd.R_nil _ _ _ _ _|exact Kd.N_nil _ _ _ _ _|exact Kd.V_nil _ _ _ _ _|exact Kd.Q_nil _ _ _ _ _|exact Kd.S_nil _ _ _ _ _⟩,⟨bb HB⟩⟩
 case round =>
  clear H'
  try clear c1
  try clear c2
  try clear p2
  obtain ⟨x7_1,x8_1,rfl,HA,HK1,HO_7,HB⟩ := hrel
  cases gk with
  | zero => exact absurd HA.out (by simp [privityref04_Add.l0])
  | succ k1 =>
   have H := HA.out
   clear HA
   simp only [privityref04_Add.l0] at H
   have HC4 := am H
   clear H
   go_upto_region 3 with (fail)
   go_cut [18] (fun v18 wc => ∃ (kq : Nat) (x18_3 : Bool),v18 = .bool x18_3 ∧ Aside0 (privityref04_Add.j1 kq a0 l1 l2 x7_1 x8_1 x18_3 = some r) ∧ Aside0 (kq ≤ k1) ∧ Aside0 (Kd.R (Kd.int .u64) 22 wc w.heap.size (fun _ => True) u7 x7_1) ∧ Aside0 (Below w.heap.size w wc))
   case first =>
    have H := HC4.out
    clear HC4
    by_cases c5 : x8_1 < (l1.length : Int)
    ·rw [if_pos c5] at H
     have c5b0 : decide (x8_1 < (l1.length : Int)) = true := decide_eq_true c5
     clear c5
     (first|rw [c5b0]|(simp only [i64_w,i32_w];rw [c5b0])|skip)
     have H' := am H
     clear H
     go_wp2
     go_meet
     case rel => exact ⟨_,(true),(by first|rfl|(simp;done)|(simp [*];done)),H',⟨by have := HK1.out;first|omega|exact Nat.le_refl _⟩,⟨by (with_reducible repeat (first|apply Kd.R_alloc|apply Kd.R_drewN|apply Kd.R_drew));exact HO_7.out⟩,⟨bb HB⟩⟩
    ·rw [if_neg c5] at H
     have c5b0 : decide (x8_1 < (l1.length : Int)) = false := decide_eq_false c5
     clear c5
     (first|rw [c5b0]|(simp only [i64_w,i32_w];rw [c5b0])|skip)
     have H' := am H
     clear H
     go_wp2
     go_meet
     case rel => exact ⟨_,(decide (x8_1 < (l2.length : Int))),(by first|rfl|(simp;done)|(simp [*];done)),H',⟨by have := HK1.out;first|omega|exact Nat.le_refl _⟩,⟨by (with_reducible repeat (first|apply Kd.R_alloc|apply Kd.R_drewN|apply Kd.R_drew));exact HO_7.out⟩,⟨bb HB⟩⟩
   case rest =>
    clear HC4
    try clear c1
    try clear c2
    try clear p2
    try clear c5
    try clear c5b0
    try clear p2
    obtain ⟨kq,x18_3,rfl,HA,HJ3,HO_7,HB⟩ := hcut
    cases kq with
    | zero => exact absurd HA.out (by simp [privityref04_Add.j1])
    | succ kj3 =>
     have H := HA.out
     clear HA
     simp only [privityref04_Add.j1] at H
     by_cases c6 : x18_3 = true
     ·subst c6
      rw [if_pos rfl] at H
      replace H := Option.bind_eq_some_iff.mp H
      obtain ⟨t390,A70,H⟩ := H
      try dsimp only at H
      have A7 := am A70
      clear A70
      replace H := Option.bind_eq_some_iff.mp H
      obtain ⟨t391,A80,H⟩ := H
      try dsimp only at H
      have A8 := am A80
      clear A80
      replace H := Option.bind_eq_some_iff.mp H
      obtain ⟨t392,A90,H⟩ := H
      try dsimp only at H
      have A9 := am A90
      clear A90
      by_cases c10 : x7_1.length < 17592186044416
      ·rw [if_pos c10] at H
       have LMc10 := am c10
       clear c10
       obtain ⟨y393,hy393⟩ : ∃ y_ : List Int,y_ = (x7_1 ++ [t392]) := ⟨_,rfl⟩
       replace H : (privityref04_Add.l0 kj3 a0 l1 l2 y393 (wrap64 (x8_1 + 1))) = some r := by first|(rw [hy393];with_reducible exact H)|(have H2_ := (Option.bind_some _ _).symm.trans H;rw [hy393];with_reducible exact H2_)|(have H2_ := (Option.bind_some _ _).symm.trans H;with_reducible exact H2_)|with_reducible exact H|(rw [hy393];exact H)|exact H
       have Ny393 := am hy393
       clear hy393
       have H' := am H
       clear H
       go_wp2_with (first|((with_reducible refine gate_callee (f := 73) rfl ?_);refine goesL_ (some 25) rfl rfl Try.func73 (by kernel_rfl) rfl #[.slice A1 l1.length c1,.int .i64 x8_1] rfl (by (try simp only [List.map_toArray,List.map_cons,List.map_nil]);first|done|rfl|(simp only [List.length_drop,List.length_take];rfl)) ?_;(with_reducible refine (privityref04_Coefficient.calls _ _ l1 x8_1 t390 _ ?side1 ?side2 A7.out).mono ?_);(case side1 => exact cb HR1 HB);(case side2 => exact HC1.out);rintro e w' ⟨rfl,⟨nd,rfl⟩⟩;refine ⟨_,rfl,?_⟩)|((with_reducible refine gate_callee (f := 73) rfl ?_);refine goesL_ (some 28) rfl rfl Try.func73 (by kernel_rfl) rfl #[.slice A2 l2.length c2,.int .i64 x8_1] rfl (by (try simp only [List.map_toArray,List.map_cons,List.map_nil]);first|done|rfl|(simp only [List.length_drop,List.length_take];rfl)) ?_;(with_reducible refine (privityref04_Coefficient.calls _ _ l2 x8_1 t391 _ ?side1 ?side2 A8.out).mono ?_);(case side1 => repeat (first|exact (Kd.C_below HR2.out (bb HB))|(with_reducible refine Kd.C_alloc ?_ _)|(with_reducible refine Kd.C_drewN ?_ _)|(with_reducible refine Kd.C_drew ?_)));(case side2 => exact HC2.out);rintro e w' ⟨rfl,⟨nd,rfl⟩⟩;refine ⟨_,rfl,?_⟩)|((with_reducible refine gate_callee (f := 34) rfl ?_);refine goesL_ (some 29) rfl rfl Try.func34 (by kernel_rfl) rfl #[.int .u64 a0,.int .u64 t390,.int .u64 t391] rfl (by (try simp only [List.map_toArray,List.map_cons,List.map_nil]);first|done|rfl|(simp only [List.length_drop,List.length_take];rfl)) ?_;(with_reducible refine (privityref01_Add.calls a0 t390 t391 t392 _ A9.out).mono ?_);rintro e w' ⟨rfl,⟨nd,rfl⟩⟩;refine ⟨_,rfl,?_⟩)|((with_reducible refine gate_builtin (b := .append) (xs := #[.tmp 21,.tmp 30]) rfl ?_);(try (refine gate_guard (by rfl) ?_;dsimp only));at_builtin;refine Kd.R_append (Kd.int .u64) (w0 := w) w.heap.size rfl (.tmp 21) (.tmp 30) 41 22 (.int .u64 0) 8 rfl Try.underlying41 info22 rfl (by decide) (by omega) u7 x7_1 t392 [.int .u64 t392] (fun _ => True) (fun _ => False) rfl rfl ?aP (fun _ hk => hk.elim) ?aF ?aO ?aB ?aS ?aL ?_;(case aP => exact rfl);(case aB => exact (bb HB));(case aF => exact (fun _ _ => trivial));(case aO => exact (rr HO_7));(case aS => exact (below_size (bb HB)));(case aL => have := LMc10.out;omega);intro v394 w11 ho hb hg hat;rw [← Ny393.out] at ho;have n0_ := am (hb);have n1_ := am (ho);clear HB HO_7;have HB := n0_;have HO395 := n1_;clear n0_ n1_;clear ho hb hg hat))
       go_roundg kj3
       case measure => have := HK1.out;have := HJ3.out;omega
       case rel => exact ⟨(y393),(wrap64 (x8_1 + 1)),(by first|rfl|(simp;done)|(simp [*];done)),H',⟨by have := HK1.out;have := HJ3.out;omega⟩,⟨by (with_reducible repeat (first|apply Kd.R_alloc|apply Kd.R_drewN|apply Kd.R_drew));exact HO395.out⟩,⟨bb HB⟩⟩
      ·rw [if_neg c10] at H
       exact absurd H (by simp)
     ·replace c6 := Bool.eq_false_iff.mpr c6
      subst c6
      rw [if_neg (show ¬ (false = true) by decide)] at H
      replace H := Option.bind_eq_some_iff.mp H
      obtain ⟨t396,A120,H⟩ := H
      try dsimp only at H
      have A12 := am A120
      clear A120
      obtain rfl := Option.some.inj H
      obtain ⟨Ao13,co13,eo13⟩ := Kd.R_slice HO_7.out
      subst eo13
      go_wp2_with (first|((with_reducible refine gate_callee (f := 74) rfl ?_);refine goesL_ (some 33) rfl rfl Try.func74 (by kernel_rfl) rfl #[.slice Ao13 x7_1.length co13] rfl (by (try simp only [List.map_toArray,List.map_cons,List.map_nil]);first|done|rfl|(simp only [List.length_drop,List.length_take];rfl)) ?_;(with_reducible refine (privityref04_Trim.calls kj3 _ _ x7_1 t396 _ ?side1 ?side2 A12.out).mono ?_);(case side1 => exact cr HO_7);(case side2 => exact (Kd.R_reads' HO_7.out).2.1);rintro e w14 ⟨v397,rfl,ho0,hb⟩;refine ⟨_,rfl,?_⟩;have n0_ := am (Kd.R_elder' (rr HO_7) (Kd.R_base ho0) hb);have n1_ := am (Kd.R_lower (Kd.R_new' ho0 (Kd.R_lt (rr HO_7))) (below_size (bb HB)));have n2_ := am (below_step (bb HB) hb);clear HO_7 HB;have HO_7 := n0_;have HO398 := n1_;have HB := n2_;clear n0_ n1_ n2_;(try clear hb);(try clear hb2);(try clear hk);(try clear hi);(try clear ho0)))
      go_ret
      exact ⟨_,by first|rfl|(simp [errW_none,errW_some] <;> rfl)|(simp [*,errW_none,errW_some] <;> rfl),by (with_reducible repeat (first|apply Kd.R_alloc|apply Kd.R_drewN|apply Kd.R_drew));exact Kd.R_mono HO398.out (fun _ hk => trivial),bb HB⟩
def privityref01_Mul.l0 : Nat → Int → Int → Int → Int → Option (Int)
 | 0,_,_,_,_ => none
 | k + 1,x0,x1,x2,x7 => if x2 > 0 then (if (Int.tmod x2 2) = 1 then (if x0 = 0 then (none) else (privityref01_Mul.l0 k x0 (Int.tmod (IntKind.u64.wrap (x1 + x1)) x0) (IntKind.u64.wrap (Int.tdiv x2 2)) (Int.tmod (IntKind.u64.wrap (x7 + x1)) x0))) else (if x0 = 0 then (none) else (privityref01_Mul.l0 k x0 (Int.tmod (IntKind.u64.wrap (x1 + x1)) x0) (IntKind.u64.wrap (Int.tdiv x2 2)) x7))) else (some x7)
def privityref01_Mul.f (k : Nat) (a0 : Int) (a1 : Int) (a2 : Int) : Option (Int) := privityref01_Mul.l0 k a0 a1 a2 0
theorem privityref01_Mul.mono_l : ∀ k,(∀ y0 y1 y2 y3,LeO (privityref01_Mul.l0 k y0 y1 y2 y3) (privityref01_Mul.l0 (k + 1) y0 y1 y2 y3))
 | 0 => fun _ _ _ _ r h => by simp [privityref01_Mul.l0] at h
 | k + 1 => by
  have ih0 := privityref01_Mul.mono_l k
  ·intro y0 y1 y2 y3
   unfold privityref01_Mul.l0
   repeat' first
   | (with_reducible exact ih0 _ _ _ _)
   | (with_reducible exact LeO.refl _)
   | (with_reducible exact LeO.none _)
   | (with_reducible refine LeO.ite ?_ ?_)
   | (with_reducible refine LeO.bind ?_ (fun _ => ?_))
   | exact ih0 _ _ _ _
   | exact LeO.none _
   | refine LeO.ite ?_ ?_
   | refine LeO.bind ?_ (fun _ => ?_)
theorem privityref01_Mul.mono : ∀ a0 a1 a2 k,LeO (privityref01_Mul.f k a0 a1 a2) (privityref01_Mul.f (k + 1) a0 a1 a2) := by
 intro a0 a1 a2 k
 have ih0 := privityref01_Mul.mono_l k
 unfold privityref01_Mul.f
 repeat' first
   | (with_reducible exact ih0 _ _ _ _)
   | (with_reducible exact LeO.refl _)
   | (with_reducible exact LeO.none _)
   | (with_reducible refine LeO.ite ?_ ?_)
   | (with_reducible refine LeO.bind ?_ (fun _ => ?_))
   | exact ih0 _ _ _ _
   | exact LeO.none _
   | refine LeO.ite ?_ ?_
   | refine LeO.bind ?_ (fun _ => ?_)
set_option maxHeartbeats 8000000 in
set_option maxRecDepth 100000 in
theorem privityref01_Mul.calls (k : Nat) (a0 : Int) (a1 : Int) (a2 : Int) (r : Int) (w : World) (h : privityref01_Mul.f k a0 a1 a2 = some r) :
  Calls Try.prog 36 #[.int .u64 a0,.int .u64 a1,.int .u64 a2] w fun e w' => e = .returned (.int .u64 r) ∧ Drawn0 w w' := by
 have H : (privityref01_Mul.l0 k a0 a1 a2 0) = some r := h
 clear h
 have H' := am H
 clear H
 go_enter Try.func36,Try.ntmps36
 go_wp2
 go_loopg [1,2,7] k (fun kq v1 v2 v7 w' => ∃ (x1_1 : Int) (x2_1 : Int) (x7_1 : Int),v1 = .int .u64 x1_1 ∧ v2 = .int .u64 x2_1 ∧ v7 = .int .u64 x7_1 ∧ Aside0 (privityref01_Mul.l0 kq a0 x1_1 x2_1 x7_1 = some r) ∧ Aside0 (kq ≤ k) ∧ Drawn0 w w')
 case atStart => exact ⟨(a1),(a2),(0),(by first|rfl|(simp;done)|(simp [*];done)),(by first|rfl|(simp;done)|(simp [*];done)),(by first|rfl|(simp;done)|(simp [*];done)),H',⟨Nat.le_refl _⟩,by repeat (first|exact Drawn0.refl _|apply Drawn0.step)⟩
 case round =>
  clear H'
  try clear p2
  try clear c3
  obtain ⟨x1_1,x2_1,x7_1,rfl,rfl,rfl,HA,HK1,⟨m1,rfl⟩⟩ := hrel
  cases gk with
  | zero => exact absurd HA.out (by simp [privityref01_Mul.l0])
  | succ k1 =>
   have H := HA.out
   clear HA
   simp only [privityref01_Mul.l0] at H
   by_cases c4 : x2_1 > 0
   ·rw [if_pos c4] at H
    have c4b0 : decide (0 < x2_1) = true := decide_eq_true c4
    clear c4
    by_cases c5 : (Int.tmod x2_1 2) = 1
    ·rw [if_pos c5] at H
     have c5b0 : ((Int.tmod x2_1 2) == 1) = true := beq_iff_eq.mpr c5
     have c5b1 : ((Int.tmod x2_1 2) != 1) = false := bne_eq_false_iff_eq.mpr c5
     clear c5
     by_cases c6 : a0 = 0
     ·rw [if_pos c6] at H
      exact absurd H (by simp)
     ·rw [if_neg c6] at H
      have c6b0 : (a0 == 0) = false := beq_eq_false_iff_ne.mpr c6
      have c6b1 : (a0 != 0) = true := bne_iff_ne.mpr c6
      have H' := am H
      clear H
      go_wp2
      go_roundg k1
      case measure => have := HK1.out;omega
      case rel => exact ⟨(Int.tmod (IntKind.u64.wrap (x1_1 + x1_1)) a0),(IntKind.u64.wrap (Int.tdiv x2_1 2)),(Int.tmod (IntKind.u64.wrap (x7_1 + x1_1)) a0),(by first|rfl|(simp;done)|(simp [*];done)),(by first|rfl|(simp;done)|(simp [*];done)),(by first|rfl|(simp;done)|(simp [*];done)),H',⟨by have := HK1.out;omega⟩,by repeat (first|exact Drawn0.refl _|apply Drawn0.step)⟩
    ·rw [if_neg c5] at H
     have c5b0 : ((Int.tmod x2_1 2) == 1) = false := beq_eq_false_iff_ne.mpr c5
     have c5b1 : ((Int.tmod x2_1 2) != 1) = true := bne_iff_ne.mpr c5
     by_cases c7 : a0 = 0
     ·rw [if_pos c7] at H
      exact absurd H (by simp)
     ·rw [if_neg c7] at H
      have c7b0 : (a0 == 0) = false := beq_eq_false_iff_ne.mpr c7
      have c7b1 : (a0 != 0) = true := bne_iff_ne.mpr c7
      have H' := am H
      clear H
      go_wp2
      go_roundg k1
      case measure => have := HK1.out;omega
      case rel => exact ⟨(Int.tmod (IntKind.u64.wrap (x1_1 + x1_1)) a0),(IntKind.u64.wrap (Int.tdiv x2_1 2)),(x7_1),(by first|rfl|(simp;done)|(simp [*];done)),(by first|rfl|(simp;done)|(simp [*];done)),(by first|rfl|(simp;done)|(simp [*];done)),H',⟨by have := HK1.out;omega⟩,by repeat (first|exact Drawn0.refl _|apply Drawn0.step)⟩
   ·rw [if_neg c4] at H
    have c4b0 : decide (0 < x2_1) = false := decide_eq_false c4
    clear c4
    obtain rfl := Option.some.inj H
    go_wp2
    go_ret
    exact ⟨by first|rfl|(simp;done)|(simp [*];done),by repeat (first|exact Drawn0.refl _|apply Drawn0.step)⟩
def privityref04_Scale.l0 : Nat → Int → Int → List Int → List Int → Int → Option (List Int)
 | 0,_,_,_,_,_ => none
 | k + 1,x0,x1,x2,x7,x8 => if x8 < (x2.length : Int) then (if 0 ≤ x8 then ((privityref01_Mul.f k x0 x1 (rd x2 x8)).bind fun t400 => (if x7.length < 17592186044416 then (privityref04_Scale.l0 k x0 x1 x2 (x7 ++ [t400]) (wrap64 (x8 + 1))) else (none))) else (none)) else ((privityref04_Trim.f k x7).bind fun t404 => (some t404))
def privityref04_Scale.f (k : Nat) (a0 : Int) (a1 : Int) (l2 : List Int) : Option (List Int) := privityref04_Scale.l0 k a0 a1 l2 ([] : List Int) 0
set_option maxHeartbeats 8000000 in
set_option maxRecDepth 100000 in
theorem privityref04_Scale.calls (k : Nat) (a0 : Int) (a1 : Int) (A2 : Option Addr) (c2 : Nat) (l2 : List Int) (r : List Int) (w : World) (hr2 : Kd.C (Kd.int .u64) w A2 l2.length l2) (hc2 : l2.length ≤ c2) (h : privityref04_Scale.f k a0 a1 l2 = some r) :
  Calls Try.prog 65 #[.int .u64 a0,.int .u64 a1,.slice A2 l2.length c2] w fun e w' => ∃ v0_ : Value,e = .returned (v0_) ∧ Kd.R (Kd.int .u64) 22 w' w.heap.size (fun _ => True) v0_ r ∧ Below w.heap.size w w' := by
 have HR2 := am hr2
 have HC2 := am hc2
 clear hr2 hc2
 have HB := am (Below.refl w.heap.size w)
 have H : (privityref04_Scale.l0 k a0 a1 l2 ([] : List Int) 0) = some r := h
 clear h
 have H' := am H
 clear H
 go_enter Try.func65,Try.ntmps65
 go_wp2
 go_loopg [7,8] k (fun kq v7 v8 w' => ∃ (x7_1 : List Int) (x8_1 : Int),v8 = .int .i64 x8_1 ∧ Aside0 (privityref04_Scale.l0 kq a0 a1 l2 x7_1 x8_1 = some r) ∧ Aside0 (kq ≤ k) ∧ Aside0 (Kd.R (Kd.int .u64) 22 w' w.heap.size (fun _ => True) v7 x7_1) ∧ Aside0 (Below w.heap.size w w'))
 case atStart => exact ⟨(([] : List Int)),(0),(by first|rfl|(simp;done)|(simp [*];done)),H',⟨Nat.le_refl _⟩,⟨by first|exact Kd.R_nil _ _ _ _ _|exact Kd.N_nil _ _ _ _ _|exact Kd.V_nil _ _ _ _ _|exact Kd.Q_nil _ _ _ _ _|exact Kd.S_nil _ _ _ _ _⟩,⟨bb HB⟩⟩
 case round =>
  clear H'
  try clear c2
  try clear p2
  obtain ⟨x7_1,x8_1,rfl,HA,HK1,HO_7,HB⟩ := hrel
  cases gk with
  | zero => exact absurd HA.out (by simp [privityref04_Scale.l0])
  | succ k1 =>
   have H := HA.out
   clear HA
   simp only [privityref04_Scale.l0] at H
   by_cases c4 : x8_1 < (l2.length : Int)
   ·rw [if_pos c4] at H
    have c4b0 : decide (x8_1 < (l2.length : Int)) = true := decide_eq_true c4
    clear c4
    by_cases c5 : 0 ≤ x8_1
    ·rw [if_pos c5] at H
     have c5b0 : decide (0 ≤ x8_1) = true := decide_eq_true c5
     clear c5
     replace H := Option.bind_eq_some_iff.mp H
     obtain ⟨t400,A60,H⟩ := H
     try dsimp only at H
     have A6 := am A60
     clear A60
     by_cases c7 : x7_1.length < 17592186044416
     ·rw [if_pos c7] at H
      have LMc7 := am c7
      clear c7
      obtain ⟨y401,hy401⟩ : ∃ y_ : List Int,y_ = (x7_1 ++ [t400]) := ⟨_,rfl⟩
      replace H : (privityref04_Scale.l0 k1 a0 a1 l2 y401 (wrap64 (x8_1 + 1))) = some r := by first|(rw [hy401];with_reducible exact H)|(have H2_ := (Option.bind_some _ _).symm.trans H;rw [hy401];with_reducible exact H2_)|(have H2_ := (Option.bind_some _ _).symm.trans H;with_reducible exact H2_)|with_reducible exact H|(rw [hy401];exact H)|exact H
      have Ny401 := am hy401
      clear hy401
      have H' := am H
      clear H
      have p399 : 0 ≤ (x8_1 : Int) := od
      have q399 : x8_1 < (l2.length : Int) := od
      obtain ⟨ad399,e399,hx399_0⟩ := Kd.at_int HR2.out x8_1 p399 q399
      cases e399
      replace hx399_0 := (HB.out.cell (World.block_lt_of_cell? w _ hx399_0)).trans hx399_0
      replace p399 := eq_true p399
      replace q399 := eq_true q399
      go_wp2_with (first|((with_reducible refine gate_callee (f := 36) rfl ?_);refine goesL_ (some 22) rfl rfl Try.func36 (by kernel_rfl) rfl #[.int .u64 a0,.int .u64 a1,.int .u64 (rd l2 x8_1)] rfl (by (try simp only [List.map_toArray,List.map_cons,List.map_nil]);first|done|rfl|(simp only [List.length_drop,List.length_take];rfl)) ?_;(with_reducible refine (privityref01_Mul.calls k1 a0 a1 (rd l2 x8_1) t400 _ A6.out).mono ?_);rintro e w' ⟨rfl,⟨nd,rfl⟩⟩;refine ⟨_,rfl,?_⟩)|((with_reducible refine gate_builtin (b := .append) (xs := #[.tmp 15,.tmp 23]) rfl ?_);at_builtin;refine Kd.R_append (Kd.int .u64) (w0 := w) w.heap.size rfl (.tmp 15) (.tmp 23) 41 22 (.int .u64 0) 8 rfl Try.underlying41 info22 rfl (by decide) (by omega) u7 x7_1 t400 [.int .u64 t400] (fun _ => True) (fun _ => False) rfl rfl ?aP (fun _ hk => hk.elim) ?aF ?aO ?aB ?aS ?aL ?_;(case aP => exact rfl);(case aB => exact (bb HB));(case aF => exact (fun _ _ => trivial));(case aO => exact (rr HO_7));(case aS => exact (below_size (bb HB)));(case aL => have := LMc7.out;omega);intro v402 w8 ho hb hg hat;rw [← Ny401.out] at ho;have n0_ := am (hb);have n1_ := am (ho);clear HB HO_7;have HB := n0_;have HO403 := n1_;clear n0_ n1_;clear ho hb hg hat))
      go_roundg k1
      case measure => have := HK1.out;omega
      case rel => exact ⟨(y401),(wrap64 (x8_1 + 1)),(by first|rfl|(simp;done)|(simp [*];done)),H',⟨by have := HK1.out;omega⟩,⟨by (with_reducible repeat (first|apply Kd.R_alloc|apply Kd.R_drewN|apply Kd.R_drew));exact HO403.out⟩,⟨bb HB⟩⟩
     ·rw [if_neg c7] at H
      exact absurd H (by simp)
    ·rw [if_neg c5] at H
     exact absurd H (by simp)
   ·rw [if_neg c4] at H
    have c4b0 : decide (x8_1 < (l2.length : Int)) = false := decide_eq_false c4
    clear c4
    replace H := Option.bind_eq_some_iff.mp H
    obtain ⟨t404,A90,H⟩ := H
    try dsimp only at H
    have A9 := am A90
    clear A90
    obtain rfl := Option.some.inj H
    obtain ⟨Ao10,co10,eo10⟩ := Kd.R_slice HO_7.out
    subst eo10
    go_wp2_with (first|((with_reducible refine gate_callee (f := 74) rfl ?_);refine goesL_ (some 26) rfl rfl Try.func74 (by kernel_rfl) rfl #[.slice Ao10 x7_1.length co10] rfl (by (try simp only [List.map_toArray,List.map_cons,List.map_nil]);first|done|rfl|(simp only [List.length_drop,List.length_take];rfl)) ?_;(with_reducible refine (privityref04_Trim.calls k1 _ _ x7_1 t404 _ ?side1 ?side2 A9.out).mono ?_);(case side1 => exact cr HO_7);(case side2 => exact (Kd.R_reads' HO_7.out).2.1);rintro e w11 ⟨v405,rfl,ho0,hb⟩;refine ⟨_,rfl,?_⟩;have n0_ := am (Kd.R_elder' (rr HO_7) (Kd.R_base ho0) hb);have n1_ := am (Kd.R_lower (Kd.R_new' ho0 (Kd.R_lt (rr HO_7))) (below_size (bb HB)));have n2_ := am (below_step (bb HB) hb);clear HO_7 HB;have HO_7 := n0_;have HO406 := n1_;have HB := n2_;clear n0_ n1_ n2_;(try clear hb);(try clear hb2);(try clear hk);(try clear hi);(try clear ho0)))
    go_ret
    exact ⟨_,by first|rfl|(simp [errW_none,errW_some] <;> rfl)|(simp [*,errW_none,errW_some] <;> rfl),by (with_reducible repeat (first|apply Kd.R_alloc|apply Kd.R_drewN|apply Kd.R_drew));exact Kd.R_mono HO406.out (fun _ hk => trivial),bb HB⟩
def privityref01_Pow.l0 : Nat → Int → Int → Int → Int → Option (Int)
 | 0,_,_,_,_ => none
 | k + 1,x0,x1,x2,x7 => if x2 > 0 then (if (Int.tmod x2 2) = 1 then ((privityref01_Mul.f k x0 x7 x1).bind fun t407 => ((privityref01_Mul.f k x0 x1 x1).bind fun t408 => (privityref01_Pow.l0 k x0 t408 (IntKind.u64.wrap (Int.tdiv x2 2)) t407))) else ((privityref01_Mul.f k x0 x1 x1).bind fun t409 => (privityref01_Pow.l0 k x0 t409 (IntKind.u64.wrap (Int.tdiv x2 2)) x7))) else (some x7)
def privityref01_Pow.f (k : Nat) (a0 : Int) (a1 : Int) (a2 : Int) : Option (Int) := privityref01_Pow.l0 k a0 a1 a2 1
theorem privityref01_Pow.mono_l : ∀ k,(∀ y0 y1 y2 y3,LeO (privityref01_Pow.l0 k y0 y1 y2 y3) (privityref01_Pow.l0 (k + 1) y0 y1 y2 y3))
 | 0 => fun _ _ _ _ r h => by simp [privityref01_Pow.l0] at h
 | k + 1 => by
  have ih0 := privityref01_Pow.mono_l k
  ·intro y0 y1 y2 y3
   unfold privityref01_Pow.l0
   repeat' first
   | (with_reducible exact ih0 _ _ _ _)
   | (with_reducible exact privityref01_Mul.mono _ _ _ _)
   | (with_reducible exact LeO.refl _)
   | (with_reducible exact LeO.none _)
   | (with_reducible refine LeO.ite ?_ ?_)
   | (with_reducible refine LeO.bind ?_ (fun _ => ?_))
   | exact ih0 _ _ _ _
   | exact privityref01_Mul.mono _ _ _ _
   | exact LeO.none _
   | refine LeO.ite ?_ ?_
   | refine LeO.bind ?_ (fun _ => ?_)
set_option maxHeartbeats 8000000 in
set_option maxRecDepth 100000 in
theorem privityref01_Pow.calls (k : Nat) (a0 : Int) (a1 : Int) (a2 : Int) (r : Int) (w : World) (h : privityref01_Pow.f k a0 a1 a2 = some r) :
  Calls Try.prog 82 #[.int .u64 a0,.int .u64 a1,.int .u64 a2] w fun e w' => e = .returned (.int .u64 r) ∧ Drawn0 w w' := by
 have H : (privityref01_Pow.l0 k a0 a1 a2 1) = some r := h
 clear h
 have H' := am H
 clear H
 go_enter Try.func82,Try.ntmps82
 go_wp2
 go_loopg [1,2,7] k (fun kq v1 v2 v7 w' => ∃ (x1_1 : Int) (x2_1 : Int) (x7_1 : Int),v1 = .int .u64 x1_1 ∧ v2 = .int .u64 x2_1 ∧ v7 = .int .u64 x7_1 ∧ Aside0 (privityref01_Pow.l0 kq a0 x1_1 x2_1 x7_1 = some r) ∧ Aside0 (kq ≤ k) ∧ Drawn0 w w')
 case atStart => exact ⟨(a1),(a2),(1),(by first|rfl|(simp;done)|(simp [*];done)),(by first|rfl|(simp;done)|(simp [*];done)),(by first|rfl|(simp;done)|(simp [*];done)),H',⟨Nat.le_refl _⟩,by repeat (first|exact Drawn0.refl _|apply Drawn0.step)⟩
 case round =>
  clear H'
  try clear p2
  obtain ⟨x1_1,x2_1,x7_1,rfl,rfl,rfl,HA,HK1,⟨m1,rfl⟩⟩ := hrel
  cases gk with
  | zero => exact absurd HA.out (by simp [privityref01_Pow.l0])
  | succ k1 =>
   have H := HA.out
   clear HA
   simp only [privityref01_Pow.l0] at H
   by_cases c4 : x2_1 > 0
   ·rw [if_pos c4] at H
    have c4b0 : decide (0 < x2_1) = true := decide_eq_true c4
    clear c4
    by_cases c5 : (Int.tmod x2_1 2) = 1
    ·rw [if_pos c5] at H
     have c5b0 : ((Int.tmod x2_1 2) == 1) = true := beq_iff_eq.mpr c5
     have c5b1 : ((Int.tmod x2_1 2) != 1) = false := bne_eq_false_iff_eq.mpr c5
     clear c5
     replace H := Option.bind_eq_some_iff.mp H
     obtain ⟨t407,A60,H⟩ := H
     try dsimp only at H
     have A6 := am A60
     clear A60
     replace H := Option.bind_eq_some_iff.mp H
     obtain ⟨t408,A70,H⟩ := H
     try dsimp only at H
     have A7 := am A70
     clear A70
     have H' := am H
     clear H
     go_wp2_with (first|((with_reducible refine gate_callee (f := 36) rfl ?_);refine goesL_ (some 16) rfl rfl Try.func36 (by kernel_rfl) rfl #[.int .u64 a0,.int .u64 x7_1,.int .u64 x1_1] rfl (by (try simp only [List.map_toArray,List.map_cons,List.map_nil]);first|done|rfl|(simp only [List.length_drop,List.length_take];rfl)) ?_;(with_reducible refine (privityref01_Mul.calls k1 a0 x7_1 x1_1 t407 _ A6.out).mono ?_);rintro e w' ⟨rfl,⟨nd,rfl⟩⟩;refine ⟨_,rfl,?_⟩)|((with_reducible refine gate_callee (f := 36) rfl ?_);refine goesL_ (some 20) rfl rfl Try.func36 (by kernel_rfl) rfl #[.int .u64 a0,.int .u64 x1_1,.int .u64 x1_1] rfl (by (try simp only [List.map_toArray,List.map_cons,List.map_nil]);first|done|rfl|(simp only [List.length_drop,List.length_take];rfl)) ?_;(with_reducible refine (privityref01_Mul.calls k1 a0 x1_1 x1_1 t408 _ A7.out).mono ?_);rintro e w' ⟨rfl,⟨nd,rfl⟩⟩;refine ⟨_,rfl,?_⟩))
     go_roundg k1
     case measure => have := HK1.out;omega
     case rel => exact ⟨(t408),(IntKind.u64.wrap (Int.tdiv x2_1 2)),(t407),(by first|rfl|(simp;done)|(simp [*];done)),(by first|rfl|(simp;done)|(simp [*];done)),(by first|rfl|(simp;done)|(simp [*];done)),H',⟨by have := HK1.out;omega⟩,by repeat (first|exact Drawn0.refl _|apply Drawn0.step)⟩
    ·rw [if_neg c5] at H
     have c5b0 : ((Int.tmod x2_1 2) == 1) = false := beq_eq_false_iff_ne.mpr c5
     have c5b1 : ((Int.tmod x2_1 2) != 1) = true := bne_iff_ne.mpr c5
     replace H := Option.bind_eq_some_iff.mp H
     obtain ⟨t409,A80,H⟩ := H
     try dsimp only at H
     have A8 := am A80
     clear A80
     have H' := am H
     clear H
     go_wp2_with (first|((with_reducible refine gate_callee (f := 36) rfl ?_);refine goesL_ (some 20) rfl rfl Try.func36 (by kernel_rfl) rfl #[.int .u64 a0,.int .u64 x1_1,.int .u64 x1_1] rfl (by (try simp only [List.map_toArray,List.map_cons,List.map_nil]);first|done|rfl|(simp only [List.length_drop,List.length_take];rfl)) ?_;(with_reducible refine (privityref01_Mul.calls k1 a0 x1_1 x1_1 t409 _ A8.out).mono ?_);rintro e w' ⟨rfl,⟨nd,rfl⟩⟩;refine ⟨_,rfl,?_⟩))
     go_roundg k1
     case measure => have := HK1.out;omega
     case rel => exact ⟨(t409),(IntKind.u64.wrap (Int.tdiv x2_1 2)),(x7_1),(by first|rfl|(simp;done)|(simp [*];done)),(by first|rfl|(simp;done)|(simp [*];done)),(by first|rfl|(simp;done)|(simp [*];done)),H',⟨by have := HK1.out;omega⟩,by repeat (first|exact Drawn0.refl _|apply Drawn0.step)⟩
   ·rw [if_neg c4] at H
    have c4b0 : decide (0 < x2_1) = false := decide_eq_false c4
    clear c4
    obtain rfl := Option.some.inj H
    go_wp2
    go_ret
    exact ⟨by first|rfl|(simp;done)|(simp [*];done),by repeat (first|exact Drawn0.refl _|apply Drawn0.step)⟩
def privityref01_Inverse.f (k : Nat) (a0 : Int) (a1 : Int) : Option (Int × Int) := if a1 = 0 then (some (0,8)) else ((privityref01_Pow.f k a0 a1 (IntKind.u64.wrap (a0 - 2))).bind fun t410 => (some (t410,0)))
set_option maxHeartbeats 8000000 in
set_option maxRecDepth 100000 in
theorem privityref01_Inverse.calls (k : Nat) (a0 : Int) (a1 : Int) (r1 : Int) (r2 : Int) (w : World) (h : privityref01_Inverse.f k a0 a1 = some (r1,r2)) :
  Calls Try.prog 75 #[.int .u64 a0,.int .u64 a1] w fun e w' => e = .returned (.tuple #[.int .u64 r1,.int .i64 r2]) ∧ Drawn0 w w' := by
 have H : (if a1 = 0 then (some (0,8)) else ((privityref01_Pow.f k a0 a1 (IntKind.u64.wrap (a0 - 2))).bind fun t410 => (some (t410,0)))) = some (r1,r2) := h
 clear h
 by_cases c3 : a1 = 0
 ·rw [if_pos c3] at H
  have c3b0 : (a1 == 0) = true := beq_iff_eq.mpr c3
  have c3b1 : (a1 != 0) = false := bne_eq_false_iff_eq.mpr c3
  clear c3
  simp only [Option.some.injEq,Prod.mk.injEq] at H
  obtain ⟨rfl,rfl⟩ := H
  go_enter Try.func75,Try.ntmps75
  go_wp2
  go_ret2
  exact ⟨by first|rfl|(simp;done)|(simp [*];done),by repeat (first|exact Drawn0.refl _|apply Drawn0.step)⟩
 ·rw [if_neg c3] at H
  have c3b0 : (a1 == 0) = false := beq_eq_false_iff_ne.mpr c3
  have c3b1 : (a1 != 0) = true := bne_iff_ne.mpr c3
  replace H := Option.bind_eq_some_iff.mp H
  obtain ⟨t410,A40,H⟩ := H
  try dsimp only at H
  have A4 := am A40
  clear A40
  simp only [Option.some.injEq,Prod.mk.injEq] at H
  obtain ⟨rfl,rfl⟩ := H
  go_enter Try.func75,Try.ntmps75
  go_wp2_with (first|((with_reducible refine gate_callee (f := 82) rfl ?_);refine goesL_ (some 12) rfl rfl Try.func82 (by kernel_rfl) rfl #[.int .u64 a0,.int .u64 a1,.int .u64 (IntKind.u64.wrap (a0 - 2))] rfl (by (try simp only [List.map_toArray,List.map_cons,List.map_nil]);first|done|rfl|(simp only [List.length_drop,List.length_take];rfl)) ?_;(with_reducible refine (privityref01_Pow.calls k a0 a1 (IntKind.u64.wrap (a0 - 2)) t410 _ A4.out).mono ?_);rintro e w' ⟨rfl,⟨nd,rfl⟩⟩;refine ⟨_,rfl,?_⟩))
  go_ret2
  exact ⟨by first|rfl|(simp;done)|(simp [*];done),by repeat (first|exact Drawn0.refl _|apply Drawn0.step)⟩
def privityref01_Sub.f (a0 : Int) (a1 : Int) (a2 : Int) : Option (Int) := if a0 = 0 then (none) else (some (Int.tmod (IntKind.u64.wrap ((IntKind.u64.wrap (a1 + a0)) - a2)) a0))
set_option maxHeartbeats 8000000 in
set_option maxRecDepth 100000 in
theorem privityref01_Sub.calls (a0 : Int) (a1 : Int) (a2 : Int) (r : Int) (w : World) (h : privityref01_Sub.f a0 a1 a2 = some r) :
  Calls Try.prog 76 #[.int .u64 a0,.int .u64 a1,.int .u64 a2] w fun e w' => e = .returned (.int .u64 r) ∧ Drawn0 w w' := by
 have H : (if a0 = 0 then (none) else (some (Int.tmod (IntKind.u64.wrap ((IntKind.u64.wrap (a1 + a0)) - a2)) a0))) = some r := h
 clear h
 by_cases c4 : a0 = 0
 ·rw [if_pos c4] at H
  exact absurd H (by simp)
 ·rw [if_neg c4] at H
  have c4b0 : (a0 == 0) = false := beq_eq_false_iff_ne.mpr c4
  have c4b1 : (a0 != 0) = true := bne_iff_ne.mpr c4
  obtain rfl := Option.some.inj H
  go_enter Try.func76,Try.ntmps76
  go_wp2
  go_ret
  exact ⟨by first|rfl|(simp;done)|(simp [*];done),by repeat (first|exact Drawn0.refl _|apply Drawn0.step)⟩
mutual
def privityref04_Mul.j0 : Nat → Int → List Int → List Int → Bool → Option (List Int)
 | 0,_,_,_,_ => none
 | k + 1,x0,x1,x2,x17 => if x17 = true then (some ([] : List Int)) else (if 0 ≤ (wrap64 ((wrap64 ((x1.length : Int) + (x2.length : Int))) - 1)) then (if (wrap64 ((wrap64 ((x1.length : Int) + (x2.length : Int))) - 1) : Int).toNat ≤ 35184372088832 then (privityref04_Mul.l0 k x0 x1 x2 (List.replicate (wrap64 ((wrap64 ((x1.length : Int) + (x2.length : Int))) - 1) : Int).toNat 0) 0) else (none)) else (none))
def privityref04_Mul.l0 : Nat → Int → List Int → List Int → List Int → Int → Option (List Int)
 | 0,_,_,_,_,_ => none
 | k + 1,x0,x1,x2,x7,x8 => if x8 < (x1.length : Int) then (privityref04_Mul.l1 k x0 x1 x2 x7 x8 0) else ((privityref04_Trim.f k x7).bind fun t414 => (some t414))
def privityref04_Mul.l1 : Nat → Int → List Int → List Int → List Int → Int → Int → Option (List Int)
 | 0,_,_,_,_,_,_ => none
 | k + 1,x0,x1,x2,x7,x8,x9 => if x9 < (x2.length : Int) then (if 0 ≤ (wrap64 (x8 + x9)) then (if (wrap64 (x8 + x9)) < (x7.length : Int) then (if 0 ≤ x8 then (if x8 < (x1.length : Int) then (if 0 ≤ x9 then ((privityref01_Mul.f k x0 (rd x1 x8) (rd x2 x9)).bind fun t420 => ((privityref01_Add.f x0 (rd x7 (wrap64 (x8 + x9))) t420).bind fun t421 => (privityref04_Mul.l1 k x0 x1 x2 (x7.set ((wrap64 (x8 + x9)) : Int).toNat t421) x8 (wrap64 (x9 + 1))))) else (none)) else (none)) else (none)) else (none)) else (none)) else (privityref04_Mul.l0 k x0 x1 x2 x7 (wrap64 (x8 + 1)))
end
def privityref04_Mul.f (k : Nat) (a0 : Int) (l1 : List Int) (l2 : List Int) : Option (List Int) := if (l1.length : Int) = 0 then (privityref04_Mul.j0 k a0 l1 l2 true) else (privityref04_Mul.j0 k a0 l1 l2 ((l2.length : Int) == 0))
def privityref04_Mul.T10 : Bool × List (List Nat × List Nat) := (true,[([],[]),([],[]),([],[]),([1,2],[1,2]),([],[]),([],[]),([],[]),([],[]),([6,7],[6,7]),([5,8],[5,8]),([9],[9]),([],[]),([],[]),([],[]),([12,13],[12,13]),([14],[14]),([],[]),([],[]),([16,17],[16,17]),([18],[18]),([11,15,19],[11,15,19]),([4,10,20,20],[4,10,20]),([0,3,0,1,2,3,4,5,6,7,8,9,10,11,12,13,14,15,16,17,18,19,20,21],[0,3]),([22,21,21,0,1,2,3,4,5,6,7,8,9,10,11,12,13,14,15,16,17,18,19,20,21],[21,22])])
def privityref04_Mul.B10 : List Nat := [0,0,0,6,0,0,0,0,192,480,992,0,0,0,12288,28672,0,0,196608,458752,1046528,2097136,4194303,8388607]
theorem privityref04_Mul.tab10 : rtab .any (opsOf Try.f77 10) = privityref04_Mul.T10 := by kernel_rfl
theorem privityref04_Mul.bits10 : waitsOk privityref04_Mul.T10.2 privityref04_Mul.B10 = true := by kernel_rfl
set_option maxHeartbeats 8000000 in
set_option maxRecDepth 100000 in
theorem privityref04_Mul.calls (k : Nat) (a0 : Int) (A1 : Option Addr) (c1 : Nat) (l1 : List Int) (A2 : Option Addr) (c2 : Nat) (l2 : List Int) (r : List Int) (w : World) (hr1 : Kd.C (Kd.int .u64) w A1 l1.length l1) (hc1 : l1.length ≤ c1) (hr2 : Kd.C (Kd.int .u64) w A2 l2.length l2) (hc2 : l2.length ≤ c2) (h : privityref04_Mul.f k a0 l1 l2 = some r) :
  Calls Try.prog 77 #[.int .u64 a0,.slice A1 l1.length c1,.slice A2 l2.length c2] w fun e w' => ∃ v0_ : Value,e = .returned (v0_) ∧ Kd.R (Kd.int .u64) 22 w' w.heap.size (fun _ => True) v0_ r ∧ Below w.heap.size w w' := by
 have HR1 := am hr1
 have HC1 := am hc1
 clear hr1 hc1
 have HR2 := am hr2
 have HC2 := am hc2
 clear hr2 hc2
 have HB := am (Below.refl w.heap.size w)
 have H : (if (l1.length : Int) = 0 then (privityref04_Mul.j0 k a0 l1 l2 true) else (privityref04_Mul.j0 k a0 l1 l2 ((l2.length : Int) == 0))) = some r := h
 clear h
 have HC4 := am H
 clear H
 go_enter Try.func77,Try.ntmps77
 go_upto_region 1 with (fail)
 go_cut [17] (fun v17 wc => ∃ (kq : Nat) (x17_3 : Bool),v17 = .bool x17_3 ∧ Aside0 (privityref04_Mul.j0 kq a0 l1 l2 x17_3 = some r) ∧ Aside0 (kq ≤ k) ∧ Aside0 (Below w.heap.size w wc))
 case first =>
  have H := HC4.out
  clear HC4
  by_cases c5 : (l1.length : Int) = 0
  ·rw [if_pos c5] at H
   have c5b0 : ((l1.length : Int) == 0) = true := beq_iff_eq.mpr c5
   have c5b1 : ((l1.length : Int) != 0) = false := bne_eq_false_iff_eq.mpr c5
   clear c5
   (first|rw [c5b0]|(simp only [i64_w,i32_w];rw [c5b0])|skip)
   have H' := am H
   clear H
   go_wp2
   go_meet
   case rel => exact ⟨_,(true),(by first|rfl|(simp;done)|(simp [*];done)),H',⟨by first|omega|exact Nat.le_refl _⟩,⟨bb HB⟩⟩
  ·rw [if_neg c5] at H
   have c5b0 : ((l1.length : Int) == 0) = false := beq_eq_false_iff_ne.mpr c5
   have c5b1 : ((l1.length : Int) != 0) = true := bne_iff_ne.mpr c5
   have c5b2 : ¬ (l1 = []) := fun h_ => c5 (by rw [h_];rfl)
   (first|rw [c5b0]|(simp only [i64_w,i32_w];rw [c5b0])|skip)
   have H' := am H
   clear H
   go_wp2
   go_meet
   case rel => exact ⟨_,(((l2.length : Int) == 0)),(by first|rfl|(simp;done)|(simp [*];done)),H',⟨by first|omega|exact Nat.le_refl _⟩,⟨bb HB⟩⟩
 case rest =>
  clear HC4
  try clear c1
  try clear c2
  try clear p2
  try clear c5
  try clear c5b0
  try clear c5b1
  try clear c5b2
  obtain ⟨kq,x17_3,rfl,HA,HJ3,HB⟩ := hcut
  cases kq with
  | zero => exact absurd HA.out (by simp [privityref04_Mul.j0])
  | succ kj3 =>
   have H := HA.out
   clear HA
   simp only [privityref04_Mul.j0] at H
   by_cases c6 : x17_3 = true
   ·subst c6
    rw [if_pos rfl] at H
    obtain rfl := Option.some.inj H
    go_wp2
    go_ret
    exact ⟨_,by first|rfl|(simp [errW_none,errW_some] <;> rfl)|(simp [*,errW_none,errW_some] <;> rfl),by first|exact Kd.R_nil _ _ _ _ _|exact Kd.N_nil _ _ _ _ _|exact Kd.V_nil _ _ _ _ _|exact Kd.Q_nil _ _ _ _ _|exact Kd.S_nil _ _ _ _ _,bb HB⟩
   ·replace c6 := Bool.eq_false_iff.mpr c6
    subst c6
    rw [if_neg (show ¬ (false = true) by decide)] at H
    obtain ⟨ji7,hji7⟩ : ∃ j_ : Int,(wrap64 ((wrap64 ((l1.length : Int) + (l2.length : Int))) - 1)) = j_ := ⟨_,rfl⟩
    first|rw [hji7] at H|simp only [hji7] at H
    have hji7w : (IntKind.i64.wrap ((wrap64 ((l1.length : Int) + (l2.length : Int))) - 1)) = ji7 := (i64_w _).trans hji7
    by_cases c8 : 0 ≤ (ji7)
    ·rw [if_pos c8] at H
     have c8b0 := eq_true c8
     have c8b1 : decide (0 ≤ (ji7)) = true := decide_eq_true c8
     clear c8
     by_cases c9 : (ji7 : Int).toNat ≤ 35184372088832
     ·rw [if_pos c9] at H
      have c9b0 := eq_true c9
      have c9b1 : decide ((ji7 : Int).toNat ≤ 35184372088832) = true := decide_eq_true c9
      clear c9
      obtain ⟨y411,hy411⟩ : ∃ y_ : List Int,y_ = (List.replicate (ji7 : Int).toNat 0) := ⟨_,rfl⟩
      replace H : (privityref04_Mul.l0 kj3 a0 l1 l2 y411 0) = some r := by first|(rw [hy411];with_reducible exact H)|(have H2_ := (Option.bind_some _ _).symm.trans H;rw [hy411];with_reducible exact H2_)|(have H2_ := (Option.bind_some _ _).symm.trans H;with_reducible exact H2_)|with_reducible exact H|(rw [hy411];exact H)|exact H
      have Ny411 := am hy411
      clear hy411
      have H' := am H
      clear H
      go_wp2_with (first|((with_reducible refine gate_dst (N := 24) rfl ?_);(try (refine gate_guard (by rfl) ?_;dsimp only));refine Kd.R_make (Kd.int .u64) _ 22 rfl (N := 24) rfl 41 _ _ rfl ji7 rfl rfl Try.underlying41 (.int .u64 0) 8 info22 rfl (by decide) (by omega) 0 (ok := fun _ => True) (okp := fun _ => True) rfl (fun _ hk => hk) trivial (od) (Nat.le_trans (Nat.mul_le_mul_right _ (od : ji7.toNat ≤ 35184372088832)) (by omega)) (Below.refl _ _) (Nat.le_refl _) ?_;intro v412 w10 ho11 hb hg_ hnew_;clear hg_ hnew_;(first|rw [← Ny411.out] at ho11|(simp only [Int.reduceToNat] at ho11;rw [← Ny411.out] at ho11));have n0_ := am (Kd.R_lower ho11 (below_size (bb HB)));have n1_ := am (below_step (bb HB) hb);clear HB;have HO413 := n0_;have HB := n1_;clear n0_ n1_;clear hb ho11))
      go_loopg [8] kj3 (fun kq v8 w' => ∃ (x7_2 : List Int) (x8_2 : Int),v8 = .int .i64 x8_2 ∧ Aside0 (privityref04_Mul.l0 kq a0 l1 l2 x7_2 x8_2 = some r) ∧ Aside0 (kq ≤ kj3) ∧ Aside0 (Kd.R (Kd.int .u64) 22 w' w.heap.size (fun _ => True) v412 x7_2) ∧ Aside0 (Below w.heap.size w w'))
      case atStart => exact ⟨(y411),(0),(by first|rfl|(simp;done)|(simp [*];done)),H',⟨Nat.le_refl _⟩,⟨by (with_reducible repeat (first|apply Kd.R_alloc|apply Kd.R_drewN|apply Kd.R_drew));exact HO413.out⟩,⟨bb HB⟩⟩
      case round =>
       clear H'
       try clear c1
       try clear c2
       try clear p2
       try clear c5
       try clear c5b0
       try clear c5b1
       try clear c5b2
       try clear c6
       try clear p6
       try clear c7
       try clear c8
       try clear c8b0
       try clear c8b1
       try clear c9
       try clear c9b0
       try clear c9b1
       try clear p2
       obtain ⟨x7_2,x8_2,rfl,HA,HK2,HO_7,HB⟩ := hrel
       cases gk with
       | zero => exact absurd HA.out (by simp [privityref04_Mul.l0])
       | succ k2 =>
        have H := HA.out
        clear HA
        simp only [privityref04_Mul.l0] at H
        by_cases c12 : x8_2 < (l1.length : Int)
        ·rw [if_pos c12] at H
         have c12b0 : decide (x8_2 < (l1.length : Int)) = true := decide_eq_true c12
         clear c12
         have H' := am H
         clear H
         go_wp2
         go_loopg [9] k2 (fun kq v9 w' => ∃ (x7_3 : List Int) (x9_3 : Int),v9 = .int .i64 x9_3 ∧ Aside0 (privityref04_Mul.l1 kq a0 l1 l2 x7_3 x8_2 x9_3 = some r) ∧ Aside0 (kq ≤ k2) ∧ Aside0 (Kd.R (Kd.int .u64) 22 w' w.heap.size (fun _ => True) v412 x7_3) ∧ Aside0 (Below w.heap.size w w'))
         case atStart => exact ⟨(x7_2),(0),(by first|rfl|(simp;done)|(simp [*];done)),H',⟨Nat.le_refl _⟩,⟨by (with_reducible repeat (first|apply Kd.R_alloc|apply Kd.R_drewN|apply Kd.R_drew));exact HO_7.out⟩,⟨bb HB⟩⟩
         case round =>
          clear H'
          try clear c1
          try clear c2
          try clear p2
          try clear c5
          try clear c5b0
          try clear c5b1
          try clear c5b2
          try clear c6
          try clear p6
          try clear c7
          try clear c8
          try clear c8b0
          try clear c8b1
          try clear c9
          try clear c9b0
          try clear c9b1
          try clear c12
          try clear c12b0
          try clear p2
          try clear p6
          obtain ⟨x7_3,x9_3,rfl,HA,HK3,HO_7,HB⟩ := hrel
          cases gk with
          | zero => exact absurd HA.out (by simp [privityref04_Mul.l1])
          | succ k3 =>
           have H := HA.out
           clear HA
           simp only [privityref04_Mul.l1] at H
           by_cases c13 : x9_3 < (l2.length : Int)
           ·rw [if_pos c13] at H
            have c13b0 : decide (x9_3 < (l2.length : Int)) = true := decide_eq_true c13
            clear c13
            obtain ⟨ji14,hji14⟩ : ∃ j_ : Int,(wrap64 (x8_2 + x9_3)) = j_ := ⟨_,rfl⟩
            first|rw [hji14] at H|simp only [hji14] at H
            have hji14w : (IntKind.i64.wrap (x8_2 + x9_3)) = ji14 := (i64_w _).trans hji14
            by_cases c15 : 0 ≤ (ji14)
            ·rw [if_pos c15] at H
             have c15b0 : decide (0 ≤ (ji14)) = true := decide_eq_true c15
             clear c15
             by_cases c16 : (ji14) < (x7_3.length : Int)
             ·rw [if_pos c16] at H
              have c16b0 : decide ((ji14) < (x7_3.length : Int)) = true := decide_eq_true c16
              clear c16
              by_cases c17 : 0 ≤ x8_2
              ·rw [if_pos c17] at H
               have c17b0 : decide (0 ≤ x8_2) = true := decide_eq_true c17
               clear c17
               by_cases c18 : x8_2 < (l1.length : Int)
               ·rw [if_pos c18] at H
                have c18b0 : decide (x8_2 < (l1.length : Int)) = true := decide_eq_true c18
                clear c18
                by_cases c19 : 0 ≤ x9_3
                ·rw [if_pos c19] at H
                 have c19b0 : decide (0 ≤ x9_3) = true := decide_eq_true c19
                 clear c19
                 replace H := Option.bind_eq_some_iff.mp H
                 obtain ⟨t420,A200,H⟩ := H
                 try dsimp only at H
                 have A20 := am A200
                 clear A200
                 replace H := Option.bind_eq_some_iff.mp H
                 obtain ⟨t421,A210,H⟩ := H
                 try dsimp only at H
                 have A21 := am A210
                 clear A210
                 obtain ⟨y422,hy422⟩ : ∃ y_ : List Int,y_ = (x7_3.set ((ji14) : Int).toNat t421) := ⟨_,rfl⟩
                 replace H : (privityref04_Mul.l1 k3 a0 l1 l2 y422 x8_2 (wrap64 (x9_3 + 1))) = some r := by first|(rw [hy422];with_reducible exact H)|(have H2_ := (Option.bind_some _ _).symm.trans H;rw [hy422];with_reducible exact H2_)|(have H2_ := (Option.bind_some _ _).symm.trans H;with_reducible exact H2_)|with_reducible exact H|(rw [hy422];exact H)|exact H
                 have Ny422 := am hy422
                 clear hy422
                 have H' := am H
                 clear H
                 try go_wp2
                 have n0_ := am (Kd.R_drew HO_7.out)
                 have n1_ := am (below_drew1 HB.out)
                 clear HO_7
                 clear HB
                 have HO_7 := n0_
                 have HB := n1_
                 clear n0_ n1_
                 obtain ⟨Ao24,co24,eo24⟩ := Kd.R_slice HO_7.out
                 (first|subst eo24|(injection eo24 with f1_ f2_ f3_;have f4_ := f1_.symm;have f5_ := f3_.symm;clear f1_ f2_ f3_;subst f4_;subst f5_))
                 have p417 : 0 ≤ ((ji14) : Int) := od
                 have q417 : (ji14) < (x7_3.length : Int) := od
                 obtain ⟨ad417,e417,hx417_0⟩ := Kd.at_int (Kd.R_reads' HO_7.out).2.2 (ji14) p417 q417
                 cases e417
                 replace p417 := eq_true p417
                 replace q417 := eq_true q417
                 have p418 : 0 ≤ (x8_2 : Int) := od
                 have q418 : x8_2 < (l1.length : Int) := od
                 obtain ⟨ad418,e418,hx418_0⟩ := Kd.at_int HR1.out x8_2 p418 q418
                 have hw418_0 := hx418_0
                 cases e418
                 replace hx418_0 := (HB.out.cell (World.block_lt_of_cell? w _ hx418_0)).trans hx418_0
                 replace p418 := eq_true p418
                 replace q418 := eq_true q418
                 have p419 : 0 ≤ (x9_3 : Int) := od
                 have q419 : x9_3 < (l2.length : Int) := od
                 obtain ⟨ad419,e419,hx419_0⟩ := Kd.at_int HR2.out x9_3 p419 q419
                 have hw419_0 := hx419_0
                 cases e419
                 replace hx419_0 := (HB.out.cell (World.block_lt_of_cell? w _ hx419_0)).trans hx419_0
                 replace p419 := eq_true p419
                 replace q419 := eq_true q419
                 refine start_ (n := 24) (S := fun w' => w'.cell? (ad417.add ((ji14)).toNat) = some (.int .u64 (rd x7_3 (ji14))) ∧ w'.cell? (ad418.add (x8_2).toNat) = some (.int .u64 (rd l1 x8_2)) ∧ w'.cell? (ad419.add (x9_3).toNat) = some (.int .u64 (rd l2 x9_3))) (ds := [23]) (bz 24 0) (by kernel_rfl) rfl rfl ⟨hx417_0,((HB.out.cell (World.block_lt_of_cell? w _ hw418_0)).trans hw418_0),((HB.out.cell (World.block_lt_of_cell? w _ hw419_0)).trans hw419_0)⟩ (fun hHeld => ?_);refine with_tabW privityref04_Mul.tab10 privityref04_Mul.bits10 (fun HT_ HW_ => ?_)
                 generalize wr.drew = w23 at HO_7 HB hx417_0 hx418_0 hx419_0 hHeld ⊢
                 refine pk 0 37 (bz 24 1) HT_ ?_
                 refine pk 1 38 (bz 24 3) HT_ ?_
                 refine pk 2 39 (bz 24 7) HT_ ?_
                 refine pk 3 40 (bz 24 15) HT_ ?_
                 refine pk 4 41 (bz 24 31) HT_ ?_
                 refine pk 5 42 (bz 24 63) HT_ ?_
                 refine pk 6 43 (bz 24 127) HT_ ?_
                 refine pk 7 44 (bz 24 255) HT_ ?_
                 refine pk 8 45 (bz 24 511) HT_ ?_
                 refine pk 9 46 (bz 24 1023) HT_ ?_
                 refine pk 11 48 (bz 24 3071) HT_ ?_
                 refine pk 12 49 (bz 24 7167) HT_ ?_
                 refine pk 13 50 (bz 24 15359) HT_ ?_
                 refine pk 14 51 (bz 24 31743) HT_ ?_
                 refine pk 16 53 (bz 24 97279) HT_ ?_
                 refine pk 17 54 (bz 24 228351) HT_ ?_
                 refine pk 18 55 (bz 24 490495) HT_ ?_
                 refine tk 10 47 (bz 24 491519) HT_ HW_ hHeld ?_
                 refine tk 15 52 (bz 24 524287) HT_ HW_ hHeld ?_
                 refine tk 19 56 (bz 24 1048575) HT_ HW_ hHeld ?_
                 refine on 20 57 (bz 24 2097151) HT_ (fun K hK => ?_)
                 refine goes_ Try.func36 (by kernel_rfl) rfl #[.int .u64 a0,.int .u64 (rd l1 x8_2),.int .u64 (rd l2 x9_3)] (by rfl) rfl rfl (by (try simp only [List.map_toArray,List.map_cons,List.map_nil]);first|done|rfl|(simp only [List.length_drop,List.length_take];rfl)) ?_
                 with_reducible refine (privityref01_Mul.calls k3 a0 (rd l1 x8_2) (rd l2 x9_3) t420 _ A20.out).mono ?_
                 rintro e w' ⟨rfl,⟨nd,rfl⟩⟩
                 refine ⟨_,rfl,?_⟩
                 refine hK.out _ _ ⟨hHeld.1,((HB.out.cell (World.block_lt_of_cell? w _ hw418_0)).trans hw418_0),((HB.out.cell (World.block_lt_of_cell? w _ hw419_0)).trans hw419_0)⟩ (fun hHeld => ?_)
                 clear hK K
                 refine nm 57 ?_
                 refine on 21 58 (bz 24 4194303) HT_ (fun K hK => ?_)
                 refine goes_ Try.func34 (by kernel_rfl) rfl #[.int .u64 a0,.int .u64 (rd x7_3 (ji14)),.int .u64 t420] (by rfl) rfl rfl (by (try simp only [List.map_toArray,List.map_cons,List.map_nil]);first|done|(simp only [hji14];rfl)|rfl|(simp only [List.length_drop,List.length_take];rfl)) ?_
                 with_reducible refine (privityref01_Add.calls a0 (rd x7_3 (ji14)) t420 t421 _ A21.out).mono ?_
                 rintro e w' ⟨rfl,⟨nd,rfl⟩⟩
                 refine ⟨_,rfl,?_⟩
                 have p22 : 0 ≤ ((ji14) : Int) := od
                 have q22 : ((ji14) : Int) < ((x7_3.length : Int) : Int) := od
                 obtain ⟨go22,co22,eo22,gb22,gl22,cl22,HG22⟩ := Kd.R_form HO_7.out (by omega)
                 (first|cases eo22|(injection eo22 with ea_ en_ ec_;(first|subst ea_|(injection ea_ with ea_;subst ea_));subst ec_;clear en_))
                 have GB22 := am gb22
                 have GG22 := am HG22
                 clear gb22 gl22 HG22
                 (first|simp only [add_plain] at hx417_0|skip)
                 obtain ⟨hx22_0,hf22_0⟩ := Kd.R_celln 0 HO_7.out ((ji14) : Int) p22 q22
                 replace p22 := eq_true p22
                 replace q22 := eq_true q22
                 have HP25 := Kd.R_putn HO_7.out ((ji14) : Int) t421
                 rw [← Ny422.out] at HP25
                 have HQ25 := am HP25
                 clear HP25
                 refine hK.out _ _ ⟨hHeld.1,((HB.out.cell (World.block_lt_of_cell? w _ hw418_0)).trans hw418_0),((HB.out.cell (World.block_lt_of_cell? w _ hw419_0)).trans hw419_0)⟩ (fun hHeld => ?_)
                 clear hK K
                 refine nm 58 ?_
                 refine pk 22 59 (bz 24 8388607) HT_ ?_
                 refine last_ (i := 23) (N := none) (bz 24 16777215) rfl rfl (one_of HT_.out (by kernel_rfl)) (by decide) (fun K hK => ?_)
                 refine skip_ (w1 := ?_) (by rfl) rfl ?_ ?_
                 rotate_left
                 ·go_simp
                  rfl
                 refine hK.out _ _ ?_
                 clear hK K
                 refine done_ (done_of HT_.out (by kernel_rfl)) ?_
                 try go_wp2
                 go_roundg k3
                 case measure => have := HJ3.out;have := HK2.out;have := HK3.out;omega
                 case rel => exact ⟨(y422),(wrap64 (x9_3 + 1)),(by first|rfl|(simp;done)|(simp [*];done)),H',⟨by have := HJ3.out;have := HK2.out;have := HK3.out;omega⟩,⟨by (with_reducible repeat (first|apply Kd.R_alloc|apply Kd.R_drewN|apply Kd.R_drew));exact HQ25.out⟩,⟨by repeat (first|(with_reducible first|exact HB.out|apply below_alloc|apply pw_below_drewN|apply below_drew1|refine below_set ?_ GB22.out)|exact HB.out)⟩⟩
                ·rw [if_neg c19] at H
                 exact absurd H (by simp)
               ·rw [if_neg c18] at H
                exact absurd H (by simp)
              ·rw [if_neg c17] at H
               exact absurd H (by simp)
             ·rw [if_neg c16] at H
              exact absurd H (by simp)
            ·rw [if_neg c15] at H
             exact absurd H (by simp)
           ·rw [if_neg c13] at H
            have c13b0 : decide (x9_3 < (l2.length : Int)) = false := decide_eq_false c13
            clear c13
            have H' := am H
            clear H
            go_wp2
            go_roundg k3
            case measure => have := HJ3.out;have := HK2.out;have := HK3.out;omega
            case rel => exact ⟨(x7_3),(wrap64 (x8_2 + 1)),(by first|rfl|(simp;done)|(simp [*];done)),H',⟨by have := HJ3.out;have := HK2.out;have := HK3.out;omega⟩,⟨by (with_reducible repeat (first|apply Kd.R_alloc|apply Kd.R_drewN|apply Kd.R_drew));exact HO_7.out⟩,⟨bb HB⟩⟩
        ·rw [if_neg c12] at H
         have c12b0 : decide (x8_2 < (l1.length : Int)) = false := decide_eq_false c12
         clear c12
         replace H := Option.bind_eq_some_iff.mp H
         obtain ⟨t414,A260,H⟩ := H
         try dsimp only at H
         have A26 := am A260
         clear A260
         obtain rfl := Option.some.inj H
         obtain ⟨Ao27,co27,eo27⟩ := Kd.R_slice HO_7.out
         subst eo27
         go_wp2_with (first|((with_reducible refine gate_callee (f := 74) rfl ?_);refine goesL_ (some 61) rfl rfl Try.func74 (by kernel_rfl) rfl #[.slice Ao27 x7_2.length co27] rfl (by (try simp only [List.map_toArray,List.map_cons,List.map_nil]);first|done|rfl|(simp only [List.length_drop,List.length_take];rfl)) ?_;(with_reducible refine (privityref04_Trim.calls k2 _ _ x7_2 t414 _ ?side1 ?side2 A26.out).mono ?_);(case side1 => exact cr HO_7);(case side2 => exact (Kd.R_reads' HO_7.out).2.1);rintro e w28 ⟨v415,rfl,ho0,hb⟩;refine ⟨_,rfl,?_⟩;have n0_ := am (Kd.R_elder' (rr HO_7) (Kd.R_base ho0) hb);have n1_ := am (Kd.R_lower (Kd.R_new' ho0 (Kd.R_lt (rr HO_7))) (below_size (bb HB)));have n2_ := am (below_step (bb HB) hb);clear HO_7 HB;have HO_7 := n0_;have HO416 := n1_;have HB := n2_;clear n0_ n1_ n2_;(try clear hb);(try clear hb2);(try clear hk);(try clear hi);(try clear ho0)))
         go_ret
         exact ⟨_,by first|rfl|(simp [errW_none,errW_some] <;> rfl)|(simp only [← hji7];first|rfl|(simp [errW_none,errW_some] <;> rfl))|(simp [*,errW_none,errW_some] <;> rfl),by (with_reducible repeat (first|apply Kd.R_alloc|apply Kd.R_drewN|apply Kd.R_drew));exact Kd.R_mono HO416.out (fun _ hk => trivial),bb HB⟩
     ·rw [if_neg c9] at H
      exact absurd H (by simp)
    ·rw [if_neg c8] at H
     exact absurd H (by simp)
def privityref01_Neg.f (a0 : Int) (a1 : Int) : Option (Int) := if a0 = 0 then (none) else (some (Int.tmod (IntKind.u64.wrap (a0 - a1)) a0))
set_option maxHeartbeats 8000000 in
set_option maxRecDepth 100000 in
theorem privityref01_Neg.calls (a0 : Int) (a1 : Int) (r : Int) (w : World) (h : privityref01_Neg.f a0 a1 = some r) :
  Calls Try.prog 78 #[.int .u64 a0,.int .u64 a1] w fun e w' => e = .returned (.int .u64 r) ∧ Drawn0 w w' := by
 have H : (if a0 = 0 then (none) else (some (Int.tmod (IntKind.u64.wrap (a0 - a1)) a0))) = some r := h
 clear h
 by_cases c3 : a0 = 0
 ·rw [if_pos c3] at H
  exact absurd H (by simp)
 ·rw [if_neg c3] at H
  have c3b0 : (a0 == 0) = false := beq_eq_false_iff_ne.mpr c3
  have c3b1 : (a0 != 0) = true := bne_iff_ne.mpr c3
  obtain rfl := Option.some.inj H
  go_enter Try.func78,Try.ntmps78
  go_wp2
  go_ret
  exact ⟨by first|rfl|(simp;done)|(simp [*];done),by repeat (first|exact Drawn0.refl _|apply Drawn0.step)⟩
def privityref05_base.l0 : Nat → Int → List Int → Int → List Int → Int → Option (List Int)
 | 0,_,_,_,_,_ => none
 | k + 1,x0,x1,x2,x7,x8 => if x8 < (x1.length : Int) then (if x8 = x2 then (privityref05_base.l0 k x0 x1 x2 x7 (wrap64 (x8 + 1))) else (if 0 ≤ x2 then (if x2 < (x1.length : Int) then (if 0 ≤ x8 then ((privityref01_Sub.f x0 (rd x1 x2) (rd x1 x8)).bind fun t428 => ((privityref01_Inverse.f k x0 t428).bind fun bt429 => ((privityref01_Neg.f x0 (rd x1 x8)).bind fun t432 => ((privityref01_Mul.f k x0 t432 bt429.1).bind fun t433 => ((privityref04_Mul.f k x0 x7 (([t433,bt429.1] : List Int))).bind fun t437 => (privityref05_base.l0 k x0 x1 x2 t437 (wrap64 (x8 + 1)))))))) else (none)) else (none)) else (none))) else (some x7)
def privityref05_base.f (k : Nat) (a0 : Int) (l1 : List Int) (a2 : Int) : Option (List Int) := privityref05_base.l0 k a0 l1 a2 (([1] : List Int)) 0
set_option maxHeartbeats 8000000 in
set_option maxRecDepth 100000 in
theorem privityref05_base.calls (k : Nat) (a0 : Int) (A1 : Option Addr) (c1 : Nat) (l1 : List Int) (a2 : Int) (r : List Int) (w : World) (hr1 : Kd.C (Kd.int .u64) w A1 l1.length l1) (hc1 : l1.length ≤ c1) (h : privityref05_base.f k a0 l1 a2 = some r) :
  Calls Try.prog 66 #[.int .u64 a0,.slice A1 l1.length c1,.int .i64 a2] w fun e w' => ∃ v0_ : Value,e = .returned (v0_) ∧ Kd.R (Kd.int .u64) 22 w' w.heap.size (fun _ => True) v0_ r ∧ Below w.heap.size w w' := by
 have HR1 := am hr1
 have HC1 := am hc1
 clear hr1 hc1
 have HB := am (Below.refl w.heap.size w)
 have H : (privityref05_base.l0 k a0 l1 a2 (([1] : List Int)) 0) = some r := h
 clear h
 obtain ⟨y423,hy423⟩ : ∃ y_ : List Int,y_ = (([1] : List Int)) := ⟨_,rfl⟩
 replace H : (privityref05_base.l0 k a0 l1 a2 y423 0) = some r := by first|(rw [hy423];with_reducible exact H)|(have H2_ := (Option.bind_some _ _).symm.trans H;rw [hy423];with_reducible exact H2_)|(have H2_ := (Option.bind_some _ _).symm.trans H;with_reducible exact H2_)|with_reducible exact H|(rw [hy423];exact H)|exact H
 have Ny423 := am hy423
 clear hy423
 have H' := am H
 clear H
 go_enter Try.func66,Try.ntmps66
 go_wp2_with (first|((with_reducible refine gate_dst (N := 11) rfl ?_);refine Kd.R_lit (Kd.int .u64) _ 22 ?hg (N := 11) ?hd (xs := ([1] : List Int)) (inner := [.int .u64 1]) (ok := fun _ => True) (okp := fun _ => True) ?hr ?hp (fun _ hk => hk) trivial (Below.refl _ _) (Nat.le_refl _) (by simp) ?_;(case hd => rfl);(case hg => rfl);(case hr => first|(go_simp;done)|(go_simp;rfl));(case hp => exact (Reps.one (show Kd.M (Kd.int .u64) _ _ _ 1 [.int .u64 1] from rfl) (Reps.none _ _)));intro v424 w4 ho5 hb hg_ hnew_;clear hg_ hnew_;(first|rw [← Ny423.out] at ho5|(simp only [Int.reduceToNat] at ho5;rw [← Ny423.out] at ho5));have n0_ := am (Kd.R_lower ho5 (below_size (bb HB)));have n1_ := am (below_step (bb HB) hb);clear HB;have HO425 := n0_;have HB := n1_;clear n0_ n1_;clear hb ho5))
 repeat (go_quiet (first|((with_reducible refine gate_dst (N := 11) rfl ?_);refine Kd.R_lit (Kd.int .u64) _ 22 ?hg (N := 11) ?hd (xs := ([1] : List Int)) (inner := [.int .u64 1]) (ok := fun _ => True) (okp := fun _ => True) ?hr ?hp (fun _ hk => hk) trivial (Below.refl _ _) (Nat.le_refl _) (by simp) ?_;(case hd => rfl);(case hg => rfl);(case hr => first|(go_simp;done)|(go_simp;rfl));(case hp => exact (Reps.one (show Kd.M (Kd.int .u64) _ _ _ 1 [.int .u64 1] from rfl) (Reps.none _ _)));intro v424 w4 ho5 hb hg_ hnew_;clear hg_ hnew_;(first|rw [← Ny423.out] at ho5|(simp only [Int.reduceToNat] at ho5;rw [← Ny423.out] at ho5));have n0_ := am (Kd.R_lower ho5 (below_size (bb HB)));have n1_ := am (below_step (bb HB) hb);clear HB;have HO425 := n0_;have HB := n1_;clear n0_ n1_;clear hb ho5));try go_wp2_with (first|((with_reducible refine gate_dst (N := 11) rfl ?_);refine Kd.R_lit (Kd.int .u64) _ 22 ?hg (N := 11) ?hd (xs := ([1] : List Int)) (inner := [.int .u64 1]) (ok := fun _ => True) (okp := fun _ => True) ?hr ?hp (fun _ hk => hk) trivial (Below.refl _ _) (Nat.le_refl _) (by simp) ?_;(case hd => rfl);(case hg => rfl);(case hr => first|(go_simp;done)|(go_simp;rfl));(case hp => exact (Reps.one (show Kd.M (Kd.int .u64) _ _ _ 1 [.int .u64 1] from rfl) (Reps.none _ _)));intro v424 w4 ho5 hb hg_ hnew_;clear hg_ hnew_;(first|rw [← Ny423.out] at ho5|(simp only [Int.reduceToNat] at ho5;rw [← Ny423.out] at ho5));have n0_ := am (Kd.R_lower ho5 (below_size (bb HB)));have n1_ := am (below_step (bb HB) hb);clear HB;have HO425 := n0_;have HB := n1_;clear n0_ n1_;clear hb ho5)))
 go_loopg [7,8] k (fun kq v7 v8 w' => ∃ (x7_1 : List Int) (x8_1 : Int),v8 = .int .i64 x8_1 ∧ Aside0 (privityref05_base.l0 kq a0 l1 a2 x7_1 x8_1 = some r) ∧ Aside0 (kq ≤ k) ∧ Aside0 (Kd.R (Kd.int .u64) 22 w' w.heap.size (fun _ => True) v7 x7_1) ∧ Aside0 (Below w.heap.size w w'))
 case atStart => exact ⟨(y423),(0),(by first|rfl|(simp;done)|(simp [*];done)),H',⟨Nat.le_refl _⟩,⟨by (with_reducible repeat (first|apply Kd.R_alloc|apply Kd.R_drewN|apply Kd.R_drew));exact HO425.out⟩,⟨bb HB⟩⟩
 case round =>
  clear H'
  try clear c1
  try clear p2
  obtain ⟨x7_1,x8_1,rfl,HA,HK1,HO_7,HB⟩ := hrel
  cases gk with
  | zero => exact absurd HA.out (by simp [privityref05_base.l0])
  | succ k1 =>
   have H := HA.out
   clear HA
   simp only [privityref05_base.l0] at H
   by_cases c6 : x8_1 < (l1.length : Int)
   ·rw [if_pos c6] at H
    have c6b0 : decide (x8_1 < (l1.length : Int)) = true := decide_eq_true c6
    clear c6
    by_cases c7 : x8_1 = a2
    ·rw [if_pos c7] at H
     have c7b0 : (x8_1 == a2) = true := beq_iff_eq.mpr c7
     have c7b1 : (x8_1 != a2) = false := bne_eq_false_iff_eq.mpr c7
     clear c7
     have H' := am H
     clear H
     go_wp2
     repeat (go_quiet (fail);try go_wp2)
     go_roundg k1
     case measure => have := HK1.out;omega
     case rel => exact ⟨(x7_1),(wrap64 (x8_1 + 1)),(by first|rfl|(simp;done)|(simp [*];done)),H',⟨by have := HK1.out;omega⟩,⟨by (with_reducible repeat (first|apply Kd.R_alloc|apply Kd.R_drewN|apply Kd.R_drew));exact HO_7.out⟩,⟨bb HB⟩⟩
    ·rw [if_neg c7] at H
     have c7b0 : (x8_1 == a2) = false := beq_eq_false_iff_ne.mpr c7
     have c7b1 : (x8_1 != a2) = true := bne_iff_ne.mpr c7
     by_cases c8 : 0 ≤ a2
     ·rw [if_pos c8] at H
      have c8b0 : decide (0 ≤ a2) = true := decide_eq_true c8
      clear c8
      by_cases c9 : a2 < (l1.length : Int)
      ·rw [if_pos c9] at H
       have c9b0 : decide (a2 < (l1.length : Int)) = true := decide_eq_true c9
       clear c9
       by_cases c10 : 0 ≤ x8_1
       ·rw [if_pos c10] at H
        have c10b0 : decide (0 ≤ x8_1) = true := decide_eq_true c10
        clear c10
        replace H := Option.bind_eq_some_iff.mp H
        obtain ⟨t428,A110,H⟩ := H
        try dsimp only at H
        have A11 := am A110
        clear A110
        replace H := Option.bind_eq_some_iff.mp H
        obtain ⟨⟨t429,t430⟩,A120,H⟩ := H
        try dsimp only at H
        have A12 := am A120
        clear A120
        replace H := Option.bind_eq_some_iff.mp H
        obtain ⟨t432,A130,H⟩ := H
        try dsimp only at H
        have A13 := am A130
        clear A130
        replace H := Option.bind_eq_some_iff.mp H
        obtain ⟨t433,A140,H⟩ := H
        try dsimp only at H
        have A14 := am A140
        clear A140
        obtain ⟨y434,hy434⟩ : ∃ y_ : List Int,y_ = (([t433,t429] : List Int)) := ⟨_,rfl⟩
        replace H : ((privityref04_Mul.f k1 a0 x7_1 y434).bind fun t437 => (privityref05_base.l0 k1 a0 l1 a2 t437 (wrap64 (x8_1 + 1)))) = some r := by first|(rw [hy434];with_reducible exact H)|(have H2_ := (Option.bind_some _ _).symm.trans H;rw [hy434];with_reducible exact H2_)|(have H2_ := (Option.bind_some _ _).symm.trans H;with_reducible exact H2_)|with_reducible exact H|(rw [hy434];exact H)|exact H
        have Ny434 := am hy434
        clear hy434
        replace H := Option.bind_eq_some_iff.mp H
        obtain ⟨t437,A150,H⟩ := H
        try dsimp only at H
        have A15 := am A150
        clear A150
        have H' := am H
        clear H
        have p426 : 0 ≤ (a2 : Int) := od
        have q426 : a2 < (l1.length : Int) := od
        obtain ⟨ad426,e426,hx426_0⟩ := Kd.at_int HR1.out a2 p426 q426
        cases e426
        replace hx426_0 := (HB.out.cell (World.block_lt_of_cell? w _ hx426_0)).trans hx426_0
        replace p426 := eq_true p426
        replace q426 := eq_true q426
        have p427 : 0 ≤ (x8_1 : Int) := od
        have q427 : x8_1 < (l1.length : Int) := od
        obtain ⟨ad427,e427,hx427_0⟩ := Kd.at_int HR1.out x8_1 p427 q427
        obtain rfl : ad426 = ad427 := (by injection e427)
        replace hx427_0 := (HB.out.cell (World.block_lt_of_cell? w _ hx427_0)).trans hx427_0
        replace p427 := eq_true p427
        replace q427 := eq_true q427
        go_wp2_with (first|(go_at_call 76;(with_reducible refine (privityref01_Sub.calls a0 (rd l1 a2) (rd l1 x8_1) t428 _ A11.out).mono ?_);rintro e w' ⟨rfl,⟨nd,rfl⟩⟩;(try first|exact ⟨rfl,_,World.drewN_drewN _ _ _⟩|exact ⟨rfl,_,Eq.trans (World.drewN_drewN _ _ _) (congrArg (World.drewN _) (Nat.add_assoc _ _ _))⟩))|(go_at_call 75;(with_reducible refine (privityref01_Inverse.calls k1 a0 t428 t429 t430 _ A12.out).mono ?_);rintro e w' ⟨rfl,⟨nd,rfl⟩⟩;(try first|exact ⟨rfl,_,World.drewN_drewN _ _ _⟩|exact ⟨rfl,_,Eq.trans (World.drewN_drewN _ _ _) (congrArg (World.drewN _) (Nat.add_assoc _ _ _))⟩);have p431 : 0 ≤ (x8_1 : Int) := od;have q431 : x8_1 < (l1.length : Int) := od;obtain ⟨ad431,e431,hx431_0⟩ := Kd.at_int HR1.out x8_1 p431 q431;obtain rfl : ad426 = ad431 := (by injection e431);replace hx431_0 := (HB.out.cell (World.block_lt_of_cell? w _ hx431_0)).trans hx431_0;replace p431 := eq_true p431;replace q431 := eq_true q431)|(go_at_call 78;(with_reducible refine (privityref01_Neg.calls a0 (rd l1 x8_1) t432 _ A13.out).mono ?_);rintro e w' ⟨rfl,⟨nd,rfl⟩⟩;(try first|exact ⟨rfl,_,World.drewN_drewN _ _ _⟩|exact ⟨rfl,_,Eq.trans (World.drewN_drewN _ _ _) (congrArg (World.drewN _) (Nat.add_assoc _ _ _))⟩))|(go_at_call 36;(with_reducible refine (privityref01_Mul.calls k1 a0 t432 t429 t433 _ A14.out).mono ?_);rintro e w' ⟨rfl,⟨nd,rfl⟩⟩;(try first|exact ⟨rfl,_,World.drewN_drewN _ _ _⟩|exact ⟨rfl,_,Eq.trans (World.drewN_drewN _ _ _) (congrArg (World.drewN _) (Nat.add_assoc _ _ _))⟩))|((with_reducible refine gate_dst (N := 48) rfl ?_);refine Kd.R_lit (Kd.int .u64) _ 22 ?hg (N := 48) ?hd (xs := ([t433,t429] : List Int)) (inner := [.int .u64 t433,.int .u64 t429]) (ok := fun _ => True) (okp := fun _ => True) ?hr ?hp (fun _ hk => hk) trivial (Below.refl _ _) (Nat.le_refl _) (by simp) ?_;(case hd => rfl);(case hg => rfl);(case hr => first|(go_simp;done)|(go_simp;rfl));(case hp => exact (Reps.one (show Kd.M (Kd.int .u64) _ _ _ t433 [.int .u64 t433] from rfl) (Reps.one (show Kd.M (Kd.int .u64) _ _ _ t429 [.int .u64 t429] from rfl) (Reps.none _ _))));intro v435 w16 ho17 hb hg_ hnew_;clear hg_ hnew_;(first|rw [← Ny434.out] at ho17|(simp only [Int.reduceToNat] at ho17;rw [← Ny434.out] at ho17));have n0_ := am (Kd.R_elder' (rr HO_7) (Kd.R_base ho17) hb);have n1_ := am (Kd.R_lower (Kd.R_new' ho17 (Kd.R_lt (rr HO_7))) (below_size (bb HB)));have n2_ := am (below_step (bb HB) hb);clear HO_7 HB;have HO_7 := n0_;have HO436 := n1_;have HB := n2_;clear n0_ n1_ n2_;clear hb ho17;obtain ⟨Ao18,co18,eo18⟩ := Kd.R_slice HO_7.out;subst eo18;obtain ⟨Ao19,co19,eo19⟩ := Kd.R_slice HO436.out;subst eo19)|(go_at_call 77;(with_reducible refine (privityref04_Mul.calls k1 a0 _ _ x7_1 _ _ y434 t437 _ ?side1 ?side2 ?side3 ?side4 A15.out).mono ?_);(case side1 => exact cr HO_7);(case side2 => exact (Kd.R_reads' HO_7.out).2.1);(case side3 => exact cr HO436);(case side4 => exact (Kd.R_reads' HO436.out).2.1);rintro e w20 ⟨v438,rfl,ho0,hb⟩;have n0_ := am (Kd.R_elder' (rr HO_7) (Kd.R_base ho0) hb);have n1_ := am (Kd.R_elder' (rr HO436) (Kd.R_base ho0) hb);have n2_ := am (Kd.R_lower (Kd.R_new' (Kd.R_new' ho0 (Kd.R_lt (rr HO_7))) (Kd.R_lt (rr HO436))) (below_size (bb HB)));have n3_ := am (below_step (bb HB) hb);clear HO_7 HO436 HB;have HO_7 := n0_;have HO436 := n1_;have HO439 := n2_;have HB := n3_;clear n0_ n1_ n2_ n3_;(try clear hb);(try clear hb2);(try clear hk);(try clear hi);(try clear ho0)))
        repeat (go_quiet (first|(go_at_call 76;(with_reducible refine (privityref01_Sub.calls a0 (rd l1 a2) (rd l1 x8_1) t428 _ A11.out).mono ?_);rintro e w' ⟨rfl,⟨nd,rfl⟩⟩;(try first|exact ⟨rfl,_,World.drewN_drewN _ _ _⟩|exact ⟨rfl,_,Eq.trans (World.drewN_drewN _ _ _) (congrArg (World.drewN _) (Nat.add_assoc _ _ _))⟩))|(go_at_call 75;(with_reducible refine (privityref01_Inverse.calls k1 a0 t428 t429 t430 _ A12.out).mono ?_);rintro e w' ⟨rfl,⟨nd,rfl⟩⟩;(try first|exact ⟨rfl,_,World.drewN_drewN _ _ _⟩|exact ⟨rfl,_,Eq.trans (World.drewN_drewN _ _ _) (congrArg (World.drewN _) (Nat.add_assoc _ _ _))⟩);have p431 : 0 ≤ (x8_1 : Int) := od;have q431 : x8_1 < (l1.length : Int) := od;obtain ⟨ad431,e431,hx431_0⟩ := Kd.at_int HR1.out x8_1 p431 q431;obtain rfl : ad426 = ad431 := (by injection e431);replace hx431_0 := (HB.out.cell (World.block_lt_of_cell? w _ hx431_0)).trans hx431_0;replace p431 := eq_true p431;replace q431 := eq_true q431)|(go_at_call 78;(with_reducible refine (privityref01_Neg.calls a0 (rd l1 x8_1) t432 _ A13.out).mono ?_);rintro e w' ⟨rfl,⟨nd,rfl⟩⟩;(try first|exact ⟨rfl,_,World.drewN_drewN _ _ _⟩|exact ⟨rfl,_,Eq.trans (World.drewN_drewN _ _ _) (congrArg (World.drewN _) (Nat.add_assoc _ _ _))⟩))|(go_at_call 36;(with_reducible refine (privityref01_Mul.calls k1 a0 t432 t429 t433 _ A14.out).mono ?_);rintro e w' ⟨rfl,⟨nd,rfl⟩⟩;(try first|exact ⟨rfl,_,World.drewN_drewN _ _ _⟩|exact ⟨rfl,_,Eq.trans (World.drewN_drewN _ _ _) (congrArg (World.drewN _) (Nat.add_assoc _ _ _))⟩))|((with_reducible refine gate_dst (N := 48) rfl ?_);refine Kd.R_lit (Kd.int .u64) _ 22 ?hg (N := 48) ?hd (xs := ([t433,t429] : List Int)) (inner := [.int .u64 t433,.int .u64 t429]) (ok := fun _ => True) (okp := fun _ => True) ?hr ?hp (fun _ hk => hk) trivial (Below.refl _ _) (Nat.le_refl _) (by simp) ?_;(case hd => rfl);(case hg => rfl);(case hr => first|(go_simp;done)|(go_simp;rfl));(case hp => exact (Reps.one (show Kd.M (Kd.int .u64) _ _ _ t433 [.int .u64 t433] from rfl) (Reps.one (show Kd.M (Kd.int .u64) _ _ _ t429 [.int .u64 t429] from rfl) (Reps.none _ _))));intro v435 w16 ho17 hb hg_ hnew_;clear hg_ hnew_;(first|rw [← Ny434.out] at ho17|(simp only [Int.reduceToNat] at ho17;rw [← Ny434.out] at ho17));have n0_ := am (Kd.R_elder' (rr HO_7) (Kd.R_base ho17) hb);have n1_ := am (Kd.R_lower (Kd.R_new' ho17 (Kd.R_lt (rr HO_7))) (below_size (bb HB)));have n2_ := am (below_step (bb HB) hb);clear HO_7 HB;have HO_7 := n0_;have HO436 := n1_;have HB := n2_;clear n0_ n1_ n2_;clear hb ho17;obtain ⟨Ao18,co18,eo18⟩ := Kd.R_slice HO_7.out;subst eo18;obtain ⟨Ao19,co19,eo19⟩ := Kd.R_slice HO436.out;subst eo19)|(go_at_call 77;(with_reducible refine (privityref04_Mul.calls k1 a0 _ _ x7_1 _ _ y434 t437 _ ?side1 ?side2 ?side3 ?side4 A15.out).mono ?_);(case side1 => exact cr HO_7);(case side2 => exact (Kd.R_reads' HO_7.out).2.1);(case side3 => exact cr HO436);(case side4 => exact (Kd.R_reads' HO436.out).2.1);rintro e w20 ⟨v438,rfl,ho0,hb⟩;have n0_ := am (Kd.R_elder' (rr HO_7) (Kd.R_base ho0) hb);have n1_ := am (Kd.R_elder' (rr HO436) (Kd.R_base ho0) hb);have n2_ := am (Kd.R_lower (Kd.R_new' (Kd.R_new' ho0 (Kd.R_lt (rr HO_7))) (Kd.R_lt (rr HO436))) (below_size (bb HB)));have n3_ := am (below_step (bb HB) hb);clear HO_7 HO436 HB;have HO_7 := n0_;have HO436 := n1_;have HO439 := n2_;have HB := n3_;clear n0_ n1_ n2_ n3_;(try clear hb);(try clear hb2);(try clear hk);(try clear hi);(try clear ho0)));try go_wp2_with (first|(go_at_call 76;(with_reducible refine (privityref01_Sub.calls a0 (rd l1 a2) (rd l1 x8_1) t428 _ A11.out).mono ?_);rintro e w' ⟨rfl,⟨nd,rfl⟩⟩;(try first|exact ⟨rfl,_,World.drewN_drewN _ _ _⟩|exact ⟨rfl,_,Eq.trans (World.drewN_drewN _ _ _) (congrArg (World.drewN _) (Nat.add_assoc _ _ _))⟩))|(go_at_call 75;(with_reducible refine (privityref01_Inverse.calls k1 a0 t428 t429 t430 _ A12.out).mono ?_);rintro e w' ⟨rfl,⟨nd,rfl⟩⟩;(try first|exact ⟨rfl,_,World.drewN_drewN _ _ _⟩|exact ⟨rfl,_,Eq.trans (World.drewN_drewN _ _ _) (congrArg (World.drewN _) (Nat.add_assoc _ _ _))⟩);have p431 : 0 ≤ (x8_1 : Int) := od;have q431 : x8_1 < (l1.length : Int) := od;obtain ⟨ad431,e431,hx431_0⟩ := Kd.at_int HR1.out x8_1 p431 q431;obtain rfl : ad426 = ad431 := (by injection e431);replace hx431_0 := (HB.out.cell (World.block_lt_of_cell? w _ hx431_0)).trans hx431_0;replace p431 := eq_true p431;replace q431 := eq_true q431)|(go_at_call 78;(with_reducible refine (privityref01_Neg.calls a0 (rd l1 x8_1) t432 _ A13.out).mono ?_);rintro e w' ⟨rfl,⟨nd,rfl⟩⟩;(try first|exact ⟨rfl,_,World.drewN_drewN _ _ _⟩|exact ⟨rfl,_,Eq.trans (World.drewN_drewN _ _ _) (congrArg (World.drewN _) (Nat.add_assoc _ _ _))⟩))|(go_at_call 36;(with_reducible refine (privityref01_Mul.calls k1 a0 t432 t429 t433 _ A14.out).mono ?_);rintro e w' ⟨rfl,⟨nd,rfl⟩⟩;(try first|exact ⟨rfl,_,World.drewN_drewN _ _ _⟩|exact ⟨rfl,_,Eq.trans (World.drewN_drewN _ _ _) (congrArg (World.drewN _) (Nat.add_assoc _ _ _))⟩))|((with_reducible refine gate_dst (N := 48) rfl ?_);refine Kd.R_lit (Kd.int .u64) _ 22 ?hg (N := 48) ?hd (xs := ([t433,t429] : List Int)) (inner := [.int .u64 t433,.int .u64 t429]) (ok := fun _ => True) (okp := fun _ => True) ?hr ?hp (fun _ hk => hk) trivial (Below.refl _ _) (Nat.le_refl _) (by simp) ?_;(case hd => rfl);(case hg => rfl);(case hr => first|(go_simp;done)|(go_simp;rfl));(case hp => exact (Reps.one (show Kd.M (Kd.int .u64) _ _ _ t433 [.int .u64 t433] from rfl) (Reps.one (show Kd.M (Kd.int .u64) _ _ _ t429 [.int .u64 t429] from rfl) (Reps.none _ _))));intro v435 w16 ho17 hb hg_ hnew_;clear hg_ hnew_;(first|rw [← Ny434.out] at ho17|(simp only [Int.reduceToNat] at ho17;rw [← Ny434.out] at ho17));have n0_ := am (Kd.R_elder' (rr HO_7) (Kd.R_base ho17) hb);have n1_ := am (Kd.R_lower (Kd.R_new' ho17 (Kd.R_lt (rr HO_7))) (below_size (bb HB)));have n2_ := am (below_step (bb HB) hb);clear HO_7 HB;have HO_7 := n0_;have HO436 := n1_;have HB := n2_;clear n0_ n1_ n2_;clear hb ho17;obtain ⟨Ao18,co18,eo18⟩ := Kd.R_slice HO_7.out;subst eo18;obtain ⟨Ao19,co19,eo19⟩ := Kd.R_slice HO436.out;subst eo19)|(go_at_call 77;(with_reducible refine (privityref04_Mul.calls k1 a0 _ _ x7_1 _ _ y434 t437 _ ?side1 ?side2 ?side3 ?side4 A15.out).mono ?_);(case side1 => exact cr HO_7);(case side2 => exact (Kd.R_reads' HO_7.out).2.1);(case side3 => exact cr HO436);(case side4 => exact (Kd.R_reads' HO436.out).2.1);rintro e w20 ⟨v438,rfl,ho0,hb⟩;have n0_ := am (Kd.R_elder' (rr HO_7) (Kd.R_base ho0) hb);have n1_ := am (Kd.R_elder' (rr HO436) (Kd.R_base ho0) hb);have n2_ := am (Kd.R_lower (Kd.R_new' (Kd.R_new' ho0 (Kd.R_lt (rr HO_7))) (Kd.R_lt (rr HO436))) (below_size (bb HB)));have n3_ := am (below_step (bb HB) hb);clear HO_7 HO436 HB;have HO_7 := n0_;have HO436 := n1_;have HO439 := n2_;have HB := n3_;clear n0_ n1_ n2_ n3_;(try clear hb);(try clear hb2);(try clear hk);(try clear hi);(try clear ho0))))
        go_roundg k1
        case measure => have := HK1.out;omega
        case rel => exact ⟨(t437),(wrap64 (x8_1 + 1)),(by first|rfl|(simp;done)|(simp [*];done)),H',⟨by have := HK1.out;omega⟩,⟨by (with_reducible repeat (first|apply Kd.R_alloc|apply Kd.R_drewN|apply Kd.R_drew));exact Kd.R_mono HO439.out (fun _ hk => trivial)⟩,⟨bb HB⟩⟩
       ·rw [if_neg c10] at H
        exact absurd H (by simp)
      ·rw [if_neg c9] at H
       exact absurd H (by simp)
     ·rw [if_neg c8] at H
      exact absurd H (by simp)
   ·rw [if_neg c6] at H
    have c6b0 : decide (x8_1 < (l1.length : Int)) = false := decide_eq_false c6
    clear c6
    obtain rfl := Option.some.inj H
    go_wp2
    repeat (go_quiet (fail);try go_wp2)
    go_ret
    exact ⟨_,by first|rfl|(simp [errW_none,errW_some] <;> rfl)|(simp [*,errW_none,errW_some] <;> rfl),by (with_reducible repeat (first|apply Kd.R_alloc|apply Kd.R_drewN|apply Kd.R_drew));exact HO_7.out,bb HB⟩
end Go.Proofs.Ytjnkkfdlcbcelaa.Pr
end
