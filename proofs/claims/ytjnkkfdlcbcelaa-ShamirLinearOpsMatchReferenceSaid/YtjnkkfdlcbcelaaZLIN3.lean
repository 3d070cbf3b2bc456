/- Part 3 of the proof's texts, joined in build order. -/
import Derived.Test.YtjnkkfdlcbcelaaZLIN1
import Derived.Test.YtjnkkfdlcbcelaaZLIN2
set_option linter.unusedVariables false
set_option linter.unusedSimpArgs false
section
namespace Go.Proofs.Ytjnkkfdlcbcelaa.Pr
open Go.RowKit Go.Proofs.YtjnkkfdlcbcelaaW.PrintWords Go.Proofs.YtjnkkfdlcbcelaaW.PrintLast Go.Proofs.YtjnkkfdlcbcelaaW.PrintMore
attribute [local go_sem] max2_int min2_int max_two min_two max_three min_three max_four min_four
open Go.Proofs.Ytjnkkfdlcbcelaa.Hw
def privitylaw09_awake.f (k : Nat)  : Option (Bool) := (shamir_Reconstruct.f k 31 1 (([(⟨3,8⟩ : S49),(⟨1,6⟩ : S49)] : List (S49)))).bind fun bt193 => ((shamir_FitSecret.f 31 1 (([(⟨1,6⟩ : S49)] : List (S49))) 9).bind fun bt198 => ((shamir_Reconstruct.f k 31 1 (([(⟨1,6⟩ : S49)] : List (S49)))).bind fun bt205 => ((shamir_Reconstruct.f k 31 1 (([(⟨1,6⟩ : S49),(⟨2,7⟩ : S49),(⟨3,9⟩ : S49)] : List (S49)))).bind fun bt210 => ((shamir_Constant.f k 31 4 1 7).bind fun t212 => ((shamir_Shares.f k 31 3 (([5,1] : List Int))).bind fun t218 => ((privityref05_Same.f k t218 (([6,7,8] : List Int))).bind fun t224 => (if t224 = true then (if bt193.1 = 5 then (if bt193.2 = 0 then ((privityref05_Same.f k bt198.1 (([9,28] : List Int))).bind fun t228 => (if t228 = true then (if bt198.2 = 0 then (if bt205.2 = 1 then (if bt210.2 = 9 then ((privityref09_Same.f k t212 (([(([7,0] : List Int)),(([7,0] : List Int)),(([7,0] : List Int)),(([7,0] : List Int))] : List (List Int)))).bind fun t244 => (some t244)) else (some false)) else (some false)) else (some false)) else (some false))) else (some false)) else (some false)) else (some false))))))))
theorem privitylaw09_awake.mono : ∀ k,LeO (privitylaw09_awake.f k ) (privitylaw09_awake.f (k + 1) ) := by
 intro  k
 unfold privitylaw09_awake.f
 repeat' first
   | (with_reducible exact privityref05_Same.mono _ _ _)
   | (with_reducible exact privityref09_Same.mono _ _ _)
   | (with_reducible exact shamir_Constant.mono _ _ _ _ _)
   | (with_reducible exact shamir_Reconstruct.mono _ _ _ _)
   | (with_reducible exact shamir_Shares.mono _ _ _ _)
   | (with_reducible exact LeO.refl _)
   | (with_reducible exact LeO.none _)
   | (with_reducible refine LeO.ite ?_ ?_)
   | (with_reducible refine LeO.bind ?_ (fun _ => ?_))
   | exact privityref05_Same.mono _ _ _
   | exact privityref09_Same.mono _ _ _
   | exact shamir_Constant.mono _ _ _ _ _
   | exact shamir_Reconstruct.mono _ _ _ _
   | exact shamir_Shares.mono _ _ _ _
   | exact LeO.none _
   | refine LeO.ite ?_ ?_
   | refine LeO.bind ?_ (fun _ => ?_)
theorem privitylaw09_awake.more (k : Nat) : ∀ d,LeO (privitylaw09_awake.f k) (privitylaw09_awake.f (k + d))
  | 0 => fun r h => h
  | d + 1 => fun r h => privitylaw09_awake.mono (k + d) r (privitylaw09_awake.more k d r h)
theorem privitylaw09_awake.is : privitylaw09_awake.f 60 = some true := by kernel_rfl
theorem privitylaw09_awake.one (k : Nat) (r : Bool) (h : privitylaw09_awake.f k = some r) : r = true := by
  have h1 := privitylaw09_awake.more k 60 r h
  have h2 := privitylaw09_awake.more 60 k true privitylaw09_awake.is
  rw [Nat.add_comm,h1] at h2
  exact Option.some.inj h2
set_option maxHeartbeats 8000000 in
set_option maxRecDepth 100000 in
theorem privitylaw09_awake.calls (k : Nat)  (r : Bool) (w : World) (h : privitylaw09_awake.f k  = some r) :
  Calls Try.prog 6 #[] w fun e w' => e = .returned (.bool r) ∧ Below w.heap.size w w' := by
 have HR1 := am (privitylaw09_awake.one k r h)
 have hu49 := Try.underlying49
 have hu24 := Try.underlying24
 have HB := am (Below.refl w.heap.size w)
 have H : ((shamir_Reconstruct.f k 31 1 (([(⟨3,8⟩ : S49),(⟨1,6⟩ : S49)] : List (S49)))).bind fun bt193 => ((shamir_FitSecret.f 31 1 (([(⟨1,6⟩ : S49)] : List (S49))) 9).bind fun bt198 => ((shamir_Reconstruct.f k 31 1 (([(⟨1,6⟩ : S49)] : List (S49)))).bind fun bt205 => ((shamir_Reconstruct.f k 31 1 (([(⟨1,6⟩ : S49),(⟨2,7⟩ : S49),(⟨3,9⟩ : S49)] : List (S49)))).bind fun bt210 => ((shamir_Constant.f k 31 4 1 7).bind fun t212 => ((shamir_Shares.f k 31 3 (([5,1] : List Int))).bind fun t218 => ((privityref05_Same.f k t218 (([6,7,8] : List Int))).bind fun t224 => (if t224 = true then (if bt193.1 = 5 then (if bt193.2 = 0 then ((privityref05_Same.f k bt198.1 (([9,28] : List Int))).bind fun t228 => (if t228 = true then (if bt198.2 = 0 then (if bt205.2 = 1 then (if bt210.2 = 9 then ((privityref09_Same.f k t212 (([(([7,0] : List Int)),(([7,0] : List Int)),(([7,0] : List Int)),(([7,0] : List Int))] : List (List Int)))).bind fun t244 => (some t244)) else (some false)) else (some false)) else (some false)) else (some false))) else (some false)) else (some false)) else (some false))))))))) = some r := h
 clear h
 obtain ⟨y190,hy190⟩ : ∃ y_ : List (S49),y_ = (([(⟨3,8⟩ : S49),(⟨1,6⟩ : S49)] : List (S49))) := ⟨_,rfl⟩
 replace H : ((shamir_Reconstruct.f k 31 1 y190).bind fun bt193 => ((shamir_FitSecret.f 31 1 (([(⟨1,6⟩ : S49)] : List (S49))) 9).bind fun bt198 => ((shamir_Reconstruct.f k 31 1 (([(⟨1,6⟩ : S49)] : List (S49)))).bind fun bt205 => ((shamir_Reconstruct.f k 31 1 (([(⟨1,6⟩ : S49),(⟨2,7⟩ : S49),(⟨3,9⟩ : S49)] : List (S49)))).bind fun bt210 => ((shamir_Constant.f k 31 4 1 7).bind fun t212 => ((shamir_Shares.f k 31 3 (([5,1] : List Int))).bind fun t218 => ((privityref05_Same.f k t218 (([6,7,8] : List Int))).bind fun t224 => (if t224 = true then (if bt193.1 = 5 then (if bt193.2 = 0 then ((privityref05_Same.f k bt198.1 (([9,28] : List Int))).bind fun t228 => (if t228 = true then (if bt198.2 = 0 then (if bt205.2 = 1 then (if bt210.2 = 9 then ((privityref09_Same.f k t212 (([(([7,0] : List Int)),(([7,0] : List Int)),(([7,0] : List Int)),(([7,0] : List Int))] : List (List Int)))).bind fun t244 => (some t244)) else (some false)) else (some false)) else (some false)) else (some false))) else (some false)) else (some false)) else (some false))))))))) = some r := by first|(rw [hy190];with_reducible exact H)|(have H2_ := (Option.bind_some _ _).symm.trans H;rw [hy190];with_reducible exact H2_)|(have H2_ := (Option.bind_some _ _).symm.trans H;with_reducible exact H2_)|with_reducible exact H|(rw [hy190];exact H)|exact H
 have Ny190 := am hy190
 clear hy190
 replace H := Option.bind_eq_some_iff.mp H
 obtain ⟨⟨t193,t194⟩,A10,H⟩ := H
 try dsimp only at H
 have A1 := am A10
 clear A10
 obtain ⟨y195,hy195⟩ : ∃ y_ : List (S49),y_ = (([(⟨1,6⟩ : S49)] : List (S49))) := ⟨_,rfl⟩
 replace H : ((shamir_FitSecret.f 31 1 y195 9).bind fun bt198 => ((shamir_Reconstruct.f k 31 1 (([(⟨1,6⟩ : S49)] : List (S49)))).bind fun bt205 => ((shamir_Reconstruct.f k 31 1 (([(⟨1,6⟩ : S49),(⟨2,7⟩ : S49),(⟨3,9⟩ : S49)] : List (S49)))).bind fun bt210 => ((shamir_Constant.f k 31 4 1 7).bind fun t212 => ((shamir_Shares.f k 31 3 (([5,1] : List Int))).bind fun t218 => ((privityref05_Same.f k t218 (([6,7,8] : List Int))).bind fun t224 => (if t224 = true then (if t193 = 5 then (if t194 = 0 then ((privityref05_Same.f k bt198.1 (([9,28] : List Int))).bind fun t228 => (if t228 = true then (if bt198.2 = 0 then (if bt205.2 = 1 then (if bt210.2 = 9 then ((privityref09_Same.f k t212 (([(([7,0] : List Int)),(([7,0] : List Int)),(([7,0] : List Int)),(([7,0] : List Int))] : List (List Int)))).bind fun t244 => (some t244)) else (some false)) else (some false)) else (some false)) else (some false))) else (some false)) else (some false)) else (some false)))))))) = some r := by first|(rw [hy195];with_reducible exact H)|(have H2_ := (Option.bind_some _ _).symm.trans H;rw [hy195];with_reducible exact H2_)|(have H2_ := (Option.bind_some _ _).symm.trans H;with_reducible exact H2_)|with_reducible exact H|(rw [hy195];exact H)|exact H
 have Ny195 := am hy195
 clear hy195
 replace H := Option.bind_eq_some_iff.mp H
 obtain ⟨⟨t198,t199⟩,A20,H⟩ := H
 try dsimp only at H
 have A2 := am A20
 clear A20
 obtain ⟨y202,hy202⟩ : ∃ y_ : List (S49),y_ = (([(⟨1,6⟩ : S49)] : List (S49))) := ⟨_,rfl⟩
 replace H : ((shamir_Reconstruct.f k 31 1 y202).bind fun bt205 => ((shamir_Reconstruct.f k 31 1 (([(⟨1,6⟩ : S49),(⟨2,7⟩ : S49),(⟨3,9⟩ : S49)] : List (S49)))).bind fun bt210 => ((shamir_Constant.f k 31 4 1 7).bind fun t212 => ((shamir_Shares.f k 31 3 (([5,1] : List Int))).bind fun t218 => ((privityref05_Same.f k t218 (([6,7,8] : List Int))).bind fun t224 => (if t224 = true then (if t193 = 5 then (if t194 = 0 then ((privityref05_Same.f k t198 (([9,28] : List Int))).bind fun t228 => (if t228 = true then (if t199 = 0 then (if bt205.2 = 1 then (if bt210.2 = 9 then ((privityref09_Same.f k t212 (([(([7,0] : List Int)),(([7,0] : List Int)),(([7,0] : List Int)),(([7,0] : List Int))] : List (List Int)))).bind fun t244 => (some t244)) else (some false)) else (some false)) else (some false)) else (some false))) else (some false)) else (some false)) else (some false))))))) = some r := by first|(rw [hy202];with_reducible exact H)|(have H2_ := (Option.bind_some _ _).symm.trans H;rw [hy202];with_reducible exact H2_)|(have H2_ := (Option.bind_some _ _).symm.trans H;with_reducible exact H2_)|with_reducible exact H|(rw [hy202];exact H)|exact H
 have Ny202 := am hy202
 clear hy202
 replace H := Option.bind_eq_some_iff.mp H
 obtain ⟨⟨t205,t206⟩,A30,H⟩ := H
 try dsimp only at H
 have A3 := am A30
 clear A30
 obtain ⟨y207,hy207⟩ : ∃ y_ : List (S49),y_ = (([(⟨1,6⟩ : S49),(⟨2,7⟩ : S49),(⟨3,9⟩ : S49)] : List (S49))) := ⟨_,rfl⟩
 replace H : ((shamir_Reconstruct.f k 31 1 y207).bind fun bt210 => ((shamir_Constant.f k 31 4 1 7).bind fun t212 => ((shamir_Shares.f k 31 3 (([5,1] : List Int))).bind fun t218 => ((privityref05_Same.f k t218 (([6,7,8] : List Int))).bind fun t224 => (if t224 = true then (if t193 = 5 then (if t194 = 0 then ((privityref05_Same.f k t198 (([9,28] : List Int))).bind fun t228 => (if t228 = true then (if t199 = 0 then (if t206 = 1 then (if bt210.2 = 9 then ((privityref09_Same.f k t212 (([(([7,0] : List Int)),(([7,0] : List Int)),(([7,0] : List Int)),(([7,0] : List Int))] : List (List Int)))).bind fun t244 => (some t244)) else (some false)) else (some false)) else (some false)) else (some false))) else (some false)) else (some false)) else (some false)))))) = some r := by first|(rw [hy207];with_reducible exact H)|(have H2_ := (Option.bind_some _ _).symm.trans H;rw [hy207];with_reducible exact H2_)|(have H2_ := (Option.bind_some _ _).symm.trans H;with_reducible exact H2_)|with_reducible exact H|(rw [hy207];exact H)|exact H
 have Ny207 := am hy207
 clear hy207
 replace H := Option.bind_eq_some_iff.mp H
 obtain ⟨⟨t210,t211⟩,A40,H⟩ := H
 try dsimp only at H
 have A4 := am A40
 clear A40
 replace H := Option.bind_eq_some_iff.mp H
 obtain ⟨t212,A50,H⟩ := H
 try dsimp only at H
 have A5 := am A50
 clear A50
 obtain ⟨y215,hy215⟩ : ∃ y_ : List Int,y_ = (([5,1] : List Int)) := ⟨_,rfl⟩
 replace H : ((shamir_Shares.f k 31 3 y215).bind fun t218 => ((privityref05_Same.f k t218 (([6,7,8] : List Int))).bind fun t224 => (if t224 = true then (if t193 = 5 then (if t194 = 0 then ((privityref05_Same.f k t198 (([9,28] : List Int))).bind fun t228 => (if t228 = true then (if t199 = 0 then (if t206 = 1 then (if t211 = 9 then ((privityref09_Same.f k t212 (([(([7,0] : List Int)),(([7,0] : List Int)),(([7,0] : List Int)),(([7,0] : List Int))] : List (List Int)))).bind fun t244 => (some t244)) else (some false)) else (some false)) else (some false)) else (some false))) else (some false)) else (some false)) else (some false)))) = some r := by first|(rw [hy215];with_reducible exact H)|(have H2_ := (Option.bind_some _ _).symm.trans H;rw [hy215];with_reducible exact H2_)|(have H2_ := (Option.bind_some _ _).symm.trans H;with_reducible exact H2_)|with_reducible exact H|(rw [hy215];exact H)|exact H
 have Ny215 := am hy215
 clear hy215
 replace H := Option.bind_eq_some_iff.mp H
 obtain ⟨t218,A60,H⟩ := H
 try dsimp only at H
 have A6 := am A60
 clear A60
 obtain ⟨y221,hy221⟩ : ∃ y_ : List Int,y_ = (([6,7,8] : List Int)) := ⟨_,rfl⟩
 replace H : ((privityref05_Same.f k t218 y221).bind fun t224 => (if t224 = true then (if t193 = 5 then (if t194 = 0 then ((privityref05_Same.f k t198 (([9,28] : List Int))).bind fun t228 => (if t228 = true then (if t199 = 0 then (if t206 = 1 then (if t211 = 9 then ((privityref09_Same.f k t212 (([(([7,0] : List Int)),(([7,0] : List Int)),(([7,0] : List Int)),(([7,0] : List Int))] : List (List Int)))).bind fun t244 => (some t244)) else (some false)) else (some false)) else (some false)) else (some false))) else (some false)) else (some false)) else (some false))) = some r := by first|(rw [hy221];with_reducible exact H)|(have H2_ := (Option.bind_some _ _).symm.trans H;rw [hy221];with_reducible exact H2_)|(have H2_ := (Option.bind_some _ _).symm.trans H;with_reducible exact H2_)|with_reducible exact H|(rw [hy221];exact H)|exact H
 have Ny221 := am hy221
 clear hy221
 replace H := Option.bind_eq_some_iff.mp H
 obtain ⟨t224,A70,H⟩ := H
 try dsimp only at H
 have A7 := am A70
 clear A70
 by_cases c8 : t224 = true
 ·subst c8
  rw [if_pos rfl] at H
  by_cases c9 : t193 = 5
  ·rw [if_pos c9] at H
   have c9b0 : (t193 == 5) = true := beq_iff_eq.mpr c9
   have c9b1 : (t193 != 5) = false := bne_eq_false_iff_eq.mpr c9
   clear c9
   by_cases c10 : t194 = 0
   ·rw [if_pos c10] at H
    have c10b0 : (t194 == 0) = true := beq_iff_eq.mpr c10
    have c10b1 : (t194 != 0) = false := bne_eq_false_iff_eq.mpr c10
    clear c10
    obtain ⟨y225,hy225⟩ : ∃ y_ : List Int,y_ = (([9,28] : List Int)) := ⟨_,rfl⟩
    replace H : ((privityref05_Same.f k t198 y225).bind fun t228 => (if t228 = true then (if t199 = 0 then (if t206 = 1 then (if t211 = 9 then ((privityref09_Same.f k t212 (([(([7,0] : List Int)),(([7,0] : List Int)),(([7,0] : List Int)),(([7,0] : List Int))] : List (List Int)))).bind fun t244 => (some t244)) else (some false)) else (some false)) else (some false)) else (some false))) = some r := by first|(rw [hy225];with_reducible exact H)|(have H2_ := (Option.bind_some _ _).symm.trans H;rw [hy225];with_reducible exact H2_)|(have H2_ := (Option.bind_some _ _).symm.trans H;with_reducible exact H2_)|with_reducible exact H|(rw [hy225];exact H)|exact H
    have Ny225 := am hy225
    clear hy225
    replace H := Option.bind_eq_some_iff.mp H
    obtain ⟨t228,A110,H⟩ := H
    try dsimp only at H
    have A11 := am A110
    clear A110
    by_cases c12 : t228 = true
    ·subst c12
     rw [if_pos rfl] at H
     by_cases c13 : t199 = 0
     ·rw [if_pos c13] at H
      have c13b0 : (t199 == 0) = true := beq_iff_eq.mpr c13
      have c13b1 : (t199 != 0) = false := bne_eq_false_iff_eq.mpr c13
      clear c13
      by_cases c14 : t206 = 1
      ·rw [if_pos c14] at H
       have c14b0 : (t206 == 1) = true := beq_iff_eq.mpr c14
       have c14b1 : (t206 != 1) = false := bne_eq_false_iff_eq.mpr c14
       clear c14
       by_cases c15 : t211 = 9
       ·rw [if_pos c15] at H
        have c15b0 : (t211 == 9) = true := beq_iff_eq.mpr c15
        have c15b1 : (t211 != 9) = false := bne_eq_false_iff_eq.mpr c15
        clear c15
        obtain ⟨y229,hy229⟩ : ∃ y_ : List Int,y_ = (([7,0] : List Int)) := ⟨_,rfl⟩
        replace H : ((privityref09_Same.f k t212 (([y229,(([7,0] : List Int)),(([7,0] : List Int)),(([7,0] : List Int))] : List (List Int)))).bind fun t244 => (some t244)) = some r := by first|(rw [hy229];with_reducible exact H)|(have H2_ := (Option.bind_some _ _).symm.trans H;rw [hy229];with_reducible exact H2_)|(have H2_ := (Option.bind_some _ _).symm.trans H;with_reducible exact H2_)|with_reducible exact H|(rw [hy229];exact H)|exact H
        have Ny229 := am hy229
        clear hy229
        obtain ⟨y232,hy232⟩ : ∃ y_ : List Int,y_ = (([7,0] : List Int)) := ⟨_,rfl⟩
        replace H : ((privityref09_Same.f k t212 (([y229,y232,(([7,0] : List Int)),(([7,0] : List Int))] : List (List Int)))).bind fun t244 => (some t244)) = some r := by first|(rw [hy232];with_reducible exact H)|(have H2_ := (Option.bind_some _ _).symm.trans H;rw [hy232];with_reducible exact H2_)|(have H2_ := (Option.bind_some _ _).symm.trans H;with_reducible exact H2_)|with_reducible exact H|(rw [hy232];exact H)|exact H
        have Ny232 := am hy232
        clear hy232
        obtain ⟨y235,hy235⟩ : ∃ y_ : List Int,y_ = (([7,0] : List Int)) := ⟨_,rfl⟩
        replace H : ((privityref09_Same.f k t212 (([y229,y232,y235,(([7,0] : List Int))] : List (List Int)))).bind fun t244 => (some t244)) = some r := by first|(rw [hy235];with_reducible exact H)|(have H2_ := (Option.bind_some _ _).symm.trans H;rw [hy235];with_reducible exact H2_)|(have H2_ := (Option.bind_some _ _).symm.trans H;with_reducible exact H2_)|with_reducible exact H|(rw [hy235];exact H)|exact H
        have Ny235 := am hy235
        clear hy235
        obtain ⟨y238,hy238⟩ : ∃ y_ : List Int,y_ = (([7,0] : List Int)) := ⟨_,rfl⟩
        replace H : ((privityref09_Same.f k t212 (([y229,y232,y235,y238] : List (List Int)))).bind fun t244 => (some t244)) = some r := by first|(rw [hy238];with_reducible exact H)|(have H2_ := (Option.bind_some _ _).symm.trans H;rw [hy238];with_reducible exact H2_)|(have H2_ := (Option.bind_some _ _).symm.trans H;with_reducible exact H2_)|with_reducible exact H|(rw [hy238];exact H)|exact H
        have Ny238 := am hy238
        clear hy238
        obtain ⟨y241,hy241⟩ : ∃ y_ : List (List Int),y_ = (([y229,y232,y235,y238] : List (List Int))) := ⟨_,rfl⟩
        replace H : ((privityref09_Same.f k t212 y241).bind fun t244 => (some t244)) = some r := by first|(rw [hy241];with_reducible exact H)|(have H2_ := (Option.bind_some _ _).symm.trans H;rw [hy241];with_reducible exact H2_)|(have H2_ := (Option.bind_some _ _).symm.trans H;with_reducible exact H2_)|with_reducible exact H|(rw [hy241];exact H)|exact H
        have Ny241 := am hy241
        clear hy241
        replace H := Option.bind_eq_some_iff.mp H
        obtain ⟨t244,A160,H⟩ := H
        try dsimp only at H
        have A16 := am A160
        clear A160
        obtain rfl := Option.some.inj H
        go_enter Try.func6,Try.ntmps6
        go_wp2_with (first|((with_reducible refine gate_dst (N := 13) rfl ?_);(try (refine gate_guard (by rfl) ?_;dsimp only));refine Kd.R_lit k49 _ 49 ?hg (N := 13) ?hd (xs := ([(⟨3,8⟩ : S49),(⟨1,6⟩ : S49)] : List (S49))) (inner := [.int .u64 3,.int .u64 8,.int .u64 1,.int .u64 6]) (ok := fun _ => True) (okp := fun _ => True) ?hr ?hp (fun _ hk => hk) trivial (Below.refl _ _) (Nat.le_refl _) (by simp) ?_;(case hd => rfl);(case hg => rfl);(case hr => first|(go_simp;done)|(go_simp;rfl));(case hp => exact (Reps.c2 (show Kd.M k49 _ _ _ (⟨3,8⟩ : S49) [.int .u64 3,.int .u64 8] from (k49_mkM _ _ _ (⟨3,8⟩ : S49) )) (Reps.c2 (show Kd.M k49 _ _ _ (⟨1,6⟩ : S49) [.int .u64 1,.int .u64 6] from (k49_mkM _ _ _ (⟨1,6⟩ : S49) )) (Reps.none _ _))));intro v191 w17 ho18 hb hg_ hnew_;clear hg_ hnew_;(first|rw [← Ny190.out] at ho18|(simp only [Int.reduceToNat] at ho18;rw [← Ny190.out] at ho18));have n0_ := am (Kd.R_lower ho18 (below_size (bb HB)));have n1_ := am (below_step (bb HB) hb);clear HB;have HO192 := n0_;have HB := n1_;clear n0_ n1_;clear hb ho18;obtain ⟨Ao19,co19,eo19⟩ := Kd.R_slice HO192.out;subst eo19)|((with_reducible refine gate_callee (f := 24) rfl ?_);refine goesL_ (some 14) rfl rfl Try.func24 (by kernel_rfl) rfl #[.int .u64 31,.int .i64 1,.slice Ao19 y190.length co19] rfl (by (try simp only [List.map_toArray,List.map_cons,List.map_nil]);first|done|rfl|(simp only [List.length_drop,List.length_take];rfl)) ?_;(with_reducible refine (shamir_Reconstruct.calls k 31 1 _ _ y190 t193 t194 _ ?side1 ?side2 A1.out).mono ?_);(case side1 => exact cr HO192);(case side2 => exact (Kd.R_reads' HO192.out).2.1);rintro e w20 ⟨rfl,hb⟩;refine ⟨_,rfl,?_⟩;have n0_ := am (Kd.R_below (rr HO192) hb);have n1_ := am (below_step (bb HB) hb);clear HO192 HB;have HO192 := n0_;have HB := n1_;clear n0_ n1_;(try clear hb);(try clear hb2);(try clear hk);(try clear hi))|((with_reducible refine gate_dst (N := 19) rfl ?_);(try (refine gate_guard (by rfl) ?_;dsimp only));refine Kd.R_lit k49 _ 49 ?hg (N := 19) ?hd (xs := ([(⟨1,6⟩ : S49)] : List (S49))) (inner := [.int .u64 1,.int .u64 6]) (ok := fun _ => True) (okp := fun _ => True) ?hr ?hp (fun _ hk => hk) trivial (Below.refl _ _) (Nat.le_refl _) (by simp) ?_;(case hd => rfl);(case hg => rfl);(case hr => first|(go_simp;done)|(go_simp;rfl));(case hp => exact (Reps.c2 (show Kd.M k49 _ _ _ (⟨1,6⟩ : S49) [.int .u64 1,.int .u64 6] from (k49_mkM _ _ _ (⟨1,6⟩ : S49) )) (Reps.none _ _)));intro v196 w21 ho22 hb hg_ hnew_;clear hg_ hnew_;(first|rw [← Ny195.out] at ho22|(simp only [Int.reduceToNat] at ho22;rw [← Ny195.out] at ho22));have n0_ := am (Kd.R_elder' (rr HO192) (Kd.R_base ho22) hb);have n1_ := am (Kd.R_lower (Kd.R_new' ho22 (Kd.R_lt (rr HO192))) (below_size (bb HB)));have n2_ := am (below_step (bb HB) hb);clear HO192 HB;have HO192 := n0_;have HO197 := n1_;have HB := n2_;clear n0_ n1_ n2_;clear hb ho22;obtain ⟨Ao23,co23,eo23⟩ := Kd.R_slice HO197.out;subst eo23)|((with_reducible refine gate_callee (f := 29) rfl ?_);refine goesL_ (some 20) rfl rfl Try.func29 (by kernel_rfl) rfl #[.int .u64 31,.int .i64 1,.slice Ao23 y195.length co23,.int .u64 9] rfl (by (try simp only [List.map_toArray,List.map_cons,List.map_nil]);first|done|rfl|(simp only [List.length_drop,List.length_take];rfl)) ?_;(with_reducible refine (shamir_FitSecret.calls 31 1 _ _ y195 9 t198 t199 _ ?side1 ?side2 A2.out).mono ?_);(case side1 => exact cr HO197);(case side2 => exact (Kd.R_reads' HO197.out).2.1);rintro e w24 ⟨v200,rfl,ho0,hb⟩;refine ⟨_,rfl,?_⟩;have n0_ := am (Kd.R_below (rr HO192) hb);have n1_ := am (Kd.R_below (rr HO197) hb);have n2_ := am (Kd.R_lower ho0 (below_size (bb HB)));have n3_ := am (below_step (bb HB) hb);clear HO192 HO197 HB;have HO192 := n0_;have HO197 := n1_;have HO201 := n2_;have HB := n3_;clear n0_ n1_ n2_ n3_;(try clear hb);(try clear hb2);(try clear hk);(try clear hi);(try clear ho0))|((with_reducible refine gate_dst (N := 25) rfl ?_);(try (refine gate_guard (by rfl) ?_;dsimp only));refine Kd.R_lit k49 _ 49 ?hg (N := 25) ?hd (xs := ([(⟨1,6⟩ : S49)] : List (S49))) (inner := [.int .u64 1,.int .u64 6]) (ok := fun _ => True) (okp := fun _ => True) ?hr ?hp (fun _ hk => hk) trivial (Below.refl _ _) (Nat.le_refl _) (by simp) ?_;(case hd => rfl);(case hg => rfl);(case hr => first|(go_simp;done)|(go_simp;rfl));(case hp => exact (Reps.c2 (show Kd.M k49 _ _ _ (⟨1,6⟩ : S49) [.int .u64 1,.int .u64 6] from (k49_mkM _ _ _ (⟨1,6⟩ : S49) )) (Reps.none _ _)));intro v203 w25 ho26 hb hg_ hnew_;clear hg_ hnew_;(first|rw [← Ny202.out] at ho26|(simp only [Int.reduceToNat] at ho26;rw [← Ny202.out] at ho26));have n0_ := am (Kd.R_elder' (rr HO192) (Kd.R_base ho26) hb);have n1_ := am (Kd.R_elder' (rr HO197) (Kd.R_base ho26) hb);have n2_ := am (Kd.R_below (rr HO201) hb);have n3_ := am (Kd.R_lower (Kd.R_new' (Kd.R_new' ho26 (Kd.R_lt (rr HO192))) (Kd.R_lt (rr HO197))) (below_size (bb HB)));have n4_ := am (below_step (bb HB) hb);clear HO192 HO197 HO201 HB;have HO192 := n0_;have HO197 := n1_;have HO201 := n2_;have HO204 := n3_;have HB := n4_;clear n0_ n1_ n2_ n3_ n4_;clear hb ho26;obtain ⟨Ao27,co27,eo27⟩ := Kd.R_slice HO204.out;subst eo27)|((with_reducible refine gate_callee (f := 24) rfl ?_);refine goesL_ (some 26) rfl rfl Try.func24 (by kernel_rfl) rfl #[.int .u64 31,.int .i64 1,.slice Ao27 y202.length co27] rfl (by (try simp only [List.map_toArray,List.map_cons,List.map_nil]);first|done|rfl|(simp only [List.length_drop,List.length_take];rfl)) ?_;(with_reducible refine (shamir_Reconstruct.calls k 31 1 _ _ y202 t205 t206 _ ?side1 ?side2 A3.out).mono ?_);(case side1 => exact cr HO204);(case side2 => exact (Kd.R_reads' HO204.out).2.1);rintro e w28 ⟨rfl,hb⟩;refine ⟨_,rfl,?_⟩;have n0_ := am (Kd.R_below (rr HO192) hb);have n1_ := am (Kd.R_below (rr HO197) hb);have n2_ := am (Kd.R_below (rr HO201) hb);have n3_ := am (Kd.R_below (rr HO204) hb);have n4_ := am (below_step (bb HB) hb);clear HO192 HO197 HO201 HO204 HB;have HO192 := n0_;have HO197 := n1_;have HO201 := n2_;have HO204 := n3_;have HB := n4_;clear n0_ n1_ n2_ n3_ n4_;(try clear hb);(try clear hb2);(try clear hk);(try clear hi))|((with_reducible refine gate_dst (N := 33) rfl ?_);(try (refine gate_guard (by rfl) ?_;dsimp only));refine Kd.R_lit k49 _ 49 ?hg (N := 33) ?hd (xs := ([(⟨1,6⟩ : S49),(⟨2,7⟩ : S49),(⟨3,9⟩ : S49)] : List (S49))) (inner := [.int .u64 1,.int .u64 6,.int .u64 2,.int .u64 7,.int .u64 3,.int .u64 9]) (ok := fun _ => True) (okp := fun _ => True) ?hr ?hp (fun _ hk => hk) trivial (Below.refl _ _) (Nat.le_refl _) (by simp) ?_;(case hd => rfl);(case hg => rfl);(case hr => first|(go_simp;done)|(go_simp;rfl));(case hp => exact (Reps.c2 (show Kd.M k49 _ _ _ (⟨1,6⟩ : S49) [.int .u64 1,.int .u64 6] from (k49_mkM _ _ _ (⟨1,6⟩ : S49) )) (Reps.c2 (show Kd.M k49 _ _ _ (⟨2,7⟩ : S49) [.int .u64 2,.int .u64 7] from (k49_mkM _ _ _ (⟨2,7⟩ : S49) )) (Reps.c2 (show Kd.M k49 _ _ _ (⟨3,9⟩ : S49) [.int .u64 3,.int .u64 9] from (k49_mkM _ _ _ (⟨3,9⟩ : S49) )) (Reps.none _ _)))));intro v208 w29 ho30 hb hg_ hnew_;clear hg_ hnew_;(first|rw [← Ny207.out] at ho30|(simp only [Int.reduceToNat] at ho30;rw [← Ny207.out] at ho30));have n0_ := am (Kd.R_elder' (rr HO192) (Kd.R_base ho30) hb);have n1_ := am (Kd.R_elder' (rr HO197) (Kd.R_base ho30) hb);have n2_ := am (Kd.R_below (rr HO201) hb);have n3_ := am (Kd.R_elder' (rr HO204) (Kd.R_base ho30) hb);have n4_ := am (Kd.R_lower (Kd.R_new' (Kd.R_new' (Kd.R_new' ho30 (Kd.R_lt (rr HO192))) (Kd.R_lt (rr HO197))) (Kd.R_lt (rr HO204))) (below_size (bb HB)));have n5_ := am (below_step (bb HB) hb);clear HO192 HO197 HO201 HO204 HB;have HO192 := n0_;have HO197 := n1_;have HO201 := n2_;have HO204 := n3_;have HO209 := n4_;have HB := n5_;clear n0_ n1_ n2_ n3_ n4_ n5_;clear hb ho30;obtain ⟨Ao31,co31,eo31⟩ := Kd.R_slice HO209.out;subst eo31)|((with_reducible refine gate_callee (f := 24) rfl ?_);refine goesL_ (some 34) rfl rfl Try.func24 (by kernel_rfl) rfl #[.int .u64 31,.int .i64 1,.slice Ao31 y207.length co31] rfl (by (try simp only [List.map_toArray,List.map_cons,List.map_nil]);first|done|rfl|(simp only [List.length_drop,List.length_take];rfl)) ?_;(with_reducible refine (shamir_Reconstruct.calls k 31 1 _ _ y207 t210 t211 _ ?side1 ?side2 A4.out).mono ?_);(case side1 => exact cr HO209);(case side2 => exact (Kd.R_reads' HO209.out).2.1);rintro e w32 ⟨rfl,hb⟩;refine ⟨_,rfl,?_⟩;have n0_ := am (Kd.R_below (rr HO192) hb);have n1_ := am (Kd.R_below (rr HO197) hb);have n2_ := am (Kd.R_below (rr HO201) hb);have n3_ := am (Kd.R_below (rr HO204) hb);have n4_ := am (Kd.R_below (rr HO209) hb);have n5_ := am (below_step (bb HB) hb);clear HO192 HO197 HO201 HO204 HO209 HB;have HO192 := n0_;have HO197 := n1_;have HO201 := n2_;have HO204 := n3_;have HO209 := n4_;have HB := n5_;clear n0_ n1_ n2_ n3_ n4_ n5_;(try clear hb);(try clear hb2);(try clear hk);(try clear hi))|((with_reducible refine gate_callee (f := 17) rfl ?_);refine goesL_ (some 38) rfl rfl Try.func17 (by kernel_rfl) rfl #[.agg #[.int .u64 31,.int .i64 4,.int .i64 1],.int .u64 7] rfl (by (try simp only [List.map_toArray,List.map_cons,List.map_nil]);first|done|rfl|(simp only [List.length_drop,List.length_take];rfl)) ?_;(with_reducible refine (shamir_Constant.calls k 31 4 1 7 t212 _ A5.out).mono ?_);rintro e w33 ⟨v213,rfl,ho0,hb⟩;refine ⟨_,rfl,?_⟩;have n0_ := am (Kd.R_below (rr HO192) hb);have n1_ := am (Kd.R_below (rr HO197) hb);have n2_ := am (Kd.R_below (rr HO201) hb);have n3_ := am (Kd.R_below (rr HO204) hb);have n4_ := am (Kd.R_below (rr HO209) hb);have n5_ := am (Kd.N_lower (Kd.N_mono (ok' := fun k_ => some k_ ≠ (.slice Ao19 y190.length co19 : Value).ownBlock ∧ some k_ ≠ (.slice Ao23 y195.length co23 : Value).ownBlock ∧ some k_ ≠ (v200 : Value).ownBlock ∧ some k_ ≠ (.slice Ao27 y202.length co27 : Value).ownBlock ∧ some k_ ≠ (.slice Ao31 y207.length co31 : Value).ownBlock) (Kd.S_N (Kd.S_bound ho0)) (fun k_ hk_ => ⟨(Kd.fresh' (Kd.R_lt (rr HO192)) k_ hk_.2.1),(Kd.fresh' (Kd.R_lt (rr HO197)) k_ hk_.2.1),(Kd.fresh' (Kd.R_lt (rr HO201)) k_ hk_.2.1),(Kd.fresh' (Kd.R_lt (rr HO204)) k_ hk_.2.1),(Kd.fresh' (Kd.R_lt (rr HO209)) k_ hk_.2.1)⟩)) (below_size (bb HB)));have n6_ := am (below_step (bb HB) hb);clear HO192 HO197 HO201 HO204 HO209 HB;have HO192 := n0_;have HO197 := n1_;have HO201 := n2_;have HO204 := n3_;have HO209 := n4_;have HO214 := n5_;have HB := n6_;clear n0_ n1_ n2_ n3_ n4_ n5_ n6_;(try clear hb);(try clear hb2);(try clear hk);(try clear hi);(try clear ho0))|((with_reducible refine gate_dst (N := 39) rfl ?_);(try (refine gate_guard (by rfl) ?_;dsimp only));refine Kd.R_lit (Kd.int .u64) _ 22 ?hg (N := 39) ?hd (xs := ([5,1] : List Int)) (inner := [.int .u64 5,.int .u64 1]) (ok := fun _ => True) (okp := fun _ => True) ?hr ?hp (fun _ hk => hk) trivial (Below.refl _ _) (Nat.le_refl _) (by simp) ?_;(case hd => rfl);(case hg => rfl);(case hr => first|(go_simp;done)|(go_simp;rfl));(case hp => exact (Reps.one (show Kd.M (Kd.int .u64) _ _ _ 5 [.int .u64 5] from rfl) (Reps.one (show Kd.M (Kd.int .u64) _ _ _ 1 [.int .u64 1] from rfl) (Reps.none _ _))));intro v216 w34 ho35 hb hg_ hnew_;clear hg_ hnew_;(first|rw [← Ny215.out] at ho35|(simp only [Int.reduceToNat] at ho35;rw [← Ny215.out] at ho35));have n0_ := am (Kd.R_below (rr HO192) hb);have n1_ := am (Kd.R_below (rr HO197) hb);have n2_ := am (Kd.R_elder' (rr HO201) (Kd.R_base ho35) hb);have n3_ := am (Kd.R_below (rr HO204) hb);have n4_ := am (Kd.R_below (rr HO209) hb);have n5_ := am (Kd.N_elder' (rn HO214) (Kd.R_base ho35) hb);have n6_ := am (Kd.R_lower (Kd.R_new' ho35 (Kd.R_lt (rr HO201))) (below_size (bb HB)));have n7_ := am (below_step (bb HB) hb);clear HO192 HO197 HO201 HO204 HO209 HO214 HB;have HO192 := n0_;have HO197 := n1_;have HO201 := n2_;have HO204 := n3_;have HO209 := n4_;have HO214 := n5_;have HO217 := n6_;have HB := n7_;clear n0_ n1_ n2_ n3_ n4_ n5_ n6_ n7_;clear hb ho35;obtain ⟨Ao36,co36,eo36⟩ := Kd.R_slice HO217.out;subst eo36)|((with_reducible refine gate_callee (f := 23) rfl ?_);refine goesL_ (some 40) rfl rfl Try.func23 (by kernel_rfl) rfl #[.int .u64 31,.int .i64 3,.slice Ao36 y215.length co36] rfl (by (try simp only [List.map_toArray,List.map_cons,List.map_nil]);first|done|rfl|(simp only [List.length_drop,List.length_take];rfl)) ?_;(with_reducible refine (shamir_Shares.calls k 31 3 _ _ y215 t218 _ ?side1 ?side2 A6.out).mono ?_);(case side1 => exact cr HO217);(case side2 => exact (Kd.R_reads' HO217.out).2.1);rintro e w37 ⟨v219,rfl,ho0,hb⟩;refine ⟨_,rfl,?_⟩;have n0_ := am (Kd.R_below (rr HO192) hb);have n1_ := am (Kd.R_below (rr HO197) hb);have n2_ := am (Kd.R_elder' (rr HO201) (Kd.R_base ho0) hb);have n3_ := am (Kd.R_below (rr HO204) hb);have n4_ := am (Kd.R_below (rr HO209) hb);have n5_ := am (Kd.N_elder' (rn HO214) (Kd.R_base ho0) hb);have n6_ := am (Kd.R_elder' (rr HO217) (Kd.R_base ho0) hb);have n7_ := am (Kd.R_lower (Kd.R_new' (Kd.R_new' ho0 (Kd.R_lt (rr HO201))) (Kd.R_lt (rr HO217))) (below_size (bb HB)));have n8_ := am (below_step (bb HB) hb);clear HO192 HO197 HO201 HO204 HO209 HO214 HO217 HB;have HO192 := n0_;have HO197 := n1_;have HO201 := n2_;have HO204 := n3_;have HO209 := n4_;have HO214 := n5_;have HO217 := n6_;have HO220 := n7_;have HB := n8_;clear n0_ n1_ n2_ n3_ n4_ n5_ n6_ n7_ n8_;(try clear hb);(try clear hb2);(try clear hk);(try clear hi);(try clear ho0))|((with_reducible refine gate_dst (N := 41) rfl ?_);(try (refine gate_guard (by rfl) ?_;dsimp only));refine Kd.R_lit (Kd.int .u64) _ 22 ?hg (N := 41) ?hd (xs := ([6,7,8] : List Int)) (inner := [.int .u64 6,.int .u64 7,.int .u64 8]) (ok := fun _ => True) (okp := fun _ => True) ?hr ?hp (fun _ hk => hk) trivial (Below.refl _ _) (Nat.le_refl _) (by simp) ?_;(case hd => rfl);(case hg => rfl);(case hr => first|(go_simp;done)|(go_simp;rfl));(case hp => exact (Reps.one (show Kd.M (Kd.int .u64) _ _ _ 6 [.int .u64 6] from rfl) (Reps.one (show Kd.M (Kd.int .u64) _ _ _ 7 [.int .u64 7] from rfl) (Reps.one (show Kd.M (Kd.int .u64) _ _ _ 8 [.int .u64 8] from rfl) (Reps.none _ _)))));intro v222 w38 ho39 hb hg_ hnew_;clear hg_ hnew_;(first|rw [← Ny221.out] at ho39|(simp only [Int.reduceToNat] at ho39;rw [← Ny221.out] at ho39));have n0_ := am (Kd.R_below (rr HO192) hb);have n1_ := am (Kd.R_below (rr HO197) hb);have n2_ := am (Kd.R_elder' (rr HO201) (Kd.R_base ho39) hb);have n3_ := am (Kd.R_below (rr HO204) hb);have n4_ := am (Kd.R_below (rr HO209) hb);have n5_ := am (Kd.N_elder' (rn HO214) (Kd.R_base ho39) hb);have n6_ := am (Kd.R_elder' (rr HO217) (Kd.R_base ho39) hb);have n7_ := am (Kd.R_elder' (rr HO220) (Kd.R_base ho39) hb);have n8_ := am (Kd.R_lower (Kd.R_new' (Kd.R_new' (Kd.R_new' ho39 (Kd.R_lt (rr HO201))) (Kd.R_lt (rr HO217))) (Kd.R_lt (rr HO220))) (below_size (bb HB)));have n9_ := am (below_step (bb HB) hb);clear HO192 HO197 HO201 HO204 HO209 HO214 HO217 HO220 HB;have HO192 := n0_;have HO197 := n1_;have HO201 := n2_;have HO204 := n3_;have HO209 := n4_;have HO214 := n5_;have HO217 := n6_;have HO220 := n7_;have HO223 := n8_;have HB := n9_;clear n0_ n1_ n2_ n3_ n4_ n5_ n6_ n7_ n8_ n9_;clear hb ho39;obtain ⟨Ao40,co40,eo40⟩ := Kd.R_slice HO220.out;subst eo40;obtain ⟨Ao41,co41,eo41⟩ := Kd.R_slice HO223.out;subst eo41)|((with_reducible refine gate_callee (f := 31) rfl ?_);refine goesL_ (some 42) rfl rfl Try.func31 (by kernel_rfl) rfl #[.slice Ao40 t218.length co40,.slice Ao41 y221.length co41] rfl (by (try simp only [List.map_toArray,List.map_cons,List.map_nil]);first|done|rfl|(simp only [List.length_drop,List.length_take];rfl)) ?_;(with_reducible refine (privityref05_Same.calls k _ _ t218 _ _ y221 true _ ?side1 ?side2 ?side3 ?side4 A7.out).mono ?_);(case side1 => exact cr HO220);(case side2 => exact (Kd.R_reads' HO220.out).2.1);(case side3 => exact cr HO223);(case side4 => exact (Kd.R_reads' HO223.out).2.1);rintro e w' ⟨rfl,⟨nd,rfl⟩⟩;refine ⟨_,rfl,?_⟩)|((with_reducible refine gate_dst (N := 53) rfl ?_);(try (refine gate_guard (by rfl) ?_;dsimp only));refine Kd.R_lit (Kd.int .u64) _ 22 ?hg (N := 53) ?hd (xs := ([9,28] : List Int)) (inner := [.int .u64 9,.int .u64 28]) (ok := fun _ => True) (okp := fun _ => True) ?hr ?hp (fun _ hk => hk) trivial (Below.refl _ _) (Nat.le_refl _) (by simp) ?_;(case hd => rfl);(case hg => rfl);(case hr => first|(go_simp;done)|(go_simp;rfl));(case hp => exact (Reps.one (show Kd.M (Kd.int .u64) _ _ _ 9 [.int .u64 9] from rfl) (Reps.one (show Kd.M (Kd.int .u64) _ _ _ 28 [.int .u64 28] from rfl) (Reps.none _ _))));intro v226 w42 ho43 hb hg_ hnew_;clear hg_ hnew_;(first|rw [← Ny225.out] at ho43|(simp only [Int.reduceToNat] at ho43;rw [← Ny225.out] at ho43));have n0_ := am (Kd.R_below (rr HO192) hb);have n1_ := am (Kd.R_below (rr HO197) hb);have n2_ := am (Kd.R_elder' (rr HO201) (Kd.R_base ho43) hb);have n3_ := am (Kd.R_below (rr HO204) hb);have n4_ := am (Kd.R_below (rr HO209) hb);have n5_ := am (Kd.N_elder' (rn HO214) (Kd.R_base ho43) hb);have n6_ := am (Kd.R_elder' (rr HO217) (Kd.R_base ho43) hb);have n7_ := am (Kd.R_elder' (rr HO220) (Kd.R_base ho43) hb);have n8_ := am (Kd.R_elder' (rr HO223) (Kd.R_base ho43) hb);have n9_ := am (Kd.R_lower (Kd.R_new' (Kd.R_new' (Kd.R_new' (Kd.R_new' ho43 (Kd.R_lt (rr HO201))) (Kd.R_lt (rr HO217))) (Kd.R_lt (rr HO220))) (Kd.R_lt (rr HO223))) (below_size (bb HB)));have n10_ := am (below_step (bb HB) hb);clear HO192 HO197 HO201 HO204 HO209 HO214 HO217 HO220 HO223 HB;have HO192 := n0_;have HO197 := n1_;have HO201 := n2_;have HO204 := n3_;have HO209 := n4_;have HO214 := n5_;have HO217 := n6_;have HO220 := n7_;have HO223 := n8_;have HO227 := n9_;have HB := n10_;clear n0_ n1_ n2_ n3_ n4_ n5_ n6_ n7_ n8_ n9_ n10_;clear hb ho43;obtain ⟨Ao44,co44,eo44⟩ := Kd.R_slice HO201.out;subst eo44;obtain ⟨Ao45,co45,eo45⟩ := Kd.R_slice HO227.out;subst eo45)|(go_at_call 31;(with_reducible refine (privityref05_Same.calls k _ _ t198 _ _ y225 true _ ?side1 ?side2 ?side3 ?side4 A11.out).mono ?_);(case side1 => exact cr HO201);(case side2 => exact (Kd.R_reads' HO201.out).2.1);(case side3 => exact cr HO227);(case side4 => exact (Kd.R_reads' HO227.out).2.1);rintro e w' ⟨rfl,⟨nd,rfl⟩⟩)|((with_reducible refine gate_dst (N := 70) rfl ?_);(try (refine gate_guard (by rfl) ?_;dsimp only));refine Kd.R_lit (Kd.int .u64) _ 22 ?hg (N := 70) ?hd (xs := ([7,0] : List Int)) (inner := [.int .u64 7,.int .u64 0]) (ok := fun _ => True) (okp := fun _ => True) ?hr ?hp (fun _ hk => hk) trivial (Below.refl _ _) (Nat.le_refl _) (by simp) ?_;(case hd => rfl);(case hg => rfl);(case hr => first|(go_simp;done)|(go_simp;rfl));(case hp => exact (Reps.one (show Kd.M (Kd.int .u64) _ _ _ 7 [.int .u64 7] from rfl) (Reps.one (show Kd.M (Kd.int .u64) _ _ _ 0 [.int .u64 0] from rfl) (Reps.none _ _))));intro v230 w46 ho47 hb hg_ hnew_;clear hg_ hnew_;(first|rw [← Ny229.out] at ho47|(simp only [Int.reduceToNat] at ho47;rw [← Ny229.out] at ho47));have n0_ := am (Kd.R_below (rr HO192) hb);have n1_ := am (Kd.R_below (rr HO197) hb);have n2_ := am (Kd.R_elder' (rr HO201) (Kd.R_base ho47) hb);have n3_ := am (Kd.R_below (rr HO204) hb);have n4_ := am (Kd.R_below (rr HO209) hb);have n5_ := am (Kd.N_elder' (rn HO214) (Kd.R_base ho47) hb);have n6_ := am (Kd.R_elder' (rr HO217) (Kd.R_base ho47) hb);have n7_ := am (Kd.R_elder' (rr HO220) (Kd.R_base ho47) hb);have n8_ := am (Kd.R_elder' (rr HO223) (Kd.R_base ho47) hb);have n9_ := am (Kd.R_elder' (rr HO227) (Kd.R_base ho47) hb);have n10_ := am (Kd.R_lower (Kd.R_new' (Kd.R_new' (Kd.R_new' (Kd.R_new' (Kd.R_new' ho47 (Kd.R_lt (rr HO201))) (Kd.R_lt (rr HO217))) (Kd.R_lt (rr HO220))) (Kd.R_lt (rr HO223))) (Kd.R_lt (rr HO227))) (below_size (bb HB)));have n11_ := am (below_step (bb HB) hb);clear HO192 HO197 HO201 HO204 HO209 HO214 HO217 HO220 HO223 HO227 HB;have HO192 := n0_;have HO197 := n1_;have HO201 := n2_;have HO204 := n3_;have HO209 := n4_;have HO214 := n5_;have HO217 := n6_;have HO220 := n7_;have HO223 := n8_;have HO227 := n9_;have HO231 := n10_;have HB := n11_;clear n0_ n1_ n2_ n3_ n4_ n5_ n6_ n7_ n8_ n9_ n10_ n11_;clear hb ho47)|((with_reducible refine gate_dst (N := 71) rfl ?_);(try (refine gate_guard (by rfl) ?_;dsimp only));refine Kd.R_lit (Kd.int .u64) _ 22 ?hg (N := 71) ?hd (xs := ([7,0] : List Int)) (inner := [.int .u64 7,.int .u64 0]) (ok := fun _ => True) (okp := fun _ => True) ?hr ?hp (fun _ hk => hk) trivial (Below.refl _ _) (Nat.le_refl _) (by simp) ?_;(case hd => rfl);(case hg => rfl);(case hr => first|(go_simp;done)|(go_simp;rfl));(case hp => exact (Reps.one (show Kd.M (Kd.int .u64) _ _ _ 7 [.int .u64 7] from rfl) (Reps.one (show Kd.M (Kd.int .u64) _ _ _ 0 [.int .u64 0] from rfl) (Reps.none _ _))));intro v233 w48 ho49 hb hg_ hnew_;clear hg_ hnew_;(first|rw [← Ny232.out] at ho49|(simp only [Int.reduceToNat] at ho49;rw [← Ny232.out] at ho49));have n0_ := am (Kd.R_below (rr HO192) hb);have n1_ := am (Kd.R_below (rr HO197) hb);have n2_ := am (Kd.R_elder' (rr HO201) (Kd.R_base ho49) hb);have n3_ := am (Kd.R_below (rr HO204) hb);have n4_ := am (Kd.R_below (rr HO209) hb);have n5_ := am (Kd.N_elder' (rn HO214) (Kd.R_base ho49) hb);have n6_ := am (Kd.R_elder' (rr HO217) (Kd.R_base ho49) hb);have n7_ := am (Kd.R_elder' (rr HO220) (Kd.R_base ho49) hb);have n8_ := am (Kd.R_elder' (rr HO223) (Kd.R_base ho49) hb);have n9_ := am (Kd.R_elder' (rr HO227) (Kd.R_base ho49) hb);have n10_ := am (Kd.R_elder' (rr HO231) (Kd.R_base ho49) hb);have n11_ := am (Kd.R_lower (Kd.R_new' (Kd.R_new' (Kd.R_new' (Kd.R_new' (Kd.R_new' (Kd.R_new' ho49 (Kd.R_lt (rr HO201))) (Kd.R_lt (rr HO217))) (Kd.R_lt (rr HO220))) (Kd.R_lt (rr HO223))) (Kd.R_lt (rr HO227))) (Kd.R_lt (rr HO231))) (below_size (bb HB)));have n12_ := am (below_step (bb HB) hb);clear HO192 HO197 HO201 HO204 HO209 HO214 HO217 HO220 HO223 HO227 HO231 HB;have HO192 := n0_;have HO197 := n1_;have HO201 := n2_;have HO204 := n3_;have HO209 := n4_;have HO214 := n5_;have HO217 := n6_;have HO220 := n7_;have HO223 := n8_;have HO227 := n9_;have HO231 := n10_;have HO234 := n11_;have HB := n12_;clear n0_ n1_ n2_ n3_ n4_ n5_ n6_ n7_ n8_ n9_ n10_ n11_ n12_;clear hb ho49)|((with_reducible refine gate_dst (N := 72) rfl ?_);(try (refine gate_guard (by rfl) ?_;dsimp only));refine Kd.R_lit (Kd.int .u64) _ 22 ?hg (N := 72) ?hd (xs := ([7,0] : List Int)) (inner := [.int .u64 7,.int .u64 0]) (ok := fun _ => True) (okp := fun _ => True) ?hr ?hp (fun _ hk => hk) trivial (Below.refl _ _) (Nat.le_refl _) (by simp) ?_;(case hd => rfl);(case hg => rfl);(case hr => first|(go_simp;done)|(go_simp;rfl));(case hp => exact (Reps.one (show Kd.M (Kd.int .u64) _ _ _ 7 [.int .u64 7] from rfl) (Reps.one (show Kd.M (Kd.int .u64) _ _ _ 0 [.int .u64 0] from rfl) (Reps.none _ _))));intro v236 w50 ho51 hb hg_ hnew_;clear hg_ hnew_;(first|rw [← Ny235.out] at ho51|(simp only [Int.reduceToNat] at ho51;rw [← Ny235.out] at ho51));have n0_ := am (Kd.R_below (rr HO192) hb);have n1_ := am (Kd.R_below (rr HO197) hb);have n2_ := am (Kd.R_elder' (rr HO201) (Kd.R_base ho51) hb);have n3_ := am (Kd.R_below (rr HO204) hb);have n4_ := am (Kd.R_below (rr HO209) hb);have n5_ := am (Kd.N_elder' (rn HO214) (Kd.R_base ho51) hb);have n6_ := am (Kd.R_elder' (rr HO217) (Kd.R_base ho51) hb);have n7_ := am (Kd.R_elder' (rr HO220) (Kd.R_base ho51) hb);have n8_ := am (Kd.R_elder' (rr HO223) (Kd.R_base ho51) hb);have n9_ := am (Kd.R_elder' (rr HO227) (Kd.R_base ho51) hb);have n10_ := am (Kd.R_elder' (rr HO231) (Kd.R_base ho51) hb);have n11_ := am (Kd.R_elder' (rr HO234) (Kd.R_base ho51) hb);have n12_ := am (Kd.R_lower (Kd.R_new' (Kd.R_new' (Kd.R_new' (Kd.R_new' (Kd.R_new' (Kd.R_new' (Kd.R_new' ho51 (Kd.R_lt (rr HO201))) (Kd.R_lt (rr HO217))) (Kd.R_lt (rr HO220))) (Kd.R_lt (rr HO223))) (Kd.R_lt (rr HO227))) (Kd.R_lt (rr HO231))) (Kd.R_lt (rr HO234))) (below_size (bb HB)));have n13_ := am (below_step (bb HB) hb);clear HO192 HO197 HO201 HO204 HO209 HO214 HO217 HO220 HO223 HO227 HO231 HO234 HB;have HO192 := n0_;have HO197 := n1_;have HO201 := n2_;have HO204 := n3_;have HO209 := n4_;have HO214 := n5_;have HO217 := n6_;have HO220 := n7_;have HO223 := n8_;have HO227 := n9_;have HO231 := n10_;have HO234 := n11_;have HO237 := n12_;have HB := n13_;clear n0_ n1_ n2_ n3_ n4_ n5_ n6_ n7_ n8_ n9_ n10_ n11_ n12_ n13_;clear hb ho51)|((with_reducible refine gate_dst (N := 73) rfl ?_);(try (refine gate_guard (by rfl) ?_;dsimp only));refine Kd.R_lit (Kd.int .u64) _ 22 ?hg (N := 73) ?hd (xs := ([7,0] : List Int)) (inner := [.int .u64 7,.int .u64 0]) (ok := fun _ => True) (okp := fun _ => True) ?hr ?hp (fun _ hk => hk) trivial (Below.refl _ _) (Nat.le_refl _) (by simp) ?_;(case hd => rfl);(case hg => rfl);(case hr => first|(go_simp;done)|(go_simp;rfl));(case hp => exact (Reps.one (show Kd.M (Kd.int .u64) _ _ _ 7 [.int .u64 7] from rfl) (Reps.one (show Kd.M (Kd.int .u64) _ _ _ 0 [.int .u64 0] from rfl) (Reps.none _ _))));intro v239 w52 ho53 hb hg_ hnew_;clear hg_ hnew_;(first|rw [← Ny238.out] at ho53|(simp only [Int.reduceToNat] at ho53;rw [← Ny238.out] at ho53));have n0_ := am (Kd.R_below (rr HO192) hb);have n1_ := am (Kd.R_below (rr HO197) hb);have n2_ := am (Kd.R_elder' (rr HO201) (Kd.R_base ho53) hb);have n3_ := am (Kd.R_below (rr HO204) hb);have n4_ := am (Kd.R_below (rr HO209) hb);have n5_ := am (Kd.N_elder' (rn HO214) (Kd.R_base ho53) hb);have n6_ := am (Kd.R_elder' (rr HO217) (Kd.R_base ho53) hb);have n7_ := am (Kd.R_elder' (rr HO220) (Kd.R_base ho53) hb);have n8_ := am (Kd.R_elder' (rr HO223) (Kd.R_base ho53) hb);have n9_ := am (Kd.R_elder' (rr HO227) (Kd.R_base ho53) hb);have n10_ := am (Kd.R_elder' (rr HO231) (Kd.R_base ho53) hb);have n11_ := am (Kd.R_elder' (rr HO234) (Kd.R_base ho53) hb);have n12_ := am (Kd.R_elder' (rr HO237) (Kd.R_base ho53) hb);have n13_ := am (Kd.R_lower (Kd.R_new' (Kd.R_new' (Kd.R_new' (Kd.R_new' (Kd.R_new' (Kd.R_new' (Kd.R_new' (Kd.R_new' ho53 (Kd.R_lt (rr HO201))) (Kd.R_lt (rr HO217))) (Kd.R_lt (rr HO220))) (Kd.R_lt (rr HO223))) (Kd.R_lt (rr HO227))) (Kd.R_lt (rr HO231))) (Kd.R_lt (rr HO234))) (Kd.R_lt (rr HO237))) (below_size (bb HB)));have n14_ := am (below_step (bb HB) hb);clear HO192 HO197 HO201 HO204 HO209 HO214 HO217 HO220 HO223 HO227 HO231 HO234 HO237 HB;have HO192 := n0_;have HO197 := n1_;have HO201 := n2_;have HO204 := n3_;have HO209 := n4_;have HO214 := n5_;have HO217 := n6_;have HO220 := n7_;have HO223 := n8_;have HO227 := n9_;have HO231 := n10_;have HO234 := n11_;have HO237 := n12_;have HO240 := n13_;have HB := n14_;clear n0_ n1_ n2_ n3_ n4_ n5_ n6_ n7_ n8_ n9_ n10_ n11_ n12_ n13_ n14_;clear hb ho53;obtain ⟨Ao54,co54,eo54⟩ := Kd.R_slice HO231.out;subst eo54;obtain ⟨Ao55,co55,eo55⟩ := Kd.R_slice HO234.out;subst eo55;obtain ⟨Ao56,co56,eo56⟩ := Kd.R_slice HO237.out;subst eo56;obtain ⟨Ao57,co57,eo57⟩ := Kd.R_slice HO240.out;subst eo57)|((with_reducible refine gate_dst (N := 74) rfl ?_);(try (refine gate_guard (by rfl) ?_;dsimp only));refine Kd.N_lit (Kd.slice 22 (Kd.int .u64)) _ 41 ?hg (N' := 74) ?hd (xs := ([y229,y232,y235,y238] : List (List Int))) (inner := [.slice Ao54 y229.length co54,.slice Ao55 y232.length co55,.slice Ao56 y235.length co56,.slice Ao57 y238.length co57]) (ok := (fun k_ => some k_ ≠ (.slice Ao19 y190.length co19 : Value).ownBlock ∧ some k_ ≠ (.slice Ao23 y195.length co23 : Value).ownBlock ∧ some k_ ≠ (.slice Ao44 t198.length co44 : Value).ownBlock ∧ some k_ ≠ (.slice Ao27 y202.length co27 : Value).ownBlock ∧ some k_ ≠ (.slice Ao31 y207.length co31 : Value).ownBlock ∧ some k_ ≠ (v213 : Value).ownBlock ∧ some k_ ≠ (.slice Ao36 y215.length co36 : Value).ownBlock ∧ some k_ ≠ (.slice Ao40 t218.length co40 : Value).ownBlock ∧ some k_ ≠ (.slice Ao41 y221.length co41 : Value).ownBlock ∧ some k_ ≠ (.slice Ao45 y225.length co45 : Value).ownBlock)) (okp := (fun k_ => some k_ ≠ (.slice Ao19 y190.length co19 : Value).ownBlock ∧ some k_ ≠ (.slice Ao23 y195.length co23 : Value).ownBlock ∧ some k_ ≠ (.slice Ao44 t198.length co44 : Value).ownBlock ∧ some k_ ≠ (.slice Ao27 y202.length co27 : Value).ownBlock ∧ some k_ ≠ (.slice Ao31 y207.length co31 : Value).ownBlock ∧ some k_ ≠ (v213 : Value).ownBlock ∧ some k_ ≠ (.slice Ao36 y215.length co36 : Value).ownBlock ∧ some k_ ≠ (.slice Ao40 t218.length co40 : Value).ownBlock ∧ some k_ ≠ (.slice Ao41 y221.length co41 : Value).ownBlock ∧ some k_ ≠ (.slice Ao45 y225.length co45 : Value).ownBlock)) ?hr ?hp (fun _ hk => hk) ((show ∀ k_,w52.heap.size ≤ k_ → (fun k_ => some k_ ≠ (.slice Ao19 y190.length co19 : Value).ownBlock ∧ some k_ ≠ (.slice Ao23 y195.length co23 : Value).ownBlock ∧ some k_ ≠ (.slice Ao44 t198.length co44 : Value).ownBlock ∧ some k_ ≠ (.slice Ao27 y202.length co27 : Value).ownBlock ∧ some k_ ≠ (.slice Ao31 y207.length co31 : Value).ownBlock ∧ some k_ ≠ (v213 : Value).ownBlock ∧ some k_ ≠ (.slice Ao36 y215.length co36 : Value).ownBlock ∧ some k_ ≠ (.slice Ao40 t218.length co40 : Value).ownBlock ∧ some k_ ≠ (.slice Ao41 y221.length co41 : Value).ownBlock ∧ some k_ ≠ (.slice Ao45 y225.length co45 : Value).ownBlock) k_ from fun k_ hk => ⟨Kd.fresh' (Kd.R_lt (rr HO192)) k_ hk,Kd.fresh' (Kd.R_lt (rr HO197)) k_ hk,Kd.fresh' (Kd.R_lt (rr HO201)) k_ hk,Kd.fresh' (Kd.R_lt (rr HO204)) k_ hk,Kd.fresh' (Kd.R_lt (rr HO209)) k_ hk,Kd.fresh' (Kd.N_lt (rn HO214)) k_ hk,Kd.fresh' (Kd.R_lt (rr HO217)) k_ hk,Kd.fresh' (Kd.R_lt (rr HO220)) k_ hk,Kd.fresh' (Kd.R_lt (rr HO223)) k_ hk,Kd.fresh' (Kd.R_lt (rr HO227)) k_ hk⟩) _ (Nat.le_refl _)) (Below.refl _ _) (Nat.le_refl _) (by simp) ?_;(case hd => rfl);(case hg => rfl);(case hr => first|(go_simp;done)|(go_simp;rfl));(case hp => exact (Reps.one (show Kd.FK (Kd.slice 22 (Kd.int .u64)) _ _ y229 [.slice Ao54 y229.length co54] from (Kd.FK_slice_mk (Kd.R_reads' (Kd.R_mono (ok' := (fun k_ => some k_ ≠ (.slice Ao19 y190.length co19 : Value).ownBlock ∧ some k_ ≠ (.slice Ao23 y195.length co23 : Value).ownBlock ∧ some k_ ≠ (.slice Ao44 t198.length co44 : Value).ownBlock ∧ some k_ ≠ (.slice Ao27 y202.length co27 : Value).ownBlock ∧ some k_ ≠ (.slice Ao31 y207.length co31 : Value).ownBlock ∧ some k_ ≠ (v213 : Value).ownBlock ∧ some k_ ≠ (.slice Ao36 y215.length co36 : Value).ownBlock ∧ some k_ ≠ (.slice Ao40 t218.length co40 : Value).ownBlock ∧ some k_ ≠ (.slice Ao41 y221.length co41 : Value).ownBlock ∧ some k_ ≠ (.slice Ao45 y225.length co45 : Value).ownBlock)) (Kd.R_apart' (Kd.R_apart' (Kd.R_apart' (Kd.R_apart' (Kd.R_apart' (HO231.out) (Kd.R_typed HO192.out) (by decide)) (Kd.R_typed HO197.out) (by decide)) (Kd.R_typed HO204.out) (by decide)) (Kd.R_typed HO209.out) (by decide)) (Kd.N_typed HO214.out) (by decide)) (fun k_ hk => ⟨hk.1.1.1.1.2,⟨hk.1.1.1.2,⟨hk.1.1.1.1.1.1.1.1.1.1.1.1.2,⟨hk.1.1.2,⟨hk.1.2,⟨hk.2,⟨hk.1.1.1.1.1.1.1.1.1.1.1.2,⟨hk.1.1.1.1.1.1.1.1.1.1.2,⟨hk.1.1.1.1.1.1.1.1.1.2,hk.1.1.1.1.1.1.1.1.2⟩⟩⟩⟩⟩⟩⟩⟩⟩))).2.1 (Kd.R_F (Kd.R_mono (ok' := (fun k_ => some k_ ≠ (.slice Ao19 y190.length co19 : Value).ownBlock ∧ some k_ ≠ (.slice Ao23 y195.length co23 : Value).ownBlock ∧ some k_ ≠ (.slice Ao44 t198.length co44 : Value).ownBlock ∧ some k_ ≠ (.slice Ao27 y202.length co27 : Value).ownBlock ∧ some k_ ≠ (.slice Ao31 y207.length co31 : Value).ownBlock ∧ some k_ ≠ (v213 : Value).ownBlock ∧ some k_ ≠ (.slice Ao36 y215.length co36 : Value).ownBlock ∧ some k_ ≠ (.slice Ao40 t218.length co40 : Value).ownBlock ∧ some k_ ≠ (.slice Ao41 y221.length co41 : Value).ownBlock ∧ some k_ ≠ (.slice Ao45 y225.length co45 : Value).ownBlock)) (Kd.R_apart' (Kd.R_apart' (Kd.R_apart' (Kd.R_apart' (Kd.R_apart' (HO231.out) (Kd.R_typed HO192.out) (by decide)) (Kd.R_typed HO197.out) (by decide)) (Kd.R_typed HO204.out) (by decide)) (Kd.R_typed HO209.out) (by decide)) (Kd.N_typed HO214.out) (by decide)) (fun k_ hk => ⟨hk.1.1.1.1.2,⟨hk.1.1.1.2,⟨hk.1.1.1.1.1.1.1.1.1.1.1.1.2,⟨hk.1.1.2,⟨hk.1.2,⟨hk.2,⟨hk.1.1.1.1.1.1.1.1.1.1.1.2,⟨hk.1.1.1.1.1.1.1.1.1.1.2,⟨hk.1.1.1.1.1.1.1.1.1.2,hk.1.1.1.1.1.1.1.1.2⟩⟩⟩⟩⟩⟩⟩⟩⟩))))) (Reps.one (show Kd.FK (Kd.slice 22 (Kd.int .u64)) _ _ y232 [.slice Ao55 y232.length co55] from (Kd.FK_slice_mk (Kd.R_reads' (Kd.R_mono (ok' := (fun k_ => some k_ ≠ (.slice Ao19 y190.length co19 : Value).ownBlock ∧ some k_ ≠ (.slice Ao23 y195.length co23 : Value).ownBlock ∧ some k_ ≠ (.slice Ao44 t198.length co44 : Value).ownBlock ∧ some k_ ≠ (.slice Ao27 y202.length co27 : Value).ownBlock ∧ some k_ ≠ (.slice Ao31 y207.length co31 : Value).ownBlock ∧ some k_ ≠ (v213 : Value).ownBlock ∧ some k_ ≠ (.slice Ao36 y215.length co36 : Value).ownBlock ∧ some k_ ≠ (.slice Ao40 t218.length co40 : Value).ownBlock ∧ some k_ ≠ (.slice Ao41 y221.length co41 : Value).ownBlock ∧ some k_ ≠ (.slice Ao45 y225.length co45 : Value).ownBlock)) (Kd.R_apart' (Kd.R_apart' (Kd.R_apart' (Kd.R_apart' (Kd.R_apart' (HO234.out) (Kd.R_typed HO192.out) (by decide)) (Kd.R_typed HO197.out) (by decide)) (Kd.R_typed HO204.out) (by decide)) (Kd.R_typed HO209.out) (by decide)) (Kd.N_typed HO214.out) (by decide)) (fun k_ hk => ⟨hk.1.1.1.1.2,⟨hk.1.1.1.2,⟨hk.1.1.1.1.1.1.1.1.1.1.1.1.2,⟨hk.1.1.2,⟨hk.1.2,⟨hk.2,⟨hk.1.1.1.1.1.1.1.1.1.1.1.2,⟨hk.1.1.1.1.1.1.1.1.1.1.2,⟨hk.1.1.1.1.1.1.1.1.1.2,hk.1.1.1.1.1.1.1.1.2⟩⟩⟩⟩⟩⟩⟩⟩⟩))).2.1 (Kd.R_F (Kd.R_mono (ok' := (fun k_ => some k_ ≠ (.slice Ao19 y190.length co19 : Value).ownBlock ∧ some k_ ≠ (.slice Ao23 y195.length co23 : Value).ownBlock ∧ some k_ ≠ (.slice Ao44 t198.length co44 : Value).ownBlock ∧ some k_ ≠ (.slice Ao27 y202.length co27 : Value).ownBlock ∧ some k_ ≠ (.slice Ao31 y207.length co31 : Value).ownBlock ∧ some k_ ≠ (v213 : Value).ownBlock ∧ some k_ ≠ (.slice Ao36 y215.length co36 : Value).ownBlock ∧ some k_ ≠ (.slice Ao40 t218.length co40 : Value).ownBlock ∧ some k_ ≠ (.slice Ao41 y221.length co41 : Value).ownBlock ∧ some k_ ≠ (.slice Ao45 y225.length co45 : Value).ownBlock)) (Kd.R_apart' (Kd.R_apart' (Kd.R_apart' (Kd.R_apart' (Kd.R_apart' (HO234.out) (Kd.R_typed HO192.out) (by decide)) (Kd.R_typed HO197.out) (by decide)) (Kd.R_typed HO204.out) (by decide)) (Kd.R_typed HO209.out) (by decide)) (Kd.N_typed HO214.out) (by decide)) (fun k_ hk => ⟨hk.1.1.1.1.2,⟨hk.1.1.1.2,⟨hk.1.1.1.1.1.1.1.1.1.1.1.1.2,⟨hk.1.1.2,⟨hk.1.2,⟨hk.2,⟨hk.1.1.1.1.1.1.1.1.1.1.1.2,⟨hk.1.1.1.1.1.1.1.1.1.1.2,⟨hk.1.1.1.1.1.1.1.1.1.2,hk.1.1.1.1.1.1.1.1.2⟩⟩⟩⟩⟩⟩⟩⟩⟩))))) (Reps.one (show Kd.FK (Kd.slice 22 (Kd.int .u64)) _ _ y235 [.slice Ao56 y235.length co56] from (Kd.FK_slice_mk (Kd.R_reads' (Kd.R_mono (ok' := (fun k_ => some k_ ≠ (.slice Ao19 y190.length co19 : Value).ownBlock ∧ some k_ ≠ (.slice Ao23 y195.length co23 : Value).ownBlock ∧ some k_ ≠ (.slice Ao44 t198.length co44 : Value).ownBlock ∧ some k_ ≠ (.slice Ao27 y202.length co27 : Value).ownBlock ∧ some k_ ≠ (.slice Ao31 y207.length co31 : Value).ownBlock ∧ some k_ ≠ (v213 : Value).ownBlock ∧ some k_ ≠ (.slice Ao36 y215.length co36 : Value).ownBlock ∧ some k_ ≠ (.slice Ao40 t218.length co40 : Value).ownBlock ∧ some k_ ≠ (.slice Ao41 y221.length co41 : Value).ownBlock ∧ some k_ ≠ (.slice Ao45 y225.length co45 : Value).ownBlock)) (Kd.R_apart' (Kd.R_apart' (Kd.R_apart' (Kd.R_apart' (Kd.R_apart' (HO237.out) (Kd.R_typed HO192.out) (by decide)) (Kd.R_typed HO197.out) (by decide)) (Kd.R_typed HO204.out) (by decide)) (Kd.R_typed HO209.out) (by decide)) (Kd.N_typed HO214.out) (by decide)) (fun k_ hk => ⟨hk.1.1.1.1.2,⟨hk.1.1.1.2,⟨hk.1.1.1.1.1.1.1.1.1.1.1.1.2,⟨hk.1.1.2,⟨hk.1.2,⟨hk.2,⟨hk.1.1.1.1.1.1.1.1.1.1.1.2,⟨hk.1.1.1.1.1.1.1.1.1.1.2,⟨hk.1.1.1.1.1.1.1.1.1.2,hk.1.1.1.1.1.1.1.1.2⟩⟩⟩⟩⟩⟩⟩⟩⟩))).2.1 (Kd.R_F (Kd.R_mono (ok' := (fun k_ => some k_ ≠ (.slice Ao19 y190.length co19 : Value).ownBlock ∧ some k_ ≠ (.slice Ao23 y195.length co23 : Value).ownBlock ∧ some k_ ≠ (.slice Ao44 t198.length co44 : Value).ownBlock ∧ some k_ ≠ (.slice Ao27 y202.length co27 : Value).ownBlock ∧ some k_ ≠ (.slice Ao31 y207.length co31 : Value).ownBlock ∧ some k_ ≠ (v213 : Value).ownBlock ∧ some k_ ≠ (.slice Ao36 y215.length co36 : Value).ownBlock ∧ some k_ ≠ (.slice Ao40 t218.length co40 : Value).ownBlock ∧ some k_ ≠ (.slice Ao41 y221.length co41 : Value).ownBlock ∧ some k_ ≠ (.slice Ao45 y225.length co45 : Value).ownBlock)) (Kd.R_apart' (Kd.R_apart' (Kd.R_apart' (Kd.R_apart' (Kd.R_apart' (HO237.out) (Kd.R_typed HO192.out) (by decide)) (Kd.R_typed HO197.out) (by decide)) (Kd.R_typed HO204.out) (by decide)) (Kd.R_typed HO209.out) (by decide)) (Kd.N_typed HO214.out) (by decide)) (fun k_ hk => ⟨hk.1.1.1.1.2,⟨hk.1.1.1.2,⟨hk.1.1.1.1.1.1.1.1.1.1.1.1.2,⟨hk.1.1.2,⟨hk.1.2,⟨hk.2,⟨hk.1.1.1.1.1.1.1.1.1.1.1.2,⟨hk.1.1.1.1.1.1.1.1.1.1.2,⟨hk.1.1.1.1.1.1.1.1.1.2,hk.1.1.1.1.1.1.1.1.2⟩⟩⟩⟩⟩⟩⟩⟩⟩))))) (Reps.one (show Kd.FK (Kd.slice 22 (Kd.int .u64)) _ _ y238 [.slice Ao57 y238.length co57] from (Kd.FK_slice_mk (Kd.R_reads' (Kd.R_mono (ok' := (fun k_ => some k_ ≠ (.slice Ao19 y190.length co19 : Value).ownBlock ∧ some k_ ≠ (.slice Ao23 y195.length co23 : Value).ownBlock ∧ some k_ ≠ (.slice Ao44 t198.length co44 : Value).ownBlock ∧ some k_ ≠ (.slice Ao27 y202.length co27 : Value).ownBlock ∧ some k_ ≠ (.slice Ao31 y207.length co31 : Value).ownBlock ∧ some k_ ≠ (v213 : Value).ownBlock ∧ some k_ ≠ (.slice Ao36 y215.length co36 : Value).ownBlock ∧ some k_ ≠ (.slice Ao40 t218.length co40 : Value).ownBlock ∧ some k_ ≠ (.slice Ao41 y221.length co41 : Value).ownBlock ∧ some k_ ≠ (.slice Ao45 y225.length co45 : Value).ownBlock)) (Kd.R_apart' (Kd.R_apart' (Kd.R_apart' (Kd.R_apart' (Kd.R_apart' (HO240.out) (Kd.R_typed HO192.out) (by decide)) (Kd.R_typed HO197.out) (by decide)) (Kd.R_typed HO204.out) (by decide)) (Kd.R_typed HO209.out) (by decide)) (Kd.N_typed HO214.out) (by decide)) (fun k_ hk => ⟨hk.1.1.1.1.2,⟨hk.1.1.1.2,⟨hk.1.1.1.1.1.1.1.1.1.1.1.1.2,⟨hk.1.1.2,⟨hk.1.2,⟨hk.2,⟨hk.1.1.1.1.1.1.1.1.1.1.1.2,⟨hk.1.1.1.1.1.1.1.1.1.1.2,⟨hk.1.1.1.1.1.1.1.1.1.2,hk.1.1.1.1.1.1.1.1.2⟩⟩⟩⟩⟩⟩⟩⟩⟩))).2.1 (Kd.R_F (Kd.R_mono (ok' := (fun k_ => some k_ ≠ (.slice Ao19 y190.length co19 : Value).ownBlock ∧ some k_ ≠ (.slice Ao23 y195.length co23 : Value).ownBlock ∧ some k_ ≠ (.slice Ao44 t198.length co44 : Value).ownBlock ∧ some k_ ≠ (.slice Ao27 y202.length co27 : Value).ownBlock ∧ some k_ ≠ (.slice Ao31 y207.length co31 : Value).ownBlock ∧ some k_ ≠ (v213 : Value).ownBlock ∧ some k_ ≠ (.slice Ao36 y215.length co36 : Value).ownBlock ∧ some k_ ≠ (.slice Ao40 t218.length co40 : Value).ownBlock ∧ some k_ ≠ (.slice Ao41 y221.length co41 : Value).ownBlock ∧ some k_ ≠ (.slice Ao45 y225.length co45 : Value).ownBlock)) (Kd.R_apart' (Kd.R_apart' (Kd.R_apart' (Kd.R_apart' (Kd.R_apart' (HO240.out) (Kd.R_typed HO192.out) (by decide)) (Kd.R_typed HO197.out) (by decide)) (Kd.R_typed HO204.out) (by decide)) (Kd.R_typed HO209.out) (by decide)) (Kd.N_typed HO214.out) (by decide)) (fun k_ hk => ⟨hk.1.1.1.1.2,⟨hk.1.1.1.2,⟨hk.1.1.1.1.1.1.1.1.1.1.1.1.2,⟨hk.1.1.2,⟨hk.1.2,⟨hk.2,⟨hk.1.1.1.1.1.1.1.1.1.1.1.2,⟨hk.1.1.1.1.1.1.1.1.1.1.2,⟨hk.1.1.1.1.1.1.1.1.1.2,hk.1.1.1.1.1.1.1.1.2⟩⟩⟩⟩⟩⟩⟩⟩⟩))))) (Reps.none _ _))))));intro v242 w58 ho59 hb hg_ hnew_;clear hg_ hnew_;(first|rw [← Ny241.out] at ho59|(simp only [Int.reduceToNat] at ho59;rw [← Ny241.out] at ho59));have n0_ := am (Kd.R_below (rr HO192) hb);have n1_ := am (Kd.R_below (rr HO197) hb);have n2_ := am (Kd.R_below (rr HO201) hb);have n3_ := am (Kd.R_below (rr HO204) hb);have n4_ := am (Kd.R_below (rr HO209) hb);have n5_ := am (Kd.N_elder' (rn HO214) (Kd.N_base ho59) hb);have n6_ := am (Kd.R_below (rr HO217) hb);have n7_ := am (Kd.R_below (rr HO220) hb);have n8_ := am (Kd.R_below (rr HO223) hb);have n9_ := am (Kd.R_below (rr HO227) hb);have n10_ := am (Kd.N_lower ho59 (below_size (bb HB)));have n11_ := am (below_step (bb HB) hb);clear HO192 HO197 HO201 HO204 HO209 HO214 HO217 HO220 HO223 HO227 HB HO231 HO234 HO237 HO240;have HO192 := n0_;have HO197 := n1_;have HO201 := n2_;have HO204 := n3_;have HO209 := n4_;have HO214 := n5_;have HO217 := n6_;have HO220 := n7_;have HO223 := n8_;have HO227 := n9_;have HO243 := n10_;have HB := n11_;clear n0_ n1_ n2_ n3_ n4_ n5_ n6_ n7_ n8_ n9_ n10_ n11_;clear hb ho59;obtain ⟨Ao60,co60,eo60⟩ := Kd.N_slice HO214.out;subst eo60;obtain ⟨Ao61,co61,eo61⟩ := Kd.N_slice HO243.out;subst eo61)|(go_at_call 10;(with_reducible refine (privityref09_Same.calls k _ _ t212 _ _ y241 t244 _ ?side1 ?side2 ?side3 ?side4 A16.out).mono ?_);(case side1 => repeat (first|exact (Kd.N_reads' HO214.out).2.2|(with_reducible refine Kd.C_alloc ?_ _)|(with_reducible refine Kd.C_drewN ?_ _)|(with_reducible refine Kd.C_drew ?_)));(case side2 => exact (Kd.N_reads' HO214.out).2.1);(case side3 => repeat (first|exact (Kd.N_reads' HO243.out).2.2|(with_reducible refine Kd.C_alloc ?_ _)|(with_reducible refine Kd.C_drewN ?_ _)|(with_reducible refine Kd.C_drew ?_)));(case side4 => exact (Kd.N_reads' HO243.out).2.1);rintro e w' ⟨rfl,⟨nd,rfl⟩⟩))
        go_ret
        exact ⟨by first|rfl|(simp [errW_none,errW_some] <;> rfl)|(simp [*,errW_none,errW_some] <;> rfl),bb HB⟩
       ·rw [if_neg c15] at H
        have c15b0 : (t211 == 9) = false := beq_eq_false_iff_ne.mpr c15
        have c15b1 : (t211 != 9) = true := bne_iff_ne.mpr c15
        exact absurd (Option.some.inj H) (by rw [HR1.out];simp)
      ·rw [if_neg c14] at H
       have c14b0 : (t206 == 1) = false := beq_eq_false_iff_ne.mpr c14
       have c14b1 : (t206 != 1) = true := bne_iff_ne.mpr c14
       exact absurd (Option.some.inj H) (by rw [HR1.out];simp)
     ·rw [if_neg c13] at H
      have c13b0 : (t199 == 0) = false := beq_eq_false_iff_ne.mpr c13
      have c13b1 : (t199 != 0) = true := bne_iff_ne.mpr c13
      exact absurd (Option.some.inj H) (by rw [HR1.out];simp)
    ·replace c12 := Bool.eq_false_iff.mpr c12
     subst c12
     rw [if_neg (show ¬ (false = true) by decide)] at H
     exact absurd (Option.some.inj H) (by rw [HR1.out];simp)
   ·rw [if_neg c10] at H
    have c10b0 : (t194 == 0) = false := beq_eq_false_iff_ne.mpr c10
    have c10b1 : (t194 != 0) = true := bne_iff_ne.mpr c10
    exact absurd (Option.some.inj H) (by rw [HR1.out];simp)
  ·rw [if_neg c9] at H
   have c9b0 : (t193 == 5) = false := beq_eq_false_iff_ne.mpr c9
   have c9b1 : (t193 != 5) = true := bne_iff_ne.mpr c9
   exact absurd (Option.some.inj H) (by rw [HR1.out];simp)
 ·replace c8 := Bool.eq_false_iff.mpr c8
  subst c8
  rw [if_neg (show ¬ (false = true) by decide)] at H
  exact absurd (Option.some.inj H) (by rw [HR1.out];simp)
def privityref01_exps.f  : Option (List Int) := some (([5,7,13,17,19,31,61] : List Int))
set_option maxHeartbeats 8000000 in
set_option maxRecDepth 100000 in
theorem privityref01_exps.calls  (r : List Int) (w : World) (h : privityref01_exps.f  = some r) :
  Calls Try.prog 47 #[] w fun e w' => ∃ v0_ : Value,e = .returned (v0_) ∧ Kd.R (Kd.int .i64) 3 w' w.heap.size (fun _ => True) v0_ r ∧ Below w.heap.size w w' := by
 have HB := am (Below.refl w.heap.size w)
 have H : (some (([5,7,13,17,19,31,61] : List Int))) = some r := h
 clear h
 obtain ⟨y245,hy245⟩ : ∃ y_ : List Int,y_ = (([5,7,13,17,19,31,61] : List Int)) := ⟨_,rfl⟩
 replace H : (some y245) = some r := by first|(rw [hy245];with_reducible exact H)|(have H2_ := (Option.bind_some _ _).symm.trans H;rw [hy245];with_reducible exact H2_)|(have H2_ := (Option.bind_some _ _).symm.trans H;with_reducible exact H2_)|with_reducible exact H|(rw [hy245];exact H)|exact H
 have Ny245 := am hy245
 clear hy245
 obtain rfl := Option.some.inj H
 go_enter Try.func47,Try.ntmps47
 go_wp2_with (first|((with_reducible refine gate_dst (N := 1) rfl ?_);refine Kd.R_lit (Kd.int .i64) _ 3 ?hg (N := 1) ?hd (xs := ([5,7,13,17,19,31,61] : List Int)) (inner := [.int .i64 5,.int .i64 7,.int .i64 13,.int .i64 17,.int .i64 19,.int .i64 31,.int .i64 61]) (ok := fun _ => True) (okp := fun _ => True) ?hr ?hp (fun _ hk => hk) trivial (Below.refl _ _) (Nat.le_refl _) (by simp) ?_;(case hd => rfl);(case hg => rfl);(case hr => first|(go_simp;done)|(go_simp;rfl));(case hp => exact (Reps.one (show Kd.M (Kd.int .i64) _ _ _ 5 [.int .i64 5] from rfl) (Reps.one (show Kd.M (Kd.int .i64) _ _ _ 7 [.int .i64 7] from rfl) (Reps.one (show Kd.M (Kd.int .i64) _ _ _ 13 [.int .i64 13] from rfl) (Reps.one (show Kd.M (Kd.int .i64) _ _ _ 17 [.int .i64 17] from rfl) (Reps.one (show Kd.M (Kd.int .i64) _ _ _ 19 [.int .i64 19] from rfl) (Reps.one (show Kd.M (Kd.int .i64) _ _ _ 31 [.int .i64 31] from rfl) (Reps.one (show Kd.M (Kd.int .i64) _ _ _ 61 [.int .i64 61] from rfl) (Reps.none _ _)))))))));intro v246 w1 ho2 hb hg_ hnew_;clear hg_ hnew_;(first|rw [← Ny245.out] at ho2|(simp only [Int.reduceToNat] at ho2;rw [← Ny245.out] at ho2));have n0_ := am (Kd.R_lower ho2 (below_size (bb HB)));have n1_ := am (below_step (bb HB) hb);clear HB;have HO247 := n0_;have HB := n1_;clear n0_ n1_;clear hb ho2))
 go_ret
 exact ⟨_,by first|rfl|(simp [errW_none,errW_some] <;> rfl)|(simp [*,errW_none,errW_some] <;> rfl),by (with_reducible repeat (first|apply Kd.R_alloc|apply Kd.R_drewN|apply Kd.R_drew));exact HO247.out,bb HB⟩
def privityref01_Exponent.l0 : Nat → Int → List Int → Int → Option (Int)
 | 0,_,_,_ => none
 | k + 1,x0,x3,x4 => if x4 < (x3.length : Int) then (if 0 ≤ x4 then (if 0 ≤ (IntKind.u64.wrap (rd x3 x4)) then (if x0 = (IntKind.u64.wrap ((shl .u64 1 (IntKind.u64.wrap (rd x3 x4))) - 1)) then (some (rd x3 x4)) else (privityref01_Exponent.l0 k x0 x3 (wrap64 (x4 + 1)))) else (none)) else (none)) else (some 0)
def privityref01_Exponent.f (k : Nat) (a0 : Int) : Option (Int) := (privityref01_exps.f).bind fun t248 => (privityref01_Exponent.l0 k a0 t248 0)
theorem privityref01_Exponent.mono_l : ∀ k,(∀ y0 y1 y2,LeO (privityref01_Exponent.l0 k y0 y1 y2) (privityref01_Exponent.l0 (k + 1) y0 y1 y2))
 | 0 => fun _ _ _ r h => by simp [privityref01_Exponent.l0] at h
 | k + 1 => by
  have ih0 := privityref01_Exponent.mono_l k
  ·intro y0 y1 y2
   unfold privityref01_Exponent.l0
   repeat' first
   | (with_reducible exact ih0 _ _ _)
   | (with_reducible exact LeO.refl _)
   | (with_reducible exact LeO.none _)
   | (with_reducible refine LeO.ite ?_ ?_)
   | (with_reducible refine LeO.bind ?_ (fun _ => ?_))
   | exact ih0 _ _ _
   | exact LeO.none _
   | refine LeO.ite ?_ ?_
   | refine LeO.bind ?_ (fun _ => ?_)
theorem privityref01_Exponent.mono : ∀ a0 k,LeO (privityref01_Exponent.f k a0) (privityref01_Exponent.f (k + 1) a0) := by
 intro a0 k
 have ih0 := privityref01_Exponent.mono_l k
 unfold privityref01_Exponent.f
 repeat' first
   | (with_reducible exact ih0 _ _ _)
   | (with_reducible exact LeO.refl _)
   | (with_reducible exact LeO.none _)
   | (with_reducible refine LeO.ite ?_ ?_)
   | (with_reducible refine LeO.bind ?_ (fun _ => ?_))
   | exact ih0 _ _ _
   | exact LeO.none _
   | refine LeO.ite ?_ ?_
   | refine LeO.bind ?_ (fun _ => ?_)
set_option maxHeartbeats 8000000 in
set_option maxRecDepth 100000 in
theorem privityref01_Exponent.calls (k : Nat) (a0 : Int) (r : Int) (w : World) (h : privityref01_Exponent.f k a0 = some r) :
  Calls Try.prog 32 #[.int .u64 a0] w fun e w' => e = .returned (.int .i64 r) ∧ Below w.heap.size w w' := by
 have HB := am (Below.refl w.heap.size w)
 have H : ((privityref01_exps.f).bind fun t248 => (privityref01_Exponent.l0 k a0 t248 0)) = some r := h
 clear h
 replace H := Option.bind_eq_some_iff.mp H
 obtain ⟨t248,A20,H⟩ := H
 try dsimp only at H
 have A2 := am A20
 clear A20
 have H' := am H
 clear H
 go_enter Try.func32,Try.ntmps32
 go_wp2_with (first|((with_reducible refine gate_callee (f := 47) rfl ?_);refine goesL_ (some 5) rfl rfl Try.func47 (by kernel_rfl) rfl #[] rfl (by (try simp only [List.map_toArray,List.map_cons,List.map_nil]);first|done|rfl|(simp only [List.length_drop,List.length_take];rfl)) ?_;(with_reducible refine (privityref01_exps.calls  t248 _ A2.out).mono ?_);rintro e w3 ⟨v249,rfl,ho0,hb⟩;refine ⟨_,rfl,?_⟩;have n0_ := am (Kd.R_lower ho0 (below_size (bb HB)));have n1_ := am (below_step (bb HB) hb);clear HB;have HO250 := n0_;have HB := n1_;clear n0_ n1_;(try clear hb);(try clear hb2);(try clear hk);(try clear hi);(try clear ho0)))
 go_loopg [4] k (fun kq v4 w' => ∃ (x4_1 : Int),v4 = .int .i64 x4_1 ∧ Aside0 (privityref01_Exponent.l0 kq a0 t248 x4_1 = some r) ∧ Aside0 (kq ≤ k) ∧ Aside0 (Kd.R (Kd.int .i64) 3 w' w.heap.size (fun _ => True) v249 t248) ∧ Aside0 (Below w.heap.size w w'))
 case atStart => exact ⟨(0),(by first|rfl|(simp;done)|(simp [*];done)),H',⟨Nat.le_refl _⟩,⟨by (with_reducible repeat (first|apply Kd.R_alloc|apply Kd.R_drewN|apply Kd.R_drew));exact HO250.out⟩,⟨bb HB⟩⟩
 case round =>
  clear H'
  try clear p2
  try clear c3
  obtain ⟨x4_1,rfl,HA,HK1,HO_3,HB⟩ := hrel
  cases gk with
  | zero => exact absurd HA.out (by simp [privityref01_Exponent.l0])
  | succ k1 =>
   have H := HA.out
   clear HA
   simp only [privityref01_Exponent.l0] at H
   by_cases c4 : x4_1 < (t248.length : Int)
   ·rw [if_pos c4] at H
    have c4b0 : decide (x4_1 < (t248.length : Int)) = true := decide_eq_true c4
    clear c4
    by_cases c5 : 0 ≤ x4_1
    ·rw [if_pos c5] at H
     have c5b0 : decide (0 ≤ x4_1) = true := decide_eq_true c5
     clear c5
     obtain ⟨ji6,hji6⟩ : ∃ j_ : Int,(IntKind.u64.wrap (rd t248 x4_1)) = j_ := ⟨_,rfl⟩
     first|rw [hji6] at H|simp only [hji6] at H
     by_cases c7 : 0 ≤ (ji6)
     ·rw [if_pos c7] at H
      have c7b0 := eq_true c7
      have c7b1 : decide (0 ≤ (ji6)) = true := decide_eq_true c7
      clear c7
      obtain ⟨ji8,hji8⟩ : ∃ j_ : Int,(shl .u64 1 (ji6)) = j_ := ⟨_,rfl⟩
      first|rw [hji8] at H|simp only [hji8] at H
      have hji8_ : (IntKind.u64.wrap (1 * 2 ^ min (ji6).toNat 64)) = ji8 := hji8
      have hji8z : (ji6) ≤ 64 → (IntKind.u64.wrap (1 * 2 ^ (ji6).toNat)) = ji8 := shl_small hji8
      have hji8u : (IntKind.u64.wrap (2 ^ min (ji6).toNat 64)) = ji8 := by have h_ := hji8_;rw [Int.one_mul] at h_;exact h_
      have hji8v : (ji6) ≤ 64 → (IntKind.u64.wrap (2 ^ (ji6).toNat)) = ji8 := fun hle_ => by have h_ := hji8z hle_;rw [Int.one_mul] at h_;exact h_
      by_cases c9 : a0 = (IntKind.u64.wrap ((ji8) - 1))
      ·rw [if_pos c9] at H
       have c9b0 : (a0 == (IntKind.u64.wrap ((ji8) - 1))) = true := beq_iff_eq.mpr c9
       have c9b1 : (a0 != (IntKind.u64.wrap ((ji8) - 1))) = false := bne_eq_false_iff_eq.mpr c9
       clear c9
       obtain rfl := Option.some.inj H
       obtain ⟨Ao10,co10,eo10⟩ := Kd.R_slice HO_3.out
       subst eo10
       have p251 : 0 ≤ (x4_1 : Int) := od
       have q251 : x4_1 < (t248.length : Int) := od
       obtain ⟨ad251,e251,hx251_0⟩ := Kd.at_int (Kd.R_reads' HO_3.out).2.2 x4_1 p251 q251
       cases e251
       replace p251 := eq_true p251
       replace q251 := eq_true q251
       have p252 : 0 ≤ (x4_1 : Int) := od
       have q252 : x4_1 < (t248.length : Int) := od
       obtain ⟨ad252,e252,hx252_0⟩ := Kd.at_int (Kd.R_reads' HO_3.out).2.2 x4_1 p252 q252
       obtain rfl : ad251 = ad252 := (by injection e252)
       replace p252 := eq_true p252
       replace q252 := eq_true q252
       go_wp2
       go_ret
       exact ⟨by first|rfl|(simp [errW_none,errW_some] <;> rfl)|(simp only [← hji6,← hji8];first|rfl|(simp [errW_none,errW_some] <;> rfl))|(simp [*,errW_none,errW_some] <;> rfl),bb HB⟩
      ·rw [if_neg c9] at H
       have c9b0 : (a0 == (IntKind.u64.wrap ((ji8) - 1))) = false := beq_eq_false_iff_ne.mpr c9
       have c9b1 : (a0 != (IntKind.u64.wrap ((ji8) - 1))) = true := bne_iff_ne.mpr c9
       have H' := am H
       clear H
       obtain ⟨Ao11,co11,eo11⟩ := Kd.R_slice HO_3.out
       subst eo11
       have p251 : 0 ≤ (x4_1 : Int) := od
       have q251 : x4_1 < (t248.length : Int) := od
       obtain ⟨ad251,e251,hx251_0⟩ := Kd.at_int (Kd.R_reads' HO_3.out).2.2 x4_1 p251 q251
       cases e251
       replace p251 := eq_true p251
       replace q251 := eq_true q251
       go_wp2
       go_roundg k1
       case measure => have := HK1.out;omega
       case rel => exact ⟨(wrap64 (x4_1 + 1)),(by first|rfl|(simp;done)|(simp [*];done)),H',⟨by have := HK1.out;omega⟩,⟨by (with_reducible repeat (first|apply Kd.R_alloc|apply Kd.R_drewN|apply Kd.R_drew));exact HO_3.out⟩,⟨bb HB⟩⟩
     ·rw [if_neg c7] at H
      exact absurd H (by simp)
    ·rw [if_neg c5] at H
     exact absurd H (by simp)
   ·rw [if_neg c4] at H
    have c4b0 : decide (x4_1 < (t248.length : Int)) = false := decide_eq_false c4
    clear c4
    obtain rfl := Option.some.inj H
    obtain ⟨Ao12,co12,eo12⟩ := Kd.R_slice HO_3.out
    subst eo12
    go_wp2
    go_ret
    exact ⟨by first|rfl|(simp [errW_none,errW_some] <;> rfl)|(simp [*,errW_none,errW_some] <;> rfl),bb HB⟩
def privityref01_Supported.f (k : Nat) (a0 : Int) : Option (Bool) := (privityref01_Exponent.f k a0).bind fun t253 => (some (decide (t253 > 0)))
theorem privityref01_Supported.mono : ∀ a0 k,LeO (privityref01_Supported.f k a0) (privityref01_Supported.f (k + 1) a0) := by
 intro a0 k
 unfold privityref01_Supported.f
 repeat' first
   | (with_reducible exact privityref01_Exponent.mono _ _)
   | (with_reducible exact LeO.refl _)
   | (with_reducible exact LeO.none _)
   | (with_reducible refine LeO.ite ?_ ?_)
   | (with_reducible refine LeO.bind ?_ (fun _ => ?_))
   | exact privityref01_Exponent.mono _ _
   | exact LeO.none _
   | refine LeO.ite ?_ ?_
   | refine LeO.bind ?_ (fun _ => ?_)
set_option maxHeartbeats 8000000 in
set_option maxRecDepth 100000 in
theorem privityref01_Supported.calls (k : Nat) (a0 : Int) (r : Bool) (w : World) (h : privityref01_Supported.f k a0 = some r) :
  Calls Try.prog 7 #[.int .u64 a0] w fun e w' => e = .returned (.bool r) ∧ Below w.heap.size w w' := by
 have HB := am (Below.refl w.heap.size w)
 have H : ((privityref01_Exponent.f k a0).bind fun t253 => (some (decide (t253 > 0)))) = some r := h
 clear h
 replace H := Option.bind_eq_some_iff.mp H
 obtain ⟨t253,A20,H⟩ := H
 try dsimp only at H
 have A2 := am A20
 clear A20
 obtain rfl := Option.some.inj H
 go_enter Try.func7,Try.ntmps7
 go_wp2_with (first|((with_reducible refine gate_callee (f := 32) rfl ?_);refine goesL_ (some 4) rfl rfl Try.func32 (by kernel_rfl) rfl #[.int .u64 a0] rfl (by (try simp only [List.map_toArray,List.map_cons,List.map_nil]);first|done|rfl|(simp only [List.length_drop,List.length_take];rfl)) ?_;(with_reducible refine (privityref01_Exponent.calls k a0 t253 _ A2.out).mono ?_);rintro e w3 ⟨rfl,hb⟩;refine ⟨_,rfl,?_⟩;have n0_ := am (below_step (bb HB) hb);clear HB;have HB := n0_;clear n0_;(try clear hb);(try clear hb2);(try clear hk);(try clear hi)))
 go_ret
 exact ⟨by first|rfl|(simp [errW_none,errW_some] <;> rfl)|(simp [*,errW_none,errW_some] <;> rfl),bb HB⟩
def privityref05_Below.l0 : Nat → Int → List Int → Int → Option (Bool)
 | 0,_,_,_ => none
 | k + 1,x0,x1,x5 => if x5 < (x1.length : Int) then (if 0 ≤ x5 then (if (rd x1 x5) ≥ x0 then (some false) else (privityref05_Below.l0 k x0 x1 (wrap64 (x5 + 1)))) else (none)) else (some true)
def privityref05_Below.f (k : Nat) (a0 : Int) (l1 : List Int) : Option (Bool) := privityref05_Below.l0 k a0 l1 0
set_option maxHeartbeats 8000000 in
set_option maxRecDepth 100000 in
theorem privityref05_Below.calls (k : Nat) (a0 : Int) (A1 : Option Addr) (c1 : Nat) (l1 : List Int) (r : Bool) (w : World) (hr1 : Kd.C (Kd.int .u64) w A1 l1.length l1) (hc1 : l1.length ≤ c1) (h : privityref05_Below.f k a0 l1 = some r) :
  Calls Try.prog 22 #[.int .u64 a0,.slice A1 l1.length c1] w fun e w' => e = .returned (.bool r) ∧ Drawn0 w w' := by
 have HR1 := am hr1
 have HC1 := am hc1
 clear hr1 hc1
 have H : (privityref05_Below.l0 k a0 l1 0) = some r := h
 clear h
 have H' := am H
 clear H
 go_enter Try.func22,Try.ntmps22
 go_wp2
 go_loopg [5] k (fun kq v5 w' => ∃ (x5_1 : Int),v5 = .int .i64 x5_1 ∧ Aside0 (privityref05_Below.l0 kq a0 l1 x5_1 = some r) ∧ Aside0 (kq ≤ k) ∧ Drawn0 w w')
 case atStart => exact ⟨(0),(by first|rfl|(simp;done)|(simp [*];done)),H',⟨Nat.le_refl _⟩,by repeat (first|exact Drawn0.refl _|apply Drawn0.step)⟩
 case round =>
  clear H'
  try clear c1
  try clear c2
  try clear p2
  obtain ⟨x5_1,rfl,HA,HK1,⟨m1,rfl⟩⟩ := hrel
  cases gk with
  | zero => exact absurd HA.out (by simp [privityref05_Below.l0])
  | succ k1 =>
   have H := HA.out
   clear HA
   simp only [privityref05_Below.l0] at H
   by_cases c3 : x5_1 < (l1.length : Int)
   ·rw [if_pos c3] at H
    have c3b0 : decide (x5_1 < (l1.length : Int)) = true := decide_eq_true c3
    clear c3
    by_cases c4 : 0 ≤ x5_1
    ·rw [if_pos c4] at H
     have c4b0 : decide (0 ≤ x5_1) = true := decide_eq_true c4
     clear c4
     by_cases c5 : (rd l1 x5_1) ≥ a0
     ·rw [if_pos c5] at H
      have c5b0 : decide (a0 ≤ (rd l1 x5_1)) = true := decide_eq_true c5
      clear c5
      obtain rfl := Option.some.inj H
      have p254 : 0 ≤ (x5_1 : Int) := od
      have q254 : x5_1 < (l1.length : Int) := od
      obtain ⟨ad254,e254,hx254_0⟩ := Kd.at_int HR1.out x5_1 p254 q254
      cases e254
      replace p254 := eq_true p254
      replace q254 := eq_true q254
      go_wp2
      go_ret
      exact ⟨by first|rfl|(simp;done)|(simp [*];done),by repeat (first|exact Drawn0.refl _|apply Drawn0.step)⟩
     ·rw [if_neg c5] at H
      have c5b0 : decide (a0 ≤ (rd l1 x5_1)) = false := decide_eq_false c5
      clear c5
      have H' := am H
      clear H
      have p254 : 0 ≤ (x5_1 : Int) := od
      have q254 : x5_1 < (l1.length : Int) := od
      obtain ⟨ad254,e254,hx254_0⟩ := Kd.at_int HR1.out x5_1 p254 q254
      cases e254
      replace p254 := eq_true p254
      replace q254 := eq_true q254
      go_wp2
      go_roundg k1
      case measure => have := HK1.out;omega
      case rel => exact ⟨(wrap64 (x5_1 + 1)),(by first|rfl|(simp;done)|(simp [*];done)),H',⟨by have := HK1.out;omega⟩,by repeat (first|exact Drawn0.refl _|apply Drawn0.step)⟩
    ·rw [if_neg c4] at H
     exact absurd H (by simp)
   ·rw [if_neg c3] at H
    have c3b0 : decide (x5_1 < (l1.length : Int)) = false := decide_eq_false c3
    clear c3
    obtain rfl := Option.some.inj H
    go_wp2
    go_ret
    exact ⟨by first|rfl|(simp;done)|(simp [*];done),by repeat (first|exact Drawn0.refl _|apply Drawn0.step)⟩
def privityref09_Rows.l0 : Nat → Int → List (List Int) → Int → Int → Int → Option (Bool)
 | 0,_,_,_,_,_ => none
 | k + 1,x0,x1,x2,x3,x9 => if x9 < x2 then (if 0 ≤ x9 then (if x9 < (x1.length : Int) then (if ((rd_L1 x1 x9).length : Int) = x3 then ((privityref05_Below.f k x0 (rd_L1 x1 x9)).bind fun t257 => (if t257 = true then (privityref09_Rows.l0 k x0 x1 x2 x3 (wrap64 (x9 + 1))) else (some false))) else (some false)) else (none)) else (none)) else (some true)
def privityref09_Rows.f (k : Nat) (a0 : Int) (l1 : List (List Int)) (a2 : Int) (a3 : Int) : Option (Bool) := if (l1.length : Int) = a2 then (privityref09_Rows.l0 k a0 l1 a2 a3 0) else (some false)
set_option maxHeartbeats 8000000 in
set_option maxRecDepth 100000 in
theorem privityref09_Rows.calls (k : Nat) (a0 : Int) (A1 : Option Addr) (c1 : Nat) (l1 : List (List Int)) (a2 : Int) (a3 : Int) (r : Bool) (w : World) (hr1 : Kd.C (Kd.slice 22 (Kd.int .u64)) w A1 l1.length l1) (hc1 : l1.length ≤ c1) (h : privityref09_Rows.f k a0 l1 a2 a3 = some r) :
  Calls Try.prog 8 #[.int .u64 a0,.slice A1 l1.length c1,.int .i64 a2,.int .i64 a3] w fun e w' => e = .returned (.bool r) ∧ Drawn0 w w' := by
 have HR1 := am hr1
 have HC1 := am hc1
 clear hr1 hc1
 have H : (if (l1.length : Int) = a2 then (privityref09_Rows.l0 k a0 l1 a2 a3 0) else (some false)) = some r := h
 clear h
 by_cases c5 : (l1.length : Int) = a2
 ·rw [if_pos c5] at H
  have c5b0 : ((l1.length : Int) == a2) = true := beq_iff_eq.mpr c5
  have c5b1 : ((l1.length : Int) != a2) = false := bne_eq_false_iff_eq.mpr c5
  clear c5
  have H' := am H
  clear H
  go_enter Try.func8,Try.ntmps8
  go_wp2
  go_loopg [9] k (fun kq v9 w' => ∃ (x9_1 : Int),v9 = .int .i64 x9_1 ∧ Aside0 (privityref09_Rows.l0 kq a0 l1 a2 a3 x9_1 = some r) ∧ Aside0 (kq ≤ k) ∧ Drawn0 w w')
  case atStart => exact ⟨(0),(by first|rfl|(simp;done)|(simp [*];done)),H',⟨Nat.le_refl _⟩,by repeat (first|exact Drawn0.refl _|apply Drawn0.step)⟩
  case round =>
   clear H'
   try clear c1
   try clear p2
   try clear c5
   try clear c5b0
   try clear c5b1
   obtain ⟨x9_1,rfl,HA,HK1,⟨m1,rfl⟩⟩ := hrel
   cases gk with
   | zero => exact absurd HA.out (by simp [privityref09_Rows.l0])
   | succ k1 =>
    have H := HA.out
    clear HA
    simp only [privityref09_Rows.l0] at H
    by_cases c6 : x9_1 < a2
    ·rw [if_pos c6] at H
     have c6b0 : decide (x9_1 < a2) = true := decide_eq_true c6
     clear c6
     by_cases c7 : 0 ≤ x9_1
     ·rw [if_pos c7] at H
      have c7b0 : decide (0 ≤ x9_1) = true := decide_eq_true c7
      clear c7
      by_cases c8 : x9_1 < (l1.length : Int)
      ·rw [if_pos c8] at H
       have c8b0 : decide (x9_1 < (l1.length : Int)) = true := decide_eq_true c8
       clear c8
       by_cases c9 : ((rd_L1 l1 x9_1).length : Int) = a3
       ·rw [if_pos c9] at H
        have c9b0 : (((rd_L1 l1 x9_1).length : Int) == a3) = true := beq_iff_eq.mpr c9
        have c9b1 : (((rd_L1 l1 x9_1).length : Int) != a3) = false := bne_eq_false_iff_eq.mpr c9
        clear c9
        replace H := Option.bind_eq_some_iff.mp H
        obtain ⟨t257,A100,H⟩ := H
        try dsimp only at H
        have A10 := am A100
        clear A100
        by_cases c11 : t257 = true
        ·subst c11
         rw [if_pos rfl] at H
         have H' := am H
         clear H
         have p255 : 0 ≤ (x9_1 : Int) := od
         have q255 : x9_1 < (l1.length : Int) := od
         obtain ⟨ad255,A255_0,c255_0,e255,hx255_0,hl255_0,hi255_0⟩ := at_L1 HR1.out x9_1 p255 q255
         cases e255
         have HR255_0 := am hi255_0
         have HC255_0 := am hl255_0
         clear hi255_0 hl255_0
         replace p255 := eq_true p255
         replace q255 := eq_true q255
         have p256 : 0 ≤ (x9_1 : Int) := od
         have q256 : x9_1 < (l1.length : Int) := od
         obtain ⟨ad256,A256_0,c256_0,e256,hx256_0,hl256_0,hi256_0⟩ := at_L1 HR1.out x9_1 p256 q256
         obtain rfl : ad255 = ad256 := (by injection e256)
         have HR256_0 := am hi256_0
         have HC256_0 := am hl256_0
         clear hi256_0 hl256_0
         replace p256 := eq_true p256
         replace q256 := eq_true q256
         have ea_ := Option.some.inj (hx255_0.symm.trans hx256_0)
         injection ea_ with ea_ en_ ec_
         subst ea_
         subst ec_
         clear en_
         go_wp2_with (first|(go_at_call 22;(with_reducible refine (privityref05_Below.calls k1 a0 _ _ (rd_L1 l1 x9_1) true _ ?side1 ?side2 A10.out).mono ?_);(case side1 => repeat (first|exact HR256_0.out|(with_reducible refine Kd.C_alloc ?_ _)|(with_reducible refine Kd.C_drewN ?_ _)|(with_reducible refine Kd.C_drew ?_)));(case side2 => exact HC256_0.out);rintro e w' ⟨rfl,⟨nd,rfl⟩⟩))
         go_roundg k1
         case measure => have := HK1.out;omega
         case rel => exact ⟨(wrap64 (x9_1 + 1)),(by first|rfl|(simp;done)|(simp [*];done)),H',⟨by have := HK1.out;omega⟩,by repeat (first|exact Drawn0.refl _|apply Drawn0.step)⟩
        ·replace c11 := Bool.eq_false_iff.mpr c11
         subst c11
         rw [if_neg (show ¬ (false = true) by decide)] at H
         obtain rfl := Option.some.inj H
         have p255 : 0 ≤ (x9_1 : Int) := od
         have q255 : x9_1 < (l1.length : Int) := od
         obtain ⟨ad255,A255_0,c255_0,e255,hx255_0,hl255_0,hi255_0⟩ := at_L1 HR1.out x9_1 p255 q255
         cases e255
         have HR255_0 := am hi255_0
         have HC255_0 := am hl255_0
         clear hi255_0 hl255_0
         replace p255 := eq_true p255
         replace q255 := eq_true q255
         have p256 : 0 ≤ (x9_1 : Int) := od
         have q256 : x9_1 < (l1.length : Int) := od
         obtain ⟨ad256,A256_0,c256_0,e256,hx256_0,hl256_0,hi256_0⟩ := at_L1 HR1.out x9_1 p256 q256
         obtain rfl : ad255 = ad256 := (by injection e256)
         have HR256_0 := am hi256_0
         have HC256_0 := am hl256_0
         clear hi256_0 hl256_0
         replace p256 := eq_true p256
         replace q256 := eq_true q256
         have ea_ := Option.some.inj (hx255_0.symm.trans hx256_0)
         injection ea_ with ea_ en_ ec_
         subst ea_
         subst ec_
         clear en_
         go_wp2_with (first|(go_at_call 22;(with_reducible refine (privityref05_Below.calls k1 a0 _ _ (rd_L1 l1 x9_1) false _ ?side1 ?side2 A10.out).mono ?_);(case side1 => repeat (first|exact HR256_0.out|(with_reducible refine Kd.C_alloc ?_ _)|(with_reducible refine Kd.C_drewN ?_ _)|(with_reducible refine Kd.C_drew ?_)));(case side2 => exact HC256_0.out);rintro e w' ⟨rfl,⟨nd,rfl⟩⟩))
         go_ret
         exact ⟨by first|rfl|(simp;done)|(simp [*];done),by repeat (first|exact Drawn0.refl _|apply Drawn0.step)⟩
       ·rw [if_neg c9] at H
        have c9b0 : (((rd_L1 l1 x9_1).length : Int) == a3) = false := beq_eq_false_iff_ne.mpr c9
        have c9b1 : (((rd_L1 l1 x9_1).length : Int) != a3) = true := bne_iff_ne.mpr c9
        obtain rfl := Option.some.inj H
        have p255 : 0 ≤ (x9_1 : Int) := od
        have q255 : x9_1 < (l1.length : Int) := od
        obtain ⟨ad255,A255_0,c255_0,e255,hx255_0,hl255_0,hi255_0⟩ := at_L1 HR1.out x9_1 p255 q255
        cases e255
        have HR255_0 := am hi255_0
        have HC255_0 := am hl255_0
        clear hi255_0 hl255_0
        replace p255 := eq_true p255
        replace q255 := eq_true q255
        go_wp2
        go_ret
        exact ⟨by first|rfl|(simp;done)|(simp [*];done),by repeat (first|exact Drawn0.refl _|apply Drawn0.step)⟩
      ·rw [if_neg c8] at H
       exact absurd H (by simp)
     ·rw [if_neg c7] at H
      exact absurd H (by simp)
    ·rw [if_neg c6] at H
     have c6b0 : decide (x9_1 < a2) = false := decide_eq_false c6
     clear c6
     obtain rfl := Option.some.inj H
     go_wp2
     go_ret
     exact ⟨by first|rfl|(simp;done)|(simp [*];done),by repeat (first|exact Drawn0.refl _|apply Drawn0.step)⟩
 ·rw [if_neg c5] at H
  have c5b0 : ((l1.length : Int) == a2) = false := beq_eq_false_iff_ne.mpr c5
  have c5b1 : ((l1.length : Int) != a2) = true := bne_iff_ne.mpr c5
  obtain rfl := Option.some.inj H
  go_enter Try.func8,Try.ntmps8
  go_wp2
  go_ret
  exact ⟨by first|rfl|(simp;done)|(simp [*];done),by repeat (first|exact Drawn0.refl _|apply Drawn0.step)⟩
def privitylaw09_setups.f (a0_0 : Int) (a0_1 : Int) (a0_2 : Int) : Option (Bool) := if a0_1 ≥ 4 then (if a0_1 ≤ 13 then (if (IntKind.u64.wrap (a0_1)) < a0_0 then (if a0_2 ≥ 1 then (if a0_2 < a0_1 then (some (decide ((wrap64 (3 * a0_2)) < a0_1))) else (some false)) else (some false)) else (some false)) else (some false)) else (some false)
set_option maxHeartbeats 8000000 in
set_option maxRecDepth 100000 in
theorem privitylaw09_setups.calls (a0_0 : Int) (a0_1 : Int) (a0_2 : Int) (r : Bool) (w : World) (h : privitylaw09_setups.f a0_0 a0_1 a0_2 = some r) :
  Calls Try.prog 9 #[.agg #[.int .u64 a0_0,.int .i64 a0_1,.int .i64 a0_2]] w fun e w' => e = .returned (.bool r) ∧ Below w.heap.size w w' := by
 have hu24 := Try.underlying24
 have HB := am (Below.refl w.heap.size w)
 have H : (if a0_1 ≥ 4 then (if a0_1 ≤ 13 then (if (IntKind.u64.wrap (a0_1)) < a0_0 then (if a0_2 ≥ 1 then (if a0_2 < a0_1 then (some (decide ((wrap64 (3 * a0_2)) < a0_1))) else (some false)) else (some false)) else (some false)) else (some false)) else (some false)) = some r := h
 clear h
 by_cases c2 : a0_1 ≥ 4
 ·rw [if_pos c2] at H
  have c2b0 : decide (4 ≤ a0_1) = true := decide_eq_true c2
  clear c2
  by_cases c3 : a0_1 ≤ 13
  ·rw [if_pos c3] at H
   have c3b0 : decide (a0_1 ≤ 13) = true := decide_eq_true c3
   clear c3
   by_cases c4 : (IntKind.u64.wrap (a0_1)) < a0_0
   ·rw [if_pos c4] at H
    have c4b0 : decide ((IntKind.u64.wrap (a0_1)) < a0_0) = true := decide_eq_true c4
    clear c4
    by_cases c5 : a0_2 ≥ 1
    ·rw [if_pos c5] at H
     have c5b0 : decide (1 ≤ a0_2) = true := decide_eq_true c5
     clear c5
     by_cases c6 : a0_2 < a0_1
     ·rw [if_pos c6] at H
      have c6b0 : decide (a0_2 < a0_1) = true := decide_eq_true c6
      clear c6
      obtain rfl := Option.some.inj H
      go_enter Try.func9,Try.ntmps9
      go_wp2_with (first|((with_reducible refine gate_dst (N := 1) rfl ?_);refine box_event ?hg (N := 1) ?hd (cs := #[.int .u64 a0_0,.int .i64 a0_1,.int .i64 a0_2]) (t := 24) ?hr ?_;(case hd => rfl);(case hg => rfl);(case hr => first|(go_simp;done)|(go_simp;rfl));intro gb258 hg w7 hbox hb;have n0_ := am (below_step (bb HB) hb);have n1_ := am (hbox);have n2_ := am ((by rw [hg];exact (below_size (bb HB)) : w.heap.size ≤ gb258));have n3_ := am ((by rw [hg];exact (below_size (bb HB)) : w.heap.size ≤ gb258));clear HB;have HB := n0_;have BK258 := n1_;have GW258 := n2_;have GE258 := n3_;clear n0_ n1_ n2_ n3_;clear hb hbox hg;have hcz8_0 := bc BK258 0;have hcz8_1 := bc BK258 1;have hcz8_2 := bc BK258 2;have hfz8_0 := bf BK258 0;have hfz8_1 := bf BK258 1;have hfz8_2 := bf BK258 2))
      go_ret
      exact ⟨by first|rfl|(simp [errW_none,errW_some] <;> rfl)|(simp [*,errW_none,errW_some] <;> rfl),bg HB GE258⟩
     ·rw [if_neg c6] at H
      have c6b0 : decide (a0_2 < a0_1) = false := decide_eq_false c6
      clear c6
      obtain rfl := Option.some.inj H
      go_enter Try.func9,Try.ntmps9
      go_wp2_with (first|((with_reducible refine gate_dst (N := 1) rfl ?_);refine box_event ?hg (N := 1) ?hd (cs := #[.int .u64 a0_0,.int .i64 a0_1,.int .i64 a0_2]) (t := 24) ?hr ?_;(case hd => rfl);(case hg => rfl);(case hr => first|(go_simp;done)|(go_simp;rfl));intro gb258 hg w9 hbox hb;have n0_ := am (below_step (bb HB) hb);have n1_ := am (hbox);have n2_ := am ((by rw [hg];exact (below_size (bb HB)) : w.heap.size ≤ gb258));have n3_ := am ((by rw [hg];exact (below_size (bb HB)) : w.heap.size ≤ gb258));clear HB;have HB := n0_;have BK258 := n1_;have GW258 := n2_;have GE258 := n3_;clear n0_ n1_ n2_ n3_;clear hb hbox hg;have hcz10_0 := bc BK258 0;have hcz10_1 := bc BK258 1;have hcz10_2 := bc BK258 2;have hfz10_0 := bf BK258 0;have hfz10_1 := bf BK258 1;have hfz10_2 := bf BK258 2))
      go_ret
      exact ⟨by first|rfl|(simp [errW_none,errW_some] <;> rfl)|(simp [*,errW_none,errW_some] <;> rfl),bg HB GE258⟩
    ·rw [if_neg c5] at H
     have c5b0 : decide (1 ≤ a0_2) = false := decide_eq_false c5
     clear c5
     obtain rfl := Option.some.inj H
     go_enter Try.func9,Try.ntmps9
     go_wp2_with (first|((with_reducible refine gate_dst (N := 1) rfl ?_);refine box_event ?hg (N := 1) ?hd (cs := #[.int .u64 a0_0,.int .i64 a0_1,.int .i64 a0_2]) (t := 24) ?hr ?_;(case hd => rfl);(case hg => rfl);(case hr => first|(go_simp;done)|(go_simp;rfl));intro gb258 hg w11 hbox hb;have n0_ := am (below_step (bb HB) hb);have n1_ := am (hbox);have n2_ := am ((by rw [hg];exact (below_size (bb HB)) : w.heap.size ≤ gb258));have n3_ := am ((by rw [hg];exact (below_size (bb HB)) : w.heap.size ≤ gb258));clear HB;have HB := n0_;have BK258 := n1_;have GW258 := n2_;have GE258 := n3_;clear n0_ n1_ n2_ n3_;clear hb hbox hg;have hcz12_0 := bc BK258 0;have hcz12_1 := bc BK258 1;have hcz12_2 := bc BK258 2;have hfz12_0 := bf BK258 0;have hfz12_1 := bf BK258 1;have hfz12_2 := bf BK258 2))
     go_ret
     exact ⟨by first|rfl|(simp [errW_none,errW_some] <;> rfl)|(simp [*,errW_none,errW_some] <;> rfl),bg HB GE258⟩
   ·rw [if_neg c4] at H
    have c4b0 : decide ((IntKind.u64.wrap (a0_1)) < a0_0) = false := decide_eq_false c4
    clear c4
    obtain rfl := Option.some.inj H
    go_enter Try.func9,Try.ntmps9
    go_wp2_with (first|((with_reducible refine gate_dst (N := 1) rfl ?_);refine box_event ?hg (N := 1) ?hd (cs := #[.int .u64 a0_0,.int .i64 a0_1,.int .i64 a0_2]) (t := 24) ?hr ?_;(case hd => rfl);(case hg => rfl);(case hr => first|(go_simp;done)|(go_simp;rfl));intro gb258 hg w13 hbox hb;have n0_ := am (below_step (bb HB) hb);have n1_ := am (hbox);have n2_ := am ((by rw [hg];exact (below_size (bb HB)) : w.heap.size ≤ gb258));have n3_ := am ((by rw [hg];exact (below_size (bb HB)) : w.heap.size ≤ gb258));clear HB;have HB := n0_;have BK258 := n1_;have GW258 := n2_;have GE258 := n3_;clear n0_ n1_ n2_ n3_;clear hb hbox hg;have hcz14_0 := bc BK258 0;have hcz14_1 := bc BK258 1;have hcz14_2 := bc BK258 2;have hfz14_0 := bf BK258 0;have hfz14_1 := bf BK258 1;have hfz14_2 := bf BK258 2))
    go_ret
    exact ⟨by first|rfl|(simp [errW_none,errW_some] <;> rfl)|(simp [*,errW_none,errW_some] <;> rfl),bg HB GE258⟩
  ·rw [if_neg c3] at H
   have c3b0 : decide (a0_1 ≤ 13) = false := decide_eq_false c3
   clear c3
   obtain rfl := Option.some.inj H
   go_enter Try.func9,Try.ntmps9
   go_wp2_with (first|((with_reducible refine gate_dst (N := 1) rfl ?_);refine box_event ?hg (N := 1) ?hd (cs := #[.int .u64 a0_0,.int .i64 a0_1,.int .i64 a0_2]) (t := 24) ?hr ?_;(case hd => rfl);(case hg => rfl);(case hr => first|(go_simp;done)|(go_simp;rfl));intro gb258 hg w15 hbox hb;have n0_ := am (below_step (bb HB) hb);have n1_ := am (hbox);have n2_ := am ((by rw [hg];exact (below_size (bb HB)) : w.heap.size ≤ gb258));have n3_ := am ((by rw [hg];exact (below_size (bb HB)) : w.heap.size ≤ gb258));clear HB;have HB := n0_;have BK258 := n1_;have GW258 := n2_;have GE258 := n3_;clear n0_ n1_ n2_ n3_;clear hb hbox hg;have hcz16_0 := bc BK258 0;have hcz16_1 := bc BK258 1;have hcz16_2 := bc BK258 2;have hfz16_0 := bf BK258 0;have hfz16_1 := bf BK258 1;have hfz16_2 := bf BK258 2))
   go_ret
   exact ⟨by first|rfl|(simp [errW_none,errW_some] <;> rfl)|(simp [*,errW_none,errW_some] <;> rfl),bg HB GE258⟩
 ·rw [if_neg c2] at H
  have c2b0 : decide (4 ≤ a0_1) = false := decide_eq_false c2
  clear c2
  obtain rfl := Option.some.inj H
  go_enter Try.func9,Try.ntmps9
  go_wp2_with (first|((with_reducible refine gate_dst (N := 1) rfl ?_);refine box_event ?hg (N := 1) ?hd (cs := #[.int .u64 a0_0,.int .i64 a0_1,.int .i64 a0_2]) (t := 24) ?hr ?_;(case hd => rfl);(case hg => rfl);(case hr => first|(go_simp;done)|(go_simp;rfl));intro gb258 hg w17 hbox hb;have n0_ := am (below_step (bb HB) hb);have n1_ := am (hbox);have n2_ := am ((by rw [hg];exact (below_size (bb HB)) : w.heap.size ≤ gb258));have n3_ := am ((by rw [hg];exact (below_size (bb HB)) : w.heap.size ≤ gb258));clear HB;have HB := n0_;have BK258 := n1_;have GW258 := n2_;have GE258 := n3_;clear n0_ n1_ n2_ n3_;clear hb hbox hg;have hcz18_0 := bc BK258 0;have hcz18_1 := bc BK258 1;have hcz18_2 := bc BK258 2;have hfz18_0 := bf BK258 0;have hfz18_1 := bf BK258 1;have hfz18_2 := bf BK258 2))
  go_ret
  exact ⟨by first|rfl|(simp [errW_none,errW_some] <;> rfl)|(simp [*,errW_none,errW_some] <;> rfl),bg HB GE258⟩
def privityref01_Add.f (a0 : Int) (a1 : Int) (a2 : Int) : Option (Int) := if a0 = 0 then (none) else (some (Int.tmod (IntKind.u64.wrap (a1 + a2)) a0))
set_option maxHeartbeats 8000000 in
set_option maxRecDepth 100000 in
theorem privityref01_Add.calls (a0 : Int) (a1 : Int) (a2 : Int) (r : Int) (w : World) (h : privityref01_Add.f a0 a1 a2 = some r) :
  Calls Try.prog 34 #[.int .u64 a0,.int .u64 a1,.int .u64 a2] w fun e w' => e = .returned (.int .u64 r) ∧ Drawn0 w w' := by
 have H : (if a0 = 0 then (none) else (some (Int.tmod (IntKind.u64.wrap (a1 + a2)) a0))) = some r := h
 clear h
 by_cases c4 : a0 = 0
 ·rw [if_pos c4] at H
  exact absurd H (by simp)
 ·rw [if_neg c4] at H
  have c4b0 : (a0 == 0) = false := beq_eq_false_iff_ne.mpr c4
  have c4b1 : (a0 != 0) = true := bne_iff_ne.mpr c4
  obtain rfl := Option.some.inj H
  go_enter Try.func34,Try.ntmps34
  go_wp2
  go_ret
  exact ⟨by first|rfl|(simp;done)|(simp [*];done),by repeat (first|exact Drawn0.refl _|apply Drawn0.step)⟩
mutual
def privityref09_Add.l0 : Nat → Int → List (List Int) → List (List Int) → List (List Int) → Int → Option ((List (List Int)))
 | 0,_,_,_,_,_ => none
 | k + 1,x0,x1,x2,x7,x8 => if x8 < (x1.length : Int) then (privityref09_Add.l1 k x0 x1 x2 x7 x8 ([] : List Int) 0) else (some x7)
def privityref09_Add.l1 : Nat → Int → List (List Int) → List (List Int) → List (List Int) → Int → List Int → Int → Option ((List (List Int)))
 | 0,_,_,_,_,_,_,_ => none
 | k + 1,x0,x1,x2,x7,x8,x9,x10 => if 0 ≤ x8 then (if x8 < (x1.length : Int) then (if x10 < ((rd_L1 x1 x8).length : Int) then (if 0 ≤ x10 then (if x8 < (x2.length : Int) then (if x10 < ((rd_L1 x2 x8).length : Int) then ((privityref01_Add.f x0 (rd (rd_L1 x1 x8) x10) (rd (rd_L1 x2 x8) x10)).bind fun t264 => (if x9.length < 17592186044416 then (privityref09_Add.l1 k x0 x1 x2 x7 x8 (x9 ++ [t264]) (wrap64 (x10 + 1))) else (none))) else (none)) else (none)) else (none)) else (if x7.length < 5864062014805 then (privityref09_Add.l0 k x0 x1 x2 (x7 ++ [x9]) (wrap64 (x8 + 1))) else (none))) else (none)) else (none)
end
def privityref09_Add.f (k : Nat) (a0 : Int) (l1 : List (List Int)) (l2 : List (List Int)) : Option ((List (List Int))) := privityref09_Add.l0 k a0 l1 l2 ([] : List (List Int)) 0
def privityref09_Add.T9 : Bool × List (List Nat × List Nat) := (true,[([],[]),([],[]),([],[]),([],[]),([2,3],[2,3]),([4],[4]),([],[]),([5,6],[5,6]),([7],[7]),([],[]),([],[]),([9,10],[9,10]),([11],[11]),([],[]),([12,13],[12,13]),([14],[14]),([1,8,15],[1,8,15]),([16],[16]),([0,17,16],[0,17]),([18,18,0,1,2,3,4,5,6,7,8,9,10,11,12,13,14,15,16,17,18],[0,18])])
def privityref09_Add.B9 : List Nat := [0,0,0,0,12,28,0,124,252,0,0,1536,3584,0,15872,32256,65534,131070,262143,524287]
theorem privityref09_Add.tab9 : rtab .any (opsOf Try.f12 9) = privityref09_Add.T9 := by kernel_rfl
theorem privityref09_Add.bits9 : waitsOk privityref09_Add.T9.2 privityref09_Add.B9 = true := by kernel_rfl
set_option maxHeartbeats 8000000 in
set_option maxRecDepth 100000 in
theorem privityref09_Add.calls (k : Nat) (a0 : Int) (A1 : Option Addr) (c1 : Nat) (l1 : List (List Int)) (A2 : Option Addr) (c2 : Nat) (l2 : List (List Int)) (r : List (List Int)) (w : World) (hr1 : Kd.C (Kd.slice 22 (Kd.int .u64)) w A1 l1.length l1) (hc1 : l1.length ≤ c1) (hr2 : Kd.C (Kd.slice 22 (Kd.int .u64)) w A2 l2.length l2) (hc2 : l2.length ≤ c2) (h : privityref09_Add.f k a0 l1 l2 = some r) :
  Calls Try.prog 12 #[.int .u64 a0,.slice A1 l1.length c1,.slice A2 l2.length c2] w fun e w' => ∃ v0_ : Value,e = .returned (v0_) ∧ Kd.S (Kd.slice 22 (Kd.int .u64)) 41 w' w.heap.size (fun _ => True) v0_ r ∧ Below w.heap.size w w' := by
 have HR1 := am hr1
 have HC1 := am hc1
 clear hr1 hc1
 have HR2 := am hr2
 have HC2 := am hc2
 clear hr2 hc2
 have HB := am (Below.refl w.heap.size w)
 have H : (privityref09_Add.l0 k a0 l1 l2 ([] : List (List Int)) 0) = some r := h
 clear h
 have H' := am H
 clear H
 go_enter Try.func12,Try.ntmps12
 go_wp2
 go_loopg [7,8] k (fun kq v7 v8 w' => ∃ (x7_1 : List (List Int)) (x8_1 : Int),v8 = .int .i64 x8_1 ∧ Aside0 (privityref09_Add.l0 kq a0 l1 l2 x7_1 x8_1 = some r) ∧ Aside0 (kq ≤ k) ∧ Aside0 (Kd.S (Kd.slice 22 (Kd.int .u64)) 41 w' w.heap.size (fun _ => True) v7 x7_1) ∧ Aside0 (Below w.heap.size w w'))
 case atStart => exact ⟨(([] : List (List Int))),(0),(by first|rfl|(simp;done)|(simp [*];done)),H',⟨Nat.le_refl _⟩,⟨by first|exact Kd.S_nil _ _ _ _ _|exact Kd.N_nil _ _ _ _ _|exact Kd.V_nil _ _ _ _ _|exact Kd.Q_nil _ _ _ _ _|exact Kd.R_nil _ _ _ _ _⟩,⟨bb HB⟩⟩
 case round =>
  clear H'
  try clear c1
  try clear c2
  try clear p2
  obtain ⟨x7_1,x8_1,rfl,HA,HK1,HO_7,HB⟩ := hrel
  cases gk with
  | zero => exact absurd HA.out (by simp [privityref09_Add.l0])
  | succ k1 =>
   have H := HA.out
   clear HA
   simp only [privityref09_Add.l0] at H
   by_cases c4 : x8_1 < (l1.length : Int)
   ·rw [if_pos c4] at H
    have c4b0 : decide (x8_1 < (l1.length : Int)) = true := decide_eq_true c4
    clear c4
    have H' := am H
    clear H
    go_wp2
    go_loopg [9,10] k1 (fun kq v9 v10 w' => ∃ (x9_2 : List Int) (x10_2 : Int),v10 = .int .i64 x10_2 ∧ Aside0 (privityref09_Add.l1 kq a0 l1 l2 x7_1 x8_1 x9_2 x10_2 = some r) ∧ Aside0 (kq ≤ k1) ∧ Aside0 (Kd.S (Kd.slice 22 (Kd.int .u64)) 41 w' w.heap.size (fun k_ => some k_ ≠ (v9 : Value).ownBlock) u7 x7_1) ∧ Aside0 (Kd.R (Kd.int .u64) 22 w' w.heap.size (fun _ => True) v9 x9_2) ∧ Aside0 (Below w.heap.size w w'))
    case atStart => exact ⟨(([] : List Int)),(0),(by first|rfl|(simp;done)|(simp [*];done)),H',⟨Nat.le_refl _⟩,⟨by (with_reducible repeat (first|apply Kd.S_alloc|apply Kd.S_drewN|apply Kd.S_drew));exact Kd.S_mono HO_7.out (fun _ hk => (by simp [Value.ownBlock]))⟩,⟨by first|exact Kd.R_nil _ _ _ _ _|exact Kd.N_nil _ _ _ _ _|exact Kd.V_nil _ _ _ _ _|exact Kd.Q_nil _ _ _ _ _|exact Kd.S_nil _ _ _ _ _⟩,⟨bb HB⟩⟩
    case round =>
     clear H'
     try clear c1
     try clear c2
     try clear p2
     try clear c4
     try clear c4b0
     try clear p2
     obtain ⟨x9_2,x10_2,rfl,HA,HK2,HO_7,HO_9,HB⟩ := hrel
     cases gk with
     | zero => exact absurd HA.out (by simp [privityref09_Add.l1])
     | succ k2 =>
      have H := HA.out
      clear HA
      simp only [privityref09_Add.l1] at H
      by_cases c5 : 0 ≤ x8_1
      ·rw [if_pos c5] at H
       have c5b0 : decide (0 ≤ x8_1) = true := decide_eq_true c5
       clear c5
       by_cases c6 : x8_1 < (l1.length : Int)
       ·rw [if_pos c6] at H
        have c6b0 : decide (x8_1 < (l1.length : Int)) = true := decide_eq_true c6
        clear c6
        by_cases c7 : x10_2 < ((rd_L1 l1 x8_1).length : Int)
        ·rw [if_pos c7] at H
         have c7b0 : decide (x10_2 < ((rd_L1 l1 x8_1).length : Int)) = true := decide_eq_true c7
         clear c7
         by_cases c8 : 0 ≤ x10_2
         ·rw [if_pos c8] at H
          have c8b0 : decide (0 ≤ x10_2) = true := decide_eq_true c8
          clear c8
          by_cases c9 : x8_1 < (l2.length : Int)
          ·rw [if_pos c9] at H
           have c9b0 : decide (x8_1 < (l2.length : Int)) = true := decide_eq_true c9
           clear c9
           by_cases c10 : x10_2 < ((rd_L1 l2 x8_1).length : Int)
           ·rw [if_pos c10] at H
            have c10b0 : decide (x10_2 < ((rd_L1 l2 x8_1).length : Int)) = true := decide_eq_true c10
            clear c10
            replace H := Option.bind_eq_some_iff.mp H
            obtain ⟨t264,A110,H⟩ := H
            try dsimp only at H
            have A11 := am A110
            clear A110
            by_cases c12 : x9_2.length < 17592186044416
            ·rw [if_pos c12] at H
             have LMc12 := am c12
             clear c12
             obtain ⟨y265,hy265⟩ : ∃ y_ : List Int,y_ = (x9_2 ++ [t264]) := ⟨_,rfl⟩
             replace H : (privityref09_Add.l1 k2 a0 l1 l2 x7_1 x8_1 y265 (wrap64 (x10_2 + 1))) = some r := by first|(rw [hy265];with_reducible exact H)|(have H2_ := (Option.bind_some _ _).symm.trans H;rw [hy265];with_reducible exact H2_)|(have H2_ := (Option.bind_some _ _).symm.trans H;with_reducible exact H2_)|with_reducible exact H|(rw [hy265];exact H)|exact H
             have Ny265 := am hy265
             clear hy265
             have H' := am H
             clear H
             have p259 : 0 ≤ (x8_1 : Int) := od
             have q259 : x8_1 < (l1.length : Int) := od
             obtain ⟨ad259,A259_0,c259_0,e259,hx259_0,hl259_0,hi259_0⟩ := at_L1 HR1.out x8_1 p259 q259
             cases e259
             replace hx259_0 := (HB.out.cell (World.block_lt_of_cell? w _ hx259_0)).trans hx259_0
             have HR259_0 := am hi259_0
             have HC259_0 := am hl259_0
             clear hi259_0 hl259_0
             replace p259 := eq_true p259
             replace q259 := eq_true q259
             try go_wp2
             have n0_ := am (Kd.S_drew HO_7.out)
             have n1_ := am (Kd.R_drew HO_9.out)
             have n2_ := am (below_drew1 HB.out)
             clear HO_7
             clear HO_9
             clear HB
             have HO_7 := n0_
             have HO_9 := n1_
             have HB := n2_
             clear n0_ n1_ n2_
             have p260 : 0 ≤ (x8_1 : Int) := od
             have q260 : x8_1 < (l1.length : Int) := od
             obtain ⟨ad260,A260_0,c260_0,e260,hx260_0,hl260_0,hi260_0⟩ := at_L1 HR1.out x8_1 p260 q260
             have hw260_0 := hx260_0
             obtain rfl : ad259 = ad260 := (by injection e260)
             replace hx260_0 := (HB.out.cell (World.block_lt_of_cell? w _ hx260_0)).trans hx260_0
             have HR260_0 := am hi260_0
             have HC260_0 := am hl260_0
             clear hi260_0 hl260_0
             replace p260 := eq_true p260
             replace q260 := eq_true q260
             have p261 : 0 ≤ (x10_2 : Int) := od
             have q261 : x10_2 < ((rd_L1 l1 x8_1).length : Int) := od
             obtain ⟨ad261,e261,hx261_0⟩ := Kd.at_int HR260_0.out x10_2 p261 q261
             have hw261_0 := hx261_0
             cases e261
             replace hx261_0 := (HB.out.cell (World.block_lt_of_cell? w _ hx261_0)).trans hx261_0
             replace p261 := eq_true p261
             replace q261 := eq_true q261
             have p262 : 0 ≤ (x8_1 : Int) := od
             have q262 : x8_1 < (l2.length : Int) := od
             obtain ⟨ad262,A262_0,c262_0,e262,hx262_0,hl262_0,hi262_0⟩ := at_L1 HR2.out x8_1 p262 q262
             have hw262_0 := hx262_0
             cases e262
             replace hx262_0 := (HB.out.cell (World.block_lt_of_cell? w _ hx262_0)).trans hx262_0
             have HR262_0 := am hi262_0
             have HC262_0 := am hl262_0
             clear hi262_0 hl262_0
             replace p262 := eq_true p262
             replace q262 := eq_true q262
             have p263 : 0 ≤ (x10_2 : Int) := od
             have q263 : x10_2 < ((rd_L1 l2 x8_1).length : Int) := od
             obtain ⟨ad263,e263,hx263_0⟩ := Kd.at_int HR262_0.out x10_2 p263 q263
             have hw263_0 := hx263_0
             cases e263
             replace hx263_0 := (HB.out.cell (World.block_lt_of_cell? w _ hx263_0)).trans hx263_0
             replace p263 := eq_true p263
             replace q263 := eq_true q263
             refine start_ (n := 20) (S := fun w' => w'.cell? (ad259.add (x8_1).toNat) = some (.slice (some ad261) (rd_L1 l1 x8_1).length c260_0) ∧ w'.cell? (ad261.add (x10_2).toNat) = some (.int .u64 (rd (rd_L1 l1 x8_1) x10_2)) ∧ w'.cell? (ad262.add (x8_1).toNat) = some (.slice (some ad263) (rd_L1 l2 x8_1).length c262_0) ∧ w'.cell? (ad263.add (x10_2).toNat) = some (.int .u64 (rd (rd_L1 l2 x8_1) x10_2))) (ds := []) (bz 20 0) (by kernel_rfl) rfl rfl ⟨((HB.out.cell (World.block_lt_of_cell? w _ hw260_0)).trans hw260_0),((HB.out.cell (World.block_lt_of_cell? w _ hw261_0)).trans hw261_0),((HB.out.cell (World.block_lt_of_cell? w _ hw262_0)).trans hw262_0),((HB.out.cell (World.block_lt_of_cell? w _ hw263_0)).trans hw263_0)⟩ (fun hHeld => ?_);refine with_tabW privityref09_Add.tab9 privityref09_Add.bits9 (fun HT_ HW_ => ?_)
             generalize wr.drew = w13 at HO_7 HO_9 HB HR260_0 HR262_0 hx260_0 hx261_0 hx262_0 hx263_0 hHeld ⊢
             refine pk 0 26 (bz 20 1) HT_ ?_
             refine pk 1 27 (bz 20 3) HT_ ?_
             refine pk 2 28 (bz 20 7) HT_ ?_
             refine pk 3 29 (bz 20 15) HT_ ?_
             refine pk 4 30 (bz 20 31) HT_ ?_
             refine pk 6 32 (bz 20 95) HT_ ?_
             refine pk 9 35 (bz 20 607) HT_ ?_
             refine pk 10 36 (bz 20 1631) HT_ ?_
             refine pk 11 37 (bz 20 3679) HT_ ?_
             refine pk 13 39 (bz 20 11871) HT_ ?_
             refine tk 5 31 (bz 20 11903) HT_ HW_ hHeld ?_
             refine pk 7 33 (bz 20 12031) HT_ ?_
             refine tk 8 34 (bz 20 12287) HT_ HW_ hHeld ?_
             refine tk 12 38 (bz 20 16383) HT_ HW_ hHeld ?_
             refine pk 14 40 (bz 20 32767) HT_ ?_
             refine tk 15 41 (bz 20 65535) HT_ HW_ hHeld ?_
             refine on 16 42 (bz 20 131071) HT_ (fun K hK => ?_)
             refine goes_ Try.func34 (by kernel_rfl) rfl #[.int .u64 a0,.int .u64 (rd (rd_L1 l1 x8_1) x10_2),.int .u64 (rd (rd_L1 l2 x8_1) x10_2)] (by rfl) rfl rfl (by (try simp only [List.map_toArray,List.map_cons,List.map_nil]);first|done|rfl|(simp only [List.length_drop,List.length_take];rfl)) ?_
             with_reducible refine (privityref01_Add.calls a0 (rd (rd_L1 l1 x8_1) x10_2) (rd (rd_L1 l2 x8_1) x10_2) t264 _ A11.out).mono ?_
             rintro e w' ⟨rfl,⟨nd,rfl⟩⟩
             refine ⟨_,rfl,?_⟩
             refine hK.out _ _ ⟨((HB.out.cell (World.block_lt_of_cell? w _ hw260_0)).trans hw260_0),((HB.out.cell (World.block_lt_of_cell? w _ hw261_0)).trans hw261_0),((HB.out.cell (World.block_lt_of_cell? w _ hw262_0)).trans hw262_0),((HB.out.cell (World.block_lt_of_cell? w _ hw263_0)).trans hw263_0)⟩ (fun hHeld => ?_)
             clear hK K
             refine nm 42 ?_
             refine on 17 43 (bz 20 262143) HT_ (fun K hK => ?_)
             refine value_ (w1 := ?_) (v := ?_) (by rfl) rfl ?_ ?_
             rotate_left 2
             ·go_simp
              constructor
              ·rfl
              ·rfl
             refine hK.out _ _ ⟨(World.cell?_alloc_lt _ _ _ (World.block_lt_of_cell? _ _ (((HB.out.cell (World.block_lt_of_cell? w _ hw260_0)).trans hw260_0)))).trans (((HB.out.cell (World.block_lt_of_cell? w _ hw260_0)).trans hw260_0)),(World.cell?_alloc_lt _ _ _ (World.block_lt_of_cell? _ _ (((HB.out.cell (World.block_lt_of_cell? w _ hw261_0)).trans hw261_0)))).trans (((HB.out.cell (World.block_lt_of_cell? w _ hw261_0)).trans hw261_0)),(World.cell?_alloc_lt _ _ _ (World.block_lt_of_cell? _ _ (((HB.out.cell (World.block_lt_of_cell? w _ hw262_0)).trans hw262_0)))).trans (((HB.out.cell (World.block_lt_of_cell? w _ hw262_0)).trans hw262_0)),(World.cell?_alloc_lt _ _ _ (World.block_lt_of_cell? _ _ (((HB.out.cell (World.block_lt_of_cell? w _ hw263_0)).trans hw263_0)))).trans (((HB.out.cell (World.block_lt_of_cell? w _ hw263_0)).trans hw263_0))⟩ (fun hHeld => ?_)
             clear hK K
             refine nm 43 ?_
             refine on 18 44 (bz 20 524287) HT_ (fun K hK => ?_)
             refine Kd.R_append_step (Kd.int .u64) (w0 := w) w.heap.size (by rfl) (.tmp 26) (.tmp 43) 41 22 (.int .u64 0) 8 rfl Try.underlying41 info22 rfl (by decide) (by omega) u9 x9_2 t264 [.int .u64 t264] (fun _ => True) (fun _ => False) rfl rfl ?aP (fun _ hk => hk.elim) ?aF ?aO ?aB ?aS ?aL ?_
             (case aP => exact rfl)
             (case aB => exact (bb HB))
             (case aF => exact (fun _ _ => trivial))
             (case aO => exact (rr HO_9))
             (case aS => exact (below_size (bb HB)))
             (case aL => have := LMc12.out;omega)
             intro v266 w14 ho hb hg hat
             rw [← Ny265.out] at ho
             have n0_ := am (Kd.S_after (ok := (fun _ => True)) (by (with_reducible repeat (first|apply Kd.S_alloc|apply Kd.S_drewN|apply Kd.S_drew));exact Kd.S_mono HO_7.out (fun _ hk => ⟨trivial,hk⟩)) hg hat)
             have n1_ := am (hb)
             have n2_ := am (ho)
             clear HO_7
             clear HB
             clear HO_9
             have HO_7 := n0_
             have HB := n1_
             have HO267 := n2_
             clear n0_ n1_ n2_
             clear ho hb hg hat
             refine hK.out _ _ ⟨((HB.out.cell (World.block_lt_of_cell? w _ hw260_0)).trans hw260_0),((HB.out.cell (World.block_lt_of_cell? w _ hw261_0)).trans hw261_0),((HB.out.cell (World.block_lt_of_cell? w _ hw262_0)).trans hw262_0),((HB.out.cell (World.block_lt_of_cell? w _ hw263_0)).trans hw263_0)⟩ (fun hHeld => ?_)
             clear hK K
             refine nm 44 ?_
             refine pk 19 9 (bz 20 1048575) HT_ ?_
             refine done_ (done_of HT_.out (by kernel_rfl)) ?_
             try go_wp2
             go_roundg k2
             case measure => have := HK1.out;have := HK2.out;omega
             case rel => exact ⟨(y265),(wrap64 (x10_2 + 1)),(by first|rfl|(simp;done)|(simp [*];done)),H',⟨by have := HK1.out;have := HK2.out;omega⟩,⟨by (with_reducible repeat (first|apply Kd.S_alloc|apply Kd.S_drewN|apply Kd.S_drew));exact Kd.S_mono HO_7.out (fun _ hk => hk.2)⟩,⟨by (with_reducible repeat (first|apply Kd.R_alloc|apply Kd.R_drewN|apply Kd.R_drew));exact HO267.out⟩,⟨bb HB⟩⟩
            ·rw [if_neg c12] at H
             exact absurd H (by simp)
           ·rw [if_neg c10] at H
            exact absurd H (by simp)
          ·rw [if_neg c9] at H
           exact absurd H (by simp)
         ·rw [if_neg c8] at H
          exact absurd H (by simp)
        ·rw [if_neg c7] at H
         have c7b0 : decide (x10_2 < ((rd_L1 l1 x8_1).length : Int)) = false := decide_eq_false c7
         clear c7
         by_cases c15 : x7_1.length < 5864062014805
         ·rw [if_pos c15] at H
          have LMc15 := am c15
          clear c15
          obtain ⟨y268,hy268⟩ : ∃ y_ : List (List Int),y_ = (x7_1 ++ [x9_2]) := ⟨_,rfl⟩
          replace H : (privityref09_Add.l0 k2 a0 l1 l2 y268 (wrap64 (x8_1 + 1))) = some r := by first|(rw [hy268];with_reducible exact H)|(have H2_ := (Option.bind_some _ _).symm.trans H;rw [hy268];with_reducible exact H2_)|(have H2_ := (Option.bind_some _ _).symm.trans H;with_reducible exact H2_)|with_reducible exact H|(rw [hy268];exact H)|exact H
          have Ny268 := am hy268
          clear hy268
          have H' := am H
          clear H
          have p259 : 0 ≤ (x8_1 : Int) := od
          have q259 : x8_1 < (l1.length : Int) := od
          obtain ⟨ad259,A259_0,c259_0,e259,hx259_0,hl259_0,hi259_0⟩ := at_L1 HR1.out x8_1 p259 q259
          cases e259
          replace hx259_0 := (HB.out.cell (World.block_lt_of_cell? w _ hx259_0)).trans hx259_0
          have HR259_0 := am hi259_0
          have HC259_0 := am hl259_0
          clear hi259_0 hl259_0
          replace p259 := eq_true p259
          replace q259 := eq_true q259
          obtain ⟨Ao17,co17,eo17⟩ := Kd.R_slice HO_9.out
          subst eo17
          go_wp2_with (first|((with_reducible refine gate_builtin (b := .append) (xs := #[.tmp 45,.tmp 47]) rfl ?_);at_builtin;refine Kd.S_append (Kd.slice 22 (Kd.int .u64)) (w0 := w) w.heap.size rfl (.tmp 45) (.tmp 47) 26 41 (.slice none 0 0) 24 rfl Try.underlying26 info41 rfl (by decide) (by omega) u7 x7_1 x9_2 [.slice Ao17 x9_2.length co17] (fun _ => True) (fun k_ => some k_ = (.slice Ao17 x9_2.length co17 : Value).ownBlock) rfl rfl ?aP (fun k_ hk_ => ((Kd.R_mono (ok' := fun k_ => ((fun _ => True)) k_ ∧ some k_ ≠ (u7 : Value).ownBlock) (Kd.R_apart' (HO_9.out) (Kd.S_typed HO_7.out) (by decide)) (fun k_ hk => ⟨trivial,hk.2⟩))).1 k_ hk_.symm) ?aF ?aO ?aB ?aS ?aL ?_;(case aP => exact Kd.M_row (Kd.R_mono (Kd.R_tight rfl (Kd.R_mono (ok' := fun k_ => ((fun _ => True)) k_ ∧ some k_ ≠ (u7 : Value).ownBlock) (Kd.R_apart' (HO_9.out) (Kd.S_typed HO_7.out) (by decide)) (fun k_ hk => ⟨trivial,hk.2⟩))) (fun _ h_ => h_)));(case aB => exact (bb HB));(case aF => exact (fun _ _ => trivial));(case aO => exact (by (with_reducible repeat (first|apply Kd.S_alloc|apply Kd.S_drewN|apply Kd.S_drew));exact Kd.S_mono HO_7.out (fun k_ hk => ⟨trivial,fun e_ => hk e_⟩)));(case aS => exact (below_size (bb HB)));(case aL => have := LMc15.out;omega);intro v269 w16 ho hb hg hat;rw [← Ny268.out] at ho;have n0_ := am (hb);have n1_ := am (ho);clear HB HO_7 HO_9;have HB := n0_;have HO270 := n1_;clear n0_ n1_;clear ho hb hg hat))
          go_roundg k2
          case measure => have := HK1.out;have := HK2.out;omega
          case rel => exact ⟨(y268),(wrap64 (x8_1 + 1)),(by first|rfl|(simp;done)|(simp [*];done)),H',⟨by have := HK1.out;have := HK2.out;omega⟩,⟨by (with_reducible repeat (first|apply Kd.S_alloc|apply Kd.S_drewN|apply Kd.S_drew));exact HO270.out⟩,⟨bb HB⟩⟩
         ·rw [if_neg c15] at H
          exact absurd H (by simp)
       ·rw [if_neg c6] at H
        exact absurd H (by simp)
      ·rw [if_neg c5] at H
       exact absurd H (by simp)
   ·rw [if_neg c4] at H
    have c4b0 : decide (x8_1 < (l1.length : Int)) = false := decide_eq_false c4
    clear c4
    obtain rfl := Option.some.inj H
    go_wp2
    go_ret
    exact ⟨_,by first|rfl|(simp [errW_none,errW_some] <;> rfl)|(simp [*,errW_none,errW_some] <;> rfl),by (with_reducible repeat (first|apply Kd.S_alloc|apply Kd.S_drewN|apply Kd.S_drew));exact HO_7.out,bb HB⟩
def privityref01_Mul.l0 : Nat → Int → Int → Int → Int → Option (Int)
 | 0,_,_,_,_ => none
 | k + 1,x0,x1,x2,x7 => if x2 > 0 then (if (Int.tmod x2 2) = 1 then (if x0 = 0 then (none) else (privityref01_Mul.l0 k x0 (Int.tmod (IntKind.u64.wrap (x1 + x1)) x0) (IntKind.u64.wrap (Int.tdiv x2 2)) (Int.tmod (IntKind.u64.wrap (x7 + x1)) x0))) else (if x0 = 0 then (none) else (privityref01_Mul.l0 k x0 (Int.tmod (IntKind.u64.wrap (x1 + x1)) x0) (IntKind.u64.wrap (Int.tdiv x2 2)) x7))) else (some x7)
def privityref01_Mul.f (k : Nat) (a0 : Int) (a1 : Int) (a2 : Int) : Option (Int) := privityref01_Mul.l0 k a0 a1 a2 0
theorem privityref01_Mul.mono_l : ∀ k,(∀ y0 y1 y2 y3,LeO (privityref01_Mul.l0 k y0 y1 y2 y3) (privityref01_Mul.l0 (k + 1) y0 y1 y2 y3))
 | 0 => fun _ _ _ _ r h => by simp [privityref01_Mul.l0] at h
 | k + 1 => by
  have ih0 := privityref01_Mul.mono_l k
  ·intro y0 y1 y2 y3
   unfold privityref01_Mul.l0
   repeat' first
   | (with_reducible exact ih0 _ _ _ _)
   | (with_reducible exact LeO.refl _)
   | (with_reducible exact LeO.none _)
   | (with_reducible refine LeO.ite ?_ ?_)
   | (with_reducible refine LeO.bind ?_ (fun _ => ?_))
   | exact ih0 _ _ _ _
   | exact LeO.none _
   | refine LeO.ite ?_ ?_
   | refine LeO.bind ?_ (fun _ => ?_)
set_option maxHeartbeats 8000000 in
set_option maxRecDepth 100000 in
theorem privityref01_Mul.calls (k : Nat) (a0 : Int) (a1 : Int) (a2 : Int) (r : Int) (w : World) (h : privityref01_Mul.f k a0 a1 a2 = some r) :
  Calls Try.prog 36 #[.int .u64 a0,.int .u64 a1,.int .u64 a2] w fun e w' => e = .returned (.int .u64 r) ∧ Drawn0 w w' := by
 have H : (privityref01_Mul.l0 k a0 a1 a2 0) = some r := h
 clear h
 have H' := am H
 clear H
 go_enter Try.func36,Try.ntmps36
 go_wp2
 go_loopg [1,2,7] k (fun kq v1 v2 v7 w' => ∃ (x1_1 : Int) (x2_1 : Int) (x7_1 : Int),v1 = .int .u64 x1_1 ∧ v2 = .int .u64 x2_1 ∧ v7 = .int .u64 x7_1 ∧ Aside0 (privityref01_Mul.l0 kq a0 x1_1 x2_1 x7_1 = some r) ∧ Aside0 (kq ≤ k) ∧ Drawn0 w w')
 case atStart => exact ⟨(a1),(a2),(0),(by first|rfl|(simp;done)|(simp [*];done)),(by first|rfl|(simp;done)|(simp [*];done)),(by first|rfl|(simp;done)|(simp [*];done)),H',⟨Nat.le_refl _⟩,by repeat (first|exact Drawn0.refl _|apply Drawn0.step)⟩
 case round =>
  clear H'
  try clear p2
  try clear c3
  obtain ⟨x1_1,x2_1,x7_1,rfl,rfl,rfl,HA,HK1,⟨m1,rfl⟩⟩ := hrel
  cases gk with
  | zero => exact absurd HA.out (by simp [privityref01_Mul.l0])
  | succ k1 =>
   have H := HA.out
   clear HA
   simp only [privityref01_Mul.l0] at H
   by_cases c4 : x2_1 > 0
   ·rw [if_pos c4] at H
    have c4b0 : decide (0 < x2_1) = true := decide_eq_true c4
    clear c4
    by_cases c5 : (Int.tmod x2_1 2) = 1
    ·rw [if_pos c5] at H
     have c5b0 : ((Int.tmod x2_1 2) == 1) = true := beq_iff_eq.mpr c5
     have c5b1 : ((Int.tmod x2_1 2) != 1) = false := bne_eq_false_iff_eq.mpr c5
     clear c5
     by_cases c6 : a0 = 0
     ·rw [if_pos c6] at H
      exact absurd H (by simp)
     ·rw [if_neg c6] at H
      have c6b0 : (a0 == 0) = false := beq_eq_false_iff_ne.mpr c6
      have c6b1 : (a0 != 0) = true := bne_iff_ne.mpr c6
      have H' := am H
      clear H
      go_wp2
      go_roundg k1
      case measure => have := HK1.out;omega
      case rel => exact ⟨(Int.tmod (IntKind.u64.wrap (x1_1 + x1_1)) a0),(IntKind.u64.wrap (Int.tdiv x2_1 2)),(Int.tmod (IntKind.u64.wrap (x7_1 + x1_1)) a0),(by first|rfl|(simp;done)|(simp [*];done)),(by first|rfl|(simp;done)|(simp [*];done)),(by first|rfl|(simp;done)|(simp [*];done)),H',⟨by have := HK1.out;omega⟩,by repeat (first|exact Drawn0.refl _|apply Drawn0.step)⟩
    ·rw [if_neg c5] at H
     have c5b0 : ((Int.tmod x2_1 2) == 1) = false := beq_eq_false_iff_ne.mpr c5
     have c5b1 : ((Int.tmod x2_1 2) != 1) = true := bne_iff_ne.mpr c5
     by_cases c7 : a0 = 0
     ·rw [if_pos c7] at H
      exact absurd H (by simp)
     ·rw [if_neg c7] at H
      have c7b0 : (a0 == 0) = false := beq_eq_false_iff_ne.mpr c7
      have c7b1 : (a0 != 0) = true := bne_iff_ne.mpr c7
      have H' := am H
      clear H
      go_wp2
      go_roundg k1
      case measure => have := HK1.out;omega
      case rel => exact ⟨(Int.tmod (IntKind.u64.wrap (x1_1 + x1_1)) a0),(IntKind.u64.wrap (Int.tdiv x2_1 2)),(x7_1),(by first|rfl|(simp;done)|(simp [*];done)),(by first|rfl|(simp;done)|(simp [*];done)),(by first|rfl|(simp;done)|(simp [*];done)),H',⟨by have := HK1.out;omega⟩,by repeat (first|exact Drawn0.refl _|apply Drawn0.step)⟩
   ·rw [if_neg c4] at H
    have c4b0 : decide (0 < x2_1) = false := decide_eq_false c4
    clear c4
    obtain rfl := Option.some.inj H
    go_wp2
    go_ret
    exact ⟨by first|rfl|(simp;done)|(simp [*];done),by repeat (first|exact Drawn0.refl _|apply Drawn0.step)⟩
mutual
def privityref09_Scale.l0 : Nat → Int → Int → List (List Int) → List (List Int) → Int → Option ((List (List Int)))
 | 0,_,_,_,_,_ => none
 | k + 1,x0,x1,x2,x7,x8 => if x8 < (x2.length : Int) then (privityref09_Scale.l1 k x0 x1 x2 x7 x8 ([] : List Int) 0) else (some x7)
def privityref09_Scale.l1 : Nat → Int → Int → List (List Int) → List (List Int) → Int → List Int → Int → Option ((List (List Int)))
 | 0,_,_,_,_,_,_,_ => none
 | k + 1,x0,x1,x2,x7,x8,x9,x10 => if 0 ≤ x8 then (if x8 < (x2.length : Int) then (if x10 < ((rd_L1 x2 x8).length : Int) then (if 0 ≤ x10 then ((privityref01_Mul.f k x0 x1 (rd (rd_L1 x2 x8) x10)).bind fun t274 => (if x9.length < 17592186044416 then (privityref09_Scale.l1 k x0 x1 x2 x7 x8 (x9 ++ [t274]) (wrap64 (x10 + 1))) else (none))) else (none)) else (if x7.length < 5864062014805 then (privityref09_Scale.l0 k x0 x1 x2 (x7 ++ [x9]) (wrap64 (x8 + 1))) else (none))) else (none)) else (none)
end
def privityref09_Scale.f (k : Nat) (a0 : Int) (a1 : Int) (l2 : List (List Int)) : Option ((List (List Int))) := privityref09_Scale.l0 k a0 a1 l2 ([] : List (List Int)) 0
set_option maxHeartbeats 8000000 in
set_option maxRecDepth 100000 in
theorem privityref09_Scale.calls (k : Nat) (a0 : Int) (a1 : Int) (A2 : Option Addr) (c2 : Nat) (l2 : List (List Int)) (r : List (List Int)) (w : World) (hr2 : Kd.C (Kd.slice 22 (Kd.int .u64)) w A2 l2.length l2) (hc2 : l2.length ≤ c2) (h : privityref09_Scale.f k a0 a1 l2 = some r) :
  Calls Try.prog 16 #[.int .u64 a0,.int .u64 a1,.slice A2 l2.length c2] w fun e w' => ∃ v0_ : Value,e = .returned (v0_) ∧ Kd.S (Kd.slice 22 (Kd.int .u64)) 41 w' w.heap.size (fun _ => True) v0_ r ∧ Below w.heap.size w w' := by
 have HR2 := am hr2
 have HC2 := am hc2
 clear hr2 hc2
 have HB := am (Below.refl w.heap.size w)
 have H : (privityref09_Scale.l0 k a0 a1 l2 ([] : List (List Int)) 0) = some r := h
 clear h
 have H' := am H
 clear H
 go_enter Try.func16,Try.ntmps16
 go_wp2
 go_loopg [7,8] k (fun kq v7 v8 w' => ∃ (x7_1 : List (List Int)) (x8_1 : Int),v8 = .int .i64 x8_1 ∧ Aside0 (privityref09_Scale.l0 kq a0 a1 l2 x7_1 x8_1 = some r) ∧ Aside0 (kq ≤ k) ∧ Aside0 (Kd.S (Kd.slice 22 (Kd.int .u64)) 41 w' w.heap.size (fun _ => True) v7 x7_1) ∧ Aside0 (Below w.heap.size w w'))
 case atStart => exact ⟨(([] : List (List Int))),(0),(by first|rfl|(simp;done)|(simp [*];done)),H',⟨Nat.le_refl _⟩,⟨by first|exact Kd.S_nil _ _ _ _ _|exact Kd.N_nil _ _ _ _ _|exact Kd.V_nil _ _ _ _ _|exact Kd.Q_nil _ _ _ _ _|exact Kd.R_nil _ _ _ _ _⟩,⟨bb HB⟩⟩
 case round =>
  clear H'
  try clear c1
  try clear c2
  try clear p2
  obtain ⟨x7_1,x8_1,rfl,HA,HK1,HO_7,HB⟩ := hrel
  cases gk with
  | zero => exact absurd HA.out (by simp [privityref09_Scale.l0])
  | succ k1 =>
   have H := HA.out
   clear HA
   simp only [privityref09_Scale.l0] at H
   by_cases c4 : x8_1 < (l2.length : Int)
   ·rw [if_pos c4] at H
    have c4b0 : decide (x8_1 < (l2.length : Int)) = true := decide_eq_true c4
    clear c4
    have H' := am H
    clear H
    go_wp2
    go_loopg [9,10] k1 (fun kq v9 v10 w' => ∃ (x9_2 : List Int) (x10_2 : Int),v10 = .int .i64 x10_2 ∧ Aside0 (privityref09_Scale.l1 kq a0 a1 l2 x7_1 x8_1 x9_2 x10_2 = some r) ∧ Aside0 (kq ≤ k1) ∧ Aside0 (Kd.S (Kd.slice 22 (Kd.int .u64)) 41 w' w.heap.size (fun k_ => some k_ ≠ (v9 : Value).ownBlock) u7 x7_1) ∧ Aside0 (Kd.R (Kd.int .u64) 22 w' w.heap.size (fun _ => True) v9 x9_2) ∧ Aside0 (Below w.heap.size w w'))
    case atStart => exact ⟨(([] : List Int)),(0),(by first|rfl|(simp;done)|(simp [*];done)),H',⟨Nat.le_refl _⟩,⟨by (with_reducible repeat (first|apply Kd.S_alloc|apply Kd.S_drewN|apply Kd.S_drew));exact Kd.S_mono HO_7.out (fun _ hk => (by simp [Value.ownBlock]))⟩,⟨by first|exact Kd.R_nil _ _ _ _ _|exact Kd.N_nil _ _ _ _ _|exact Kd.V_nil _ _ _ _ _|exact Kd.Q_nil _ _ _ _ _|exact Kd.S_nil _ _ _ _ _⟩,⟨bb HB⟩⟩
    case round =>
     clear H'
     try clear c1
     try clear c2
     try clear p2
     try clear c4
     try clear c4b0
     try clear p2
     obtain ⟨x9_2,x10_2,rfl,HA,HK2,HO_7,HO_9,HB⟩ := hrel
     cases gk with
     | zero => exact absurd HA.out (by simp [privityref09_Scale.l1])
     | succ k2 =>
      have H := HA.out
      clear HA
      simp only [privityref09_Scale.l1] at H
      by_cases c5 : 0 ≤ x8_1
      ·rw [if_pos c5] at H
       have c5b0 : decide (0 ≤ x8_1) = true := decide_eq_true c5
       clear c5
       by_cases c6 : x8_1 < (l2.length : Int)
       ·rw [if_pos c6] at H
        have c6b0 : decide (x8_1 < (l2.length : Int)) = true := decide_eq_true c6
        clear c6
        by_cases c7 : x10_2 < ((rd_L1 l2 x8_1).length : Int)
        ·rw [if_pos c7] at H
         have c7b0 : decide (x10_2 < ((rd_L1 l2 x8_1).length : Int)) = true := decide_eq_true c7
         clear c7
         by_cases c8 : 0 ≤ x10_2
         ·rw [if_pos c8] at H
          have c8b0 : decide (0 ≤ x10_2) = true := decide_eq_true c8
          clear c8
          replace H := Option.bind_eq_some_iff.mp H
          obtain ⟨t274,A90,H⟩ := H
          try dsimp only at H
          have A9 := am A90
          clear A90
          by_cases c10 : x9_2.length < 17592186044416
          ·rw [if_pos c10] at H
           have LMc10 := am c10
           clear c10
           obtain ⟨y275,hy275⟩ : ∃ y_ : List Int,y_ = (x9_2 ++ [t274]) := ⟨_,rfl⟩
           replace H : (privityref09_Scale.l1 k2 a0 a1 l2 x7_1 x8_1 y275 (wrap64 (x10_2 + 1))) = some r := by first|(rw [hy275];with_reducible exact H)|(have H2_ := (Option.bind_some _ _).symm.trans H;rw [hy275];with_reducible exact H2_)|(have H2_ := (Option.bind_some _ _).symm.trans H;with_reducible exact H2_)|with_reducible exact H|(rw [hy275];exact H)|exact H
           have Ny275 := am hy275
           clear hy275
           have H' := am H
           clear H
           have p271 : 0 ≤ (x8_1 : Int) := od
           have q271 : x8_1 < (l2.length : Int) := od
           obtain ⟨ad271,A271_0,c271_0,e271,hx271_0,hl271_0,hi271_0⟩ := at_L1 HR2.out x8_1 p271 q271
           cases e271
           replace hx271_0 := (HB.out.cell (World.block_lt_of_cell? w _ hx271_0)).trans hx271_0
           have HR271_0 := am hi271_0
           have HC271_0 := am hl271_0
           clear hi271_0 hl271_0
           replace p271 := eq_true p271
           replace q271 := eq_true q271
           have p272 : 0 ≤ (x8_1 : Int) := od
           have q272 : x8_1 < (l2.length : Int) := od
           obtain ⟨ad272,A272_0,c272_0,e272,hx272_0,hl272_0,hi272_0⟩ := at_L1 HR2.out x8_1 p272 q272
           obtain rfl : ad271 = ad272 := (by injection e272)
           replace hx272_0 := (HB.out.cell (World.block_lt_of_cell? w _ hx272_0)).trans hx272_0
           have HR272_0 := am hi272_0
           have HC272_0 := am hl272_0
           clear hi272_0 hl272_0
           replace p272 := eq_true p272
           replace q272 := eq_true q272
           have ea_ := Option.some.inj (hx271_0.symm.trans hx272_0)
           injection ea_ with ea_ en_ ec_
           subst ea_
           subst ec_
           clear en_
           have p273 : 0 ≤ (x10_2 : Int) := od
           have q273 : x10_2 < ((rd_L1 l2 x8_1).length : Int) := od
           obtain ⟨ad273,e273,hx273_0⟩ := Kd.at_int HR272_0.out x10_2 p273 q273
           cases e273
           replace hx273_0 := (HB.out.cell (World.block_lt_of_cell? w _ hx273_0)).trans hx273_0
           replace p273 := eq_true p273
           replace q273 := eq_true q273
           go_wp2_with (first|((with_reducible refine gate_callee (f := 36) rfl ?_);refine goesL_ (some 36) rfl rfl Try.func36 (by kernel_rfl) rfl #[.int .u64 a0,.int .u64 a1,.int .u64 (rd (rd_L1 l2 x8_1) x10_2)] rfl (by (try simp only [List.map_toArray,List.map_cons,List.map_nil]);first|done|rfl|(simp only [List.length_drop,List.length_take];rfl)) ?_;(with_reducible refine (privityref01_Mul.calls k2 a0 a1 (rd (rd_L1 l2 x8_1) x10_2) t274 _ A9.out).mono ?_);rintro e w' ⟨rfl,⟨nd,rfl⟩⟩;refine ⟨_,rfl,?_⟩)|((with_reducible refine gate_builtin (b := .append) (xs := #[.tmp 26,.tmp 37]) rfl ?_);at_builtin;refine Kd.R_append (Kd.int .u64) (w0 := w) w.heap.size rfl (.tmp 26) (.tmp 37) 41 22 (.int .u64 0) 8 rfl Try.underlying41 info22 rfl (by decide) (by omega) u9 x9_2 t274 [.int .u64 t274] (fun _ => True) (fun _ => False) rfl rfl ?aP (fun _ hk => hk.elim) ?aF ?aO ?aB ?aS ?aL ?_;(case aP => exact rfl);(case aB => exact (bb HB));(case aF => exact (fun _ _ => trivial));(case aO => exact (rr HO_9));(case aS => exact (below_size (bb HB)));(case aL => have := LMc10.out;omega);intro v276 w11 ho hb hg hat;rw [← Ny275.out] at ho;have n0_ := am (Kd.S_after (ok := (fun _ => True)) (by (with_reducible repeat (first|apply Kd.S_alloc|apply Kd.S_drewN|apply Kd.S_drew));exact Kd.S_mono HO_7.out (fun _ hk => ⟨trivial,hk⟩)) hg hat);have n1_ := am (hb);have n2_ := am (ho);clear HO_7 HB HO_9;have HO_7 := n0_;have HB := n1_;have HO277 := n2_;clear n0_ n1_ n2_;clear ho hb hg hat))
           go_roundg k2
           case measure => have := HK1.out;have := HK2.out;omega
           case rel => exact ⟨(y275),(wrap64 (x10_2 + 1)),(by first|rfl|(simp;done)|(simp [*];done)),H',⟨by have := HK1.out;have := HK2.out;omega⟩,⟨by (with_reducible repeat (first|apply Kd.S_alloc|apply Kd.S_drewN|apply Kd.S_drew));exact Kd.S_mono HO_7.out (fun _ hk => hk.2)⟩,⟨by (with_reducible repeat (first|apply Kd.R_alloc|apply Kd.R_drewN|apply Kd.R_drew));exact HO277.out⟩,⟨bb HB⟩⟩
          ·rw [if_neg c10] at H
           exact absurd H (by simp)
         ·rw [if_neg c8] at H
          exact absurd H (by simp)
        ·rw [if_neg c7] at H
         have c7b0 : decide (x10_2 < ((rd_L1 l2 x8_1).length : Int)) = false := decide_eq_false c7
         clear c7
         by_cases c12 : x7_1.length < 5864062014805
         ·rw [if_pos c12] at H
          have LMc12 := am c12
          clear c12
          obtain ⟨y278,hy278⟩ : ∃ y_ : List (List Int),y_ = (x7_1 ++ [x9_2]) := ⟨_,rfl⟩
          replace H : (privityref09_Scale.l0 k2 a0 a1 l2 y278 (wrap64 (x8_1 + 1))) = some r := by first|(rw [hy278];with_reducible exact H)|(have H2_ := (Option.bind_some _ _).symm.trans H;rw [hy278];with_reducible exact H2_)|(have H2_ := (Option.bind_some _ _).symm.trans H;with_reducible exact H2_)|with_reducible exact H|(rw [hy278];exact H)|exact H
          have Ny278 := am hy278
          clear hy278
          have H' := am H
          clear H
          have p271 : 0 ≤ (x8_1 : Int) := od
          have q271 : x8_1 < (l2.length : Int) := od
          obtain ⟨ad271,A271_0,c271_0,e271,hx271_0,hl271_0,hi271_0⟩ := at_L1 HR2.out x8_1 p271 q271
          cases e271
          replace hx271_0 := (HB.out.cell (World.block_lt_of_cell? w _ hx271_0)).trans hx271_0
          have HR271_0 := am hi271_0
          have HC271_0 := am hl271_0
          clear hi271_0 hl271_0
          replace p271 := eq_true p271
          replace q271 := eq_true q271
          obtain ⟨Ao14,co14,eo14⟩ := Kd.R_slice HO_9.out
          subst eo14
          go_wp2_with (first|((with_reducible refine gate_builtin (b := .append) (xs := #[.tmp 39,.tmp 41]) rfl ?_);at_builtin;refine Kd.S_append (Kd.slice 22 (Kd.int .u64)) (w0 := w) w.heap.size rfl (.tmp 39) (.tmp 41) 26 41 (.slice none 0 0) 24 rfl Try.underlying26 info41 rfl (by decide) (by omega) u7 x7_1 x9_2 [.slice Ao14 x9_2.length co14] (fun _ => True) (fun k_ => some k_ = (.slice Ao14 x9_2.length co14 : Value).ownBlock) rfl rfl ?aP (fun k_ hk_ => ((Kd.R_mono (ok' := fun k_ => ((fun _ => True)) k_ ∧ some k_ ≠ (u7 : Value).ownBlock) (Kd.R_apart' (HO_9.out) (Kd.S_typed HO_7.out) (by decide)) (fun k_ hk => ⟨trivial,hk.2⟩))).1 k_ hk_.symm) ?aF ?aO ?aB ?aS ?aL ?_;(case aP => exact Kd.M_row (Kd.R_mono (Kd.R_tight rfl (Kd.R_mono (ok' := fun k_ => ((fun _ => True)) k_ ∧ some k_ ≠ (u7 : Value).ownBlock) (Kd.R_apart' (HO_9.out) (Kd.S_typed HO_7.out) (by decide)) (fun k_ hk => ⟨trivial,hk.2⟩))) (fun _ h_ => h_)));(case aB => exact (bb HB));(case aF => exact (fun _ _ => trivial));(case aO => exact (by (with_reducible repeat (first|apply Kd.S_alloc|apply Kd.S_drewN|apply Kd.S_drew));exact Kd.S_mono HO_7.out (fun k_ hk => ⟨trivial,fun e_ => hk e_⟩)));(case aS => exact (below_size (bb HB)));(case aL => have := LMc12.out;omega);intro v279 w13 ho hb hg hat;rw [← Ny278.out] at ho;have n0_ := am (hb);have n1_ := am (ho);clear HB HO_7 HO_9;have HB := n0_;have HO280 := n1_;clear n0_ n1_;clear ho hb hg hat))
          go_roundg k2
          case measure => have := HK1.out;have := HK2.out;omega
          case rel => exact ⟨(y278),(wrap64 (x8_1 + 1)),(by first|rfl|(simp;done)|(simp [*];done)),H',⟨by have := HK1.out;have := HK2.out;omega⟩,⟨by (with_reducible repeat (first|apply Kd.S_alloc|apply Kd.S_drewN|apply Kd.S_drew));exact HO280.out⟩,⟨bb HB⟩⟩
         ·rw [if_neg c12] at H
          exact absurd H (by simp)
       ·rw [if_neg c6] at H
        exact absurd H (by simp)
      ·rw [if_neg c5] at H
       exact absurd H (by simp)
   ·rw [if_neg c4] at H
    have c4b0 : decide (x8_1 < (l2.length : Int)) = false := decide_eq_false c4
    clear c4
    obtain rfl := Option.some.inj H
    go_wp2
    go_ret
    exact ⟨_,by first|rfl|(simp [errW_none,errW_some] <;> rfl)|(simp [*,errW_none,errW_some] <;> rfl),by (with_reducible repeat (first|apply Kd.S_alloc|apply Kd.S_drewN|apply Kd.S_drew));exact HO_7.out,bb HB⟩
def privityref09_Sub.f (k : Nat) (a0 : Int) (l1 : List (List Int)) (l2 : List (List Int)) : Option ((List (List Int))) := (privityref09_Scale.f k a0 (IntKind.u64.wrap (a0 - 1)) l2).bind fun t281 => ((privityref09_Add.f k a0 l1 t281).bind fun t284 => (some t284))
set_option maxHeartbeats 8000000 in
set_option maxRecDepth 100000 in
theorem privityref09_Sub.calls (k : Nat) (a0 : Int) (A1 : Option Addr) (c1 : Nat) (l1 : List (List Int)) (A2 : Option Addr) (c2 : Nat) (l2 : List (List Int)) (r : List (List Int)) (w : World) (hr1 : Kd.C (Kd.slice 22 (Kd.int .u64)) w A1 l1.length l1) (hc1 : l1.length ≤ c1) (hr2 : Kd.C (Kd.slice 22 (Kd.int .u64)) w A2 l2.length l2) (hc2 : l2.length ≤ c2) (h : privityref09_Sub.f k a0 l1 l2 = some r) :
  Calls Try.prog 14 #[.int .u64 a0,.slice A1 l1.length c1,.slice A2 l2.length c2] w fun e w' => ∃ v0_ : Value,e = .returned (v0_) ∧ Kd.S (Kd.slice 22 (Kd.int .u64)) 41 w' w.heap.size (fun _ => True) v0_ r ∧ Below w.heap.size w w' := by
 have HR1 := am hr1
 have HC1 := am hc1
 clear hr1 hc1
 have HR2 := am hr2
 have HC2 := am hc2
 clear hr2 hc2
 have HB := am (Below.refl w.heap.size w)
 have H : ((privityref09_Scale.f k a0 (IntKind.u64.wrap (a0 - 1)) l2).bind fun t281 => ((privityref09_Add.f k a0 l1 t281).bind fun t284 => (some t284))) = some r := h
 clear h
 replace H := Option.bind_eq_some_iff.mp H
 obtain ⟨t281,A40,H⟩ := H
 try dsimp only at H
 have A4 := am A40
 clear A40
 replace H := Option.bind_eq_some_iff.mp H
 obtain ⟨t284,A50,H⟩ := H
 try dsimp only at H
 have A5 := am A50
 clear A50
 obtain rfl := Option.some.inj H
 go_enter Try.func14,Try.ntmps14
 go_wp2_with (first|((with_reducible refine gate_callee (f := 16) rfl ?_);refine goesL_ (some 13) rfl rfl Try.func16 (by kernel_rfl) rfl #[.int .u64 a0,.int .u64 (IntKind.u64.wrap (a0 - 1)),.slice A2 l2.length c2] rfl (by (try simp only [List.map_toArray,List.map_cons,List.map_nil]);first|done|rfl|(simp only [List.length_drop,List.length_take];rfl)) ?_;(with_reducible refine (privityref09_Scale.calls k a0 (IntKind.u64.wrap (a0 - 1)) _ _ l2 t281 _ ?side1 ?side2 A4.out).mono ?_);(case side1 => repeat (first|exact HR2.out|(with_reducible refine Kd.C_alloc ?_ _)|(with_reducible refine Kd.C_drewN ?_ _)|(with_reducible refine Kd.C_drew ?_)));(case side2 => exact HC2.out);rintro e w6 ⟨v282,rfl,ho0,hb⟩;refine ⟨_,rfl,?_⟩;have n0_ := am (Kd.S_lower ho0 (below_size (bb HB)));have n1_ := am (below_step (bb HB) hb);clear HB;have HO283 := n0_;have HB := n1_;clear n0_ n1_;(try clear hb);(try clear hb2);(try clear hk);(try clear hi);(try clear ho0);obtain ⟨Ao7,co7,eo7⟩ := Kd.S_slice HO283.out;subst eo7)|((with_reducible refine gate_callee (f := 12) rfl ?_);refine goesL_ (some 14) rfl rfl Try.func12 (by kernel_rfl) rfl #[.int .u64 a0,.slice A1 l1.length c1,.slice Ao7 t281.length co7] rfl (by (try simp only [List.map_toArray,List.map_cons,List.map_nil]);first|done|rfl|(simp only [List.length_drop,List.length_take];rfl)) ?_;(with_reducible refine (privityref09_Add.calls k a0 _ _ l1 _ _ t281 t284 _ ?side1 ?side2 ?side3 ?side4 A5.out).mono ?_);(case side1 => exact cb HR1 HB);(case side2 => exact HC1.out);(case side3 => repeat (first|exact (Kd.S_reads' HO283.out).2.2|(with_reducible refine Kd.C_alloc ?_ _)|(with_reducible refine Kd.C_drewN ?_ _)|(with_reducible refine Kd.C_drew ?_)));(case side4 => exact (Kd.S_reads' HO283.out).2.1);rintro e w8 ⟨v285,rfl,ho0,hb⟩;refine ⟨_,rfl,?_⟩;have n0_ := am (Kd.S_elder' (by (with_reducible repeat (first|apply Kd.S_alloc|apply Kd.S_drewN|apply Kd.S_drew));exact HO283.out) (Kd.S_base ho0) hb);have n1_ := am (Kd.S_lower (Kd.S_new' ho0 (Kd.S_lt (by (with_reducible repeat (first|apply Kd.S_alloc|apply Kd.S_drewN|apply Kd.S_drew));exact HO283.out))) (below_size (bb HB)));have n2_ := am (below_step (bb HB) hb);clear HO283 HB;have HO283 := n0_;have HO286 := n1_;have HB := n2_;clear n0_ n1_ n2_;(try clear hb);(try clear hb2);(try clear hk);(try clear hi);(try clear ho0)))
 go_ret
 exact ⟨_,by first|rfl|(simp [errW_none,errW_some] <;> rfl)|(simp [*,errW_none,errW_some] <;> rfl),by (with_reducible repeat (first|apply Kd.S_alloc|apply Kd.S_drewN|apply Kd.S_drew));exact Kd.S_mono HO286.out (fun _ hk => trivial),bb HB⟩
def privityref09_Constant.l0 : Nat → Int → List (List Int) → Int → Int → Int → Int → Option ((List (List Int)))
 | 0,_,_,_,_,_,_ => none
 | k + 1,x1,x5,x6,x288000,x288001,x288002 => if x6 < x288001 then (if 0 ≤ (wrap64 (x288002 + 1)) then (if (wrap64 (x288002 + 1) : Int).toNat ≤ 35184372088832 then ((some (List.replicate (wrap64 (x288002 + 1) : Int).toNat 0 : List Int)).bind fun y288 => (if 0 < (y288.length : Int) then (if x5.length < 5864062014805 then (privityref09_Constant.l0 k x1 (x5 ++ [(y288.set (0 : Int).toNat x1)]) (wrap64 (x6 + 1)) x288000 x288001 x288002) else (none)) else (none))) else (none)) else (none)) else (some x5)
def privityref09_Constant.f (k : Nat) (a0_0 : Int) (a0_1 : Int) (a0_2 : Int) (a1 : Int) : Option ((List (List Int))) := privityref09_Constant.l0 k a1 ([] : List (List Int)) 0 a0_0 a0_1 a0_2
set_option maxHeartbeats 8000000 in
set_option maxRecDepth 100000 in
theorem privityref09_Constant.calls (k : Nat) (a0_0 : Int) (a0_1 : Int) (a0_2 : Int) (a1 : Int) (r : List (List Int)) (w : World) (h : privityref09_Constant.f k a0_0 a0_1 a0_2 a1 = some r) :
  Calls Try.prog 18 #[.agg #[.int .u64 a0_0,.int .i64 a0_1,.int .i64 a0_2],.int .u64 a1] w fun e w' => ∃ v0_ : Value,e = .returned (v0_) ∧ Kd.S (Kd.slice 22 (Kd.int .u64)) 41 w' w.heap.size (fun _ => True) v0_ r ∧ Below w.heap.size w w' := by
 have hu24 := Try.underlying24
 have HB := am (Below.refl w.heap.size w)
 have H : (privityref09_Constant.l0 k a1 ([] : List (List Int)) 0 a0_0 a0_1 a0_2) = some r := h
 clear h
 have H' := am H
 clear H
 go_enter Try.func18,Try.ntmps18
 go_wp2_with (first|((with_reducible refine gate_dst (N := 2) rfl ?_);refine box_event ?hg (N := 2) ?hd (cs := #[.int .u64 a0_0,.int .i64 a0_1,.int .i64 a0_2]) (t := 24) ?hr ?_;(case hd => rfl);(case hg => rfl);(case hr => first|(go_simp;done)|(go_simp;rfl));intro gb287 hg w3 hbox hb;have n0_ := am (below_step (bb HB) hb);have n1_ := am (hbox);have n2_ := am ((by rw [hg];exact (below_size (bb HB)) : w.heap.size ≤ gb287));have n3_ := am ((by rw [hg];exact (below_size (bb HB)) : w.heap.size ≤ gb287));clear HB;have HB := n0_;have BK287 := n1_;have GW287 := n2_;have GE287 := n3_;clear n0_ n1_ n2_ n3_;clear hb hbox hg))
 go_loopg [5,6] k (fun kq v5 v6 w' => ∃ (x5_1 : List (List Int)) (x6_1 : Int),v6 = .int .i64 x6_1 ∧ Aside0 (privityref09_Constant.l0 kq a1 x5_1 x6_1 a0_0 a0_1 a0_2 = some r) ∧ Aside0 (kq ≤ k) ∧ Aside0 (Kd.S (Kd.slice 22 (Kd.int .u64)) 41 w' w.heap.size (fun _ => True) v5 x5_1) ∧ Aside0 (w'.heap[gb287]? = some (.cells #[.int .u64 a0_0,.int .i64 a0_1,.int .i64 a0_2] 24 (0,0))) ∧ Aside0 (Below w.heap.size w w'))
 case atStart => exact ⟨(([] : List (List Int))),(0),(by first|rfl|(simp;done)|(simp [*];done)),H',⟨Nat.le_refl _⟩,⟨by first|exact Kd.S_nil _ _ _ _ _|exact Kd.N_nil _ _ _ _ _|exact Kd.V_nil _ _ _ _ _|exact Kd.Q_nil _ _ _ _ _|exact Kd.R_nil _ _ _ _ _⟩,⟨kx BK287⟩,⟨bg HB GE287⟩⟩
 case round =>
  clear H'
  try clear c1
  try clear p2
  obtain ⟨x5_1,x6_1,rfl,HA,HK1,HO_5,BK287,HB⟩ := hrel
  cases gk with
  | zero => exact absurd HA.out (by simp [privityref09_Constant.l0])
  | succ k1 =>
   have H := HA.out
   clear HA
   simp only [privityref09_Constant.l0] at H
   by_cases c4 : x6_1 < a0_1
   ·rw [if_pos c4] at H
    have c4b0 : decide (x6_1 < a0_1) = true := decide_eq_true c4
    clear c4
    obtain ⟨ji5,hji5⟩ : ∃ j_ : Int,(wrap64 (a0_2 + 1)) = j_ := ⟨_,rfl⟩
    first|rw [hji5] at H|simp only [hji5] at H
    have hji5w : (IntKind.i64.wrap (a0_2 + 1)) = ji5 := (i64_w _).trans hji5
    by_cases c6 : 0 ≤ (ji5)
    ·rw [if_pos c6] at H
     have c6b0 := eq_true c6
     have c6b1 : decide (0 ≤ (ji5)) = true := decide_eq_true c6
     clear c6
     by_cases c7 : (ji5 : Int).toNat ≤ 35184372088832
     ·rw [if_pos c7] at H
      have c7b0 := eq_true c7
      have c7b1 : decide ((ji5 : Int).toNat ≤ 35184372088832) = true := decide_eq_true c7
      clear c7
      obtain ⟨y288,hy288⟩ : ∃ y_ : List Int,y_ = (List.replicate (ji5 : Int).toNat 0) := ⟨_,rfl⟩
      replace H : (if 0 < (y288.length : Int) then (if x5_1.length < 5864062014805 then (privityref09_Constant.l0 k1 a1 (x5_1 ++ [(y288.set (0 : Int).toNat a1)]) (wrap64 (x6_1 + 1)) a0_0 a0_1 a0_2) else (none)) else (none)) = some r := by first|(rw [hy288];with_reducible exact H)|(have H2_ := (Option.bind_some _ _).symm.trans H;rw [hy288];with_reducible exact H2_)|(have H2_ := (Option.bind_some _ _).symm.trans H;with_reducible exact H2_)|with_reducible exact H|(rw [hy288];exact H)|exact H
      have Ny288 := am hy288
      clear hy288
      by_cases c8 : 0 < (y288.length : Int)
      ·rw [if_pos c8] at H
       have c8b0 : decide (0 < (y288.length : Int)) = true := decide_eq_true c8
       have c8b1 : decide (0 < y288.length) = true := decide_eq_true (by omega)
       clear c8
       obtain ⟨y291,hy291⟩ : ∃ y_ : List Int,y_ = (y288.set (0 : Int).toNat a1) := ⟨_,rfl⟩
       replace H : (if x5_1.length < 5864062014805 then (privityref09_Constant.l0 k1 a1 (x5_1 ++ [y291]) (wrap64 (x6_1 + 1)) a0_0 a0_1 a0_2) else (none)) = some r := by first|(rw [hy291];with_reducible exact H)|(have H2_ := (Option.bind_some _ _).symm.trans H;rw [hy291];with_reducible exact H2_)|(have H2_ := (Option.bind_some _ _).symm.trans H;with_reducible exact H2_)|with_reducible exact H|(rw [hy291];exact H)|exact H
       have Ny291 := am hy291
       clear hy291
       by_cases c10 : x5_1.length < 5864062014805
       ·rw [if_pos c10] at H
        have LMc10 := am c10
        clear c10
        obtain ⟨y292,hy292⟩ : ∃ y_ : List (List Int),y_ = (x5_1 ++ [y291]) := ⟨_,rfl⟩
        replace H : (privityref09_Constant.l0 k1 a1 y292 (wrap64 (x6_1 + 1)) a0_0 a0_1 a0_2) = some r := by first|(rw [hy292];with_reducible exact H)|(have H2_ := (Option.bind_some _ _).symm.trans H;rw [hy292];with_reducible exact H2_)|(have H2_ := (Option.bind_some _ _).symm.trans H;with_reducible exact H2_)|with_reducible exact H|(rw [hy292];exact H)|exact H
        have Ny292 := am hy292
        clear hy292
        have H' := am H
        clear H
        have hcz11_0 := bc BK287 0
        have hcz11_1 := bc BK287 1
        have hcz11_2 := bc BK287 2
        have hfz11_0 := bf BK287 0
        have hfz11_1 := bf BK287 1
        have hfz11_2 := bf BK287 2
        go_wp2_with (first|((with_reducible refine gate_dst (N := 17) rfl ?_);refine Kd.R_make (Kd.int .u64) _ 22 rfl (N := 17) rfl 41 _ _ rfl ji5 rfl rfl Try.underlying41 (.int .u64 0) 8 info22 rfl (by decide) (by omega) 0 (ok := fun _ => True) (okp := fun _ => True) rfl (fun _ hk => hk) trivial (od) (Nat.le_trans (Nat.mul_le_mul_right _ (od : ji5.toNat ≤ 35184372088832)) (by omega)) (Below.refl _ _) (Nat.le_refl _) ?_;intro v289 w12 ho13 hb hg_ hnew_;clear hg_ hnew_;(first|rw [← Ny288.out] at ho13|(simp only [Int.reduceToNat] at ho13;rw [← Ny288.out] at ho13));have n0_ := am (Kd.S_elder' (by (with_reducible repeat (first|apply Kd.S_alloc|apply Kd.S_drewN|apply Kd.S_drew));exact HO_5.out) (Kd.R_base ho13) hb);have n1_ := am (Kd.R_lower ho13 (below_size (bg HB GE287)));have n2_ := am (kb BK287 hb);have n3_ := am (below_step (bg HB GE287) hb);clear HO_5 BK287 HB;have HO_5 := n0_;have HO290 := n1_;have BK287 := n2_;have HB := n3_;clear n0_ n1_ n2_ n3_;clear hb ho13;have p9 : 0 ≤ (0 : Int) := (by omega);have q9 : (0 : Int) < ((y288.length : Int) : Int) := od;have qi9 : (0 < y288.length) = True := eq_true (by omega);obtain ⟨go9,co9,eo9,gb9,gl9,cl9,HG9⟩ := Kd.R_form HO290.out (by omega);(first|cases eo9|(injection eo9 with ea_ en_ ec_;(first|subst ea_|(injection ea_ with ea_;subst ea_));subst ec_;clear en_));have GB9 := am gb9;have GG9 := am HG9;clear gb9 gl9 HG9;obtain ⟨hx9_0,hf9_0⟩ := Kd.R_celln 0 HO290.out (0 : Int) p9 q9;(try rw [show ((0 : Int)).toNat = 0 from rfl] at hx9_0);(try simp only [Nat.reduceMul,Nat.zero_mul,Nat.zero_add,Nat.reduceAdd] at hx9_0);(try rw [show ((0 : Int)).toNat = 0 from rfl] at hf9_0);(try simp only [Nat.reduceMul,Nat.zero_mul,Nat.zero_add,Nat.reduceAdd] at hf9_0);replace p9 := eq_true p9;replace q9 := eq_true q9;obtain ⟨hy14_,hz14_⟩ := Kd.R_celln 0 HO290.out (0 : Int) (by omega) (od);(try simp only [Int.reduceToNat,Int.toNat_zero,Int.toNat_ofNat,Nat.reduceMul,Nat.zero_mul,Nat.zero_add] at hy14_ hz14_);(try rw [show ((0 : Int)).toNat = 0 from rfl] at hy14_);(try rw [show ((0 : Int)).toNat = 0 from rfl] at hz14_);have HP14 := Kd.R_putg HO290.out (0 : Int) a1)|((with_reducible refine gate_store (t := 22) (p := 20) rfl ?_);refine store_event (t := 22) (p := 20) (v := ?vo_w15) (w1 := (w12.setCell ⟨go9,(0 : Int).toNat,none⟩ (.int .u64 a1))) ?hg ?ho ?hn ?hr ?_;(case ho => rfl);(case hg => rfl);(case hn => rfl);(case hr => first|(go_simp;done)|(go_simp;rfl));intro w15 hw;have hg : w12.grownBy w15 (some go9) := (by rw [hw];exact HP14.2);have hp_ : Kd.R (Kd.int .u64) 22 w15 w.heap.size (fun _ => True) (.slice (some ⟨go9,0,none⟩) y288.length co9) y291 := (by rw [hw,Ny291.out];exact HP14.1);clear HP14;have n0_ := am (Kd.S_after (v := (.slice (some ⟨go9,0,none⟩) y288.length co9)) (v1 := (.slice (some ⟨go9,0,none⟩) y288.length co9)) (ok := (fun _ => True)) (by (with_reducible repeat (first|apply Kd.S_alloc|apply Kd.S_drewN|apply Kd.S_drew));exact HO_5.out) hg (.inl rfl));have n1_ := am (blk_grown (g := gb287) (o := .cells #[.int .u64 a0_0,.int .i64 a0_1,.int .i64 a0_2] 24 (0,0)) (by (with_reducible repeat (first|refine blk_drewN ?_ _|refine blk_drew ?_|refine blk_alloc ?_ _));exact BK287.out) hg (Kd.R_ne HO290.out BK287.out (by decide)));have n2_ := am (hp_);have n3_ := am ((by rw [hw];exact below_set (HB.out) GB9.out : Below w.heap.size w w15));clear HO_5 BK287 HO290 HB;have HO_5 := n0_;have BK287 := n1_;have HO290 := n2_;have HB := n3_;clear n0_ n1_ n2_ n3_;clear hg hw hp_)|((with_reducible refine gate_builtin (b := .append) (xs := #[.tmp 21,.tmp 23]) rfl ?_);at_builtin;refine Kd.S_append (Kd.slice 22 (Kd.int .u64)) (w0 := w) w.heap.size rfl (.tmp 21) (.tmp 23) 26 41 (.slice none 0 0) 24 rfl Try.underlying26 info41 rfl (by decide) (by omega) u5 x5_1 y291 [.slice (some ⟨go9,0,none⟩) y288.length co9] (fun _ => True) (fun k_ => some k_ = (.slice (some ⟨go9,0,none⟩) y288.length co9 : Value).ownBlock) rfl rfl ?aP (fun k_ hk_ => ((Kd.R_mono (ok' := fun k_ => ((fun _ => True)) k_ ∧ some k_ ≠ (u5 : Value).ownBlock) (Kd.R_apart' (HO290.out) (Kd.S_typed HO_5.out) (by decide)) (fun k_ hk => ⟨trivial,hk.2⟩))).1 k_ hk_.symm) ?aF ?aO ?aB ?aS ?aL ?_;(case aP => exact Kd.M_row (Kd.R_mono (Kd.R_tight rfl (Kd.R_mono (ok' := fun k_ => ((fun _ => True)) k_ ∧ some k_ ≠ (u5 : Value).ownBlock) (Kd.R_apart' (HO290.out) (Kd.S_typed HO_5.out) (by decide)) (fun k_ hk => ⟨trivial,hk.2⟩))) (fun _ h_ => h_)));(case aB => exact (bg HB GE287));(case aF => exact (fun _ _ => trivial));(case aO => exact (by (with_reducible repeat (first|apply Kd.S_alloc|apply Kd.S_drewN|apply Kd.S_drew));exact Kd.S_mono HO_5.out (fun k_ hk => ⟨trivial,fun e_ => hk.2 e_⟩)));(case aS => exact (below_size (bg HB GE287)));(case aL => have := LMc10.out;omega);intro v293 w16 ho hb hg hat;rw [← Ny292.out] at ho;have n0_ := am (blk_grown (g := gb287) (o := .cells #[.int .u64 a0_0,.int .i64 a0_1,.int .i64 a0_2] 24 (0,0)) (by (with_reducible repeat (first|refine blk_drewN ?_ _|refine blk_drew ?_|refine blk_alloc ?_ _));exact BK287.out) hg (Kd.S_ne HO_5.out BK287.out (by decide)));have n1_ := am (hb);have n2_ := am (ho);clear BK287 HB HO_5 HO290;have BK287 := n0_;have HB := n1_;have HO294 := n2_;clear n0_ n1_ n2_;clear ho hb hg hat))
        go_roundg k1
        case measure => have := HK1.out;omega
        case rel => exact ⟨(y292),(wrap64 (x6_1 + 1)),(by first|rfl|(simp;done)|(simp [*];done)),H',⟨by have := HK1.out;omega⟩,⟨by (with_reducible repeat (first|apply Kd.S_alloc|apply Kd.S_drewN|apply Kd.S_drew));exact HO294.out⟩,⟨kx BK287⟩,⟨bg HB GE287⟩⟩
       ·rw [if_neg c10] at H
        exact absurd H (by simp)
      ·rw [if_neg c8] at H
       exact absurd H (by simp)
     ·rw [if_neg c7] at H
      exact absurd H (by simp)
    ·rw [if_neg c6] at H
     exact absurd H (by simp)
   ·rw [if_neg c4] at H
    have c4b0 : decide (x6_1 < a0_1) = false := decide_eq_false c4
    clear c4
    obtain rfl := Option.some.inj H
    have hcz17_0 := bc BK287 0
    have hcz17_1 := bc BK287 1
    have hcz17_2 := bc BK287 2
    have hfz17_0 := bf BK287 0
    have hfz17_1 := bf BK287 1
    have hfz17_2 := bf BK287 2
    go_wp2
    go_ret
    exact ⟨_,by first|rfl|(simp [errW_none,errW_some] <;> rfl)|(simp [*,errW_none,errW_some] <;> rfl),by (with_reducible repeat (first|apply Kd.S_alloc|apply Kd.S_drewN|apply Kd.S_drew));exact HO_5.out,bg HB GE287⟩
mutual
def shamir_LocalShares.l0 : Nat → List (List Int) → List (List (List Int)) → Int → Int → Option ((List (List Int)))
 | 0,_,_,_,_ => none
 | k + 1,x3,x16,x17,x18 => if x18 < x17 then (if 0 ≤ x18 then (if x18 < (x16.length : Int) then (shamir_LocalShares.l1 k x3 x16 x17 x18 (rd_L5 x16 x18) ((rd_L5 x16 x18).length : Int) 0) else (none)) else (none)) else (some x3)
def shamir_LocalShares.l1 : Nat → List (List Int) → List (List (List Int)) → Int → Int → List (List Int) → Int → Int → Option ((List (List Int)))
 | 0,_,_,_,_,_,_,_ => none
 | k + 1,x3,x16,x17,x18,x22,x23,x24 => if x24 < x23 then (if 0 ≤ x24 then (if x24 < (x22.length : Int) then (if x24 < (x3.length : Int) then (if 0 < ((rd_L1 x22 x24).length : Int) then (if (rd_L1 x3 x24).length < 17592186044416 then (shamir_LocalShares.l1 k (x3.set (x24 : Int).toNat ((rd_L1 x3 x24) ++ [rd (rd_L1 x22 x24) 0])) x16 x17 x18 x22 x23 (wrap64 (x24 + 1))) else (none)) else (none)) else (none)) else (none)) else (none)) else (shamir_LocalShares.l0 k x3 x16 x17 (wrap64 (x18 + 1)))
end
def shamir_LocalShares.f (k : Nat) (l0 : List (List (List Int))) : Option ((List (List Int))) := if (l0.length : Int) = 0 then (some ([] : List (List Int))) else (if 0 < (l0.length : Int) then (if 0 ≤ ((rd_L5 l0 0).length : Int) then (if (((rd_L5 l0 0).length : Int) : Int).toNat ≤ 11728124029610 then (shamir_LocalShares.l0 k (List.replicate (((rd_L5 l0 0).length : Int) : Int).toNat []) l0 (l0.length : Int) 0) else (none)) else (none)) else (none))
theorem shamir_LocalShares.mono_l : ∀ k,(∀ y0 y1 y2 y3,LeO (shamir_LocalShares.l0 k y0 y1 y2 y3) (shamir_LocalShares.l0 (k + 1) y0 y1 y2 y3)) ∧ (∀ y0 y1 y2 y3 y4 y5 y6,LeO (shamir_LocalShares.l1 k y0 y1 y2 y3 y4 y5 y6) (shamir_LocalShares.l1 (k + 1) y0 y1 y2 y3 y4 y5 y6))
 | 0 => ⟨fun _ _ _ _ r h => by simp [shamir_LocalShares.l0] at h,fun _ _ _ _ _ _ _ r h => by simp [shamir_LocalShares.l1] at h⟩
 | k + 1 => by
  obtain ⟨ih0,ih1⟩ := shamir_LocalShares.mono_l k
  refine ⟨?_,?_⟩
  ·intro y0 y1 y2 y3
   unfold shamir_LocalShares.l0
   repeat' first
   | (with_reducible exact ih0 _ _ _ _)
   | (with_reducible exact ih1 _ _ _ _ _ _ _)
   | (with_reducible exact LeO.refl _)
   | (with_reducible exact LeO.none _)
   | (with_reducible refine LeO.ite ?_ ?_)
   | (with_reducible refine LeO.bind ?_ (fun _ => ?_))
   | exact ih0 _ _ _ _
   | exact ih1 _ _ _ _ _ _ _
   | exact LeO.none _
   | refine LeO.ite ?_ ?_
   | refine LeO.bind ?_ (fun _ => ?_)
  ·intro y0 y1 y2 y3 y4 y5 y6
   unfold shamir_LocalShares.l1
   repeat' first
   | (with_reducible exact ih0 _ _ _ _)
   | (with_reducible exact ih1 _ _ _ _ _ _ _)
   | (with_reducible exact LeO.refl _)
   | (with_reducible exact LeO.none _)
   | (with_reducible refine LeO.ite ?_ ?_)
   | (with_reducible refine LeO.bind ?_ (fun _ => ?_))
   | exact ih0 _ _ _ _
   | exact ih1 _ _ _ _ _ _ _
   | exact LeO.none _
   | refine LeO.ite ?_ ?_
   | refine LeO.bind ?_ (fun _ => ?_)
theorem shamir_LocalShares.mono : ∀ a0 k,LeO (shamir_LocalShares.f k a0) (shamir_LocalShares.f (k + 1) a0) := by
 intro a0 k
 obtain ⟨ih0,ih1⟩ := shamir_LocalShares.mono_l k
 unfold shamir_LocalShares.f
 repeat' first
   | (with_reducible exact ih0 _ _ _ _)
   | (with_reducible exact ih1 _ _ _ _ _ _ _)
   | (with_reducible exact LeO.refl _)
   | (with_reducible exact LeO.none _)
   | (with_reducible refine LeO.ite ?_ ?_)
   | (with_reducible refine LeO.bind ?_ (fun _ => ?_))
   | exact ih0 _ _ _ _
   | exact ih1 _ _ _ _ _ _ _
   | exact LeO.none _
   | refine LeO.ite ?_ ?_
   | refine LeO.bind ?_ (fun _ => ?_)
def shamir_LocalShares.T10 : Bool × List (List Nat × List Nat) := (true,[([],[]),([],[]),([],[]),([],[]),([2,3],[2,3]),([4],[4]),([],[]),([6],[6]),([7],[7]),([8],[8]),([5,9],[5,9]),([0,1,0,1,2,3,4,5,6,7,8,9,10],[0,1]),([11,10,10,0,1,2,3,4,5,6,7,8,9,10],[10,11])])
def shamir_LocalShares.B10 : List Nat := [0,0,0,0,12,28,0,64,192,448,1020,2047,4095]
theorem shamir_LocalShares.tab10 : rtab .any (opsOf Try.f20 10) = shamir_LocalShares.T10 := by kernel_rfl
theorem shamir_LocalShares.bits10 : waitsOk shamir_LocalShares.T10.2 shamir_LocalShares.B10 = true := by kernel_rfl
set_option maxHeartbeats 8000000 in
set_option maxRecDepth 100000 in
theorem shamir_LocalShares.calls (k : Nat) (A0 : Option Addr) (c0 : Nat) (l0 : List (List (List Int))) (r : List (List Int)) (w : World) (hr0 : Kd.C (Kd.slice 41 (Kd.slice 22 (Kd.int .u64))) w A0 l0.length l0) (hc0 : l0.length ≤ c0) (h : shamir_LocalShares.f k l0 = some r) :
  Calls Try.prog 20 #[.slice A0 l0.length c0] w fun e w' => ∃ v0_ : Value,e = .returned (v0_) ∧ Kd.S (Kd.slice 22 (Kd.int .u64)) 41 w' w.heap.size (fun _ => True) v0_ r ∧ Below w.heap.size w w' := by
 have HR0 := am hr0
 have HC0 := am hc0
 clear hr0 hc0
 have HB := am (Below.refl w.heap.size w)
 have H : (if (l0.length : Int) = 0 then (some ([] : List (List Int))) else (if 0 < (l0.length : Int) then (if 0 ≤ ((rd_L5 l0 0).length : Int) then (if (((rd_L5 l0 0).length : Int) : Int).toNat ≤ 11728124029610 then (shamir_LocalShares.l0 k (List.replicate (((rd_L5 l0 0).length : Int) : Int).toNat []) l0 (l0.length : Int) 0) else (none)) else (none)) else (none))) = some r := h
 clear h
 by_cases c2 : (l0.length : Int) = 0
 ·rw [if_pos c2] at H
  have c2b0 : ((l0.length : Int) == 0) = true := beq_iff_eq.mpr c2
  have c2b1 : ((l0.length : Int) != 0) = false := bne_eq_false_iff_eq.mpr c2
  clear c2
  obtain rfl := Option.some.inj H
  go_enter Try.func20,Try.ntmps20
  go_wp2
  go_ret
  exact ⟨_,by first|rfl|(simp [errW_none,errW_some] <;> rfl)|(simp [*,errW_none,errW_some] <;> rfl),by first|exact Kd.S_nil _ _ _ _ _|exact Kd.N_nil _ _ _ _ _|exact Kd.V_nil _ _ _ _ _|exact Kd.Q_nil _ _ _ _ _|exact Kd.R_nil _ _ _ _ _,bb HB⟩
 ·rw [if_neg c2] at H
  have c2b0 : ((l0.length : Int) == 0) = false := beq_eq_false_iff_ne.mpr c2
  have c2b1 : ((l0.length : Int) != 0) = true := bne_iff_ne.mpr c2
  have c2b2 : ¬ (l0 = []) := fun h_ => c2 (by rw [h_];rfl)
  by_cases c3 : 0 < (l0.length : Int)
  ·rw [if_pos c3] at H
   have c3b0 : decide (0 < (l0.length : Int)) = true := decide_eq_true c3
   have c3b1 : decide (0 < l0.length) = true := decide_eq_true (by omega)
   clear c3
   by_cases c4 : 0 ≤ ((rd_L5 l0 0).length : Int)
   ·rw [if_pos c4] at H
    have c4b0 := eq_true c4
    have c4b1 : decide (0 ≤ ((rd_L5 l0 0).length : Int)) = true := decide_eq_true c4
    clear c4
    by_cases c5 : (((rd_L5 l0 0).length : Int) : Int).toNat ≤ 11728124029610
    ·rw [if_pos c5] at H
     have c5b0 := eq_true c5
     have c5b1 : decide ((((rd_L5 l0 0).length : Int) : Int).toNat ≤ 11728124029610) = true := decide_eq_true c5
     clear c5
     obtain ⟨y296,hy296⟩ : ∃ y_ : List (List Int),y_ = (List.replicate (((rd_L5 l0 0).length : Int) : Int).toNat []) := ⟨_,rfl⟩
     replace H : (shamir_LocalShares.l0 k y296 l0 (l0.length : Int) 0) = some r := by first|(rw [hy296];with_reducible exact H)|(have H2_ := (Option.bind_some _ _).symm.trans H;rw [hy296];with_reducible exact H2_)|(have H2_ := (Option.bind_some _ _).symm.trans H;with_reducible exact H2_)|with_reducible exact H|(rw [hy296];exact H)|exact H
     have Ny296 := am hy296
     clear hy296
     have H' := am H
     clear H
     have p295 : 0 ≤ (0 : Int) := (by omega)
     have q295 : 0 < (l0.length : Int) := od
     obtain ⟨ad295,A295_0,c295_0,e295,hx295_0,hl295_0,hi295_0⟩ := at_L5 HR0.out 0 p295 q295
     cases e295
     have qi295 : (0 < l0.length) = True := eq_true (by omega)
     (try rw [show ((0 : Int)).toNat = 0 from rfl] at hx295_0)
     (try rw [Addr.add_zero'] at hx295_0)
     have HR295_0 := am hi295_0
     have HC295_0 := am hl295_0
     clear hi295_0 hl295_0
     replace p295 := eq_true p295
     replace q295 := eq_true q295
     go_enter Try.func20,Try.ntmps20
     go_wp2_with (first|((with_reducible refine gate_dst (N := 15) rfl ?_);refine Kd.S_make (Kd.slice 22 (Kd.int .u64)) _ 41 rfl (N := 15) rfl 25 _ _ rfl ((rd_L5 l0 0).length : Int) rfl rfl Try.underlying25 (.slice none 0 0) 24 info41 rfl (by decide) (by omega) [] (ok := fun _ => True) (okp := fun _ => True) ⟨_,rfl,Kd.R_nil _ _ _ _ _⟩ (fun _ hk => hk) trivial (od) (Nat.le_trans (Nat.mul_le_mul_right _ (od : ((rd_L5 l0 0).length : Int).toNat ≤ 11728124029610)) (by omega)) (Below.refl _ _) (Nat.le_refl _) ?_;intro v297 w6 ho7 hb hg_ hnew_;clear hg_ hnew_;(first|rw [← Ny296.out] at ho7|(simp only [Int.reduceToNat] at ho7;rw [← Ny296.out] at ho7));have n0_ := am (Kd.S_lower ho7 (below_size (bb HB)));have n1_ := am (below_step (bb HB) hb);clear HB;have HO298 := n0_;have HB := n1_;clear n0_ n1_;clear hb ho7))
     go_loopg [18] k (fun kq v18 w' => ∃ (x3_1 : List (List Int)) (x18_1 : Int),v18 = .int .i64 x18_1 ∧ Aside0 (shamir_LocalShares.l0 kq x3_1 l0 (l0.length : Int) x18_1 = some r) ∧ Aside0 (kq ≤ k) ∧ Aside0 (Kd.S (Kd.slice 22 (Kd.int .u64)) 41 w' w.heap.size (fun _ => True) v297 x3_1) ∧ Aside0 (Below w.heap.size w w'))
     case atStart => exact ⟨(y296),(0),(by first|rfl|(simp;done)|(simp [*];done)),H',⟨Nat.le_refl _⟩,⟨by (with_reducible repeat (first|apply Kd.S_alloc|apply Kd.S_drewN|apply Kd.S_drew));exact HO298.out⟩,⟨bb HB⟩⟩
     case round =>
      clear H'
      try clear c2
      try clear c2b0
      try clear c2b1
      try clear c2b2
      try clear p2
      try clear q2
      try clear hx2
      try clear qi2
      try clear c3
      try clear c3b0
      try clear c3b1
      try clear c4
      try clear c4b0
      try clear c4b1
      try clear c5
      try clear c5b0
      try clear c5b1
      try clear hx295_0
      try clear p295
      try clear q295
      obtain ⟨x3_1,x18_1,rfl,HA,HK1,HO_3,HB⟩ := hrel
      cases gk with
      | zero => exact absurd HA.out (by simp [shamir_LocalShares.l0])
      | succ k1 =>
       have H := HA.out
       clear HA
       simp only [shamir_LocalShares.l0] at H
       by_cases c8 : x18_1 < (l0.length : Int)
       ·rw [if_pos c8] at H
        have c8b0 : decide (x18_1 < (l0.length : Int)) = true := decide_eq_true c8
        clear c8
        by_cases c9 : 0 ≤ x18_1
        ·rw [if_pos c9] at H
         have c9b0 : decide (0 ≤ x18_1) = true := decide_eq_true c9
         clear c9
         by_cases c10 : x18_1 < (l0.length : Int)
         ·rw [if_pos c10] at H
          have c10b0 : decide (x18_1 < (l0.length : Int)) = true := decide_eq_true c10
          clear c10
          have H' := am H
          clear H
          have p299 : 0 ≤ (x18_1 : Int) := od
          have q299 : x18_1 < (l0.length : Int) := od
          obtain ⟨ad299,A299_0,c299_0,e299,hx299_0,hl299_0,hi299_0⟩ := at_L5 HR0.out x18_1 p299 q299
          obtain rfl : ad295 = ad299 := (by injection e299)
          replace hx299_0 := (HB.out.cell (World.block_lt_of_cell? w _ hx299_0)).trans hx299_0
          have HR299_0 := am hi299_0
          have HC299_0 := am hl299_0
          clear hi299_0 hl299_0
          replace p299 := eq_true p299
          replace q299 := eq_true q299
          go_wp2
          go_loopg [24] k1 (fun kq v24 w' => ∃ (x3_2 : List (List Int)) (x24_2 : Int),v24 = .int .i64 x24_2 ∧ Aside0 (shamir_LocalShares.l1 kq x3_2 l0 (l0.length : Int) x18_1 (rd_L5 l0 x18_1) ((rd_L5 l0 x18_1).length : Int) x24_2 = some r) ∧ Aside0 (kq ≤ k1) ∧ Aside0 (Kd.S (Kd.slice 22 (Kd.int .u64)) 41 w' w.heap.size (fun _ => True) v297 x3_2) ∧ Aside0 (Below w.heap.size w w'))
          case atStart => exact ⟨(x3_1),(0),(by first|rfl|(simp;done)|(simp [*];done)),H',⟨Nat.le_refl _⟩,⟨by (with_reducible repeat (first|apply Kd.S_alloc|apply Kd.S_drewN|apply Kd.S_drew));exact HO_3.out⟩,⟨bb HB⟩⟩
          case round =>
           clear H'
           try clear c1
           try clear c2
           try clear c2b0
           try clear c2b1
           try clear c2b2
           try clear p2
           try clear q2
           try clear hx2
           try clear qi2
           try clear c3
           try clear c3b0
           try clear c3b1
           try clear c4
           try clear c4b0
           try clear c4b1
           try clear c5
           try clear c5b0
           try clear c5b1
           try clear c8
           try clear c8b0
           try clear c9
           try clear c9b0
           try clear c10
           try clear c10b0
           try clear hx295_0
           try clear hx299_0
           try clear p2
           try clear p295
           try clear p299
           try clear q2
           try clear q295
           try clear q299
           obtain ⟨x3_2,x24_2,rfl,HA,HK2,HO_3,HB⟩ := hrel
           cases gk with
           | zero => exact absurd HA.out (by simp [shamir_LocalShares.l1])
           | succ k2 =>
            have H := HA.out
            clear HA
            simp only [shamir_LocalShares.l1] at H
            by_cases c11 : x24_2 < ((rd_L5 l0 x18_1).length : Int)
            ·rw [if_pos c11] at H
             have c11b0 : decide (x24_2 < ((rd_L5 l0 x18_1).length : Int)) = true := decide_eq_true c11
             clear c11
             by_cases c12 : 0 ≤ x24_2
             ·rw [if_pos c12] at H
              have c12b0 : decide (0 ≤ x24_2) = true := decide_eq_true c12
              clear c12
              by_cases c13 : x24_2 < ((rd_L5 l0 x18_1).length : Int)
              ·rw [if_pos c13] at H
               have c13b0 : decide (x24_2 < ((rd_L5 l0 x18_1).length : Int)) = true := decide_eq_true c13
               clear c13
               by_cases c14 : x24_2 < (x3_2.length : Int)
               ·rw [if_pos c14] at H
                have c14b0 : decide (x24_2 < (x3_2.length : Int)) = true := decide_eq_true c14
                clear c14
                by_cases c15 : 0 < ((rd_L1 (rd_L5 l0 x18_1) x24_2).length : Int)
                ·rw [if_pos c15] at H
                 have c15b0 : decide (0 < ((rd_L1 (rd_L5 l0 x18_1) x24_2).length : Int)) = true := decide_eq_true c15
                 have c15b1 : decide (0 < (rd_L1 (rd_L5 l0 x18_1) x24_2).length) = true := decide_eq_true (by omega)
                 clear c15
                 by_cases c16 : (rd_L1 x3_2 x24_2).length < 17592186044416
                 ·rw [if_pos c16] at H
                  have LMc16 := am c16
                  clear c16
                  obtain ⟨y303,hy303⟩ : ∃ y_ : List Int,y_ = ((rd_L1 x3_2 x24_2) ++ [rd (rd_L1 (rd_L5 l0 x18_1) x24_2) 0]) := ⟨_,rfl⟩
                  replace H : (shamir_LocalShares.l1 k2 (x3_2.set (x24_2 : Int).toNat y303) l0 (l0.length : Int) x18_1 (rd_L5 l0 x18_1) ((rd_L5 l0 x18_1).length : Int) (wrap64 (x24_2 + 1))) = some r := by first|(rw [hy303];with_reducible exact H)|(have H2_ := (Option.bind_some _ _).symm.trans H;rw [hy303];with_reducible exact H2_)|(have H2_ := (Option.bind_some _ _).symm.trans H;with_reducible exact H2_)|with_reducible exact H|(rw [hy303];exact H)|exact H
                  have Ny303 := am hy303
                  clear hy303
                  obtain ⟨y306,hy306⟩ : ∃ y_ : List (List Int),y_ = (x3_2.set (x24_2 : Int).toNat y303) := ⟨_,rfl⟩
                  replace H : (shamir_LocalShares.l1 k2 y306 l0 (l0.length : Int) x18_1 (rd_L5 l0 x18_1) ((rd_L5 l0 x18_1).length : Int) (wrap64 (x24_2 + 1))) = some r := by first|(rw [hy306];with_reducible exact H)|(have H2_ := (Option.bind_some _ _).symm.trans H;rw [hy306];with_reducible exact H2_)|(have H2_ := (Option.bind_some _ _).symm.trans H;with_reducible exact H2_)|with_reducible exact H|(rw [hy306];exact H)|exact H
                  have Ny306 := am hy306
                  clear hy306
                  have H' := am H
                  clear H
                  have p300 : 0 ≤ (x24_2 : Int) := od
                  have q300 : x24_2 < ((rd_L5 l0 x18_1).length : Int) := od
                  obtain ⟨ad300,A300_0,c300_0,e300,hx300_0,hl300_0,hi300_0⟩ := at_L1 HR299_0.out x24_2 p300 q300
                  cases e300
                  replace hx300_0 := (HB.out.cell (World.block_lt_of_cell? w _ hx300_0)).trans hx300_0
                  have HR300_0 := am hi300_0
                  have HC300_0 := am hl300_0
                  clear hi300_0 hl300_0
                  replace p300 := eq_true p300
                  replace q300 := eq_true q300
                  try go_wp2
                  have n0_ := am (Kd.S_drew HO_3.out)
                  have n1_ := am (below_drew1 HB.out)
                  clear HO_3
                  clear HB
                  have HO_3 := n0_
                  have HB := n1_
                  clear n0_ n1_
                  obtain ⟨Ao19,co19,eo19⟩ := Kd.S_slice HO_3.out
                  (first|subst eo19|(injection eo19 with f1_ f2_ f3_;have f4_ := f1_.symm;have f5_ := f3_.symm;clear f1_ f2_ f3_;subst f4_;subst f5_))
                  have p301 : 0 ≤ (x24_2 : Int) := od
                  have q301 : x24_2 < (x3_2.length : Int) := od
                  obtain ⟨ad301,A301_0,c301_0,e301,hx301_0,hl301_0,hi301_0⟩ := at_L1 (Kd.S_reads' HO_3.out).2.2 x24_2 p301 q301
                  cases e301
                  obtain ⟨ce301,hce301,hMe301,hcc301⟩ := Kd.S_get HO_3.out [] x24_2 p301 (by first|exact q301|exact od|(have e_ := (Kd.S_reads' HO_3.out).1;omega))
                  obtain ⟨ve301_0,rfl,ge301_0⟩ := hMe301
                  have hv301_0 := hcc301 0 _ rfl
                  rw [Nat.add_zero,show ((Kd.slice 22 (Kd.int .u64))).sz = 1 from rfl,Nat.mul_one] at hv301_0
                  replace hv301_0 := Option.some.inj (hv301_0.symm.trans hx301_0)
                  rw [hv301_0] at ge301_0
                  have HL301_0 := am (show Kd.R (Kd.int .u64) 22 _ _ _ _ (rd_L1 x3_2 x24_2) from ge301_0)
                  clear hv301_0 ge301_0
                  have HX301_0 := am hx301_0
                  clear hcc301 hce301
                  have HR301_0 := am hi301_0
                  have HC301_0 := am hl301_0
                  clear hi301_0 hl301_0
                  replace p301 := eq_true p301
                  replace q301 := eq_true q301
                  have p302 : 0 ≤ (0 : Int) := (by omega)
                  have q302 : 0 < ((rd_L1 (rd_L5 l0 x18_1) x24_2).length : Int) := od
                  obtain ⟨ad302,e302,hx302_0⟩ := Kd.at_int HR300_0.out 0 p302 q302
                  have hw302_0 := hx302_0
                  (try rw [show ((0 : Int)).toNat = 0 from rfl] at hw302_0)
                  (try rw [show 0 * 1 = 0 from rfl] at hw302_0)
                  (try rw [Addr.add_zero'] at hw302_0)
                  cases e302
                  have qi302 : (0 < (rd_L1 (rd_L5 l0 x18_1) x24_2).length) = True := eq_true (by omega)
                  (try rw [show ((0 : Int)).toNat = 0 from rfl] at hx302_0)
                  (try rw [Addr.add_zero'] at hx302_0)
                  replace hx302_0 := (HB.out.cell (World.block_lt_of_cell? w _ hx302_0)).trans hx302_0
                  replace p302 := eq_true p302
                  replace q302 := eq_true q302
                  obtain ⟨go20,co20,eo20,gb20,gl20,cl20,HG20⟩ := Kd.S_form HO_3.out (by have h_ : (x24_2 : Int) < ((x3_2.length : Int) : Int) := od;have h2_ : 0 ≤ (x24_2 : Int) := (od);omega)
                  (first|cases eo20|(injection eo20 with ea_ en_ ec_;(first|subst ea_|(injection ea_ with ea_;subst ea_));subst ec_;clear en_))
                  have GB20 := am gb20
                  have GG20 := am HG20
                  clear gb20 gl20 HG20
                  (first|simp only [add_plain] at hx301_0|skip)
                  obtain ⟨oki20,ce20,hcl20,hM20,hcc20,_,_,hH20⟩ := Kd.S_elem HO_3.out [] (x24_2 : Int) (od) (by have h_ : (x24_2 : Int) < ((x3_2.length : Int) : Int) := od;first|exact h_|(have e_ := (Kd.S_reads' HO_3.out).1;omega)|simpa using h_)
                  obtain ⟨ve20_0,rfl,ge20_0⟩ := hM20
                  have hv20 := hcc20 0 _ rfl
                  have hX20 := HX301_0.out
                  (try simp only [add_plain] at hX20)
                  (try simp only [Nat.add_zero] at hv20)
                  (try rw [show ((Kd.slice 22 (Kd.int .u64))).sz = 1 from rfl,Nat.mul_one] at hv20)
                  replace hv20 := Option.some.inj (hv20.symm.trans hX20)
                  subst hv20
                  clear hX20 hcc20 hcl20
                  have UU20 := am (show Kd.R (Kd.int .u64) 22 _ w.heap.size oki20 (.slice A301_0 (rd_L1 x3_2 x24_2).length c301_0) (rd_L1 x3_2 x24_2) from ge20_0)
                  have HH20 := am hH20
                  have HN20 := am (Kd.S_reads' HO_3.out).1
                  clear hH20 ge20_0
                  refine start_ (n := 13) (S := fun w' => w'.cell? ⟨go20,(x24_2).toNat,none⟩ = some (.slice A301_0 (rd_L1 x3_2 x24_2).length c301_0) ∧ w'.cell? ad302 = some (.int .u64 (rd (rd_L1 (rd_L5 l0 x18_1) x24_2) 0))) (ds := [12]) (bz 13 0) (by kernel_rfl) rfl rfl ⟨hx301_0,((HB.out.cell (World.block_lt_of_cell? w _ hw302_0)).trans hw302_0)⟩ (fun hHeld => ?_);refine with_tabW shamir_LocalShares.tab10 shamir_LocalShares.bits10 (fun HT_ HW_ => ?_)
                  generalize wr.drew = w18 at HO_3 HB GG20 HH20 HL301_0 HR301_0 HX301_0 UU20 hx301_0 hx302_0 hHeld ⊢
                  refine pk 0 29 (bz 13 1) HT_ ?_
                  refine pk 1 30 (bz 13 3) HT_ ?_
                  refine pk 2 31 (bz 13 7) HT_ ?_
                  refine pk 3 32 (bz 13 15) HT_ ?_
                  refine pk 4 33 (bz 13 31) HT_ ?_
                  refine pk 6 35 (bz 13 95) HT_ ?_
                  refine pk 7 36 (bz 13 223) HT_ ?_
                  refine tk 5 34 (bz 13 255) HT_ HW_ hHeld ?_
                  refine tk 8 37 (bz 13 511) HT_ HW_ hHeld ?_
                  refine on 9 38 (bz 13 1023) HT_ (fun K hK => ?_)
                  refine value_ (w1 := ?_) (v := ?_) (by rfl) rfl ?_ ?_
                  rotate_left 2
                  ·go_simp
                   constructor
                   ·rfl
                   ·rfl
                  refine hK.out _ _ ⟨(World.cell?_alloc_lt _ _ _ (World.block_lt_of_cell? _ _ (hHeld.1))).trans (hHeld.1),(World.cell?_alloc_lt _ _ _ (World.block_lt_of_cell? _ _ (((HB.out.cell (World.block_lt_of_cell? w _ hw302_0)).trans hw302_0)))).trans (((HB.out.cell (World.block_lt_of_cell? w _ hw302_0)).trans hw302_0))⟩ (fun hHeld => ?_)
                  clear hK K
                  refine nm 38 ?_
                  refine on 10 39 (bz 13 2047) HT_ (fun K hK => ?_)
                  refine Kd.R_append_step (Kd.int .u64) (w0 := w) w.heap.size (by rfl) (.tmp 34) (.tmp 38) 41 22 (.int .u64 0) 8 rfl Try.underlying41 info22 rfl (by decide) (by omega) (.slice A301_0 (rd_L1 x3_2 x24_2).length c301_0) (rd_L1 x3_2 x24_2) (rd (rd_L1 (rd_L5 l0 x18_1) x24_2) 0) [.int .u64 (rd (rd_L1 (rd_L5 l0 x18_1) x24_2) 0)] (fun k_ => oki20 k_ ∨ ((fun _ => True)) k_ ∧ w18.heap.size ≤ k_) (fun _ => False) rfl rfl ?aP (fun _ hk => hk.elim) ?aF ?aO ?aB ?aS ?aL ?_
                  (case aP => exact rfl)
                  (case aB => exact (bb HB))
                  (case aF => exact (fun k_ hk => .inr ⟨trivial,hk⟩))
                  (case aO => exact (by (with_reducible repeat (first|apply Kd.R_alloc|apply Kd.R_drewN|apply Kd.R_drew));exact Kd.R_mono UU20.out (fun _ hk => .inl hk)))
                  (case aS => exact (below_size (bb HB)))
                  (case aL => have := LMc16.out;omega)
                  intro v304 w21 ho hb hg hat
                  (first|have HS0_ := cell_grown hg (hHeld.1) (by first|(rw [add_block];exact (fun e_ => ((HL301_0.out.1 _ e_.symm).2) rfl))|(show some (Addr.add _ _).block ≠ _;rw [add_block];exact (fun e_ => ((HL301_0.out.1 _ e_.symm).2) rfl))|exact (fun e_ => ((HL301_0.out.1 _ e_.symm).2) rfl))|have HS0_ := cell_grown hg (cell_unalloc (hHeld.1) (by first|(rw [add_block];exact Kd.S_lt HO_3.out _ rfl)|(show (Addr.add _ _).block < _;rw [add_block];exact Kd.S_lt HO_3.out _ rfl)|exact Kd.S_lt HO_3.out _ rfl)) (by first|(rw [add_block];exact (fun e_ => ((HL301_0.out.1 _ e_.symm).2) rfl))|(show some (Addr.add _ _).block ≠ _;rw [add_block];exact (fun e_ => ((HL301_0.out.1 _ e_.symm).2) rfl))|exact (fun e_ => ((HL301_0.out.1 _ e_.symm).2) rfl)))
                  rw [← Ny303.out] at ho
                  have n0_ := am (hb)
                  have n1_ := am (Kd.H_grown (Kd.H_widen (by repeat (first|exact HH20.out|refine Kd.H_alloc ?_ _|refine Kd.H_drewN ?_ _|refine Kd.H_drew ?_))) hg (fun k_ e_ => .inl (UU20.out.1 k_ e_)))
                  have n2_ := am (ho)
                  clear HB
                  clear HH20
                  clear HO_3
                  clear UU20
                  clear HL301_0
                  have HB := n0_
                  have HH20 := n1_
                  have HO305 := n2_
                  clear n0_ n1_ n2_
                  clear ho hb hg hat
                  have p17 : 0 ≤ (x24_2 : Int) := od
                  have q17 : (x24_2 : Int) < ((x3_2.length : Int) : Int) := od
                  replace p17 := eq_true p17
                  replace q17 := eq_true q17
                  obtain ⟨Ao24,co24,eo24⟩ := Kd.R_slice HO305.out
                  (first|subst eo24|(injection eo24 with f1_ f2_ f3_;have f4_ := f1_.symm;have f5_ := f3_.symm;clear f1_ f2_ f3_;subst f4_;subst f5_))
                  obtain ⟨_,_,hraw22,_,_,hcc22,_⟩ := Kd.H_raw HH20.out (od) (by have h_ : (x24_2 : Int) < ((x3_2.length : Int) : Int) := od;first|exact h_|(have e_ := (HN20.out);omega)|simpa using h_)
                  obtain ⟨_,hfr22⟩ := Kd.H_at HH20.out (od) (by have h_ : (x24_2 : Int) < ((x3_2.length : Int) : Int) := od;first|exact h_|(have e_ := (HN20.out);omega)|simpa using h_)
                  have hx22_0 := hcc22 0 _ rfl
                  have hf22_0 := hfr22 0
                  (try simp only [Nat.add_zero] at hx22_0 hf22_0)
                  (try rw [show ((Kd.slice 22 (Kd.int .u64))).sz = 1 from rfl,Nat.mul_one] at hx22_0)
                  (try rw [show ((Kd.slice 22 (Kd.int .u64))).sz = 1 from rfl,Nat.mul_one] at hf22_0)
                  have HP22 := Kd.S_seg0 HH20.out (od) (by have h_ : (x24_2 : Int) < ((x3_2.length : Int) : Int) := od;first|exact h_|(have e_ := (HN20.out);omega)|simpa using h_) (seg := [.slice Ao24 y303.length co24]) (j := 0) (show 1 ≤ 1 from by decide) (x' := y303) (Kd.M_row HO305.out) (fun _ hk => hk)
                  (try simp only [show ((Kd.slice 22 (Kd.int .u64))).sz = 1 from rfl,Nat.mul_one,Nat.add_zero] at HP22)
                  clear hcc22 hfr22
                  have HS22 := HP22.1
                  rw [← Ny306.out] at HS22
                  have HQ22 := am HS22
                  obtain ⟨_,hgg22⟩ := Kd.R_typed hraw22 go20 rfl
                  have GG22_ := am hgg22
                  clear HP22 HS22 hgg22
                  refine hK.out _ _ ⟨HS0_,((HB.out.cell (World.block_lt_of_cell? w _ hw302_0)).trans hw302_0)⟩ (fun hHeld => ?_)
                  clear hK K
                  refine nm 39 ?_
                  refine pk 11 40 (bz 13 4095) HT_ ?_
                  refine last_ (i := 12) (N := none) (bz 13 8191) rfl rfl (one_of HT_.out (by kernel_rfl)) (by decide) (fun K hK => ?_)
                  refine skip_ (w1 := ?_) (by rfl) rfl ?_ ?_
                  rotate_left
                  ·go_simp
                   rfl
                  refine hK.out _ _ ?_
                  clear hK K
                  refine done_ (done_of HT_.out (by kernel_rfl)) ?_
                  try go_wp2
                  go_roundg k2
                  case measure => have := HK1.out;have := HK2.out;omega
                  case rel => exact ⟨(y306),(wrap64 (x24_2 + 1)),(by first|rfl|(simp;done)|(simp [*];done)),H',⟨by have := HK1.out;have := HK2.out;omega⟩,⟨by (with_reducible repeat (first|apply Kd.S_alloc|apply Kd.S_drewN|apply Kd.S_drew));exact HQ22.out⟩,⟨by repeat (first|(with_reducible first|exact HB.out|apply below_alloc|apply pw_below_drewN|apply below_drew1|refine below_set ?_ GB20.out)|exact HB.out)⟩⟩
                 ·rw [if_neg c16] at H
                  exact absurd H (by simp)
                ·rw [if_neg c15] at H
                 exact absurd H (by simp)
               ·rw [if_neg c14] at H
                exact absurd H (by simp)
              ·rw [if_neg c13] at H
               exact absurd H (by simp)
             ·rw [if_neg c12] at H
              exact absurd H (by simp)
            ·rw [if_neg c11] at H
             have c11b0 : decide (x24_2 < ((rd_L5 l0 x18_1).length : Int)) = false := decide_eq_false c11
             clear c11
             have H' := am H
             clear H
             go_wp2
             go_roundg k2
             case measure => have := HK1.out;have := HK2.out;omega
             case rel => exact ⟨(x3_2),(wrap64 (x18_1 + 1)),(by first|rfl|(simp;done)|(simp [*];done)),H',⟨by have := HK1.out;have := HK2.out;omega⟩,⟨by (with_reducible repeat (first|apply Kd.S_alloc|apply Kd.S_drewN|apply Kd.S_drew));exact HO_3.out⟩,⟨bb HB⟩⟩
         ·rw [if_neg c10] at H
          exact absurd H (by simp)
        ·rw [if_neg c9] at H
         exact absurd H (by simp)
       ·rw [if_neg c8] at H
        have c8b0 : decide (x18_1 < (l0.length : Int)) = false := decide_eq_false c8
        clear c8
        obtain rfl := Option.some.inj H
        go_wp2
        go_ret
        exact ⟨_,by first|rfl|(simp [errW_none,errW_some] <;> rfl)|(simp [*,errW_none,errW_some] <;> rfl),by (with_reducible repeat (first|apply Kd.S_alloc|apply Kd.S_drewN|apply Kd.S_drew));exact HO_3.out,bb HB⟩
    ·rw [if_neg c5] at H
     exact absurd H (by simp)
   ·rw [if_neg c4] at H
    exact absurd H (by simp)
  ·rw [if_neg c3] at H
   exact absurd H (by simp)
mutual
def privityref09_LocalShares.l0 : Nat → List (List (List Int)) → List (List Int) → Int → Option ((List (List Int)))
 | 0,_,_,_ => none
 | k + 1,x0,x3,x4 => if 0 < (x0.length : Int) then (if x4 < ((rd_L5 x0 0).length : Int) then (privityref09_LocalShares.l1 k x0 x3 x4 ([] : List Int) 0) else (some x3)) else (none)
def privityref09_LocalShares.l1 : Nat → List (List (List Int)) → List (List Int) → Int → List Int → Int → Option ((List (List Int)))
 | 0,_,_,_,_,_ => none
 | k + 1,x0,x3,x4,x5,x6 => if x6 < (x0.length : Int) then (if 0 ≤ x6 then (if 0 ≤ x4 then (if x4 < ((rd_L5 x0 x6).length : Int) then (if 0 < ((rd_L1 (rd_L5 x0 x6) x4).length : Int) then (if x5.length < 17592186044416 then (privityref09_LocalShares.l1 k x0 x3 x4 (x5 ++ [rd (rd_L1 (rd_L5 x0 x6) x4) 0]) (wrap64 (x6 + 1))) else (none)) else (none)) else (none)) else (none)) else (none)) else (if x3.length < 5864062014805 then (privityref09_LocalShares.l0 k x0 (x3 ++ [x5]) (wrap64 (x4 + 1))) else (none))
end
def privityref09_LocalShares.f (k : Nat) (l0 : List (List (List Int))) : Option ((List (List Int))) := if (l0.length : Int) = 0 then (some ([] : List (List Int))) else (privityref09_LocalShares.l0 k l0 ([] : List (List Int)) 0)
set_option maxHeartbeats 8000000 in
set_option maxRecDepth 100000 in
theorem privityref09_LocalShares.calls (k : Nat) (A0 : Option Addr) (c0 : Nat) (l0 : List (List (List Int))) (r : List (List Int)) (w : World) (hr0 : Kd.C (Kd.slice 41 (Kd.slice 22 (Kd.int .u64))) w A0 l0.length l0) (hc0 : l0.length ≤ c0) (h : privityref09_LocalShares.f k l0 = some r) :
  Calls Try.prog 21 #[.slice A0 l0.length c0] w fun e w' => ∃ v0_ : Value,e = .returned (v0_) ∧ Kd.S (Kd.slice 22 (Kd.int .u64)) 41 w' w.heap.size (fun _ => True) v0_ r ∧ Below w.heap.size w w' := by
 have HR0 := am hr0
 have HC0 := am hc0
 clear hr0 hc0
 have HB := am (Below.refl w.heap.size w)
 have H : (if (l0.length : Int) = 0 then (some ([] : List (List Int))) else (privityref09_LocalShares.l0 k l0 ([] : List (List Int)) 0)) = some r := h
 clear h
 by_cases c2 : (l0.length : Int) = 0
 ·rw [if_pos c2] at H
  have c2b0 : ((l0.length : Int) == 0) = true := beq_iff_eq.mpr c2
  have c2b1 : ((l0.length : Int) != 0) = false := bne_eq_false_iff_eq.mpr c2
  clear c2
  obtain rfl := Option.some.inj H
  go_enter Try.func21,Try.ntmps21
  go_wp2
  go_ret
  exact ⟨_,by first|rfl|(simp [errW_none,errW_some] <;> rfl)|(simp [*,errW_none,errW_some] <;> rfl),by first|exact Kd.S_nil _ _ _ _ _|exact Kd.N_nil _ _ _ _ _|exact Kd.V_nil _ _ _ _ _|exact Kd.Q_nil _ _ _ _ _|exact Kd.R_nil _ _ _ _ _,bb HB⟩
 ·rw [if_neg c2] at H
  have c2b0 : ((l0.length : Int) == 0) = false := beq_eq_false_iff_ne.mpr c2
  have c2b1 : ((l0.length : Int) != 0) = true := bne_iff_ne.mpr c2
  have c2b2 : ¬ (l0 = []) := fun h_ => c2 (by rw [h_];rfl)
  have H' := am H
  clear H
  go_enter Try.func21,Try.ntmps21
  go_wp2
  go_loopg [3,4] k (fun kq v3 v4 w' => ∃ (x3_1 : List (List Int)) (x4_1 : Int),v4 = .int .i64 x4_1 ∧ Aside0 (privityref09_LocalShares.l0 kq l0 x3_1 x4_1 = some r) ∧ Aside0 (kq ≤ k) ∧ Aside0 (Kd.S (Kd.slice 22 (Kd.int .u64)) 41 w' w.heap.size (fun _ => True) v3 x3_1) ∧ Aside0 (Below w.heap.size w w'))
  case atStart => exact ⟨(([] : List (List Int))),(0),(by first|rfl|(simp;done)|(simp [*];done)),H',⟨Nat.le_refl _⟩,⟨by first|exact Kd.S_nil _ _ _ _ _|exact Kd.N_nil _ _ _ _ _|exact Kd.V_nil _ _ _ _ _|exact Kd.Q_nil _ _ _ _ _|exact Kd.R_nil _ _ _ _ _⟩,⟨bb HB⟩⟩
  case round =>
   clear H'
   try clear c2
   try clear c2b0
   try clear c2b1
   try clear c2b2
   try clear p2
   obtain ⟨x3_1,x4_1,rfl,HA,HK1,HO_3,HB⟩ := hrel
   cases gk with
   | zero => exact absurd HA.out (by simp [privityref09_LocalShares.l0])
   | succ k1 =>
    have H := HA.out
    clear HA
    simp only [privityref09_LocalShares.l0] at H
    by_cases c3 : 0 < (l0.length : Int)
    ·rw [if_pos c3] at H
     have c3b0 : decide (0 < (l0.length : Int)) = true := decide_eq_true c3
     have c3b1 : decide (0 < l0.length) = true := decide_eq_true (by omega)
     clear c3
     by_cases c4 : x4_1 < ((rd_L5 l0 0).length : Int)
     ·rw [if_pos c4] at H
      have c4b0 : decide (x4_1 < ((rd_L5 l0 0).length : Int)) = true := decide_eq_true c4
      clear c4
      have H' := am H
      clear H
      have p307 : 0 ≤ (0 : Int) := (by omega)
      have q307 : 0 < (l0.length : Int) := od
      obtain ⟨ad307,A307_0,c307_0,e307,hx307_0,hl307_0,hi307_0⟩ := at_L5 HR0.out 0 p307 q307
      cases e307
      have qi307 : (0 < l0.length) = True := eq_true (by omega)
      (try rw [show ((0 : Int)).toNat = 0 from rfl] at hx307_0)
      (try rw [Addr.add_zero'] at hx307_0)
      replace hx307_0 := (HB.out.cell (World.block_lt_of_cell? w _ hx307_0)).trans hx307_0
      have HR307_0 := am hi307_0
      have HC307_0 := am hl307_0
      clear hi307_0 hl307_0
      replace p307 := eq_true p307
      replace q307 := eq_true q307
      go_wp2
      go_loopg [5,6] k1 (fun kq v5 v6 w' => ∃ (x5_2 : List Int) (x6_2 : Int),v6 = .int .i64 x6_2 ∧ Aside0 (privityref09_LocalShares.l1 kq l0 x3_1 x4_1 x5_2 x6_2 = some r) ∧ Aside0 (kq ≤ k1) ∧ Aside0 (Kd.S (Kd.slice 22 (Kd.int .u64)) 41 w' w.heap.size (fun k_ => some k_ ≠ (v5 : Value).ownBlock) u3 x3_1) ∧ Aside0 (Kd.R (Kd.int .u64) 22 w' w.heap.size (fun _ => True) v5 x5_2) ∧ Aside0 (Below w.heap.size w w'))
      case atStart => exact ⟨(([] : List Int)),(0),(by first|rfl|(simp;done)|(simp [*];done)),H',⟨Nat.le_refl _⟩,⟨by (with_reducible repeat (first|apply Kd.S_alloc|apply Kd.S_drewN|apply Kd.S_drew));exact Kd.S_mono HO_3.out (fun _ hk => (by simp [Value.ownBlock]))⟩,⟨by first|exact Kd.R_nil _ _ _ _ _|exact Kd.N_nil _ _ _ _ _|exact Kd.V_nil _ _ _ _ _|exact Kd.Q_nil _ _ _ _ _|exact Kd.S_nil _ _ _ _ _⟩,⟨bb HB⟩⟩
      case round =>
       clear H'
       try clear c2
       try clear c2b0
       try clear c2b1
       try clear c2b2
       try clear p2
       try clear c3
       try clear c3b0
       try clear c3b1
       try clear p3
       try clear q3
       try clear hx3
       try clear qi3
       try clear c4
       try clear c4b0
       try clear hx307_0
       try clear p2
       try clear p307
       try clear q307
       obtain ⟨x5_2,x6_2,rfl,HA,HK2,HO_3,HO_5,HB⟩ := hrel
       cases gk with
       | zero => exact absurd HA.out (by simp [privityref09_LocalShares.l1])
       | succ k2 =>
        have H := HA.out
        clear HA
        simp only [privityref09_LocalShares.l1] at H
        by_cases c5 : x6_2 < (l0.length : Int)
        ·rw [if_pos c5] at H
         have c5b0 : decide (x6_2 < (l0.length : Int)) = true := decide_eq_true c5
         clear c5
         by_cases c6 : 0 ≤ x6_2
         ·rw [if_pos c6] at H
          have c6b0 : decide (0 ≤ x6_2) = true := decide_eq_true c6
          clear c6
          by_cases c7 : 0 ≤ x4_1
          ·rw [if_pos c7] at H
           have c7b0 : decide (0 ≤ x4_1) = true := decide_eq_true c7
           clear c7
           by_cases c8 : x4_1 < ((rd_L5 l0 x6_2).length : Int)
           ·rw [if_pos c8] at H
            have c8b0 : decide (x4_1 < ((rd_L5 l0 x6_2).length : Int)) = true := decide_eq_true c8
            clear c8
            by_cases c9 : 0 < ((rd_L1 (rd_L5 l0 x6_2) x4_1).length : Int)
            ·rw [if_pos c9] at H
             have c9b0 : decide (0 < ((rd_L1 (rd_L5 l0 x6_2) x4_1).length : Int)) = true := decide_eq_true c9
             have c9b1 : decide (0 < (rd_L1 (rd_L5 l0 x6_2) x4_1).length) = true := decide_eq_true (by omega)
             clear c9
             by_cases c10 : x5_2.length < 17592186044416
             ·rw [if_pos c10] at H
              have LMc10 := am c10
              clear c10
              obtain ⟨y311,hy311⟩ : ∃ y_ : List Int,y_ = (x5_2 ++ [rd (rd_L1 (rd_L5 l0 x6_2) x4_1) 0]) := ⟨_,rfl⟩
              replace H : (privityref09_LocalShares.l1 k2 l0 x3_1 x4_1 y311 (wrap64 (x6_2 + 1))) = some r := by first|(rw [hy311];with_reducible exact H)|(have H2_ := (Option.bind_some _ _).symm.trans H;rw [hy311];with_reducible exact H2_)|(have H2_ := (Option.bind_some _ _).symm.trans H;with_reducible exact H2_)|with_reducible exact H|(rw [hy311];exact H)|exact H
              have Ny311 := am hy311
              clear hy311
              have H' := am H
              clear H
              have p308 : 0 ≤ (x6_2 : Int) := od
              have q308 : x6_2 < (l0.length : Int) := od
              obtain ⟨ad308,A308_0,c308_0,e308,hx308_0,hl308_0,hi308_0⟩ := at_L5 HR0.out x6_2 p308 q308
              obtain rfl : ad307 = ad308 := (by injection e308)
              replace hx308_0 := (HB.out.cell (World.block_lt_of_cell? w _ hx308_0)).trans hx308_0
              have HR308_0 := am hi308_0
              have HC308_0 := am hl308_0
              clear hi308_0 hl308_0
              replace p308 := eq_true p308
              replace q308 := eq_true q308
              have p309 : 0 ≤ (x4_1 : Int) := od
              have q309 : x4_1 < ((rd_L5 l0 x6_2).length : Int) := od
              obtain ⟨ad309,A309_0,c309_0,e309,hx309_0,hl309_0,hi309_0⟩ := at_L1 HR308_0.out x4_1 p309 q309
              cases e309
              replace hx309_0 := (HB.out.cell (World.block_lt_of_cell? w _ hx309_0)).trans hx309_0
              have HR309_0 := am hi309_0
              have HC309_0 := am hl309_0
              clear hi309_0 hl309_0
              replace p309 := eq_true p309
              replace q309 := eq_true q309
              have p310 : 0 ≤ (0 : Int) := (by omega)
              have q310 : 0 < ((rd_L1 (rd_L5 l0 x6_2) x4_1).length : Int) := od
              obtain ⟨ad310,e310,hx310_0⟩ := Kd.at_int HR309_0.out 0 p310 q310
              cases e310
              have qi310 : (0 < (rd_L1 (rd_L5 l0 x6_2) x4_1).length) = True := eq_true (by omega)
              (try rw [show ((0 : Int)).toNat = 0 from rfl] at hx310_0)
              (try rw [Addr.add_zero'] at hx310_0)
              replace hx310_0 := (HB.out.cell (World.block_lt_of_cell? w _ hx310_0)).trans hx310_0
              replace p310 := eq_true p310
              replace q310 := eq_true q310
              go_wp2_with (first|((with_reducible refine gate_builtin (b := .append) (xs := #[.tmp 24,.tmp 34]) rfl ?_);at_builtin;refine Kd.R_append (Kd.int .u64) (w0 := w) w.heap.size rfl (.tmp 24) (.tmp 34) 41 22 (.int .u64 0) 8 rfl Try.underlying41 info22 rfl (by decide) (by omega) u5 x5_2 (rd (rd_L1 (rd_L5 l0 x6_2) x4_1) 0) [.int .u64 (rd (rd_L1 (rd_L5 l0 x6_2) x4_1) 0)] (fun _ => True) (fun _ => False) rfl rfl ?aP (fun _ hk => hk.elim) ?aF ?aO ?aB ?aS ?aL ?_;(case aP => exact rfl);(case aB => exact (bb HB));(case aF => exact (fun _ _ => trivial));(case aO => exact (rr HO_5));(case aS => exact (below_size (bb HB)));(case aL => have := LMc10.out;omega);intro v312 w11 ho hb hg hat;rw [← Ny311.out] at ho;have n0_ := am (Kd.S_after (ok := (fun _ => True)) (by (with_reducible repeat (first|apply Kd.S_alloc|apply Kd.S_drewN|apply Kd.S_drew));exact Kd.S_mono HO_3.out (fun _ hk => ⟨trivial,hk⟩)) hg hat);have n1_ := am (hb);have n2_ := am (ho);clear HO_3 HB HO_5;have HO_3 := n0_;have HB := n1_;have HO313 := n2_;clear n0_ n1_ n2_;clear ho hb hg hat))
              go_roundg k2
              case measure => have := HK1.out;have := HK2.out;omega
              case rel => exact ⟨(y311),(wrap64 (x6_2 + 1)),(by first|rfl|(simp;done)|(simp [*];done)),H',⟨by have := HK1.out;have := HK2.out;omega⟩,⟨by (with_reducible repeat (first|apply Kd.S_alloc|apply Kd.S_drewN|apply Kd.S_drew));exact Kd.S_mono HO_3.out (fun _ hk => hk.2)⟩,⟨by (with_reducible repeat (first|apply Kd.R_alloc|apply Kd.R_drewN|apply Kd.R_drew));exact HO313.out⟩,⟨bb HB⟩⟩
             ·rw [if_neg c10] at H
              exact absurd H (by simp)
            ·rw [if_neg c9] at H
             exact absurd H (by simp)
           ·rw [if_neg c8] at H
            exact absurd H (by simp)
          ·rw [if_neg c7] at H
           exact absurd H (by simp)
         ·rw [if_neg c6] at H
          exact absurd H (by simp)
        ·rw [if_neg c5] at H
         have c5b0 : decide (x6_2 < (l0.length : Int)) = false := decide_eq_false c5
         clear c5
         by_cases c12 : x3_1.length < 5864062014805
         ·rw [if_pos c12] at H
          have LMc12 := am c12
          clear c12
          obtain ⟨y314,hy314⟩ : ∃ y_ : List (List Int),y_ = (x3_1 ++ [x5_2]) := ⟨_,rfl⟩
          replace H : (privityref09_LocalShares.l0 k2 l0 y314 (wrap64 (x4_1 + 1))) = some r := by first|(rw [hy314];with_reducible exact H)|(have H2_ := (Option.bind_some _ _).symm.trans H;rw [hy314];with_reducible exact H2_)|(have H2_ := (Option.bind_some _ _).symm.trans H;with_reducible exact H2_)|with_reducible exact H|(rw [hy314];exact H)|exact H
          have Ny314 := am hy314
          clear hy314
          have H' := am H
          clear H
          obtain ⟨Ao14,co14,eo14⟩ := Kd.R_slice HO_5.out
          subst eo14
          go_wp2_with (first|((with_reducible refine gate_builtin (b := .append) (xs := #[.tmp 36,.tmp 38]) rfl ?_);at_builtin;refine Kd.S_append (Kd.slice 22 (Kd.int .u64)) (w0 := w) w.heap.size rfl (.tmp 36) (.tmp 38) 25 41 (.slice none 0 0) 24 rfl Try.underlying25 info41 rfl (by decide) (by omega) u3 x3_1 x5_2 [.slice Ao14 x5_2.length co14] (fun _ => True) (fun k_ => some k_ = (.slice Ao14 x5_2.length co14 : Value).ownBlock) rfl rfl ?aP (fun k_ hk_ => ((Kd.R_mono (ok' := fun k_ => ((fun _ => True)) k_ ∧ some k_ ≠ (u3 : Value).ownBlock) (Kd.R_apart' (HO_5.out) (Kd.S_typed HO_3.out) (by decide)) (fun k_ hk => ⟨trivial,hk.2⟩))).1 k_ hk_.symm) ?aF ?aO ?aB ?aS ?aL ?_;(case aP => exact Kd.M_row (Kd.R_mono (Kd.R_tight rfl (Kd.R_mono (ok' := fun k_ => ((fun _ => True)) k_ ∧ some k_ ≠ (u3 : Value).ownBlock) (Kd.R_apart' (HO_5.out) (Kd.S_typed HO_3.out) (by decide)) (fun k_ hk => ⟨trivial,hk.2⟩))) (fun _ h_ => h_)));(case aB => exact (bb HB));(case aF => exact (fun _ _ => trivial));(case aO => exact (by (with_reducible repeat (first|apply Kd.S_alloc|apply Kd.S_drewN|apply Kd.S_drew));exact Kd.S_mono HO_3.out (fun k_ hk => ⟨trivial,fun e_ => hk e_⟩)));(case aS => exact (below_size (bb HB)));(case aL => have := LMc12.out;omega);intro v315 w13 ho hb hg hat;rw [← Ny314.out] at ho;have n0_ := am (hb);have n1_ := am (ho);clear HB HO_3 HO_5;have HB := n0_;have HO316 := n1_;clear n0_ n1_;clear ho hb hg hat))
          go_roundg k2
          case measure => have := HK1.out;have := HK2.out;omega
          case rel => exact ⟨(y314),(wrap64 (x4_1 + 1)),(by first|rfl|(simp;done)|(simp [*];done)),H',⟨by have := HK1.out;have := HK2.out;omega⟩,⟨by (with_reducible repeat (first|apply Kd.S_alloc|apply Kd.S_drewN|apply Kd.S_drew));exact HO316.out⟩,⟨bb HB⟩⟩
         ·rw [if_neg c12] at H
          exact absurd H (by simp)
     ·rw [if_neg c4] at H
      have c4b0 : decide (x4_1 < ((rd_L5 l0 0).length : Int)) = false := decide_eq_false c4
      clear c4
      obtain rfl := Option.some.inj H
      have p307 : 0 ≤ (0 : Int) := (by omega)
      have q307 : 0 < (l0.length : Int) := od
      obtain ⟨ad307,A307_0,c307_0,e307,hx307_0,hl307_0,hi307_0⟩ := at_L5 HR0.out 0 p307 q307
      cases e307
      have qi307 : (0 < l0.length) = True := eq_true (by omega)
      (try rw [show ((0 : Int)).toNat = 0 from rfl] at hx307_0)
      (try rw [Addr.add_zero'] at hx307_0)
      replace hx307_0 := (HB.out.cell (World.block_lt_of_cell? w _ hx307_0)).trans hx307_0
      have HR307_0 := am hi307_0
      have HC307_0 := am hl307_0
      clear hi307_0 hl307_0
      replace p307 := eq_true p307
      replace q307 := eq_true q307
      go_wp2
      go_ret
      exact ⟨_,by first|rfl|(simp [errW_none,errW_some] <;> rfl)|(simp [*,errW_none,errW_some] <;> rfl),by (with_reducible repeat (first|apply Kd.S_alloc|apply Kd.S_drewN|apply Kd.S_drew));exact HO_3.out,bb HB⟩
    ·rw [if_neg c3] at H
     exact absurd H (by simp)
end Go.Proofs.Ytjnkkfdlcbcelaa.Pr
end
