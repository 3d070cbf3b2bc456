/- The row of the law ParamsScenarioWithExtraDeviation, out of its plain law and the walk. -/
import Derived.Test.YtakaonojfpkhnaaDoorRows
import Derived.Test.YtakaonojfpkhnaaDoorZScenarioWithExtraDeviation1
import Derived.Test.YtakaonojfpkhnaaDoorTie
import Derived.Test.YtakaonojfpkhnaaDoorCards
import Derived.SevenTiedAt
import Derived.ProofKit
import Derived.LaidMore
import Derived.Stop.Joined
import Derived.Test.YtakaonojfpkhnaaDoorZScenarioWithExtraDeviation6
import Derived.WalkKit
import Derived.OpenShut
import Derived.ShutString
import Derived.ChangeOld
import Derived.Below
import Derived.SizedLaws
section
/- The row of the law ParamsScenarioWithExtraDeviation, out of its plain law and the walk. -/
namespace Go.Proofs.YtakaonojfpkhnaaDoor.paramsScenarioWithExtraDeviation
open Go.Proofs.YtakaonojfpkhnaaDoor.Hw Go.ChangeShapes Go.WideShapes Go.ChangeAt Go.RowKit Go.Proofs.YtakaonojfpkhnaaDoor.Pr Go.Proofs.YtakaonojfpkhnaaDoorW.PrintWords
set_option linter.unusedVariables false
theorem own : ownKnob Tryd.prog.godebug = none := by kernel_rfl
theorem laidOut : laidOutB Tryd.prog = true := by kernel_rfl
set_option maxRecDepth 100000 in
theorem open42 : Op.OpenK Tryd.prog 42 k42 (fun x_ => ((Lit.int .i64 x_.f0).wf = true) ∧ ((Lit.int .i64 x_.f1).wf = true) ∧ ((Lit.int .i64 x_.f2).wf = true) ∧ ((Lit.int .i64 x_.f3).wf = true) ∧ ((Lit.int .i64 x_.f4).wf = true) ∧ ((Lit.int .u64 x_.f5).wf = true) ∧ ((Lit.int .i64 x_.f6).wf = true) ∧ ((Lit.int .i64 x_.f7).wf = true)) := by
  intro H enc w base sp hd fuel cs x h
  obtain ⟨hl, hf⟩ := Op.openFields Tryd.underlying42 h
  have hN : Tryd.prog.cellsOf 42 = 8 := by kernel_rfl
  rw [hN] at hl
  obtain ⟨c0_, c1_, c2_, c3_, c4_, c5_, c6_, c7_, rfl⟩ : ∃ c0_ c1_ c2_ c3_ c4_ c5_ c6_ c7_, cs = [c0_, c1_, c2_, c3_, c4_, c5_, c6_, c7_] := by
    match cs, hl with
    | [c0_, c1_, c2_, c3_, c4_, c5_, c6_, c7_], _ => exact ⟨_, _, _, _, _, _, _, _, rfl⟩
  obtain ⟨n0_, y0_, e0_⟩ := hf 0 _ rfl
  have g0_ := (Op.openInt (k := .i64) Tryd.underlying3) e0_
  obtain ⟨v0_, m0_, q0_⟩ := g0_
  obtain ⟨n1_, y1_, e1_⟩ := hf 1 _ rfl
  have g1_ := (Op.openInt (k := .i64) Tryd.underlying3) e1_
  obtain ⟨v1_, m1_, q1_⟩ := g1_
  obtain ⟨n2_, y2_, e2_⟩ := hf 2 _ rfl
  have g2_ := (Op.openInt (k := .i64) Tryd.underlying3) e2_
  obtain ⟨v2_, m2_, q2_⟩ := g2_
  obtain ⟨n3_, y3_, e3_⟩ := hf 3 _ rfl
  have g3_ := (Op.openInt (k := .i64) Tryd.underlying3) e3_
  obtain ⟨v3_, m3_, q3_⟩ := g3_
  obtain ⟨n4_, y4_, e4_⟩ := hf 4 _ rfl
  have g4_ := (Op.openInt (k := .i64) Tryd.underlying3) e4_
  obtain ⟨v4_, m4_, q4_⟩ := g4_
  obtain ⟨n5_, y5_, e5_⟩ := hf 5 _ rfl
  have g5_ := (Op.openInt (k := .u64) Tryd.underlying22) e5_
  obtain ⟨v5_, m5_, q5_⟩ := g5_
  obtain ⟨n6_, y6_, e6_⟩ := hf 6 _ rfl
  have g6_ := (Op.openInt (k := .i64) Tryd.underlying3) e6_
  obtain ⟨v6_, m6_, q6_⟩ := g6_
  obtain ⟨n7_, y7_, e7_⟩ := hf 7 _ rfl
  have g7_ := (Op.openInt (k := .i64) Tryd.underlying3) e7_
  obtain ⟨v7_, m7_, q7_⟩ := g7_
  exact ⟨⟨v0_, v1_, v2_, v3_, v4_, v5_, v6_, v7_⟩, ⟨_, _, rfl, m0_, ⟨_, _, rfl, m1_, ⟨_, _, rfl, m2_, ⟨_, _, rfl, m3_, ⟨_, _, rfl, m4_, ⟨_, _, rfl, m5_, ⟨_, _, rfl, m6_, m7_⟩⟩⟩⟩⟩⟩⟩, ⟨q0_, q1_, q2_, q3_, q4_, q5_, q6_, q7_⟩⟩
set_option maxRecDepth 100000 in
theorem arr6 (cs : Array Value) (h : cs.size = 6) : ∃ c0_ c1_ c2_ c3_ c4_ c5_, cs = #[c0_, c1_, c2_, c3_, c4_, c5_] := by
  obtain ⟨l_⟩ := cs
  match l_, h with
  | [c0_, c1_, c2_, c3_, c4_, c5_], _ => exact ⟨_, _, _, _, _, _, rfl⟩
set_option maxRecDepth 100000 in
theorem arr8 (cs : Array Value) (h : cs.size = 8) : ∃ c0_ c1_ c2_ c3_ c4_ c5_ c6_ c7_, cs = #[c0_, c1_, c2_, c3_, c4_, c5_, c6_, c7_] := by
  obtain ⟨l_⟩ := cs
  match l_, h with
  | [c0_, c1_, c2_, c3_, c4_, c5_, c6_, c7_], _ => exact ⟨_, _, _, _, _, _, _, _, rfl⟩
set_option maxHeartbeats 4000000 in
set_option maxRecDepth 100000 in
theorem lifted (os : Os) (started : os.Started) (H : Type) (enc : TypeId × Value → H) :
    ReturnsInHanded {} Tryd.checked os 7 .any (fun w args => (Rows.paramsScenarioWithExtraDeviationSpec.pre enc Tryd.prog Tryd.f7 [] false w args ∧ laidMetH Tryd.prog laidx w) ∧ sizedMet enc Tryd.prog Tryd.f7 (OpenSpec.ofChange Rows.paramsScenarioWithExtraDeviationSpec) false w args) (Rows.paramsScenarioWithExtraDeviationSpec.post enc Tryd.prog Tryd.f7 false true false false) := by
  refine returnsInHanded_of_change_and (C := Tryd.checked) (X := fun w _ => laidMetH Tryd.prog laidx w) (fun _ _ _ hh h => h.of_heap hh) own started (by kernel_rfl) Tryd.func7
    (ChangeSpec.witness_shaped (enc := enc) (C := Tryd.checked) (os := os) (X := fun w _ => laidMetH Tryd.prog laidx w) false (World.doorLaid Tryd.prog 400 os) #[.agg #[.int .u64 0, .int .i64 0, .int .i64 0, .slice none 0 0, .slice none 0 0, .slice none 0 0], .agg #[.int .i64 0, .int .i64 0, .int .i64 0, .int .i64 0, .int .i64 0, .int .u64 0, .int .i64 0, .int .i64 0]] 8 rfl (World.shaped_of_RefB (by kernel_rfl) (by kernel_rfl)) (by kernel_rfl) (by kernel_rfl) (by kernel_rfl) (door_met os _)) ?_
  intro W base args ds gs before hval0 hW hcnd hsz0 hL0 _
  have hX_ := of_laid hL0
  clear hL0
  have hval : ∀ (j : Nat) t v, Tryd.f7.params[j]? = some t → args[j]? = some v → Value.okWide Tryd.prog W .any base t v := hval0
  have hW' := hW
  obtain ⟨p, q, hA0, hV, rfl, hfz, hnd⟩ := hW
  have hA : DataW.TrodAll enc Tryd.prog W 0 (fun _ => true) true Tryd.f7.params.toList args.toList ds p := hA0
  rw [Tryd.params7] at hA hval
  obtain ⟨v0, vs0, d0, ds0, p0, q0, hargs, rfl, rfl, h0, r0⟩ := trodAll_cons hA
  obtain ⟨v1, vs1, d1, ds1, p1, q1, rfl, rfl, rfl, h1, r1⟩ := trodAll_cons r0
  obtain ⟨rfl, rfl, rfl⟩ := trodAll_nil r1
  obtain rfl : args = #[v0, v1] := by cases args; simp_all
  obtain ⟨rfl, rfl⟩ := trodVars_none hV
  have k0 := h0
  have lt0 : ∀ x ∈ p0, x.block < W.heap.size := by obtain ⟨m, hm⟩ := k0; exact DataW.trod_lt m _ _ _ hm
  obtain ⟨cs0, rfl, hs0⟩ := okWide_struct Tryd.underlying32 (hval 0 32 v0 rfl rfl)
  have hN0 : Tryd.prog.cellsOf 32 = 6 := by kernel_rfl
  rw [hN0] at hs0
  obtain ⟨x0_0, x0_1, x0_2, x0_3, x0_4, x0_5, rfl⟩ := arr6 cs0 hs0
  obtain ⟨fu0, hf0⟩ := h0
  have hg0 : DataW.trod enc Tryd.prog W 0 (fun _ => true) true fu0 32 [x0_0, x0_1, x0_2, x0_3, x0_4, x0_5] = some (d0, p0) := hf0
  have f0 := (Op.openFields Tryd.underlying32 hg0).2
  obtain ⟨n0_0, y0_0, e0_0⟩ := f0 0 _ rfl
  have b0_0 : DataW.trod enc Tryd.prog W 0 (fun _ => true) true n0_0 24 [x0_0, x0_1, x0_2] = some y0_0 := e0_0
  have f0_0 := (Op.openFields Tryd.underlying24 b0_0).2
  obtain ⟨n0_0_0, y0_0_0, e0_0_0⟩ := f0_0 0 _ rfl
  have b0_0_0 : DataW.trod enc Tryd.prog W 0 (fun _ => true) true n0_0_0 22 [x0_0] = some y0_0_0 := e0_0_0
  obtain ⟨a0_0_0, e0_0_0, w0_0_0⟩ := (Op.openInt (k := .u64) Tryd.underlying22) b0_0_0
  cases e0_0_0
  obtain ⟨n0_0_1, y0_0_1, e0_0_1⟩ := f0_0 1 _ rfl
  have b0_0_1 : DataW.trod enc Tryd.prog W 0 (fun _ => true) true n0_0_1 3 [x0_1] = some y0_0_1 := e0_0_1
  obtain ⟨a0_0_1, e0_0_1, w0_0_1⟩ := (Op.openInt (k := .i64) Tryd.underlying3) b0_0_1
  cases e0_0_1
  obtain ⟨n0_0_2, y0_0_2, e0_0_2⟩ := f0_0 2 _ rfl
  have b0_0_2 : DataW.trod enc Tryd.prog W 0 (fun _ => true) true n0_0_2 3 [x0_2] = some y0_0_2 := e0_0_2
  obtain ⟨a0_0_2, e0_0_2, w0_0_2⟩ := (Op.openInt (k := .i64) Tryd.underlying3) b0_0_2
  cases e0_0_2
  obtain ⟨n0_1, y0_1, e0_1⟩ := f0 1 _ rfl
  have b0_1 : DataW.trod enc Tryd.prog W 0 (fun _ => true) true n0_1 25 [x0_3] = some y0_1 := e0_1
  obtain ⟨z0_1, ⟨A0_1, c0_1, e0_1, hc0_1, g0_1⟩, w0_1⟩ := (Op.openSlice (d := (Kd.int .i64)) Tryd.underlying25 (by kernel_rfl) (Op.openInt (k := .i64) Tryd.underlying3)) b0_1
  cases e0_1
  obtain ⟨n0_2, y0_2, e0_2⟩ := f0 2 _ rfl
  have b0_2 : DataW.trod enc Tryd.prog W 0 (fun _ => true) true n0_2 29 [x0_4] = some y0_2 := e0_2
  obtain ⟨z0_2, ⟨A0_2, c0_2, e0_2, hc0_2, g0_2⟩, w0_2⟩ := (Op.openSlice (d := k42) Tryd.underlying29 (by kernel_rfl) open42) b0_2
  cases e0_2
  obtain ⟨n0_3, y0_3, e0_3⟩ := f0 3 _ rfl
  have b0_3 : DataW.trod enc Tryd.prog W 0 (fun _ => true) true n0_3 30 [x0_5] = some y0_3 := e0_3
  obtain ⟨z0_3, ⟨A0_3, c0_3, e0_3, hc0_3, g0_3⟩, w0_3⟩ := (Op.openSlice (d := (Kd.slice 22 (Kd.int .u64))) Tryd.underlying30 (by kernel_rfl) (Op.openSlice (d := (Kd.int .u64)) Tryd.underlying33 (by kernel_rfl) (Op.openInt (k := .u64) Tryd.underlying22))) b0_3
  cases e0_3
  have k1 := h1
  have lt1 : ∀ x ∈ p1, x.block < W.heap.size := by obtain ⟨m, hm⟩ := k1; exact DataW.trod_lt m _ _ _ hm
  obtain ⟨cs1, rfl, hs1⟩ := okWide_struct Tryd.underlying42 (hval 1 42 v1 rfl rfl)
  have hN1 : Tryd.prog.cellsOf 42 = 8 := by kernel_rfl
  rw [hN1] at hs1
  obtain ⟨x1_0, x1_1, x1_2, x1_3, x1_4, x1_5, x1_6, x1_7, rfl⟩ := arr8 cs1 hs1
  obtain ⟨fu1, hf1⟩ := h1
  have hg1 : DataW.trod enc Tryd.prog W 0 (fun _ => true) true fu1 42 [x1_0, x1_1, x1_2, x1_3, x1_4, x1_5, x1_6, x1_7] = some (d1, p1) := hf1
  have f1 := (Op.openFields Tryd.underlying42 hg1).2
  obtain ⟨n1_0, y1_0, e1_0⟩ := f1 0 _ rfl
  have b1_0 : DataW.trod enc Tryd.prog W 0 (fun _ => true) true n1_0 3 [x1_0] = some y1_0 := e1_0
  obtain ⟨a1_0, e1_0, w1_0⟩ := (Op.openInt (k := .i64) Tryd.underlying3) b1_0
  cases e1_0
  obtain ⟨n1_1, y1_1, e1_1⟩ := f1 1 _ rfl
  have b1_1 : DataW.trod enc Tryd.prog W 0 (fun _ => true) true n1_1 3 [x1_1] = some y1_1 := e1_1
  obtain ⟨a1_1, e1_1, w1_1⟩ := (Op.openInt (k := .i64) Tryd.underlying3) b1_1
  cases e1_1
  obtain ⟨n1_2, y1_2, e1_2⟩ := f1 2 _ rfl
  have b1_2 : DataW.trod enc Tryd.prog W 0 (fun _ => true) true n1_2 3 [x1_2] = some y1_2 := e1_2
  obtain ⟨a1_2, e1_2, w1_2⟩ := (Op.openInt (k := .i64) Tryd.underlying3) b1_2
  cases e1_2
  obtain ⟨n1_3, y1_3, e1_3⟩ := f1 3 _ rfl
  have b1_3 : DataW.trod enc Tryd.prog W 0 (fun _ => true) true n1_3 3 [x1_3] = some y1_3 := e1_3
  obtain ⟨a1_3, e1_3, w1_3⟩ := (Op.openInt (k := .i64) Tryd.underlying3) b1_3
  cases e1_3
  obtain ⟨n1_4, y1_4, e1_4⟩ := f1 4 _ rfl
  have b1_4 : DataW.trod enc Tryd.prog W 0 (fun _ => true) true n1_4 3 [x1_4] = some y1_4 := e1_4
  obtain ⟨a1_4, e1_4, w1_4⟩ := (Op.openInt (k := .i64) Tryd.underlying3) b1_4
  cases e1_4
  obtain ⟨n1_5, y1_5, e1_5⟩ := f1 5 _ rfl
  have b1_5 : DataW.trod enc Tryd.prog W 0 (fun _ => true) true n1_5 22 [x1_5] = some y1_5 := e1_5
  obtain ⟨a1_5, e1_5, w1_5⟩ := (Op.openInt (k := .u64) Tryd.underlying22) b1_5
  cases e1_5
  obtain ⟨n1_6, y1_6, e1_6⟩ := f1 6 _ rfl
  have b1_6 : DataW.trod enc Tryd.prog W 0 (fun _ => true) true n1_6 3 [x1_6] = some y1_6 := e1_6
  obtain ⟨a1_6, e1_6, w1_6⟩ := (Op.openInt (k := .i64) Tryd.underlying3) b1_6
  cases e1_6
  obtain ⟨n1_7, y1_7, e1_7⟩ := f1 7 _ rfl
  have b1_7 : DataW.trod enc Tryd.prog W 0 (fun _ => true) true n1_7 3 [x1_7] = some y1_7 := e1_7
  obtain ⟨a1_7, e1_7, w1_7⟩ := (Op.openInt (k := .i64) Tryd.underlying3) b1_7
  cases e1_7
  clear hA0 hval0 hsz0
  obtain ⟨kk, hk⟩ := Pure.ParamsScenarioWithExtraDeviation a0_0_0 a0_0_1 a0_0_2 z0_1 z0_2 z0_3 a1_0 a1_1 a1_2 a1_3 a1_4 a1_5 a1_6 a1_7 w0_0_0 w0_0_1 w0_0_2 w0_1 w0_2 w0_3 w1_0 w1_1 w1_2 w1_3 w1_4 w1_5 w1_6 w1_7
  refine (privitylaw12_ParamsScenarioWithExtraDeviation.calls kk a0_0_0 a0_0_1 a0_0_2 _ _ z0_1 _ _ z0_2 _ _ z0_3 a1_0 a1_1 a1_2 a1_3 a1_4 a1_5 a1_6 a1_7 true W g0_1 hc0_1 g0_2 hc0_2 g0_3 hc0_3 rfl hX_ hk).mono fun e W' ⟨he, bel⟩ => ?_
  subst he
  exact ⟨_, rfl, _, _, _, [], _, [], hW', trodAll_mk1 (shut_bool Tryd.underlying4 _), (trodAll_cons_mk (Below.trod laidOut (by kernel_rfl) (of_decide_eq_true (by kernel_rfl)) k0 bel lt0) (trodAll_cons_mk (Below.trod laidOut (by kernel_rfl) (of_decide_eq_true (by kernel_rfl)) k1 bel lt1) trodAll_mk0)), rfl, bel.frame _, fun h => by cases h⟩
theorem over : Rows.paramsScenarioWithExtraDeviationRow.holds Tryd.pinned (OpenSpec.ofChange Rows.paramsScenarioWithExtraDeviationSpec) :=
  OpenClaim.holds_of_wide 7 Tryd.f7 rfl rfl rfl rfl rfl rfl rfl ⟨rfl, rfl, rfl, rfl, rfl⟩ rfl rfl rfl rfl rfl (by kernel_rfl) Tryd.func7 (by kernel_rfl)
    (of_decide_eq_true (by kernel_rfl)) (by unfold Func.isWrapper; first | (rw [if_pos (by decide +kernel)]; kernel_rfl) | (rw [if_neg (by decide +kernel)]; exact ⟨rfl, rfl⟩))
    (fun os started H enc _ => lifted os started H enc)
theorem proved : Rows.ParamsScenarioWithExtraDeviationSaid := over
#print axioms proved
end Go.Proofs.YtakaonojfpkhnaaDoor.paramsScenarioWithExtraDeviation
namespace Go.Proofs.YtakaonojfpkhnaaDoor
/-- The row, under a short name, for the claim. -/
theorem paramsScenarioWithExtraDeviation_holds : Rows.ParamsScenarioWithExtraDeviationCardSaid :=
  Claim7.holds_tied_plain_at .later [] [.data] true (true, "e89e54b610bb618419dd9e432a54789086f81ccddccae2ed0cfdda57de810b85") false
    paramsScenarioWithExtraDeviation.proved (fun _ h => by cases h) (by kernel_rfl) (fun _ h => by cases h) paramsScenarioWithExtraDeviation_row_tie rfl ⟨rfl, rfl⟩ (by kernel_rfl) rfl
    (fun f fn hf hfn => by
      obtain rfl : f = 7 := Option.some.inj ((show Tryd.prog.funcNamed "privity/privitylaw12.ParamsScenarioWithExtraDeviation" = some 7 by kernel_rfl).symm.trans hf) |>.symm
      obtain rfl : fn = Tryd.f7 := (Option.some.inj (Tryd.func7.symm.trans hfn)).symm
      exact ⟨by kernel_rfl, fun j t ht => by
        rw [Tryd.params7] at ht
        have hm : t ∈ [32, 42] := by simpa using Array.mem_of_getElem? ht
        have hall : ([32, 42].all fun u => !Tryd.prog.wantsStandIn u) = true := by kernel_rfl
        exact (show Tryd.prog.wantsStandIn t = false by simpa using List.all_eq_true.1 hall t hm)⟩)
    (by kernel_rfl)
end Go.Proofs.YtakaonojfpkhnaaDoor
end
