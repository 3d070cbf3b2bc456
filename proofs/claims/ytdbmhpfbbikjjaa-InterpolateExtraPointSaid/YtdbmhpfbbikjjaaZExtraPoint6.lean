/- The row of the law InterpolateExtraPoint, out of its plain law and the walk. -/
import Derived.Test.YtdbmhpfbbikjjaaRows
import Derived.Test.YtdbmhpfbbikjjaaZExtraPoint5
import Derived.WalkKit
import Derived.ProofKit
import Derived.OpenShut
import Derived.ShutString
import Derived.ChangeOld
import Derived.Below
import Derived.SizedLaws
section
/- The row of the law InterpolateExtraPoint, out of its plain law and the walk. -/
namespace Go.Proofs.Ytdbmhpfbbikjjaa.interpolateExtraPoint
open Go.ChangeShapes Go.WideShapes Go.ChangeAt Go.RowKit Go.Proofs.Ytdbmhpfbbikjjaa.Pr Go.Proofs.YtdbmhpfbbikjjaaW.PrintWords
set_option linter.unusedVariables false
theorem own : ownKnob Try.prog.godebug = none := by kernel_rfl
theorem laidOut : laidOutB Try.prog = true := by kernel_rfl
theorem open38 : Op.OpenK Try.prog 38 k38 (fun x_ => ((Lit.int .u64 x_.f0).wf = true) ∧ ((Lit.int .u64 x_.f1).wf = true)) := by
  intro H enc w base sp hd fuel cs x h
  obtain ⟨hl, hf⟩ := Op.openFields Try.underlying38 h
  have hN : Try.prog.cellsOf 38 = 2 := by kernel_rfl
  rw [hN] at hl
  obtain ⟨c0_, c1_, rfl⟩ : ∃ c0_ c1_, cs = [c0_, c1_] := by
    match cs, hl with
    | [c0_, c1_], _ => exact ⟨_, _, rfl⟩
  obtain ⟨n0_, y0_, e0_⟩ := hf 0 _ rfl
  have g0_ := (Op.openInt (k := .u64) Try.underlying22) e0_
  obtain ⟨v0_, m0_, q0_⟩ := g0_
  obtain ⟨n1_, y1_, e1_⟩ := hf 1 _ rfl
  have g1_ := (Op.openInt (k := .u64) Try.underlying22) e1_
  obtain ⟨v1_, m1_, q1_⟩ := g1_
  exact ⟨⟨v0_, v1_⟩, ⟨_, _, rfl, m0_, m1_⟩, ⟨q0_, q1_⟩⟩
theorem arr2 (cs : Array Value) (h : cs.size = 2) : ∃ c0_ c1_, cs = #[c0_, c1_] := by
  obtain ⟨l_⟩ := cs
  match l_, h with
  | [c0_, c1_], _ => exact ⟨_, _, rfl⟩
set_option maxHeartbeats 4000000 in
set_option maxRecDepth 100000 in
theorem lifted (os : Os) (started : os.Started) (H : Type) (enc : TypeId × Value → H) :
    ReturnsInHanded {} Try.checked os 9 .any (Rows.interpolateExtraPointSpec.pre6 enc Try.prog Try.f9 Rows.interpolateExtraPointRow.domain false) (Rows.interpolateExtraPointSpec.post enc Try.prog Try.f9 false true false false) := by
  refine returnsInHanded_of_change_sized (C := Try.checked) own started (by kernel_rfl) Try.func9
    (ChangeSpec.witness6 (enc := enc) (C := Try.checked) false ⟨#[], #[.int .u64 0, .slice none 0 0, .agg #[.int .u64 0, .int .u64 0]], []⟩ 8 (by kernel_rfl) (by kernel_rfl) (by kernel_rfl) (by kernel_rfl)) ?_
  intro W base args ds gs before hval0 hW hcnd hsz0 _
  have hval : ∀ (j : Nat) t v, Try.f9.params[j]? = some t → args[j]? = some v → Value.okWide Try.prog W .any base t v := hval0
  have hW' := hW
  obtain ⟨p, q, hA0, hV, rfl, hfz, hnd⟩ := hW
  have hA : DataW.TrodAll enc Try.prog W 0 (fun _ => true) true Try.f9.params.toList args.toList ds p := hA0
  rw [Try.params9] at hA hval
  obtain ⟨v0, vs0, d0, ds0, p0, q0, hargs, rfl, rfl, h0, r0⟩ := trodAll_cons hA
  obtain ⟨v1, vs1, d1, ds1, p1, q1, rfl, rfl, rfl, h1, r1⟩ := trodAll_cons r0
  obtain ⟨v2, vs2, d2, ds2, p2, q2, rfl, rfl, rfl, h2, r2⟩ := trodAll_cons r1
  obtain ⟨rfl, rfl, rfl⟩ := trodAll_nil r2
  obtain rfl : args = #[v0, v1, v2] := by cases args; simp_all
  obtain ⟨rfl, rfl⟩ := trodVars_none hV
  have k0 := h0
  have lt0 : ∀ x ∈ p0, x.block < W.heap.size := by obtain ⟨m, hm⟩ := k0; exact DataW.trod_lt m _ _ _ hm
  obtain ⟨a0, rfl, rfl, rfl, w0⟩ := open_int Try.underlying22 (hval 0 22 v0 rfl rfl) h0
  have k1 := h1
  have lt1 : ∀ x ∈ p1, x.block < W.heap.size := by obtain ⟨m, hm⟩ := k1; exact DataW.trod_lt m _ _ _ hm
  obtain ⟨a1, len1, cap1, rfl⟩ := okWide_slice Try.underlying33 (hval 1 33 v1 rfl rfl)
  obtain ⟨fu1, hf1⟩ := h1
  obtain ⟨z1, ⟨A1, c1, e1, hc1, g1⟩, w1⟩ := (Op.openSlice (d := k38) Try.underlying33 (by kernel_rfl) open38) hf1
  cases e1
  have k2 := h2
  have lt2 : ∀ x ∈ p2, x.block < W.heap.size := by obtain ⟨m, hm⟩ := k2; exact DataW.trod_lt m _ _ _ hm
  obtain ⟨cs2, rfl, hs2⟩ := okWide_struct Try.underlying38 (hval 2 38 v2 rfl rfl)
  have hN2 : Try.prog.cellsOf 38 = 2 := by kernel_rfl
  rw [hN2] at hs2
  obtain ⟨x2_0, x2_1, rfl⟩ := arr2 cs2 hs2
  obtain ⟨fu2, hf2⟩ := h2
  have hg2 : DataW.trod enc Try.prog W 0 (fun _ => true) true fu2 38 [x2_0, x2_1] = some (d2, p2) := hf2
  have f2 := (Op.openFields Try.underlying38 hg2).2
  obtain ⟨n2_0, y2_0, e2_0⟩ := f2 0 _ rfl
  have b2_0 : DataW.trod enc Try.prog W 0 (fun _ => true) true n2_0 22 [x2_0] = some y2_0 := e2_0
  obtain ⟨a2_0, e2_0, w2_0⟩ := (Op.openInt (k := .u64) Try.underlying22) b2_0
  cases e2_0
  obtain ⟨n2_1, y2_1, e2_1⟩ := f2 1 _ rfl
  have b2_1 : DataW.trod enc Try.prog W 0 (fun _ => true) true n2_1 22 [x2_1] = some y2_1 := e2_1
  obtain ⟨a2_1, e2_1, w2_1⟩ := (Op.openInt (k := .u64) Try.underlying22) b2_1
  cases e2_1
  clear hA0 hval0 hsz0
  obtain ⟨kk, hk⟩ := Pure.InterpolateExtraPoint a0 z1 a2_0 a2_1 w0 w1 w2_0 w2_1
  refine (privitylaw05_InterpolateExtraPoint.calls kk a0 _ _ z1 a2_0 a2_1 true W g1 hc1 hk).mono fun e W' ⟨he, bel⟩ => ?_
  subst he
  exact ⟨_, rfl, _, _, _, [], _, [], hW', trodAll_mk1 (shut_bool Try.underlying4 _), (trodAll_cons_mk (shut_int Try.underlying22 w0) (trodAll_cons_mk (Below.trod laidOut (by kernel_rfl) (of_decide_eq_true (by kernel_rfl)) k1 bel lt1) (trodAll_cons_mk (Below.trod laidOut (by kernel_rfl) (of_decide_eq_true (by kernel_rfl)) k2 bel lt2) trodAll_mk0))), rfl, bel.frame _, fun h => by cases h⟩
theorem over : Rows.interpolateExtraPointRow.holds Try.pinned (OpenSpec.ofChange Rows.interpolateExtraPointSpec) :=
  OpenClaim.holds_of_wide 9 Try.f9 rfl rfl rfl rfl rfl rfl rfl ⟨rfl, rfl, rfl, rfl, rfl⟩ rfl rfl rfl rfl rfl (by kernel_rfl) Try.func9 (by kernel_rfl)
    (of_decide_eq_true (by kernel_rfl)) (by unfold Func.isWrapper; first | (rw [if_pos (by decide +kernel)]; kernel_rfl) | (rw [if_neg (by decide +kernel)]; exact ⟨rfl, rfl⟩))
    (fun os started H enc _ => lifted os started H enc)
theorem proved : Rows.InterpolateExtraPointSaid := over
#print axioms proved
end Go.Proofs.Ytdbmhpfbbikjjaa.interpolateExtraPoint
namespace Go.Proofs.Ytdbmhpfbbikjjaa
/-- The row, under a short name, for the claim. -/
theorem interpolateExtraPoint_holds : Rows.InterpolateExtraPointSaid := interpolateExtraPoint.proved
end Go.Proofs.Ytdbmhpfbbikjjaa
end
