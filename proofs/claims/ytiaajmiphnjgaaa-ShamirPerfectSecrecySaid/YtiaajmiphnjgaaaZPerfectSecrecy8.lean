/- The row of the law ShamirPerfectSecrecy, out of its plain law and the walk. -/
import Derived.Test.YtiaajmiphnjgaaaZPerfectSecrecy7
import Derived.Test.YtiaajmiphnjgaaaProg
import Derived.ChangeArms
import Derived.DataReads
import Derived.DataElems
import Derived.ShutString
import Derived.ChangeSame
import Derived.Test.YtiaajmiphnjgaaaZPerfectSecrecy0
import Derived.Test.YtiaajmiphnjgaaaRows
import Derived.WalkKit
import Derived.ProofKit
import Derived.OpenShut
import Derived.ChangeOld
import Derived.Below
import Derived.SizedLaws
section
/-
  Perfect secrecy: for the shares of at most t parties and every secret there is a sharing.
-/
namespace Go.Proofs.Ytiaajmiphnjgaaa.Pure
open Go.RowKit Go.Proofs.Ytiaajmiphnjgaaa.Pr Go.Proofs.Ytiaajmiphnjgaaa.Hw Go.Proofs.Ytiaajmiphnjgaaa.E Go.Proofs.YtiaajmiphnjgaaaW.PrintWords Go.Proofs.YtiaajmiphnjgaaaW.PrintLast Go.Proofs.YtiaajmiphnjgaaaW.PrintMore
set_option linter.unusedVariables false
set_option linter.unusedSimpArgs false

theorem perf_skip (t p : Int) (q xs : List Int) (s : Int) : Ev (fun k => privitylaw09_ShamirPerfectSecrecy.j0 k t true p q xs s) true :=
  Ev.step (f := fun _ => some true) (fun k => by simp only [privitylaw09_ShamirPerfectSecrecy.j0]; rw [if_pos trivial]) (Ev.now _)
theorem perf_next (p : Int) (xs f : List Int) (i : Nat) (hi : i < xs.length) : ptsOf p (xs.take i) f ++ [⟨rd xs i, evI p (rd xs i) f⟩] = ptsOf p (xs.take (i + 1)) f := by
  unfold ptsOf
  rw [List.take_succ_eq_append_getElem hi, List.map_append, rd_nat, Hw.getD_in _ _ hi]; rfl
theorem perf_check {p : Int} (hp : Supp p) (q xs : List Int) (s : Int) {pts : List S34} (hx : PtsOk p pts) {g : List Int} (hg : ∀ x ∈ g, Res p x) (lg : g.length ≤ 100000) (lp : pts.length ≤ 100000) (h : ∀ y ∈ pts, evI p y.f0 g = y.f1) : Ev (fun k => privitylaw09_ShamirPerfectSecrecy.j2 k pts g false p q xs s) true := by
  have main : Ev (fun k => privitylaw09_ShamirPerfectSecrecy.l1 k pts g ((0 : Nat) : Int) p q xs s) true := by
    refine up (Q := fun j => Ev (fun k => privitylaw09_ShamirPerfectSecrecy.l1 k pts g (j : Int) p q xs s) true) (n := pts.length) ?_ ?_
    · refine Ev.step (f := fun _ => some true) (fun k => ?_) (Ev.now _)
      simp only [privitylaw09_ShamirPerfectSecrecy.l1]
      rw [if_neg (by omega)]
    · intro j hj hn
      have e := rdT_nat pts j hj
      have hm : pts[j] ∈ pts := List.getElem_mem _
      refine Ev.step (f := fun k => (poly_Eval.f k p g ((rd_T34 pts (j : Int)).f0)).bind fun t432 => (if t432 = ((rd_T34 pts (j : Int)).f1) then (privitylaw09_ShamirPerfectSecrecy.l1 k pts g ((j + 1 : Nat) : Int) p q xs s) else (some false))) (fun k => ?_) (Ev.bind (eval_ev hp (hx.at_ j hj).1 g hg (by omega)) (hn.congr fun k => if_pos ?_))
      · simp only [privitylaw09_ShamirPerfectSecrecy.l1]
        rw [if_pos (by omega), if_pos (by omega), wnat (by omega)]
      · rw [e]; exact h _ hm
  refine Ev.step (fun k => ?_) main
  simp only [privitylaw09_ShamirPerfectSecrecy.j2]
  rw [if_neg (by simp)]; rfl
theorem perf_main {p : Int} (hp : Supp p) {q xs : List Int} (hq : ∀ x ∈ q, Res p x) (hx : ∀ x ∈ xs, Res p x) (hn : xs.Nodup) {s : Int} (hs : Res p s) (t : Nat) (et : q.length = t + 1) (t9 : t ≤ 9) (lx : xs.length ≤ t) : Ev (fun k => privitylaw09_ShamirPerfectSecrecy.j0 k (t : Int) false p q xs s) true := by
  have hb := hp.bd
  have main : Ev (fun k => privitylaw09_ShamirPerfectSecrecy.l0 k (t : Int) (ptsOf p (xs.take 0) q) ((0 : Nat) : Int) p q xs s) true := by
    have hstep : ∀ j, j < xs.length → (xs.getD j 0 ≠ 0) → Ev (fun k => privitylaw09_ShamirPerfectSecrecy.l0 k (t : Int) (ptsOf p (xs.take (j + 1)) q) ((j + 1 : Nat) : Int) p q xs s) true → Ev (fun k => privitylaw09_ShamirPerfectSecrecy.l0 k (t : Int) (ptsOf p (xs.take j) q) (j : Int) p q xs s) true := by
      intro j hj hj0 h
      rw [← perf_next p xs q j hj] at h
      refine Ev.step (f := fun k => (poly_Eval.f k p q (rd xs j)).bind fun t422 => (if (ptsOf p (xs.take j) q).length < 8796093022208 then (privitylaw09_ShamirPerfectSecrecy.l0 k (t : Int) (ptsOf p (xs.take j) q ++ [(⟨rd xs j, t422⟩ : S34)]) ((j + 1 : Nat) : Int) p q xs s) else (none))) (fun k => ?_) (Ev.bind (eval_ev hp (rd_res' hx j hj) q hq (by omega)) (h.congr fun k => if_pos (by rw [ptsOf_length, List.length_take]; omega)))
      simp only [privitylaw09_ShamirPerfectSecrecy.l0]
      rw [if_pos (by omega), if_pos (by omega), if_neg (by rw [rd_nat]; exact hj0), wnat (by omega)]
    by_cases hz : ∃ i, i < xs.length ∧ xs.getD i 0 = 0
    · obtain ⟨i, hi, h0⟩ := hz
      refine up (Q := fun j => Ev (fun k => privitylaw09_ShamirPerfectSecrecy.l0 k (t : Int) (ptsOf p (xs.take j) q) (j : Int) p q xs s) true) (n := i) ?_ ?_
      · refine Ev.step (fun k => ?_) (Ev.now _)
        simp only [privitylaw09_ShamirPerfectSecrecy.l0]
        rw [if_pos (by omega), if_pos (by omega), rd_nat, if_pos h0]
      · intro j hj h
        by_cases hj0 : xs.getD j 0 = 0
        · refine Ev.step (fun k => ?_) (Ev.now _)
          simp only [privitylaw09_ShamirPerfectSecrecy.l0]
          rw [if_pos (by omega), if_pos (by omega), rd_nat, if_pos hj0]
        · exact hstep j (by omega) hj0 h
    · have hnz : ∀ i, i < xs.length → xs.getD i 0 ≠ 0 := fun i hi h => hz ⟨i, hi, h⟩
      have h0n : (0 :: xs).Nodup := List.nodup_cons.2 ⟨fun h => by
        obtain ⟨i, hi, e⟩ := List.getElem_of_mem h
        exact hnz i hi (by rw [Hw.getD_in _ _ hi]; exact e), hn⟩
      refine up (Q := fun j => Ev (fun k => privitylaw09_ShamirPerfectSecrecy.l0 k (t : Int) (ptsOf p (xs.take j) q) (j : Int) p q xs s) true) (n := xs.length) ?_ (fun j hj h => hstep j hj (hnz j hj) h)
      rw [List.take_length]
      have hok := ptsOf_ok hp hx q
      have hnd : (0 :: xsOf (ptsOf p xs q)).Nodup := by rw [ptsOf_xs]; exact h0n
      have hll : (ptsOf p xs q).length ≤ t := by rw [ptsOf_length]; exact lx
      have htp : (t : Int) < p := by omega
      have hfe := fit_eq hp htp hok hnd hll hs (by omega)
      have hlen := fitL_length hp htp hok hnd hll hs
      have hsec := fitL_secret hp htp hok hnd hll hs
      refine Ev.step (f := fun k => (shamir_FitSecret.f p (t : Int) (ptsOf p xs q) s).bind fun bt426 => (if bt426.2 = 0 then (if (bt426.1.length : Int) = (wrap64 ((t : Int) + 1)) then (if 0 < (bt426.1.length : Int) then (privitylaw09_ShamirPerfectSecrecy.j2 k (ptsOf p xs q) bt426.1 ((rd bt426.1 0) != s) p q xs s) else (none)) else (privitylaw09_ShamirPerfectSecrecy.j2 k (ptsOf p xs q) bt426.1 true p q xs s)) else (privitylaw09_ShamirPerfectSecrecy.j2 k (ptsOf p xs q) bt426.1 true p q xs s))) (fun k => ?_) ?_
      · simp only [privitylaw09_ShamirPerfectSecrecy.l0]
        rw [if_neg (by omega)]
      · refine ev_now_bind hfe (Ev.congr (fun k => if_pos rfl) (Ev.congr (fun k => if_pos ?_) (Ev.congr (fun k => if_pos ?_) ?_)))
        · rw [hlen, wnat (by omega)]
        · rw [hlen]; omega
        · have e : (rd (fitL p t (ptsOf p xs q) s) 0 != s) = false := by
            rw [show rd (fitL p t (ptsOf p xs q) s) 0 = (fitL p t (ptsOf p xs q) s).getD 0 0 from rd_nat _ 0, hsec]; simp
          simp only [e]
          exact perf_check hp q xs s hok (fitL_res hp htp hok hnd hll hs) (by omega) (by omega) (fun y hy => fitL_pt hp htp hok hnd hll hs y hy)
  refine Ev.step (fun k => ?_) main
  simp only [privitylaw09_ShamirPerfectSecrecy.j0]
  rw [if_neg (by simp)]; rfl
theorem ShamirPerfectSecrecy (p : Int) (q xs : List Int) (s : Int) (wp : (Lit.int .u64 p).wf = true) (wq : ∀ x ∈ q, (Lit.int .u64 x).wf = true) (wx : ∀ x ∈ xs, (Lit.int .u64 x).wf = true) (ws : (Lit.int .u64 s).wf = true) (lq : q.length ≤ 9223372036854775807) : ∃ k, privitylaw09_ShamirPerfectSecrecy.f k p q xs s = some true := by
  refine Ev.rounds (r := true) ?_
  have e0 : wrap64 ((q.length : Int) - 1) = (q.length : Int) - 1 := w64' (by omega) (by omega)
  unfold privitylaw09_ShamirPerfectSecrecy.f
  rw [e0]
  refine ev_if awake09 (fun _ => ev_if (supported_ev p) (fun hs => ev_ite (fun _ => perf_skip _ p q xs s) fun h1 => ev_ite (fun _ => perf_skip _ p q xs s) fun h2 => ev_ite (fun _ => perf_skip _ p q xs s) fun h3 =>
    ev_if (below_ev p q (by omega)) (fun hb1 => ev_if (below_ev p xs (by omega)) (fun hb2 => ev_if (unlike_ev xs (by omega)) (fun hb3 => ?_) fun _ => perf_skip _ p q xs s) fun _ => perf_skip _ p q xs s) fun _ => perf_skip _ p q xs s) fun _ => perf_skip _ p q xs s) (fun h => by cases h)
  by_cases hsp : s ≥ p
  · rw [decide_eq_true hsp]; exact perf_skip _ p q xs s
  · rw [decide_eq_false hsp]
    have e : (q.length : Int) - 1 = ((q.length - 1 : Nat) : Int) := by omega
    rw [e]
    exact perf_main (supB_of hs) (below_res hb1 fun x hx => (wf64 (wq x hx)).1) (below_res hb2 fun x hx => (wf64 (wx x hx)).1) (of_decide_eq_true hb3) ⟨(wf64 ws).1, by omega⟩ _ (by omega) (by omega) (by omega)
end Go.Proofs.Ytiaajmiphnjgaaa.Pure
end
section
/-
  What came in, opened: numbers, bools, rows and structs of them, to any depth.
-/
namespace Go.Proofs.Ytiaajmiphnjgaaa.Op
open Go.RowKit Go.Proofs.YtiaajmiphnjgaaaW.PrintWords
set_option linter.unusedVariables false

/-- What is read of a type's value is a value of d, and Q holds of it. -/
def OpenK {α : Type} (P : Program) (t : TypeId) (d : Kd α) (Q : α → Prop) : Prop :=
  ∀ {H : Type} {enc : TypeId × Value → H} {w : World} {base : Nat} {sp : Nat → Bool} {hd : Bool} {fuel : Nat} {cs : List Value} {x : DataW H × List MemPlace}, DataW.trod enc P w base sp hd fuel t cs = some x → ∃ v : α, d.K w v cs ∧ Q v
theorem openInt {P : Program} {t : TypeId} {k : IntKind} (ht : P.underlying t = some (.int k)) : OpenK P t (Kd.int k) (fun n => (Lit.int k n).wf = true) := by
  intro H enc w base sp hd fuel cs x h
  obtain ⟨n, rfl, _, hw⟩ := DataW.trod_int ht h
  exact ⟨n, rfl, hw⟩
theorem exists_list {α : Type} {R : Nat → α → Prop} : ∀ (n : Nat), (∀ i, i < n → ∃ v, R i v) → ∃ l : List α, l.length = n ∧ ∀ i v, l[i]? = some v → R i v
  | 0, _ => ⟨[], rfl, fun i v h => by simp at h⟩
  | n + 1, h => by
    obtain ⟨l, hl, hr⟩ := exists_list n (fun i hi => h i (by omega))
    obtain ⟨v, hv⟩ := h n (by omega)
    refine ⟨l ++ [v], by simp [hl], fun i u hu => ?_⟩
    by_cases hi : i < n
    · rw [List.getElem?_append_left (by omega)] at hu
      exact hr i u hu
    · rw [List.getElem?_append_right (by omega)] at hu
      by_cases h0 : i - l.length = 0
      · rw [h0] at hu
        simp only [List.getElem?_cons_zero, Option.some.injEq] at hu
        rw [← hu, show i = n from by omega]; exact hv
      · rw [List.getElem?_eq_none (by simp; omega)] at hu; cases hu
theorem openSlice {α : Type} {P : Program} {t e : TypeId} {d : Kd α} {Q : α → Prop} (ht : P.underlying t = some (.slice e)) (hc : P.cellsOf e = d.sz) (he : OpenK P e d Q) : OpenK P t (Kd.slice e d) (fun l => ∀ x ∈ l, Q x) := by
  intro H enc w base sp hd fuel cs x h
  rcases DataW.trod_slice ht h with ⟨rfl, _⟩ | ⟨a, len, cap, elems, rest, n, _, rfl, _, _, hlc, hm, hlen, hel, _, _⟩
  · exact ⟨[], ⟨none, 0, rfl, Nat.le_refl _, rfl, Nat.zero_le _, fun h => absurd h (Nat.lt_irrefl 0)⟩, fun x hx => by cases hx⟩
  · have each : ∀ i, i < len → ∃ v, (∃ c, c.length = d.sz ∧ d.K w v c ∧ ∀ j u, c[j]? = some u → w.cell? (a.add (i * d.sz + j)) = some u) ∧ Q v := by
      intro i hi
      have h1 := hel i hi
      rw [List.getElem?_eq_getElem (by omega), hc] at h1
      obtain ⟨c, hcs, htr⟩ := Option.bind_eq_some_iff.1 h1
      obtain ⟨v, hk, hq⟩ := he htr
      refine ⟨v, ⟨c, d.K_len hk, hk, fun j u hu => ?_⟩, hq⟩
      have h2 := World.cells?_some hcs
      have hj := (List.getElem?_eq_some_iff.1 hu).1
      have h3 := h2.2.2 j (by rw [← d.K_len hk]; exact hj)
      rw [hu] at h3
      rw [← h3, ← Addr.add_add]
    obtain ⟨l, hl, hr⟩ := exists_list len each
    refine ⟨l, ⟨some a, cap, by rw [hl], by omega, rfl, by rw [hl]; simp only [maxLen] at hm; omega, fun _ => ⟨a, rfl, fun j p hj => (hr j p hj).1⟩⟩, fun x hx => ?_⟩
    obtain ⟨i, hi, rfl⟩ := List.getElem_of_mem hx
    exact (hr i _ (List.getElem?_eq_getElem hi)).2
/-- A struct's fields. -/
theorem openFields {P : Program} {H : Type} {enc : TypeId × Value → H} {w : World} {base : Nat} {sp : Nat → Bool} {hd : Bool} {fuel : Nat} {t : TypeId} {cs : List Value} {x : DataW H × List MemPlace} {fs : Array Field} (ht : P.underlying t = some (.struct fs))
    (h : DataW.trod enc P w base sp hd fuel t cs = some x) : cs.length = P.cellsOf t ∧ ∀ (i : Nat) (f : Field), fs[i]? = some f → ∃ n y, DataW.trod enc P w base sp hd n f.type ((cs.drop f.offset).take (P.cellsOf f.type)) = some y := by
  obtain ⟨xs, n, _, _, hl, hlen, hf⟩ := DataW.trod_struct ht h
  refine ⟨hl, fun i f hi => ?_⟩
  have h1 := hf i f hi
  have h2 : i < fs.size := (Array.getElem?_eq_some_iff.1 hi).1
  rw [List.getElem?_eq_getElem (by omega)] at h1
  exact ⟨n, _, h1⟩
end Go.Proofs.Ytiaajmiphnjgaaa.Op
end
section
/- The row of the law ShamirPerfectSecrecy, out of its plain law and the walk. -/
namespace Go.Proofs.Ytiaajmiphnjgaaa.shamirPerfectSecrecy
open Go.ChangeShapes Go.WideShapes Go.ChangeAt Go.RowKit Go.Proofs.Ytiaajmiphnjgaaa.Pr Go.Proofs.YtiaajmiphnjgaaaW.PrintWords
set_option linter.unusedVariables false
theorem own : ownKnob Try.prog.godebug = none := by kernel_rfl
theorem laidOut : laidOutB Try.prog = true := by kernel_rfl
theorem arr4 (cs : Array Value) (h : cs.size = 4) : ∃ c0_ c1_ c2_ c3_, cs = #[c0_, c1_, c2_, c3_] := by
  obtain ⟨l_⟩ := cs
  match l_, h with
  | [c0_, c1_, c2_, c3_], _ => exact ⟨_, _, _, _, rfl⟩
set_option maxHeartbeats 4000000 in
set_option maxRecDepth 100000 in
theorem lifted (os : Os) (started : os.Started) (H : Type) (enc : TypeId × Value → H) :
    ReturnsInHanded {} Try.checked os 6 .any (Rows.shamirPerfectSecrecySpec.pre6 enc Try.prog Try.f6 Rows.shamirPerfectSecrecyRow.domain false) (Rows.shamirPerfectSecrecySpec.post enc Try.prog Try.f6 false true false false) := by
  refine returnsInHanded_of_change_sized (C := Try.checked) own started (by kernel_rfl) Try.func6
    (ChangeSpec.witness6 (enc := enc) (C := Try.checked) false ⟨#[], #[.agg #[.int .u64 0, .slice none 0 0, .slice none 0 0, .int .u64 0]], []⟩ 8 (by kernel_rfl) (by kernel_rfl) (by kernel_rfl) (by kernel_rfl)) ?_
  intro W base args ds gs before hval0 hW hcnd hsz0 _
  have hval : ∀ (j : Nat) t v, Try.f6.params[j]? = some t → args[j]? = some v → Value.okWide Try.prog W .any base t v := hval0
  have hW' := hW
  obtain ⟨p, q, hA0, hV, rfl, hfz, hnd⟩ := hW
  have hA : DataW.TrodAll enc Try.prog W 0 (fun _ => true) true Try.f6.params.toList args.toList ds p := hA0
  rw [Try.params6] at hA hval
  obtain ⟨v0, vs0, d0, ds0, p0, q0, hargs, rfl, rfl, h0, r0⟩ := trodAll_cons hA
  obtain ⟨rfl, rfl, rfl⟩ := trodAll_nil r0
  obtain rfl : args = #[v0] := by cases args; simp_all
  obtain ⟨rfl, rfl⟩ := trodVars_none hV
  have k0 := h0
  have lt0 : ∀ x ∈ p0, x.block < W.heap.size := by obtain ⟨m, hm⟩ := k0; exact DataW.trod_lt m _ _ _ hm
  obtain ⟨cs0, rfl, hs0⟩ := okWide_struct Try.underlying46 (hval 0 46 v0 rfl rfl)
  have hN0 : Try.prog.cellsOf 46 = 4 := by kernel_rfl
  rw [hN0] at hs0
  obtain ⟨x0_0, x0_1, x0_2, x0_3, rfl⟩ := arr4 cs0 hs0
  obtain ⟨fu0, hf0⟩ := h0
  have hg0 : DataW.trod enc Try.prog W 0 (fun _ => true) true fu0 46 [x0_0, x0_1, x0_2, x0_3] = some (d0, p0) := hf0
  have f0 := (Op.openFields Try.underlying46 hg0).2
  obtain ⟨n0_0, y0_0, e0_0⟩ := f0 0 _ rfl
  have b0_0 : DataW.trod enc Try.prog W 0 (fun _ => true) true n0_0 22 [x0_0] = some y0_0 := e0_0
  obtain ⟨a0_0, e0_0, w0_0⟩ := (Op.openInt (k := .u64) Try.underlying22) b0_0
  cases e0_0
  obtain ⟨n0_1, y0_1, e0_1⟩ := f0 1 _ rfl
  have b0_1 : DataW.trod enc Try.prog W 0 (fun _ => true) true n0_1 23 [x0_1] = some y0_1 := e0_1
  obtain ⟨z0_1, ⟨A0_1, c0_1, e0_1, hc0_1, g0_1⟩, w0_1⟩ := (Op.openSlice (d := (Kd.int .u64)) Try.underlying23 (by kernel_rfl) (Op.openInt (k := .u64) Try.underlying22)) b0_1
  cases e0_1
  obtain ⟨n0_2, y0_2, e0_2⟩ := f0 2 _ rfl
  have b0_2 : DataW.trod enc Try.prog W 0 (fun _ => true) true n0_2 23 [x0_2] = some y0_2 := e0_2
  obtain ⟨z0_2, ⟨A0_2, c0_2, e0_2, hc0_2, g0_2⟩, w0_2⟩ := (Op.openSlice (d := (Kd.int .u64)) Try.underlying23 (by kernel_rfl) (Op.openInt (k := .u64) Try.underlying22)) b0_2
  cases e0_2
  obtain ⟨n0_3, y0_3, e0_3⟩ := f0 3 _ rfl
  have b0_3 : DataW.trod enc Try.prog W 0 (fun _ => true) true n0_3 22 [x0_3] = some y0_3 := e0_3
  obtain ⟨a0_3, e0_3, w0_3⟩ := (Op.openInt (k := .u64) Try.underlying22) b0_3
  cases e0_3
  clear hA0 hval0 hsz0
  obtain ⟨kk, hk⟩ := Pure.ShamirPerfectSecrecy a0_0 z0_1 z0_2 a0_3 w0_0 w0_1 w0_2 w0_3 g0_1.2.1
  refine (privitylaw09_ShamirPerfectSecrecy.calls kk a0_0 _ _ z0_1 _ _ z0_2 a0_3 true W g0_1 hc0_1 g0_2 hc0_2 hk).mono fun e W' ⟨he, bel⟩ => ?_
  subst he
  exact ⟨_, rfl, _, _, _, [], _, [], hW', trodAll_mk1 (shut_bool Try.underlying4 _), (trodAll_cons_mk (Below.trod laidOut (by kernel_rfl) (of_decide_eq_true (by kernel_rfl)) k0 bel lt0) trodAll_mk0), rfl, bel.frame _, fun h => by cases h⟩
theorem over : Rows.shamirPerfectSecrecyRow.holds Try.pinned (OpenSpec.ofChange Rows.shamirPerfectSecrecySpec) :=
  OpenClaim.holds_of_wide 6 Try.f6 rfl rfl rfl rfl rfl rfl rfl ⟨rfl, rfl, rfl, rfl, rfl⟩ rfl rfl rfl rfl rfl (by kernel_rfl) Try.func6 (by kernel_rfl)
    (of_decide_eq_true (by kernel_rfl)) (by unfold Func.isWrapper; first | (rw [if_pos (by decide +kernel)]; kernel_rfl) | (rw [if_neg (by decide +kernel)]; exact ⟨rfl, rfl⟩))
    (fun os started H enc _ => lifted os started H enc)
theorem proved : Rows.ShamirPerfectSecrecySaid := over
#print axioms proved
end Go.Proofs.Ytiaajmiphnjgaaa.shamirPerfectSecrecy
namespace Go.Proofs.Ytiaajmiphnjgaaa
/-- The row, under a short name, for the claim. -/
theorem shamirPerfectSecrecy_holds : Rows.ShamirPerfectSecrecySaid := shamirPerfectSecrecy.proved
end Go.Proofs.Ytiaajmiphnjgaaa
end
