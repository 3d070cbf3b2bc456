/- Printed by a program of this seat (the kit's printer, with the functions that were proved by hand given to it). What stands here: the functions that the statements reach, as plain functions, and that the Go code computes them. -/
import Derived.Test.YtdbmhpfbbikjjaaZWeightsSumToOne2
import Derived.Test.YtdbmhpfbbikjjaaZWeightsSumToOne4
import Derived.Test.YtdbmhpfbbikjjaaZWeightsSumToOne1
import Derived.Test.YtdbmhpfbbikjjaaZWeightsSumToOne3
import Derived.Test.YtdbmhpfbbikjjaaRows
import Derived.WalkKit
import Derived.ProofKit
import Derived.OpenShut
import Derived.ShutString
import Derived.ChangeOld
import Derived.Below
import Derived.SizedLaws
import Derived.Test.YtdbmhpfbbikjjaaZWeightsSumToOne0
section
/-
  What the hand-proved functions compute, as polynomials over the field: values, lengths, uniqueness.
-/
namespace Go.Proofs.Ytdbmhpfbbikjjaa.E
open Go.RowKit Go.Proofs.Ytdbmhpfbbikjjaa.Pr Go.Proofs.Ytdbmhpfbbikjjaa.Hw Go.Proofs.Ytdbmhpfbbikjjaa.Pl Go.Proofs.YtdbmhpfbbikjjaaW.PrintWords Go.Proofs.YtdbmhpfbbikjjaaW.PrintLast Go.Proofs.YtdbmhpfbbikjjaaW.PrintMore
set_option linter.unusedVariables false
set_option linter.unusedSimpArgs false

theorem nz {p : Int} (hp : Supp p) : NeZero p.toNat := ⟨by have := hp.bd; omega⟩
theorem cast_p {p : Int} (hp : Supp p) : ((p.toNat : Nat) : Int) = p := by have := hp.bd; omega
section
variable {p : Int} (hp : Supp p) [NeZero p.toNat]

/-- The residue, in the field. -/
def T (p : Int) [NeZero p.toNat] (a : Int) : Fin p.toNat := tf p.toNat a
def M (p : Int) [NeZero p.toNat] (l : List Int) : List (Fin p.toNat) := l.map (T p)
include hp in
theorem T_mod (a : Int) : T p (a % p) = T p a := by
  have h := tf_emod (p := p.toNat) a
  rw [cast_p hp] at h; exact h
theorem T_add (a b : Int) : T p (a + b) = T p a + T p b := tf_add a b
theorem T_mul (a b : Int) : T p (a * b) = T p a * T p b := tf_mul a b
theorem T_sub (a b : Int) : T p (a - b) = T p a - T p b := tf_sub a b
theorem T_neg (a : Int) : T p (-a) = - T p a := tf_neg a
theorem T_zero : T p 0 = 0 := tf_zero
theorem T_one : T p 1 = 1 := tf_one
include hp in
theorem T_inj {a b : Int} (ha : Res p a) (hb : Res p b) (h : T p a = T p b) : a = b :=
  tf_inj (p := p.toNat) (by rw [cast_p hp]; exact ha) (by rw [cast_p hp]; exact hb) h
include hp in
theorem T_inv {a : Int} (ha : Res p a) (h0 : a ≠ 0) : T p a * T p (invp p a) = 1 := by
  rw [← T_mul, ← T_one, ← T_mod hp (a * invp p a), inv_spec hp ha h0]
include hp in
theorem T_back (x : Fin p.toNat) : Res p ((x.val : Nat) : Int) ∧ T p ((x.val : Nat) : Int) = x := by
  have := x.isLt
  have := cast_p hp
  exact ⟨⟨by omega, by omega⟩, tf_of_val x⟩
include hp in
theorem dom : Dom p.toNat := by
  intro a b h
  obtain ⟨r, e⟩ := T_back hp a
  by_cases h0 : ((a.val : Nat) : Int) = 0
  · left; rw [← e, h0, T_zero]
  · right
    have h1 := T_inv hp r h0
    rw [e] at h1
    grind
include hp in
theorem ev_evI (x : Int) : ∀ l, T p (evI p x l) = ev (T p x) (M p l)
  | [] => T_zero
  | c :: l => by
    have := ev_evI x l
    simp only [evI, M, List.map_cons, ev]
    rw [T_mod hp, T_add, T_mod hp, T_mul, this, M]
    grind
theorem M_getD (l : List Int) (i : Nat) : (M p l).getD i 0 = T p (l.getD i 0) := getD_tf l i
theorem M_length (l : List Int) : (M p l).length = l.length := List.length_map _
theorem ev_trimL (x : Fin p.toNat) (l : List Int) : ev x (M p (trimL l)) = ev x (M p l) :=
  ev_congr x _ _ (fun i => by rw [M_getD, M_getD, trimL_getD])
theorem ev_grow (x : Fin p.toNat) (l : List Int) (n : Nat) : ev x (M p (grow l n)) = ev x (M p l) := by
  have : M p (grow l n) = M p l ++ List.replicate (n - l.length) 0 := by
    unfold grow M; rw [List.map_append, List.map_replicate, T_zero]
  rw [this, ev_append, ev_zeros]; grind
include hp in
theorem ev_put (x : Fin p.toNat) (l : List Int) (i : Nat) (k : Int) : ev x (M p (putL p l i k)) = ev x (M p l) + T p k * mono x i := by
  have hg : i < (grow l (i + 1)).length := by unfold grow; simp; omega
  have : M p (putL p l i k) = (M p (grow l (i + 1))).set i (T p ((grow l (i + 1)).getD i 0) + T p k) := by
    unfold putL M; rw [List.map_set, T_mod hp, T_add]
  rw [this, ev_set _ _ _ _ (by rw [M_length]; exact hg), ev_grow, M_getD]
  grind
include hp in
theorem ev_puts (x : Fin p.toNat) (m l : List Int) : ∀ n, ev x (M p (putsL p m l n)) = ev x (M p m) + ev x ((M p l).take n)
  | 0 => by simp only [putsL, List.take_zero, ev]; grind
  | n + 1 => by rw [putsL, ev_put hp, ev_puts x m l n, ev_take_succ, M_getD]; grind
theorem M_take_all (l : List Int) : (M p l).take l.length = M p l := by rw [← M_length (p := p) l, List.take_length]
include hp in
theorem ev_addP (x : Fin p.toNat) (a b : List Int) : ev x (M p (addP p a b)) = ev x (M p a) + ev x (M p b) := by
  unfold addP
  rw [ev_puts hp, ev_puts hp, M_take_all, M_take_all]
  show ev x [] + _ + _ = _
  simp only [ev]; grind
include hp in
theorem ev_row (x : Fin p.toNat) (m : List Int) (u : Int) (b : List Int) (i : Nat) : ∀ n, ev x (M p (rowL p m u b i n)) = ev x (M p m) + T p u * mono x i * ev x ((M p b).take n)
  | 0 => by simp only [rowL, List.take_zero, ev]; grind
  | n + 1 => by
    rw [rowL, ev_put hp, ev_row x m u b i n, ev_take_succ, M_getD, T_mod hp, T_mul, mono_add, rd_nat]; grind
include hp in
theorem ev_muls (x : Fin p.toNat) (a b : List Int) : ∀ n, ev x (M p (mulsL p a b n)) = ev x ((M p a).take n) * ev x (M p b)
  | 0 => by simp only [mulsL, List.take_zero, M, List.map_nil, ev]; grind
  | n + 1 => by rw [mulsL, ev_row hp, ev_muls x a b n, M_take_all, ev_take_succ, M_getD, rd_nat]; grind
include hp in
theorem ev_scaleL (x : Fin p.toNat) (k : Int) : ∀ l, ev x (M p (l.map fun v => k * v % p)) = T p k * ev x (M p l)
  | [] => by simp only [M, List.map_nil, ev]; grind
  | c :: l => by
    have := ev_scaleL x k l
    simp only [M, List.map_cons, ev] at *
    rw [this, T_mod hp, T_mul]; grind
include hp in
theorem M_nodup : ∀ {xs : List Int}, (∀ x ∈ xs, Res p x) → xs.Nodup → (M p xs).Nodup
  | [], _, _ => List.nodup_nil
  | a :: xs, h, hn => by
    have hn' := List.nodup_cons.1 hn
    refine List.nodup_cons.2 ⟨fun hm => ?_, M_nodup (fun x hx => h x (List.mem_cons_of_mem _ hx)) hn'.2⟩
    obtain ⟨b, hb, e⟩ := List.mem_map.1 hm
    have := T_inj hp (h b (List.mem_cons_of_mem _ hb)) (h a (by simp)) e
    exact hn'.1 (this ▸ hb)
end

/-- Two lists of residues with at most n coefficients that agree at n points are one, but for zeros at the end. -/
theorem uniq {p : Int} (hp : Supp p) {xs f g : List Int} (hx : ∀ x ∈ xs, Res p x) (hn : xs.Nodup) (hf : ∀ x ∈ f, Res p x) (hg : ∀ x ∈ g, Res p x) (lf : f.length ≤ xs.length) (lg : g.length ≤ xs.length)
    (h : ∀ x ∈ xs, evI p x f = evI p x g) : trimL f = trimL g := by
  haveI := nz hp
  have hb := hp.bd
  refine trimL_ext fun i => ?_
  have hz : ∀ {l : List Int}, (∀ x ∈ l, Res p x) → Res p (l.getD i 0) := by
    intro l hl
    rw [List.getD_eq_getElem?_getD]
    by_cases hi : i < l.length
    · rw [List.getElem?_eq_getElem hi]; exact hl _ (List.getElem_mem hi)
    · rw [List.getElem?_eq_none (by omega)]; exact ⟨Int.le_refl 0, by show (0 : Int) < p; omega⟩
  refine T_inj hp (hz hf) (hz hg) ?_
  rw [← M_getD, ← M_getD]
  refine unique (dom hp) (M p xs) (M p f) (M p g) (M_nodup hp hx hn) (by simp only [M_length]; exact lf) (by simp only [M_length]; exact lg) (fun y hy => ?_) i
  obtain ⟨x, hxx, rfl⟩ := List.mem_map.1 hy
  rw [← ev_evI hp, ← ev_evI hp, h x hxx]
theorem mulsL_lin_length {p : Int} (f : List Int) (o : Int) : ∀ n, (mulsL p f [o, 1] n).length ≤ n + 1 := by
  intro n
  induction n with
  | zero => simp [mulsL]
  | succ n ih =>
    show (rowL p (mulsL p f [o, 1] n) (rd f n) [o, 1] n 2).length ≤ _
    simp only [rowL, putL_length, Nat.add_zero]; omega
section
variable {p : Int} (hp : Supp p) [NeZero p.toNat]
include hp in
/-- The factors of one round, as values. -/
theorem polS_ev (y : Fin p.toNat) (X : Int) : ∀ (l : List Int) (s : List Int × Int),
    ev y (M p (l.foldl (polStep p X) s).1) = ev y (M p s.1) * lin y (M p l) ∧ T p (l.foldl (polStep p X) s).2 = T p s.2 * lin (T p X) (M p l) ∧ (l.foldl (polStep p X) s).1.length ≤ s.1.length + l.length
  | [], s => ⟨by show _ = _ * 1; grind, by show _ = _ * 1; grind, by simp⟩
  | o :: l, s => by
    obtain ⟨h1, h2, h3⟩ := polS_ev y X l (polStep p X s o)
    have e1 : ev y (M p (polStep p X s o).1) = ev y (M p s.1) * (y - T p o) := by
      show ev y (M p (trimL (mulsL p s.1 [-o % p, 1] s.1.length))) = _
      rw [ev_trimL, ev_muls hp, M_take_all]
      simp only [M, List.map_cons, List.map_nil, ev, T_mod hp, T_neg, T_one]
      grind
    have e2 : T p (polStep p X s o).2 = T p s.2 * (T p X - T p o) := by
      show T p (s.2 * ((X - o) % p) % p) = _
      rw [T_mod hp, T_mul, T_mod hp, T_sub]
    have e3 : (polStep p X s o).1.length ≤ s.1.length + 1 := Nat.le_trans (trimL_length _) (mulsL_lin_length s.1 _ _)
    simp only [List.foldl_cons, List.length_cons]
    rw [h1, h2, e1, e2]
    refine ⟨?_, ?_, by omega⟩
    · simp only [M, List.map_cons, lin]; grind
    · simp only [M, List.map_cons, lin]; grind
end

theorem othersN_len (xs : List Int) (i : Nat) : ∀ n, (othersN xs i n).length = if i < n then n - 1 else n
  | 0 => rfl
  | n + 1 => by
    have ih := othersN_len xs i n
    unfold othersN
    by_cases h : n = i
    · subst h; rw [if_pos rfl, ih, if_neg (by omega), if_pos (by omega)]; omega
    · rw [if_neg h, List.length_append, ih]
      by_cases h2 : i < n
      · rw [if_pos h2, if_pos (by omega)]; simp; omega
      · rw [if_neg h2, if_neg (by omega)]; simp
theorem othersN_has (xs : List Int) (i j : Nat) (hne : j ≠ i) : ∀ n, j < n → rd xs j ∈ othersN xs i n
  | n + 1, h => by
    unfold othersN
    by_cases hj : j = n
    · subst hj; rw [if_neg hne]; simp
    · have := othersN_has xs i j hne n (by omega)
      split
      · exact this
      · exact List.mem_append_left _ this
theorem othersN_ne {xs : List Int} (hnd : xs.Nodup) (i : Nat) (hi : i < xs.length) (n : Nat) (hn : n ≤ xs.length) : ∀ o ∈ othersN xs i n, rd xs i ≠ o := by
  intro o ho
  obtain ⟨j, h1, h2, rfl⟩ := othersN_mem ho
  rw [rd_nat, rd_nat, Hw.getD_in _ _ hi, Hw.getD_in _ _ (by omega)]
  intro e
  rw [List.nodup_iff_pairwise_ne, List.pairwise_iff_getElem] at hnd
  rcases Nat.lt_trichotomy i j with h3 | h3 | h3
  · exact hnd i j hi (by omega) h3 e
  · exact h2 h3.symm
  · exact hnd j i (by omega) hi h3 e.symm
theorem othersN_res {p : Int} {xs : List Int} (hx : ∀ x ∈ xs, Res p x) (i n : Nat) (hn : n ≤ xs.length) : ∀ o ∈ othersN xs i n, Res p o := by
  intro o ho
  obtain ⟨j, h1, _, rfl⟩ := othersN_mem ho
  exact rd_res' hx j (by omega)
section
variable {p : Int} (hp : Supp p) [NeZero p.toNat]
/-- The sum of n values. -/
def sumF (f : Nat → Fin p.toNat) : Nat → Fin p.toNat
  | 0 => 0
  | n + 1 => sumF f n + f n
theorem sumF_congr {f g : Nat → Fin p.toNat} : ∀ n, (∀ i, i < n → f i = g i) → sumF f n = sumF g n
  | 0, _ => rfl
  | n + 1, h => by simp only [sumF]; rw [sumF_congr n (fun i hi => h i (by omega)), h n (by omega)]
theorem sumF_one {f : Nat → Fin p.toNat} {j : Nat} : ∀ n, (∀ i, i < n → i ≠ j → f i = 0) → sumF f n = if j < n then f j else 0
  | 0, _ => rfl
  | n + 1, h => by
    simp only [sumF]
    rw [sumF_one n (fun i hi => h i (by omega))]
    by_cases hj : j = n
    · subst hj; rw [if_neg (by omega), if_pos (by omega)]; grind
    · rw [h n (by omega) (fun e => hj e.symm)]
      by_cases h2 : j < n
      · rw [if_pos h2, if_pos (by omega)]; grind
      · rw [if_neg h2, if_neg (by omega)]; grind
/-- The other places, in the field. -/
def oth (p : Int) [NeZero p.toNat] (xs : List Int) (i : Nat) : List (Fin p.toNat) := M p (othersN xs i xs.length)
/-- One over the product of the differences. -/
def dinv (p : Int) [NeZero p.toNat] (xs : List Int) (i : Nat) : Fin p.toNat := T p (invp p (lagS p 0 xs i).2)
include hp in
theorem lagS_ev (a : Int) (X : Int) : ∀ (l : List Int) (s : Int × Int),
    T p (l.foldl (lagStep p a X) s).1 = T p s.1 * lin (T p a) (M p l) ∧ T p (l.foldl (lagStep p a X) s).2 = T p s.2 * lin (T p X) (M p l)
  | [], s => ⟨by show _ = _ * 1; grind, by show _ = _ * 1; grind⟩
  | o :: l, s => by
    obtain ⟨h1, h2⟩ := lagS_ev a X l (lagStep p a X s o)
    simp only [List.foldl_cons, M, List.map_cons, lin]
    rw [h1, h2]
    simp only [lagStep, M]
    rw [T_mod hp, T_mod hp, T_mul, T_mul, T_mod hp, T_mod hp, T_sub, T_sub]
    constructor <;> grind
include hp in
theorem dinv_spec {xs : List Int} (hx : ∀ x ∈ xs, Res p x) (hn : xs.Nodup) (i : Nat) (hi : i < xs.length) : lin (T p (rd xs i)) (oth p xs i) * dinv p xs i = 1 := by
  have hb := hp.bd
  obtain ⟨h1, h2, h3⟩ := lagS_ok hp (a := 0) hx hn i hi
  have h := (lagS_ev hp 0 (rd xs i) (othersN xs i xs.length) (1, 1)).2
  have e := T_inv hp h2 h3
  have h' : T p (lagS p 0 xs i).2 = lin (T p (rd xs i)) (oth p xs i) := by
    unfold lagS oth; rw [h, T_one]; grind
  rw [h'] at e
  exact e
include hp in
theorem lagW_ev (a : Int) {xs : List Int} (hx : ∀ x ∈ xs, Res p x) (hn : xs.Nodup) (i : Nat) (hi : i < xs.length) : T p (lagW p a xs i) = lin (T p a) (oth p xs i) * dinv p xs i := by
  obtain ⟨h1, h2, h3⟩ := lagS_ok hp (a := a) hx hn i hi
  have h := lagS_ev hp a (rd xs i) (othersN xs i xs.length) (1, 1)
  have e := T_inv hp h2 h3
  have d := dinv_spec hp hx hn i hi
  have e1 : T p (lagS p a xs i).1 = lin (T p a) (oth p xs i) := by unfold lagS oth; rw [h.1, T_one]; grind
  have e2 : T p (lagS p a xs i).2 = lin (T p (rd xs i)) (oth p xs i) := by unfold lagS oth; rw [h.2, T_one]; grind
  unfold lagW
  rw [T_mod hp, T_mul, e1]
  rw [e2] at e
  generalize lin (T p (rd xs i)) (oth p xs i) = D at *
  have : T p (invp p (lagS p a xs i).2) = dinv p xs i := by grind
  rw [this]
include hp in
theorem polTerm_ev {pts : List S38} (hx : PtsOk p pts) (hn : (xsOf pts).Nodup) (i : Nat) (hi : i < pts.length) (y : Fin p.toNat) :
    ev y (M p (polTerm p pts i)) = T p (rd_T38 pts (i : Int)).f1 * (lin y (oth p (xsOf pts) i) * dinv p (xsOf pts) i) := by
  have hl : (xsOf pts).length = pts.length := by simp [xsOf]
  obtain ⟨h1, h2, h3⟩ := polS_ev hp y (rd_T38 pts (i : Int)).f0 (othersN (xsOf pts) i pts.length) ([1], 1)
  obtain ⟨hr1, hr2, hlen, hD0⟩ := polS_ok hp hx hi hn
  have d := dinv_spec hp hx.xs hn i (by omega)
  have e := T_inv hp hr2 hD0
  unfold polTerm
  rw [ev_trimL, ev_scaleL hp, T_mod hp, T_mul]
  have e1 : ev y (M p (polS p pts i).1) = lin y (oth p (xsOf pts) i) := by
    unfold polS oth; rw [h1, hl]; simp only [M, List.map_cons, List.map_nil, ev, T_one]; grind
  have e2 : T p (polS p pts i).2 = lin (T p (rd (xsOf pts) i)) (oth p (xsOf pts) i) := by
    unfold polS oth; rw [h2, T_one, xsOf_rd pts i hi, hl]; grind
  rw [e1]
  rw [e2] at e
  generalize lin (T p (rd (xsOf pts) i)) (oth p (xsOf pts) i) = D at *
  have : T p (invp p (polS p pts i).2) = dinv p (xsOf pts) i := by grind
  rw [this]; grind
include hp in
theorem polSum_ev {pts : List S38} (hx : PtsOk p pts) (hn : (xsOf pts).Nodup) (y : Fin p.toNat) : ∀ n, n ≤ pts.length →
    ev y (M p (polSum p pts n)) = sumF (fun i => T p (rd_T38 pts (i : Int)).f1 * (lin y (oth p (xsOf pts) i) * dinv p (xsOf pts) i)) n
  | 0, _ => rfl
  | n + 1, h => by
    rw [polSum, ev_trimL, ev_addP hp, polSum_ev hx hn y n (by omega), polTerm_ev hp hx hn n (by omega) y]; rfl
include hp in
theorem polTerm_len {pts : List S38} (i : Nat) (hi : i < pts.length) : (polTerm p pts i).length ≤ pts.length := by
  obtain ⟨h1, h2, h3⟩ := polS_ev hp 0 (rd_T38 pts (i : Int)).f0 (othersN (xsOf pts) i pts.length) ([1], 1)
  rw [othersN_len, if_pos hi] at h3
  simp only [List.length_cons, List.length_nil] at h3
  refine Nat.le_trans (trimL_length _) ?_
  rw [List.length_map]
  unfold polS
  omega
include hp in
theorem polSum_len {pts : List S38} : ∀ n, n ≤ pts.length → (polSum p pts n).length ≤ pts.length
  | 0, _ => by simp [polSum]
  | n + 1, h => by
    have h1 := polSum_len (pts := pts) n (by omega)
    have h2 := polTerm_len hp (pts := pts) n (by omega)
    refine Nat.le_trans (trimL_length _) ?_
    rw [addP_length]; omega
include hp in
theorem polL_ev {pts : List S38} (hx : PtsOk p pts) (hn : (xsOf pts).Nodup) (y : Fin p.toNat) :
    ev y (M p (polL p pts)) = sumF (fun i => T p (rd_T38 pts (i : Int)).f1 * (lin y (oth p (xsOf pts) i) * dinv p (xsOf pts) i)) pts.length := by
  unfold polL; rw [ev_trimL, polSum_ev hp hx hn y pts.length (Nat.le_refl _)]
end

theorem polL_res {p : Int} (hp : Supp p) {pts : List S38} (hx : PtsOk p pts) : ∀ x ∈ polL p pts, Res p x := fun x h => (polSum_ok hp hx pts.length (Nat.le_refl _)).1 x (trimL_mem h)
theorem polL_len {p : Int} (hp : Supp p) {pts : List S38} : (polL p pts).length ≤ pts.length := by
  haveI := nz hp
  exact Nat.le_trans (trimL_length _) (polSum_len hp pts.length (Nat.le_refl _))
theorem polL_trim (p : Int) (pts : List S38) : trimL (polL p pts) = polL p pts := trimL_trimL _
/-- The polynomial passes through the points. -/
theorem polL_at {p : Int} (hp : Supp p) {pts : List S38} (hx : PtsOk p pts) (hn : (xsOf pts).Nodup) (j : Nat) (hj : j < pts.length) :
    evI p (rd_T38 pts (j : Int)).f0 (polL p pts) = (rd_T38 pts (j : Int)).f1 := by
  haveI := nz hp
  have hl : (xsOf pts).length = pts.length := by simp [xsOf]
  refine T_inj hp (evI_res hp _ _) (hx.at_ j hj).2 ?_
  rw [ev_evI hp, polL_ev hp hx hn, sumF_one (j := j) _ (fun i hi hij => ?_), if_pos hj]
  · have d := dinv_spec hp hx.xs hn j (by omega)
    rw [xsOf_rd pts j hj] at d
    grind
  · have : lin (T p (rd_T38 pts (j : Int)).f0) (oth p (xsOf pts) i) = 0 := by
      refine lin_zero ?_
      rw [← xsOf_rd pts j hj]
      exact List.mem_map_of_mem (othersN_has _ _ _ (fun e => hij e.symm) _ (by omega))
    rw [this]; grind
/-- What is known of a polynomial through the points. -/
theorem polL_char {p : Int} (hp : Supp p) {pts : List S38} (hx : PtsOk p pts) (hn : (xsOf pts).Nodup) {g : List Int} (hg : ∀ x ∈ g, Res p x) (lg : g.length ≤ pts.length)
    (h : ∀ j, j < pts.length → evI p (rd_T38 pts (j : Int)).f0 g = (rd_T38 pts (j : Int)).f1) : polL p pts = trimL g := by
  have hl : (xsOf pts).length = pts.length := by simp [xsOf]
  rw [← polL_trim]
  refine uniq hp hx.xs hn (polL_res hp hx) hg (by rw [hl]; exact polL_len hp) (by omega) (fun x hxx => ?_)
  obtain ⟨j, hj, rfl⟩ := List.getElem_of_mem hxx
  have e := xsOf_rd pts j (by omega)
  rw [rd_nat, Hw.getD_in _ _ hj] at e
  rw [e, polL_at hp hx hn j (by omega), h j (by omega)]
/-- The points of a polynomial over places. -/
def ptsOf (p : Int) (xs : List Int) (f : List Int) : List S38 := xs.map fun x => ⟨x, evI p x f⟩
theorem ptsOf_xs (p : Int) (xs f : List Int) : xsOf (ptsOf p xs f) = xs := by unfold xsOf ptsOf; rw [List.map_map]; exact List.map_id _
theorem ptsOf_rd (p : Int) (xs f : List Int) (j : Nat) (hj : j < xs.length) : rd_T38 (ptsOf p xs f) (j : Int) = ⟨rd xs j, evI p (rd xs j) f⟩ := by
  rw [rdT_nat _ _ (by unfold ptsOf; simpa using hj), rd_nat, Hw.getD_in _ _ hj]; simp [ptsOf]
theorem ptsOf_ok {p : Int} (hp : Supp p) {xs : List Int} (hx : ∀ x ∈ xs, Res p x) (f : List Int) : PtsOk p (ptsOf p xs f) := by
  intro y hy
  obtain ⟨x, h, rfl⟩ := List.mem_map.1 hy
  exact ⟨hx x h, evI_res hp _ _⟩
theorem ptsOf_length (p : Int) (xs f : List Int) : (ptsOf p xs f).length = xs.length := List.length_map _
theorem polL_ptsOf {p : Int} (hp : Supp p) {xs f : List Int} (hx : ∀ x ∈ xs, Res p x) (hn : xs.Nodup) (hf : ∀ x ∈ f, Res p x) (hl : f.length ≤ xs.length) : polL p (ptsOf p xs f) = trimL f := by
  refine polL_char hp (ptsOf_ok hp hx f) (by rw [ptsOf_xs]; exact hn) hf (by rw [ptsOf_length]; exact hl) (fun j hj => ?_)
  rw [ptsOf_length] at hj
  rw [ptsOf_rd _ _ _ _ hj]
/-- The weighted sum of the values is the value at the target. -/
theorem lagW_sum {p : Int} (hp : Supp p) [NeZero p.toNat] {xs f : List Int} (hx : ∀ x ∈ xs, Res p x) (hn : xs.Nodup) (hf : ∀ x ∈ f, Res p x) (hl : f.length ≤ xs.length) (a : Int) :
    sumF (fun i => T p (lagW p a xs i) * T p (evI p (rd xs i) f)) xs.length = T p (evI p a f) := by
  rw [ev_evI hp, ← ev_trimL, ← polL_ptsOf hp hx hn hf hl, polL_ev hp (ptsOf_ok hp hx f) (by rw [ptsOf_xs]; exact hn), ptsOf_length, ptsOf_xs]
  refine sumF_congr _ fun i hi => ?_
  rw [ptsOf_rd _ _ _ _ hi, lagW_ev hp a hx hn i hi]
  grind
end Go.Proofs.Ytdbmhpfbbikjjaa.E
end
section
/- Printed by a program of this seat (the kit's printer, with the functions that were proved by hand given to it). What stands here: the functions that the statements reach, as plain functions, and that the Go code computes them. -/
namespace Go.Proofs.Ytdbmhpfbbikjjaa.Pr
open Go.RowKit Go.Proofs.YtdbmhpfbbikjjaaW.PrintWords Go.Proofs.YtdbmhpfbbikjjaaW.PrintLast Go.Proofs.YtdbmhpfbbikjjaaW.PrintMore
attribute [local go_sem] max2_int min2_int max_two min_two max_three min_three max_four min_four   -- for this text's walks alone
set_option linter.unusedVariables false
set_option linter.unusedSimpArgs false

open Go.Proofs.Ytdbmhpfbbikjjaa.Hw
/-! ### privityref04_Coefficient: function 61 -/
/-! ### privityref04_Add: function 45 -/
/-! ### privityref04_Scale: function 46 -/
end Go.Proofs.Ytdbmhpfbbikjjaa.Pr
end
section
/-
  The reference of layer 4: what its printed functions answer.
-/
namespace Go.Proofs.Ytdbmhpfbbikjjaa.E
open Go.RowKit Go.Proofs.Ytdbmhpfbbikjjaa.Pr Go.Proofs.Ytdbmhpfbbikjjaa.Hw Go.Proofs.Ytdbmhpfbbikjjaa.Pl Go.Proofs.YtdbmhpfbbikjjaaW.PrintWords Go.Proofs.YtdbmhpfbbikjjaaW.PrintLast Go.Proofs.YtdbmhpfbbikjjaaW.PrintMore
set_option linter.unusedVariables false
set_option linter.unusedSimpArgs false

theorem rtrim_l0 (l : List Int) (hl : l.length ≤ 1099511627776) : ∀ (m : Nat), m ≤ l.length → (∀ j, m ≤ j → l.getD j 0 = 0) → Ev (fun k => privityref04_Trim.l0 k l (m : Int)) (trimL l) := by
  have hend : ∀ m : Nat, (trimL l).length = m → m ≤ l.length → ((some (([] : List Int) : List Int)).bind fun y250 => (if 0 ≤ (m : Int) then (if (m : Int) ≤ (l.length : Int) then (if y250.length + (l.take ((m : Int) : Int).toNat).length < 17592186044416 then (some (y250 ++ (l.take ((m : Int) : Int).toNat))) else (none)) else (none)) else (none))) = some (trimL l) := by
    intro m hm hle
    rw [Option.bind_some, if_pos (by omega), if_pos (by omega), Int.toNat_natCast, ← hm, trimL_take, if_pos (by have := trimL_length l; simp; omega)]
    rfl
  intro m
  induction m with
  | zero =>
    intro _ hz
    have : trimL l = [] := (trimL_nil_iff l).2 fun i => hz i (Nat.zero_le _)
    refine Ev.step (fun k => ?_) (Ev.now _)
    simp only [privityref04_Trim.l0]
    rw [if_neg (by omega)]
    exact hend 0 (by rw [this]; rfl) (Nat.zero_le _)
  | succ m ih =>
    intro hm hz
    have e : wrap64 (((m + 1 : Nat) : Int) - 1) = (m : Int) := by rw [wrap64]; omega
    by_cases h0 : l.getD m 0 = 0
    · refine Ev.step (fun k => ?_) (ih (by omega) (fun j hj => by
        by_cases e : j = m
        · rw [e]; exact h0
        · exact hz j (by omega)))
      simp only [privityref04_Trim.l0]
      rw [if_pos (by omega), e, if_pos (by omega), if_pos (by omega), rd_nat, if_pos h0]
    · refine Ev.step (fun k => ?_) (Ev.now _)
      simp only [privityref04_Trim.l0]
      rw [if_pos (by omega), e, if_pos (by omega), if_pos (by omega), rd_nat, if_neg h0]
      refine hend (m + 1) ?_ hm
      have hne : trimL l ≠ [] := fun e => h0 ((trimL_nil_iff l).1 e m)
      have hp : 0 < (trimL l).length := List.length_pos_iff.2 hne
      have h2 := trimL_last l hne
      rw [trimL_getD] at h2
      have h3 : (trimL l).length - 1 < m + 1 := Nat.lt_of_not_le fun h => h2 (hz _ h)
      have h4 : m < (trimL l).length := Nat.lt_of_not_le fun h => h0 (by rw [← trimL_getD, List.getD_eq_getElem?_getD, List.getElem?_eq_none h]; rfl)
      omega
theorem getD_out (l : List Int) (j : Nat) (h : l.length ≤ j) : l.getD j 0 = 0 := by rw [List.getD_eq_getElem?_getD, List.getElem?_eq_none h]; rfl
theorem rtrim_ev (l : List Int) (hl : l.length ≤ 1099511627776) : Ev (fun k => privityref04_Trim.f k l) (trimL l) :=
  rtrim_l0 l hl l.length (Nat.le_refl _) (fun j hj => getD_out l j hj)
theorem res_getD {p : Int} (hp : Supp p) {l : List Int} (hl : ∀ x ∈ l, Res p x) (i : Nat) : Res p (l.getD i 0) := by
  have hb := hp.bd
  by_cases hi : i < l.length
  · rw [Hw.getD_in _ _ hi]; exact hl _ (List.getElem_mem hi)
  · rw [getD_out l i (by omega)]; exact ⟨Int.le_refl 0, by show (0 : Int) < p; omega⟩
/-! ### Coefficients of what the program adds up -/
theorem grow_getD (l : List Int) (n j : Nat) : (grow l n).getD j 0 = l.getD j 0 := by
  unfold grow
  by_cases h : j < l.length
  · rw [List.getD_eq_getElem?_getD, List.getD_eq_getElem?_getD, List.getElem?_append_left h]
  · rw [getD_out l j (by omega), List.getD_eq_getElem?_getD, List.getElem?_append_right (by omega)]
    by_cases h2 : j - l.length < n - l.length
    · rw [List.getElem?_replicate, if_pos h2]; rfl
    · rw [List.getElem?_replicate, if_neg h2]; rfl
theorem putL_getD (p : Int) (l : List Int) (i : Nat) (k : Int) (j : Nat) : (putL p l i k).getD j 0 = if j = i then (l.getD i 0 + k) % p else l.getD j 0 := by
  have hg : i < (grow l (i + 1)).length := by unfold grow; simp; omega
  unfold putL
  rw [List.getD_eq_getElem?_getD, List.getElem?_set]
  by_cases h : i = j
  · subst h; rw [if_pos rfl, if_pos hg, if_pos rfl, grow_getD]; rfl
  · rw [if_neg h, if_neg (fun e => h e.symm), ← List.getD_eq_getElem?_getD, grow_getD]
/-! ### Sum -/
/-! ### Scale -/
/-! ### Eval -/
theorem evI_take_next {p : Int} (hp : Supp p) (l : List Int) (x pw : Int) (i : Nat) (hpw : pw = x ^ i % p) : (evI p x (l.take i) + l.getD i 0 * pw % p) % p = evI p x (l.take (i + 1)) := by
  haveI := nz hp
  refine T_inj hp (Res.mod hp _) (evI_res hp _ _) ?_
  have hm : ∀ n : Nat, T p (x ^ n) = mono (T p x) n := by
    intro n
    induction n with
    | zero => rw [Int.pow_zero, T_one]; rfl
    | succ n ih => rw [Int.pow_succ, T_mul, ih]; simp only [mono]; grind
  rw [T_mod hp, T_add, T_mod hp, T_mul, hpw, T_mod hp, hm, ev_evI hp, ev_evI hp]
  have e : ∀ n, M p (l.take n) = (M p l).take n := fun n => by unfold M; rw [List.map_take]
  rw [e, e, ev_take_succ, M_getD]
theorem reval_ev {p : Int} (hp : Supp p) {x : Int} (hx : Res p x) (l : List Int) (hl : ∀ c ∈ l, Res p c) (hll : l.length ≤ 1000000000) : Ev (fun k => privityref04_Eval.f k p l x) (evI p x l) := by
  have hb := hp.bd
  have h1p : (1 : Int) % p = 1 := Int.emod_eq_of_lt (by omega) (by omega)
  have := up (Q := fun i => Ev (fun k => privityref04_Eval.l0 k p l x (evI p x (l.take i)) (x ^ i % p) (i : Int)) (evI p x l)) (n := l.length) ?_ ?_
  · rw [List.take_zero, Int.pow_zero, h1p] at this; exact this
  · rw [List.take_length]
    refine Ev.step (fun k => ?_) (Ev.now _)
    simp only [privityref04_Eval.l0]
    rw [if_neg (by omega)]
  · intro i hi h
    rw [← evI_take_next hp l x (x ^ i % p) i rfl] at h
    refine Ev.step (f := fun k => (privityref01_Mul.f k p (l.getD i 0) (x ^ i % p)).bind fun t235 => ((privityref01_Add.f p (evI p x (l.take i)) t235).bind fun t236 => ((privityref01_Mul.f k p (x ^ i % p) x).bind fun t237 => (privityref04_Eval.l0 k p l x t236 t237 ((i + 1 : Nat) : Int))))) (fun k => ?_) (Ev.bind (rmul_ev hp (res_getD hp hl i) (Res.mod hp _)) ?_)
    · simp only [privityref04_Eval.l0]
      rw [if_pos (by omega), if_pos (by omega), rd_nat, wnat (by omega)]
    · rw [radd_eq hp (evI_res hp _ _) (Res.mod hp _)]
      refine Ev.bind (g := fun _ => some _) (Ev.now _) (Ev.bind (rmul_ev hp (Res.mod hp _) hx) ?_)
      rw [show x ^ i % p * x % p = x ^ (i + 1) % p from by rw [Int.pow_succ, mulm (modm p (x ^ i)) rfl]]
      exact h
/-! ### Product -/
theorem list_ext_getD {a b : List Int} (hl : a.length = b.length) (h : ∀ i, a.getD i 0 = b.getD i 0) : a = b := by
  apply List.ext_getElem hl
  intro i h1 h2
  have := h i
  rwa [Hw.getD_in _ _ h1, Hw.getD_in _ _ h2] at this
theorem grow_length (l : List Int) (n : Nat) : (grow l n).length = max l.length n := by unfold grow; simp; omega
/-- The state of the reference: the program's, filled up with zeros. -/
theorem put_grow (p : Int) (l : List Int) (N i : Nat) (k : Int) (hl : l.length ≤ N) (hi : i < N) : (grow l N).set i (((grow l N).getD i 0 + k) % p) = grow (putL p l i k) N := by
  refine list_ext_getD ?_ fun j => ?_
  · rw [List.length_set, grow_length, grow_length, putL_length]; omega
  · rw [grow_getD (putL p l i k), putL_getD, List.getD_eq_getElem?_getD, List.getElem?_set]
    by_cases h : i = j
    · subst h; rw [if_pos rfl, if_pos (by rw [grow_length]; omega), if_pos rfl, grow_getD]; rfl
    · rw [if_neg h, if_neg (fun e => h e.symm), ← List.getD_eq_getElem?_getD, grow_getD]
theorem rowL_len (p : Int) (m : List Int) (u : Int) (b : List Int) (i : Nat) : ∀ n, (rowL p m u b i n).length = if n = 0 then m.length else max m.length (i + n)
  | 0 => rfl
  | n + 1 => by
    rw [rowL, putL_length, rowL_len p m u b i n, if_neg (Nat.succ_ne_zero n)]
    by_cases h : n = 0
    · rw [if_pos h]; omega
    · rw [if_neg h]; omega
theorem mulsL_len (p : Int) (a b : List Int) (hb : 0 < b.length) : ∀ n, (mulsL p a b n).length = if n = 0 then 0 else n + b.length - 1
  | 0 => rfl
  | n + 1 => by
    rw [mulsL, rowL_len, mulsL_len p a b hb n, if_neg (by omega : ¬ b.length = 0), if_neg (Nat.succ_ne_zero n)]
    by_cases h : n = 0
    · rw [if_pos h]; omega
    · rw [if_neg h]; omega
theorem mulsL_nil (p : Int) (a : List Int) : ∀ n, mulsL p a [] n = []
  | 0 => rfl
  | n + 1 => by rw [mulsL, mulsL_nil p a n]; rfl
theorem trimL_grow (l : List Int) (n : Nat) : trimL (grow l n) = trimL l := trimL_ext fun i => grow_getD l n i
theorem grow_nil (n : Nat) : grow [] n = List.replicate n 0 := by unfold grow; simp
theorem rmulL_ev {p : Int} (hp : Supp p) {a b : List Int} (ha : ∀ x ∈ a, Res p x) (hb : ∀ x ∈ b, Res p x) (la : a.length ≤ 1000000) (lb : b.length ≤ 1000000) : Ev (fun k => privityref04_Mul.f k p a b) (trimL (mulsL p a b a.length)) := by
  by_cases h0 : a.length = 0
  · have : a = [] := List.eq_nil_of_length_eq_zero h0
    subst this
    refine Ev.step (f := fun k => some []) (fun k => ?_) (Ev.now _)
    simp only [privityref04_Mul.f]
    rw [if_pos (by rfl)]
    simp only [privityref04_Mul.j0]
    rw [if_pos trivial]
  by_cases h1 : b.length = 0
  · have : b = [] := List.eq_nil_of_length_eq_zero h1
    subst this
    rw [mulsL_nil]
    refine Ev.step (f := fun k => some []) (fun k => ?_) (Ev.now _)
    simp only [privityref04_Mul.f]
    rw [if_neg (by omega)]
    simp only [privityref04_Mul.j0]
    rw [if_pos (by rfl)]
  have hw : wrap64 (wrap64 ((a.length : Int) + (b.length : Int)) - 1) = ((a.length + b.length - 1 : Nat) : Int) := by rw [wcap (n := (a.length : Int) + (b.length : Int)) (by omega) (by omega), wcap (by omega) (by omega)]; omega
  have main : Ev (fun k => privityref04_Mul.l0 k p a b (grow (mulsL p a b 0) (a.length + b.length - 1)) ((0 : Nat) : Int)) (trimL (mulsL p a b a.length)) := by
    refine up (Q := fun i => Ev (fun k => privityref04_Mul.l0 k p a b (grow (mulsL p a b i) (a.length + b.length - 1)) (i : Int)) (trimL (mulsL p a b a.length))) (n := a.length) ?_ ?_
    · refine Ev.step (f := fun k => (privityref04_Trim.f k (grow (mulsL p a b a.length) (a.length + b.length - 1))).bind fun t => some t) (fun k => ?_) ?_
      · simp only [privityref04_Mul.l0]
        rw [if_neg (by omega)]
      · have := rtrim_ev (grow (mulsL p a b a.length) (a.length + b.length - 1)) (by rw [grow_length, mulsL_len _ _ _ (by omega), if_neg h0]; omega)
        rw [trimL_grow] at this
        exact Ev.bind this (Ev.now _)
    · intro i hi h
      have row : Ev (fun k => privityref04_Mul.l1 k p a b (grow (rowL p (mulsL p a b i) (rd a i) b i 0) (a.length + b.length - 1)) (i : Int) ((0 : Nat) : Int)) (trimL (mulsL p a b a.length)) := by
        refine up (Q := fun j => Ev (fun k => privityref04_Mul.l1 k p a b (grow (rowL p (mulsL p a b i) (rd a i) b i j) (a.length + b.length - 1)) (i : Int) (j : Int)) (trimL (mulsL p a b a.length))) (n := b.length) ?_ ?_
        · refine Ev.step (fun k => ?_) h
          simp only [privityref04_Mul.l1]
          rw [if_neg (by omega), wnat (by omega)]
          rfl
        · intro j hj h2
          have hlen : (rowL p (mulsL p a b i) (rd a i) b i j).length ≤ a.length + b.length - 1 := by
            rw [rowL_len, mulsL_len _ _ _ (by omega)]; split <;> split <;> omega
          have e : wrap64 ((i : Int) + (j : Int)) = ((i + j : Nat) : Int) := by rw [wcap (by omega) (by omega)]; omega
          have hres : ∀ x ∈ grow (rowL p (mulsL p a b i) (rd a i) b i j) (a.length + b.length - 1), Res p x := grow_res hp (rowL_res hp (mulsL_res hp _ _ _) _ _ _ _) _
          rw [rowL, ← put_grow p _ _ _ _ hlen (by omega)] at h2
          refine Ev.step (f := fun k => (privityref01_Mul.f k p (a.getD i 0) (b.getD j 0)).bind fun t266 => ((privityref01_Add.f p ((grow (rowL p (mulsL p a b i) (rd a i) b i j) (a.length + b.length - 1)).getD (i + j) 0) t266).bind fun t267 => (privityref04_Mul.l1 k p a b ((grow (rowL p (mulsL p a b i) (rd a i) b i j) (a.length + b.length - 1)).set (i + j) t267) (i : Int) ((j + 1 : Nat) : Int)))) (fun k => ?_) (Ev.bind (rmul_ev hp (res_getD hp ha i) (res_getD hp hb j)) ?_)
          · simp only [privityref04_Mul.l1]
            rw [if_pos (by omega), e, if_pos (by omega), if_pos (by rw [grow_length]; omega), if_pos (by omega), if_pos (by omega), if_pos (by omega), rd_nat, rd_nat, rd_nat, Int.toNat_natCast, wnat (by omega)]
          · rw [radd_eq hp (res_getD hp hres _) (Res.mod hp _)]
            refine Ev.bind (g := fun _ => some _) (Ev.now _) ?_
            rw [rd_nat a i, rd_nat b j] at h2
            exact h2
      refine Ev.step (fun k => ?_) row
      simp only [privityref04_Mul.l0]
      rw [if_pos (by omega)]; rfl
  rw [show mulsL p a b 0 = [] from rfl, grow_nil] at main
  have h2 : Ev (fun k => privityref04_Mul.j0 k p a b false) (trimL (mulsL p a b a.length)) := by
    refine Ev.step (fun k => ?_) main
    simp only [privityref04_Mul.j0]
    rw [if_neg (by simp), hw, if_pos (by omega), Int.toNat_natCast, if_pos (by omega)]; rfl
  refine h2.congr fun k => ?_
  unfold privityref04_Mul.f
  rw [if_neg (by omega), show ((b.length : Int) == 0) = false from by rw [beq_eq_false_iff_ne]; omega]
end Go.Proofs.Ytdbmhpfbbikjjaa.E
end
section
/- Printed by a program of this seat (the kit's printer, with the functions that were proved by hand given to it). What stands here: the functions that the statements reach, as plain functions, and that the Go code computes them. -/
namespace Go.Proofs.Ytdbmhpfbbikjjaa.Pr
open Go.RowKit Go.Proofs.YtdbmhpfbbikjjaaW.PrintWords Go.Proofs.YtdbmhpfbbikjjaaW.PrintLast Go.Proofs.YtdbmhpfbbikjjaaW.PrintMore
attribute [local go_sem] max2_int min2_int max_two min_two max_three min_three max_four min_four   -- for this text's walks alone
set_option linter.unusedVariables false
set_option linter.unusedSimpArgs false

open Go.Proofs.Ytdbmhpfbbikjjaa.Hw
/-! ### privityref05_Points: function 17 -/
/-! ### privityref05_Places: function 19 -/
end Go.Proofs.Ytdbmhpfbbikjjaa.Pr
end
section
/- Printed by a program of this seat (the kit's printer, with the functions that were proved by hand given to it). What stands here: the functions that the statements reach, as plain functions, and that the Go code computes them. -/
namespace Go.Proofs.Ytdbmhpfbbikjjaa.Pr
open Go.RowKit Go.Proofs.YtdbmhpfbbikjjaaW.PrintWords Go.Proofs.YtdbmhpfbbikjjaaW.PrintLast Go.Proofs.YtdbmhpfbbikjjaaW.PrintMore
attribute [local go_sem] max2_int min2_int max_two min_two max_three min_three max_four min_four   -- for this text's walks alone
set_option linter.unusedVariables false
set_option linter.unusedSimpArgs false

open Go.Proofs.Ytdbmhpfbbikjjaa.Hw
/-! ### privityref05_Polynomial: function 22 -/
end Go.Proofs.Ytdbmhpfbbikjjaa.Pr
end
section
/- Printed by a program of this seat (the kit's printer, with the functions that were proved by hand given to it). What stands here: the functions that the statements reach, as plain functions, and that the Go code computes them. -/
namespace Go.Proofs.Ytdbmhpfbbikjjaa.Pr
open Go.RowKit Go.Proofs.YtdbmhpfbbikjjaaW.PrintWords Go.Proofs.YtdbmhpfbbikjjaaW.PrintLast Go.Proofs.YtdbmhpfbbikjjaaW.PrintMore
attribute [local go_sem] max2_int min2_int max_two min_two max_three min_three max_four min_four   -- for this text's walks alone
set_option linter.unusedVariables false
set_option linter.unusedSimpArgs false

open Go.Proofs.Ytdbmhpfbbikjjaa.Hw
/-! ### privityref05_Vandermonde: function 28 -/
end Go.Proofs.Ytdbmhpfbbikjjaa.Pr
end
section
/-
  The reference of layer 5: what its printed functions answer.
-/
namespace Go.Proofs.Ytdbmhpfbbikjjaa.E
open Go.RowKit Go.Proofs.Ytdbmhpfbbikjjaa.Pr Go.Proofs.Ytdbmhpfbbikjjaa.Hw Go.Proofs.Ytdbmhpfbbikjjaa.Pl Go.Proofs.YtdbmhpfbbikjjaaW.PrintWords Go.Proofs.YtdbmhpfbbikjjaaW.PrintLast Go.Proofs.YtdbmhpfbbikjjaaW.PrintMore
set_option linter.unusedVariables false
set_option linter.unusedSimpArgs false

/-- A loop that answers false at the first i that Q does not hold of. -/
theorem allLoop {F : Nat → Int → Option Bool} {n : Nat} {Q : Nat → Prop} [DecidablePred Q] (hend : ∀ k, F (k + 1) (n : Int) = some true) (hyes : ∀ i, i < n → Q i → ∀ r, Ev (fun k => F k ((i + 1 : Nat) : Int)) r → Ev (fun k => F k (i : Int)) r)
    (hno : ∀ i, i < n → ¬ Q i → Ev (fun k => F k (i : Int)) false) (r : Bool) (hr : r = true ↔ ∀ i, i < n → Q i) : Ev (fun k => F k ((0 : Nat) : Int)) r := by
  have main : ∀ d i, i + d = n → ∀ r : Bool, (r = true ↔ ∀ j, i ≤ j → j < n → Q j) → Ev (fun k => F k (i : Int)) r := by
    intro d
    induction d with
    | zero =>
      intro i hi r hr
      have : i = n := by omega
      subst this
      have : r = true := hr.2 (fun j h1 h2 => by omega)
      subst this
      exact Ev.step (fun k => hend k) (Ev.now _)
    | succ d ih =>
      intro i hi r hr
      by_cases h : Q i
      · refine hyes i (by omega) h r (ih (i + 1) (by omega) r ⟨fun e j h1 h2 => hr.1 e j (by omega) h2, fun e => hr.2 fun j h1 h2 => ?_⟩)
        by_cases e2 : j = i
        · rw [e2]; exact h
        · exact e j (by omega) h2
      · have : r = false := by
          cases r with
          | false => rfl
          | true => exact absurd (hr.1 rfl i (Nat.le_refl _) (by omega)) h
        subst this
        exact hno i (by omega) h
  exact main n 0 (by omega) r ⟨fun e j _ h2 => hr.1 e j h2, fun e => hr.2 fun j h => e j (Nat.zero_le _) h⟩
theorem same_ev (a b : List Int) (ha : a.length ≤ 1000000000) : Ev (fun k => privityref05_Same.f k a b) (decide (a = b)) := by
  by_cases hl : a.length = b.length
  · have h := allLoop (F := fun k i => privityref05_Same.l0 k a b i) (n := a.length) (Q := fun i => a.getD i 0 = b.getD i 0) (fun k => ?_) (fun i hi hq r h => ?_) (fun i hi hq => ?_) (decide (a = b)) ?_
    · refine h.congr fun k => ?_
      unfold privityref05_Same.f
      rw [if_pos (by omega)]; rfl
    · simp only [privityref05_Same.l0]
      rw [if_neg (by omega)]
    · refine Ev.step (fun k => ?_) h
      simp only [privityref05_Same.l0]
      rw [if_pos (by omega), if_pos (by omega), if_pos (by omega), rd_nat, rd_nat, if_pos hq, wnat (by omega)]
    · refine Ev.step (fun k => ?_) (Ev.now _)
      simp only [privityref05_Same.l0]
      rw [if_pos (by omega), if_pos (by omega), if_pos (by omega), rd_nat, rd_nat, if_neg hq]
    · rw [decide_eq_true_iff]
      refine ⟨fun e i _ => by rw [e], fun h => list_ext_getD hl fun i => ?_⟩
      by_cases hi : i < a.length
      · exact h i hi
      · rw [getD_out a i (by omega), getD_out b i (by omega)]
  · have : decide (a = b) = false := decide_eq_false fun e => hl (by rw [e])
    rw [this]
    refine Ev.congr (fun k => ?_) (Ev.now _)
    unfold privityref05_Same.f
    rw [if_neg (by omega)]
def belowB (p : Int) (l : List Int) : Bool := l.all fun x => decide (x < p)
theorem below_ev (p : Int) (l : List Int) (hl : l.length ≤ 1000000000) : Ev (fun k => privityref05_Below.f k p l) (belowB p l) := by
  have h := allLoop (F := fun k i => privityref05_Below.l0 k p l i) (n := l.length) (Q := fun i => l.getD i 0 < p) (fun k => ?_) (fun i hi hq r h => ?_) (fun i hi hq => ?_) (belowB p l) ?_
  · exact h
  · simp only [privityref05_Below.l0]
    rw [if_neg (by omega)]
  · refine Ev.step (fun k => ?_) h
    simp only [privityref05_Below.l0]
    rw [if_pos (by omega), if_pos (by omega), rd_nat, if_neg (by omega), wnat (by omega)]
  · refine Ev.step (fun k => ?_) (Ev.now _)
    simp only [privityref05_Below.l0]
    rw [if_pos (by omega), if_pos (by omega), rd_nat, if_pos (by omega)]
  · unfold belowB
    rw [List.all_eq_true]
    refine ⟨fun h i hi => ?_, fun h x hx => ?_⟩
    · rw [Hw.getD_in _ _ hi]; exact of_decide_eq_true (h _ (List.getElem_mem hi))
    · obtain ⟨i, hi, rfl⟩ := List.getElem_of_mem hx
      have := h i hi
      rw [Hw.getD_in _ _ hi] at this
      exact decide_eq_true this
theorem below_res {p : Int} {l : List Int} (h : belowB p l = true) (hw : ∀ x ∈ l, 0 ≤ x) : ∀ x ∈ l, Res p x := fun x hx => ⟨hw x hx, of_decide_eq_true (List.all_eq_true.1 h x hx)⟩
theorem unlike_ev (l : List Int) (hl : l.length ≤ 1000000000) : Ev (fun k => privityref05_Unlike.f k l) (decide l.Nodup) := by
  have h := allLoop (F := fun k i => privityref05_Unlike.l0 k l i) (n := l.length) (Q := fun i => ∀ j, j < i → l.getD i 0 ≠ l.getD j 0) (fun k => ?_) (fun i hi hq r h => ?_) (fun i hi hq => ?_) (decide l.Nodup) ?_
  · exact h
  · simp only [privityref05_Unlike.l0]
    rw [if_neg (by omega)]
  · have row : Ev (fun k => privityref05_Unlike.l1 k l (i : Int) ((0 : Nat) : Int)) r := by
      refine up (Q := fun j => Ev (fun k => privityref05_Unlike.l1 k l (i : Int) (j : Int)) r) (n := i) ?_ ?_
      · refine Ev.step (fun k => ?_) h
        simp only [privityref05_Unlike.l1]
        rw [if_neg (by omega), wnat (by omega)]
      · intro j hj h2
        refine Ev.step (fun k => ?_) h2
        simp only [privityref05_Unlike.l1]
        rw [if_pos (by omega), if_pos (by omega), if_pos (by omega), if_pos (by omega), if_pos (by omega), rd_nat, rd_nat, if_neg (hq j hj), wnat (by omega)]
    refine Ev.step (fun k => ?_) row
    simp only [privityref05_Unlike.l0]
    rw [if_pos (by omega)]; rfl
  · have row : Ev (fun k => privityref05_Unlike.l1 k l (i : Int) ((0 : Nat) : Int)) false := by
      obtain ⟨j, hj, he⟩ : ∃ j, j < i ∧ l.getD i 0 = l.getD j 0 := by
        apply Classical.byContradiction
        intro hc
        exact hq fun j hj e => hc ⟨j, hj, e⟩
      refine up (Q := fun j => Ev (fun k => privityref05_Unlike.l1 k l (i : Int) (j : Int)) false) (n := j) ?_ ?_
      · refine Ev.step (fun k => ?_) (Ev.now _)
        simp only [privityref05_Unlike.l1]
        rw [if_pos (by omega), if_pos (by omega), if_pos (by omega), if_pos (by omega), if_pos (by omega), rd_nat, rd_nat, if_pos he]
      · intro j' hj' h2
        by_cases e : l.getD i 0 = l.getD j' 0
        · refine Ev.step (fun k => ?_) (Ev.now _)
          simp only [privityref05_Unlike.l1]
          rw [if_pos (by omega), if_pos (by omega), if_pos (by omega), if_pos (by omega), if_pos (by omega), rd_nat, rd_nat, if_pos e]
        · refine Ev.step (fun k => ?_) h2
          simp only [privityref05_Unlike.l1]
          rw [if_pos (by omega), if_pos (by omega), if_pos (by omega), if_pos (by omega), if_pos (by omega), rd_nat, rd_nat, if_neg e, wnat (by omega)]
    refine Ev.step (fun k => ?_) row
    simp only [privityref05_Unlike.l0]
    rw [if_pos (by omega)]; rfl
  · rw [decide_eq_true_iff, List.nodup_iff_pairwise_ne, List.pairwise_iff_getElem]
    refine ⟨fun h i hi j hj e => ?_, fun h i j hi hj hij e => ?_⟩
    · rw [Hw.getD_in _ _ hi, Hw.getD_in _ _ (by omega)] at e
      exact h j i (by omega) hi hj e.symm
    · have := h j hj i hij
      rw [Hw.getD_in _ _ hi, Hw.getD_in _ _ hj] at this
      exact this e.symm
end Go.Proofs.Ytdbmhpfbbikjjaa.E
end
section
/-
  The reference's Lagrange formula: the same polynomial, the same weights.
-/
namespace Go.Proofs.Ytdbmhpfbbikjjaa.E
open Go.RowKit Go.Proofs.Ytdbmhpfbbikjjaa.Pr Go.Proofs.Ytdbmhpfbbikjjaa.Hw Go.Proofs.Ytdbmhpfbbikjjaa.Pl Go.Proofs.YtdbmhpfbbikjjaaW.PrintWords Go.Proofs.YtdbmhpfbbikjjaaW.PrintLast Go.Proofs.YtdbmhpfbbikjjaaW.PrintMore
set_option linter.unusedVariables false
set_option linter.unusedSimpArgs false

def rstep (p X : Int) (f : List Int) (o : Int) : List Int := trimL (mulsL p f [-o % p * invp p ((X - o) % p) % p, invp p ((X - o) % p)] f.length)
def baseL (p : Int) (xs : List Int) (i n : Nat) : List Int := (othersN xs i n).foldl (rstep p (rd xs i)) [1]
theorem mulsL_two_length {p : Int} (f : List Int) (o u : Int) : ∀ n, (mulsL p f [o, u] n).length ≤ n + 1 := by
  intro n
  induction n with
  | zero => simp [mulsL]
  | succ n ih =>
    show (rowL p (mulsL p f [o, u] n) (rd f n) [o, u] n 2).length ≤ _
    simp only [rowL, putL_length, Nat.add_zero]; omega
theorem rstep_fold {p : Int} (hp : Supp p) (X : Int) : ∀ (l : List Int) (f : List Int), (∀ x ∈ f, Res p x) → (∀ x ∈ l.foldl (rstep p X) f, Res p x) ∧ (l.foldl (rstep p X) f).length ≤ f.length + l.length
  | [], f, h => ⟨h, by simp⟩
  | o :: l, f, h => by
    have ih := rstep_fold hp X l (rstep p X f o) (fun x hx => mulsL_res hp _ _ _ x (trimL_mem hx))
    refine ⟨ih.1, ?_⟩
    have h3 : (rstep p X f o).length ≤ f.length + 1 := Nat.le_trans (trimL_length _) (mulsL_two_length f _ _ _)
    have := ih.2
    simp only [List.foldl_cons, List.length_cons] at *
    omega
theorem baseL_ok {p : Int} (hp : Supp p) (xs : List Int) (i n : Nat) : (∀ x ∈ baseL p xs i n, Res p x) ∧ (baseL p xs i n).length ≤ 1 + (othersN xs i n).length := rstep_fold hp _ _ _ (one_res hp)
theorem baseL_len {p : Int} (hp : Supp p) (xs : List Int) (i : Nat) (hi : i < xs.length) : (baseL p xs i xs.length).length ≤ xs.length := by
  have := (baseL_ok hp xs i xs.length).2
  rw [othersN_len, if_pos hi] at this
  omega
theorem base_ev {p : Int} (hp : Supp p) {xs : List Int} (hx : ∀ x ∈ xs, Res p x) (hn : xs.Nodup) (hl : xs.length ≤ 100000) (i : Nat) (hi : i < xs.length) : Ev (fun k => privityref05_base.f k p xs (i : Int)) (baseL p xs i xs.length) := by
  refine up (Q := fun j => Ev (fun k => privityref05_base.l0 k p xs (i : Int) (baseL p xs i j) (j : Int)) (baseL p xs i xs.length)) (n := xs.length) ?_ ?_
  · refine Ev.step (fun k => ?_) (Ev.now _)
    simp only [privityref05_base.l0]
    rw [if_neg (by omega)]
  · intro j hj h
    by_cases hij : j = i
    · have e : baseL p xs i (j + 1) = baseL p xs i j := by unfold baseL; rw [othersN, if_pos hij]
      rw [e] at h
      refine Ev.step (fun k => ?_) h
      simp only [privityref05_base.l0]
      rw [if_pos (by omega), if_pos (by omega), wnat (by omega)]
    · have e : baseL p xs i (j + 1) = rstep p (rd xs i) (baseL p xs i j) (rd xs j) := by unfold baseL; rw [othersN, if_neg hij, List.foldl_append]; rfl
      rw [e] at h
      have hX := rd_res' hx i hi
      have hO := rd_res' hx j hj
      have hne : rd xs i ≠ rd xs j := by
        intro e
        have h1 := othersN_ne hn i hi xs.length (Nat.le_refl _) (rd xs j) (othersN_has xs i j hij _ hj)
        exact h1 e
      have hs := sub_ne' hp hX hO hne
      have hb := baseL_ok hp xs i j
      have hln := othersN_length xs i j
      have hinv := inv_res hp ((rd xs i - rd xs j) % p)
      refine Ev.step (f := fun k => (privityref01_Sub.f p (rd xs i) (rd xs j)).bind fun t274 => ((privityref01_Inverse.f k p t274).bind fun bt275 => ((privityref01_Neg.f p (rd xs j)).bind fun t278 => ((privityref01_Mul.f k p t278 bt275.1).bind fun t279 => ((privityref04_Mul.f k p (baseL p xs i j) (([t279, bt275.1] : List Int))).bind fun t283 => (privityref05_base.l0 k p xs (i : Int) t283 ((j + 1 : Nat) : Int))))))) (fun k => ?_) ?_
      · simp only [privityref05_base.l0]
        rw [if_pos (by omega), if_neg (by omega), if_pos (by omega), if_pos (by omega), if_pos (by omega), wnat (by omega)]
      · rw [rsub_eq hp hX hO]
        refine Ev.bind (g := fun _ => some _) (Ev.now _) (Ev.bind (rinv_ev hp (Res.mod hp _) hs) ?_)
        rw [rneg_eq hp hO]
        refine Ev.bind (g := fun _ => some _) (Ev.now _) (Ev.bind (rmul_ev hp (Res.mod hp _) hinv) (Ev.bind (rmulL_ev hp hb.1 ?_ (by omega) (by simp)) h))
        intro x hx
        simp only [List.mem_cons, List.not_mem_nil, or_false] at hx
        rcases hx with rfl | rfl
        · exact Res.mod hp _
        · exact hinv
section
variable {p : Int} (hp : Supp p) [NeZero p.toNat]
include hp in
theorem rstep_ev (y : Fin p.toNat) {X : Int} (hX : Res p X) : ∀ (l : List Int) (f : List Int), (∀ o ∈ l, Res p o ∧ X ≠ o) → ev y (M p (l.foldl (rstep p X) f)) * lin (T p X) (M p l) = ev y (M p f) * lin y (M p l)
  | [], f, _ => rfl
  | o :: l, f, h => by
    have ih := rstep_ev y hX l (rstep p X f o) (fun x hx => h x (List.mem_cons_of_mem _ hx))
    have hs := sub_ne' hp hX (h o (by simp)).1 (h o (by simp)).2
    have hi := T_inv hp (Res.mod hp (X - o)) hs
    rw [T_mod hp, T_sub] at hi
    have e1 : ev y (M p (rstep p X f o)) = ev y (M p f) * ((y - T p o) * T p (invp p ((X - o) % p))) := by
      unfold rstep
      rw [ev_trimL, ev_muls hp, M_take_all]
      simp only [M, List.map_cons, List.map_nil, ev, T_mod hp, T_mul, T_neg]
      grind
    simp only [List.foldl_cons, M, List.map_cons, lin] at *
    rw [e1] at ih
    generalize lin (T p X) (l.map (T p)) = L at *
    generalize lin y (l.map (T p)) = K at *
    generalize ev y ((l.foldl (rstep p X) (rstep p X f o)).map (T p)) = E at *
    grind
include hp in
theorem baseL_ev {xs : List Int} (hx : ∀ x ∈ xs, Res p x) (hn : xs.Nodup) (i : Nat) (hi : i < xs.length) (y : Fin p.toNat) : ev y (M p (baseL p xs i xs.length)) = lin y (oth p xs i) * dinv p xs i := by
  have h := rstep_ev hp y (rd_res' hx i hi) (othersN xs i xs.length) [1] (fun o ho => ⟨othersN_res hx i _ (Nat.le_refl _) o ho, othersN_ne hn i hi _ (Nat.le_refl _) o ho⟩)
  have d := dinv_spec hp hx hn i hi
  have e1 : ev y (M p [1]) = 1 := by simp only [M, List.map_cons, List.map_nil, ev, T_one]; grind
  rw [e1] at h
  unfold baseL oth at *
  generalize lin (T p (rd xs i)) (M p (othersN xs i xs.length)) = D at *
  grind
end

/-! ### Weights -/
theorem rlagW_eq {p : Int} (hp : Supp p) {xs : List Int} (hx : ∀ x ∈ xs, Res p x) (hn : xs.Nodup) (a : Int) (i : Nat) (hi : i < xs.length) : evI p a (baseL p xs i xs.length) = lagW p a xs i := by
  haveI := nz hp
  refine T_inj hp (evI_res hp _ _) (Res.mod hp _) ?_
  rw [ev_evI hp, baseL_ev hp hx hn i hi, lagW_ev hp a hx hn i hi]
theorem rlag_ev {p : Int} (hp : Supp p) {xs : List Int} (hx : ∀ x ∈ xs, Res p x) (hl : xs.length ≤ 100000) {a : Int} (ha : Res p a) : Ev (fun k => privityref05_LagrangeWeights.f k p xs a) (if xs.Nodup then lagL p a xs xs.length else [], if xs.Nodup then 0 else 1) := by
  by_cases hn : xs.Nodup
  · rw [if_pos hn, if_pos hn]
    have hu := unlike_ev xs (by omega)
    rw [decide_eq_true hn] at hu
    have main := up (Q := fun i => Ev (fun k => privityref05_LagrangeWeights.l0 k p xs a (lagL p a xs i) (i : Int)) (lagL p a xs xs.length, 0)) (n := xs.length) ?_ ?_
    · refine (Ev.bind (f := fun k t => if t = true then privityref05_LagrangeWeights.l0 k p xs a [] 0 else some ([], 1)) hu ?_).congr fun k => rfl
      exact main.congr fun k => if_pos rfl
    · refine Ev.step (fun k => ?_) (Ev.now _)
      simp only [privityref05_LagrangeWeights.l0]
      rw [if_neg (by omega)]
    · intro i hi h
      have hb := baseL_ok hp xs i xs.length
      have hln := baseL_len hp xs i hi
      refine Ev.step (f := fun k => (privityref05_base.f k p xs (i : Int)).bind fun t287 => ((privityref04_Eval.f k p t287 a).bind fun t290 => (if (lagL p a xs i).length < 17592186044416 then (privityref05_LagrangeWeights.l0 k p xs a (lagL p a xs i ++ [t290]) ((i + 1 : Nat) : Int)) else (none)))) (fun k => ?_) (Ev.bind (base_ev hp hx hn hl i hi) (Ev.bind (reval_ev hp ha _ hb.1 (by omega)) ?_))
      · simp only [privityref05_LagrangeWeights.l0]
        rw [if_pos (by omega), wnat (by omega)]
      · rw [rlagW_eq hp hx hn a i hi]
        refine h.congr fun k => ?_
        rw [if_pos (by rw [lagL_length]; omega)]; rfl
  · rw [if_neg hn, if_neg hn]
    have hu := unlike_ev xs (by omega)
    rw [decide_eq_false hn] at hu
    refine (Ev.bind (f := fun k t => if t = true then privityref05_LagrangeWeights.l0 k p xs a [] 0 else some ([], 1)) hu ?_).congr fun k => rfl
    exact (Ev.now _).congr fun k => if_neg (by simp)
/-! ### Polynomial -/
end Go.Proofs.Ytdbmhpfbbikjjaa.E
end
section
/-
  What the statements of chapter 5 share: the first check, the guards, sums.
-/
namespace Go.Proofs.Ytdbmhpfbbikjjaa.E
open Go.RowKit Go.Proofs.Ytdbmhpfbbikjjaa.Pr Go.Proofs.Ytdbmhpfbbikjjaa.Hw Go.Proofs.Ytdbmhpfbbikjjaa.Pl Go.Proofs.YtdbmhpfbbikjjaaW.PrintWords Go.Proofs.YtdbmhpfbbikjjaaW.PrintLast Go.Proofs.YtdbmhpfbbikjjaaW.PrintMore
set_option linter.unusedVariables false
set_option linter.unusedSimpArgs false

theorem awake05 : Ev (fun k => privitylaw05_awake.f k) true := Ev.of (fun k => privitylaw05_awake.mono _) (k := 40) (by kernel_rfl)
end Go.Proofs.Ytdbmhpfbbikjjaa.E
end
section
/-
  Guards, sums, and the hand-proved functions' answers, for the statements.
-/
namespace Go.Proofs.Ytdbmhpfbbikjjaa.E
open Go.RowKit Go.Proofs.Ytdbmhpfbbikjjaa.Pr Go.Proofs.Ytdbmhpfbbikjjaa.Hw Go.Proofs.Ytdbmhpfbbikjjaa.Pl Go.Proofs.YtdbmhpfbbikjjaaW.PrintWords Go.Proofs.YtdbmhpfbbikjjaaW.PrintLast Go.Proofs.YtdbmhpfbbikjjaaW.PrintMore
set_option linter.unusedVariables false
set_option linter.unusedSimpArgs false

theorem wf64 {x : Int} (h : (Lit.int .u64 x).wf = true) : 0 ≤ x ∧ x < 18446744073709551616 := by
  have h1 : IntKind.u64.min ≤ x ∧ x ≤ IntKind.u64.max := by simpa [Lit.wf] using h
  have e1 : IntKind.u64.min = 0 := by decide
  have e2 : IntKind.u64.max = 18446744073709551615 := by decide
  omega
/-- A check, and both ways on. -/
theorem ev_if {α : Type} {A : Nat → Option Bool} {b : Bool} (hA : Ev A b) {X Y : Nat → Option α} {r : α} (hx : b = true → Ev X r) (hy : b = false → Ev Y r) : Ev (fun k => (A k).bind fun t => if t = true then X k else Y k) r := by
  refine Ev.bind (f := fun k t => if t = true then X k else Y k) hA ?_
  cases b with
  | true => exact (hx rfl).congr fun k => if_pos rfl
  | false => exact (hy rfl).congr fun k => if_neg (by simp)
theorem ev_ite {α : Type} {c : Prop} [Decidable c] {X Y : Nat → Option α} {r : α} (hx : c → Ev X r) (hy : ¬ c → Ev Y r) : Ev (fun k => if c then X k else Y k) r := by
  by_cases h : c
  · exact (hx h).congr fun k => if_pos h
  · exact (hy h).congr fun k => if_neg h
/-- A check whose negation is handed on. -/
theorem ev_now_bind {α β : Type} {x : Option α} {a : α} (hx : x = some a) {f : Nat → α → Option β} {r : β} (h : Ev (fun k => f k a) r) : Ev (fun k => x.bind (f k)) r := by subst hx; exact h
theorem ilag_eq {p : Int} (hp : Supp p) {xs : List Int} (hx : ∀ x ∈ xs, Res p x) (hl : xs.length ≤ 12) {a : Int} (ha : Res p a) : interpolate_LagrangeWeights.f p xs a = some (if xs.Nodup then lagL p a xs xs.length else [], if xs.Nodup then 0 else 1) := by
  unfold interpolate_LagrangeWeights.f
  rw [if_pos (supB_iff.2 hp), if_pos (ressB_iff.2 hx), if_pos (resB_iff.2 ha), if_pos hl]
/-- A running sum. -/
def accI (p : Int) (g : Nat → Int) : Nat → Int
  | 0 => 0
  | n + 1 => (accI p g n + g n) % p
theorem accI_res {p : Int} (hp : Supp p) (g : Nat → Int) : ∀ n, Res p (accI p g n)
  | 0 => by have := hp.bd; exact ⟨Int.le_refl 0, by show (0 : Int) < p; omega⟩
  | n + 1 => Res.mod hp _
theorem accI_T {p : Int} (hp : Supp p) [NeZero p.toNat] (g : Nat → Int) : ∀ n, T p (accI p g n) = sumF (fun i => T p (g i)) n
  | 0 => T_zero
  | n + 1 => by rw [accI, T_mod hp, T_add, accI_T hp g n]; rfl
theorem lagL_getD (p a : Int) (xs : List Int) : ∀ (n i : Nat), i < n → (lagL p a xs n).getD i 0 = lagW p a xs i
  | n + 1, i, h => by
    rw [lagL, List.getD_eq_getElem?_getD]
    by_cases h2 : i < n
    · rw [List.getElem?_append_left (by rw [lagL_length]; exact h2), ← List.getD_eq_getElem?_getD, lagL_getD p a xs n i h2]
    · rw [List.getElem?_append_right (by rw [lagL_length]; omega), lagL_length, show i - n = 0 from by omega, show i = n from by omega]; rfl
theorem lagL_res {p : Int} (hp : Supp p) (a : Int) (xs : List Int) : ∀ n, ∀ x ∈ lagL p a xs n, Res p x
  | 0 => fun x hx => by cases hx
  | n + 1 => fun x hx => by
    rcases List.mem_append.1 hx with h | h
    · exact lagL_res hp a xs n x h
    · simp only [List.mem_cons, List.not_mem_nil, or_false] at h
      rw [h]; exact Res.mod hp _
end Go.Proofs.Ytdbmhpfbbikjjaa.E
end
section
/-
  The weights of a nonempty list sum to 1.
-/
namespace Go.Proofs.Ytdbmhpfbbikjjaa.Pure
open Go.RowKit Go.Proofs.Ytdbmhpfbbikjjaa.Pr Go.Proofs.Ytdbmhpfbbikjjaa.Hw Go.Proofs.Ytdbmhpfbbikjjaa.E Go.Proofs.YtdbmhpfbbikjjaaW.PrintWords Go.Proofs.YtdbmhpfbbikjjaaW.PrintLast Go.Proofs.YtdbmhpfbbikjjaaW.PrintMore
set_option linter.unusedVariables false
set_option linter.unusedSimpArgs false

theorem sumToOne_skip (p : Int) (xs : List Int) (a : Int) : Ev (fun k => privitylaw05_InterpolateWeightsSumToOne.j0 k p xs a true) true :=
  Ev.step (f := fun _ => some true) (fun k => by simp only [privitylaw05_InterpolateWeightsSumToOne.j0]; rw [if_pos trivial]) (Ev.now _)
theorem weights_one {p : Int} (hp : Supp p) {xs : List Int} (hx : ∀ x ∈ xs, Res p x) (hn : xs.Nodup) (a : Int) (h0 : xs ≠ []) : accI p (fun i => lagW p a xs i) xs.length = 1 := by
  haveI := nz hp
  have hb := hp.bd
  have h1 : ∀ x, evI p x [1] = 1 := fun x => by
    show (0 * x % p + 1) % p = 1
    rw [Int.zero_mul, Int.zero_emod, Int.zero_add, Int.emod_eq_of_lt (by omega) (by omega)]
  refine T_inj hp (accI_res hp _ _) ⟨by omega, by omega⟩ ?_
  have h := lagW_sum hp hx hn (f := [1]) (one_res hp) (by have := List.length_pos_iff.2 h0; simp only [List.length_cons, List.length_nil]; omega) a
  rw [h1] at h
  rw [accI_T hp, ← h]
  refine sumF_congr _ fun i _ => ?_
  rw [h1, T_one]; grind
theorem sumToOne_end {p : Int} (hp : Supp p) {xs w : List Int} {e : Int} (hw : ∀ x ∈ w, Res p x) (lw : w.length ≤ 1000) (h : e = 0 → xs.length ≠ 0 → accI p (fun i => w.getD i 0) w.length = 1) : Ev (fun k => privitylaw05_InterpolateWeightsSumToOne.j1 k p xs w e false) true := by
  have main : Ev (fun k => privitylaw05_InterpolateWeightsSumToOne.l0 k p xs w e (accI p (fun i => w.getD i 0) 0) ((0 : Nat) : Int)) true := by
    refine up (Q := fun i => Ev (fun k => privitylaw05_InterpolateWeightsSumToOne.l0 k p xs w e (accI p (fun i => w.getD i 0) i) (i : Int)) true) (n := w.length) ?_ ?_
    · refine Ev.step (fun k => ?_) (Ev.now _)
      simp only [privitylaw05_InterpolateWeightsSumToOne.l0]
      rw [if_neg (by omega)]
      by_cases he : e = 0
      · rw [if_pos he]
        by_cases h0 : (xs.length : Int) = 0
        · rw [if_pos h0]
        · rw [if_neg h0, h he (by omega)]; rfl
      · rw [if_neg he]
    · intro i hi h2
      refine Ev.step (f := fun k => (field_Add.f k p (accI p (fun i => w.getD i 0) i) (w.getD i 0)).bind fun t307 => (privitylaw05_InterpolateWeightsSumToOne.l0 k p xs w e t307 ((i + 1 : Nat) : Int))) (fun k => ?_) (Ev.bind (add_ev hp (accI_res hp _ _) (res_getD hp hw i)) h2)
      simp only [privitylaw05_InterpolateWeightsSumToOne.l0]
      rw [if_pos (by omega), if_pos (by omega), rd_nat, wnat (by omega)]
  refine Ev.step (fun k => ?_) main
  simp only [privitylaw05_InterpolateWeightsSumToOne.j1]
  rw [if_neg (by simp)]; rfl
theorem sumToOne_main {p : Int} (hp : Supp p) {xs : List Int} (hx : ∀ x ∈ xs, Res p x) (lx : xs.length ≤ 12) {a : Int} (ha : Res p a) : Ev (fun k => privitylaw05_InterpolateWeightsSumToOne.j0 k p xs a false) true := by
  refine Ev.step (f := fun k => (interpolate_LagrangeWeights.f p xs a).bind fun bt297 => ((privityref05_LagrangeWeights.f k p xs a).bind fun bt301 => (if bt297.2 = bt301.2 then ((privityref05_Same.f k bt297.1 bt301.1).bind fun t305 => (privitylaw05_InterpolateWeightsSumToOne.j1 k p xs bt297.1 bt297.2 (!t305))) else (privitylaw05_InterpolateWeightsSumToOne.j1 k p xs bt297.1 bt297.2 true)))) (fun k => ?_) ?_
  · simp only [privitylaw05_InterpolateWeightsSumToOne.j0]
    rw [if_neg (by simp)]
  · refine ev_now_bind (ilag_eq hp hx lx ha) (Ev.bind (rlag_ev hp hx (by omega) ha) (Ev.congr (fun k => if_pos rfl) (Ev.bind (same_ev _ _ ?_) ?_)))
    · split
      · rw [lagL_length]; omega
      · simp
    · rw [decide_eq_true rfl]
      by_cases hn : xs.Nodup
      · simp only [if_pos hn]
        refine sumToOne_end hp (lagL_res hp a xs _) (by rw [lagL_length]; omega) (fun _ h0 => ?_)
        rw [lagL_length, ← weights_one hp hx hn a (fun e => h0 (by rw [e]; rfl))]
        have : ∀ n, n ≤ xs.length → accI p (fun i => (lagL p a xs xs.length).getD i 0) n = accI p (fun i => lagW p a xs i) n := by
          intro n
          induction n with
          | zero => intro _; rfl
          | succ n ih => intro h; rw [accI, accI, ih (by omega), lagL_getD p a xs _ _ (by omega)]
        exact this _ (Nat.le_refl _)
      · simp only [if_neg hn]
        exact sumToOne_end hp (fun x hx => by cases hx) (by simp) (fun h => by omega)
theorem InterpolateWeightsSumToOne : privitylaw05_InterpolateWeightsSumToOne.Pure := by
  intro p xs a wp _ _ wx wa
  refine Ev.rounds (r := true) ?_
  refine ev_if awake05 (fun _ => ev_if (supported_ev p) (fun hs => ev_ite (fun _ => sumToOne_skip p xs a) fun h1 =>
    ev_if (below_ev p xs (by omega)) (fun hb => ?_) fun _ => sumToOne_skip p xs a) fun _ => sumToOne_skip p xs a) (fun h => by cases h)
  by_cases h : a ≥ p
  · rw [decide_eq_true h]; exact sumToOne_skip p xs a
  · rw [decide_eq_false h]
    exact sumToOne_main (supB_of hs) (below_res hb fun x hx => (wf64 (wx x hx)).1) (by omega) ⟨(wf64 wa).1, by omega⟩
end Go.Proofs.Ytdbmhpfbbikjjaa.Pure
end
section
/- Printed by a program of this seat (the kit's printer, with the functions that were proved by hand given to it). What stands here: the functions that the statements reach, as plain functions, and that the Go code computes them. -/
namespace Go.Proofs.Ytdbmhpfbbikjjaa.interpolateWeightsSumToOne
open Go.ChangeShapes Go.WideShapes Go.ChangeAt Go.RowKit
open Go.ChangeMaps (open_string shut_string)
set_option linter.unusedVariables false
theorem own : ownKnob Try.prog.godebug = none := by kernel_rfl
theorem laidOut : laidOutB Try.prog = true := by kernel_rfl
def IsRow (k : IntKind) (w : World) (a : Option Addr) (len cap : Nat) (zs : List Int) : Prop :=
  (a = none ∧ len = 0 ∧ cap = 0 ∧ zs = []) ∨
  ∃ x, a = some x ∧ len ≤ cap ∧ cap ≤ maxLen ∧ zs.length = cap ∧ (∀ i, i < zs.length → w.cell? (x.add i) = some (.int k (zs.getD i 0))) ∧ ∀ n ∈ zs, (Lit.int k n).wf = true
set_option maxRecDepth 100000 in
theorem lifted (os : Os) (started : os.Started) (H : Type) (enc : TypeId × Value → H) :
    ReturnsInHanded {} Try.checked os 3 .any (Rows.interpolateWeightsSumToOneSpec.pre6 enc Try.prog Try.f3 Rows.interpolateWeightsSumToOneRow.domain false) (Rows.interpolateWeightsSumToOneSpec.post enc Try.prog Try.f3 false true false false) := by
  refine returnsInHanded_of_change_sized (C := Try.checked) own started (by kernel_rfl) Try.func3
    (ChangeSpec.witness6 (enc := enc) (C := Try.checked) false ⟨#[], #[.int .u64 0, .slice none 0 0, .int .u64 0], []⟩ 8 (by kernel_rfl) (by kernel_rfl) (by kernel_rfl) (by kernel_rfl)) ?_
  intro W base args ds gs before hval0 hW hcnd hsz0 _
  have hsz : (DataW.weightsEach Try.prog (Try.f3.params.toList ++ Rows.interpolateWeightsSumToOneSpec.plain.varTypes Try.prog) (ds ++ gs)).all (· ≤ reachBytes) = true := hsz0
  have hval : ∀ (j : Nat) t v, Try.f3.params[j]? = some t → args[j]? = some v → Value.okWide Try.prog W .any base t v := hval0
  have hW' := hW
  obtain ⟨p, q, hA0, hV, rfl, hfz, hnd⟩ := hW
  have hA : DataW.TrodAll enc Try.prog W 0 (fun _ => true) true Try.f3.params.toList args.toList ds p := hA0
  rw [Try.params3] at hA hval hsz
  obtain ⟨v0, vs0, d0, ds0, p0, q0, hargs, rfl, rfl, h0, r0⟩ := trodAll_cons hA
  obtain ⟨v1, vs1, d1, ds1, p1, q1, rfl, rfl, rfl, h1, r1⟩ := trodAll_cons r0
  obtain ⟨v2, vs2, d2, ds2, p2, q2, rfl, rfl, rfl, h2, r2⟩ := trodAll_cons r1
  obtain ⟨rfl, rfl, rfl⟩ := trodAll_nil r2
  obtain rfl : args = #[v0, v1, v2] := by cases args; simp_all
  obtain ⟨rfl, rfl⟩ := trodVars_none hV
  obtain ⟨a0, rfl, rfl, rfl, w0⟩ := open_int Try.underlying22 (hval 0 22 v0 rfl rfl) h0
  obtain ⟨a1, len1, cap1, rfl⟩ := okWide_slice Try.underlying23 (hval 1 23 v1 rfl rfl)
  have k1 := h1
  have lt1 : ∀ x ∈ p1, x.block < W.heap.size := by obtain ⟨m, hm⟩ := k1; exact DataW.trod_lt m _ _ _ hm
  obtain ⟨z1, w1⟩ : ∃ zs, IsRow .u64 W a1 len1 cap1 zs := by
    obtain ⟨fuel, hf⟩ := h1
    rcases open_ints Try.underlying23 Try.underlying22 (by kernel_rfl) hf with ⟨hcs, _⟩ | ⟨x, l, c, zs, hcs, _, hl, hm, hz, _, hcell, hwz⟩
    · simp [Value.cells] at hcs
      obtain ⟨rfl, rfl, rfl⟩ := hcs
      exact ⟨[], .inl ⟨rfl, rfl, rfl, rfl⟩⟩
    · simp [Value.cells] at hcs
      obtain ⟨rfl, rfl, rfl⟩ := hcs
      exact ⟨zs, .inr ⟨_, rfl, hl, hm, by simpa using hz, hcell, hwz⟩⟩
  have y1 : len1 * 8 ≤ 140737488351232 := Go.Proofs.YtdbmhpfbbikjjaaW.PrintWords.sized_ints hsz (j := 1) (t := 23) rfl rfl Try.underlying23 Try.underlying22 (by kernel_rfl) (by kernel_rfl) h1
  obtain ⟨a2, rfl, rfl, rfl, w2⟩ := open_int Try.underlying22 (hval 2 22 v2 rfl rfl) h2
  clear hA0 hval0 hsz0 hsz
  refine (Pr.privitylaw05_InterpolateWeightsSumToOne.walk Pure.InterpolateWeightsSumToOne a0 a1 len1 cap1 z1 a2 W w0 w1 y1 w2).mono fun e W' ⟨he, bel⟩ => ?_
  subst he
  exact ⟨_, rfl, _, _, _, [], _, [], hW', trodAll_mk1 (shut_bool Try.underlying4 _), (trodAll_cons_mk (shut_int Try.underlying22 w0) (trodAll_cons_mk (Below.trod laidOut (by kernel_rfl) (of_decide_eq_true (by kernel_rfl)) k1 bel lt1) (trodAll_cons_mk (shut_int Try.underlying22 w2) trodAll_mk0))), rfl, bel.frame _, fun h => by cases h⟩
theorem over : Rows.interpolateWeightsSumToOneRow.holds Try.pinned (OpenSpec.ofChange Rows.interpolateWeightsSumToOneSpec) :=
  OpenClaim.holds_of_wide 3 Try.f3 rfl rfl rfl rfl rfl rfl rfl ⟨rfl, rfl, rfl, rfl, rfl⟩ rfl rfl rfl rfl rfl (by kernel_rfl) Try.func3 (by kernel_rfl)
    (of_decide_eq_true (by kernel_rfl)) (by unfold Func.isWrapper; first | (rw [if_pos (by decide +kernel)]; kernel_rfl) | (rw [if_neg (by decide +kernel)]; exact ⟨rfl, rfl⟩))
    (fun os started H enc _ => lifted os started H enc)
theorem proved : Rows.InterpolateWeightsSumToOneSaid := over
#print axioms proved
end Go.Proofs.Ytdbmhpfbbikjjaa.interpolateWeightsSumToOne
namespace Go.Proofs.Ytdbmhpfbbikjjaa
/-- The row, under a short name, for the claim. -/
theorem interpolateWeightsSumToOne_holds : Rows.InterpolateWeightsSumToOneSaid := interpolateWeightsSumToOne.proved
end Go.Proofs.Ytdbmhpfbbikjjaa
end
