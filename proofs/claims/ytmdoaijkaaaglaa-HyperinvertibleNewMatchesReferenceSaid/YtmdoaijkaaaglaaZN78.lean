/- Printed by a program of this seat (the kit's printer, with the functions that were proved by hand given to it). What stands here: the functions that the statements reach, as plain functions, and that the Go code computes them. -/
import Derived.Test.YtmdoaijkaaaglaaZN77
import Derived.Test.YtmdoaijkaaaglaaZN71
import Derived.Test.YtmdoaijkaaaglaaZN76
import Derived.Test.YtmdoaijkaaaglaaZN75
import Derived.Test.YtmdoaijkaaaglaaRows
import Derived.WalkKit
import Derived.ProofKit
import Derived.OpenShut
import Derived.ShutString
import Derived.ChangeOld
import Derived.Below
import Derived.SizedLaws
set_option linter.unusedVariables false
set_option linter.unusedSimpArgs false
section
namespace Go.Proofs.Ytmdoaijkaaaglaa.E
open Go.RowKit Go.Proofs.Ytmdoaijkaaaglaa.Pr Go.Proofs.Ytmdoaijkaaaglaa.Hw Go.Proofs.Ytmdoaijkaaaglaa.Pl Go.Proofs.YtmdoaijkaaaglaaW.PrintWords Go.Proofs.YtmdoaijkaaaglaaW.PrintLast Go.Proofs.YtmdoaijkaaaglaaW.PrintMore
def rstep (p X : Int) (f : List Int) (o : Int) : List Int := trimL (mulsL p f [-o % p * invp p ((X - o) % p) % p,invp p ((X - o) % p)] f.length)
def baseL (p : Int) (xs : List Int) (i n : Nat) : List Int := (othersN xs i n).foldl (rstep p (rd xs i)) [1]
theorem mulsL_two_length {p : Int} (f : List Int) (o u : Int) : ∀ n,(mulsL p f [o,u] n).length ≤ n + 1 := by
 intro n
 induction n with
 | zero => simp [mulsL]
 | succ n ih =>
  show (rowL p (mulsL p f [o,u] n) (rd f n) [o,u] n 2).length ≤ _
  simp only [rowL,putL_length,Nat.add_zero];omega
theorem rstep_fold {p : Int} (hp : Supp p) (X : Int) : ∀ (l : List Int) (f : List Int),(∀ x ∈ f,Res p x) → (∀ x ∈ l.foldl (rstep p X) f,Res p x) ∧ (l.foldl (rstep p X) f).length ≤ f.length + l.length
 | [],f,h => ⟨h,by simp⟩
 | o :: l,f,h => by
  have ih := rstep_fold hp X l (rstep p X f o) (fun x hx => mulsL_res hp _ _ _ x (trimL_mem hx))
  refine ⟨ih.1,?_⟩
  have h3 : (rstep p X f o).length ≤ f.length + 1 := Nat.le_trans (trimL_length _) (mulsL_two_length f _ _ _)
  have := ih.2
  simp only [List.foldl_cons,List.length_cons] at *
  omega
theorem baseL_ok {p : Int} (hp : Supp p) (xs : List Int) (i n : Nat) : (∀ x ∈ baseL p xs i n,Res p x) ∧ (baseL p xs i n).length ≤ 1 + (othersN xs i n).length := rstep_fold hp _ _ _ (one_res hp)
theorem baseL_len {p : Int} (hp : Supp p) (xs : List Int) (i : Nat) (hi : i < xs.length) : (baseL p xs i xs.length).length ≤ xs.length := by
 have := (baseL_ok hp xs i xs.length).2
 rw [othersN_len,if_pos hi] at this
 omega
theorem base_ev {p : Int} (hp : Supp p) {xs : List Int} (hx : ∀ x ∈ xs,Res p x) (hn : xs.Nodup) (hl : xs.length ≤ 100000) (i : Nat) (hi : i < xs.length) : Ev (fun k => privityref05_base.f k p xs (i : Int)) (baseL p xs i xs.length) := by
 refine up (Q := fun j => Ev (fun k => privityref05_base.l0 k p xs (i : Int) (baseL p xs i j) (j : Int)) (baseL p xs i xs.length)) (n := xs.length) ?_ ?_
 ·refine Ev.step (fun k => ?_) (Ev.now _)
  simp only [privityref05_base.l0]
  rw [if_neg (by omega)]
 ·intro j hj h
  by_cases hij : j = i
  ·have e : baseL p xs i (j + 1) = baseL p xs i j := by unfold baseL;rw [othersN,if_pos hij]
   rw [e] at h
   refine Ev.step (fun k => ?_) h
   simp only [privityref05_base.l0]
   rw [if_pos (by omega),if_pos (by omega),wnat (by omega)]
  ·have e : baseL p xs i (j + 1) = rstep p (rd xs i) (baseL p xs i j) (rd xs j) := by unfold baseL;rw [othersN,if_neg hij,List.foldl_append];rfl
   rw [e] at h
   have hX := rd_res' hx i hi
   have hO := rd_res' hx j hj
   have hne : rd xs i ≠ rd xs j := by
    intro e
    have h1 := othersN_ne hn i hi xs.length (Nat.le_refl _) (rd xs j) (othersN_has xs i j hij _ hj)
    exact h1 e
   have hs := sub_ne' hp hX hO hne
   have hb := baseL_ok hp xs i j
   have hln := othersN_length xs i j
   have hinv := inv_res hp ((rd xs i - rd xs j) % p)
   refine Ev.step (f := fun k => (privityref01_Sub.f p (rd xs i) (rd xs j)).bind fun t274 => ((privityref01_Inverse.f k p t274).bind fun bt275 => ((privityref01_Neg.f p (rd xs j)).bind fun t278 => ((privityref01_Mul.f k p t278 bt275.1).bind fun t279 => ((privityref04_Mul.f k p (baseL p xs i j) (([t279,bt275.1] : List Int))).bind fun t283 => (privityref05_base.l0 k p xs (i : Int) t283 ((j + 1 : Nat) : Int))))))) (fun k => ?_) ?_
   ·simp only [privityref05_base.l0]
    rw [if_pos (by omega),if_neg (by omega),if_pos (by omega),if_pos (by omega),if_pos (by omega),wnat (by omega)]
   ·rw [rsub_eq hp hX hO]
    refine Ev.bind (g := fun _ => some _) (Ev.now _) (Ev.bind (rinv_ev hp (Res.mod hp _) hs) ?_)
    rw [rneg_eq hp hO]
    refine Ev.bind (g := fun _ => some _) (Ev.now _) (Ev.bind (rmul_ev hp (Res.mod hp _) hinv) (Ev.bind (rmulL_ev hp hb.1 ?_ (by omega) (by simp)) h))
    intro x hx
    simp only [List.mem_cons,List.not_mem_nil,or_false] at hx
    rcases hx with rfl|rfl
    ·exact Res.mod hp _
    ·exact hinv
section
variable {p : Int} (hp : Supp p) [NeZero p.toNat]
include hp in
theorem rstep_ev (y : Fin p.toNat) {X : Int} (hX : Res p X) : ∀ (l : List Int) (f : List Int),(∀ o ∈ l,Res p o ∧ X ≠ o) → ev y (M p (l.foldl (rstep p X) f)) * lin (T p X) (M p l) = ev y (M p f) * lin y (M p l)
 | [],f,_ => rfl
 | o :: l,f,h => by
  have ih := rstep_ev y hX l (rstep p X f o) (fun x hx => h x (List.mem_cons_of_mem _ hx))
  have hs := sub_ne' hp hX (h o (by simp)).1 (h o (by simp)).2
  have hi := T_inv hp (Res.mod hp (X - o)) hs
  rw [T_mod hp,T_sub] at hi
  have e1 : ev y (M p (rstep p X f o)) = ev y (M p f) * ((y - T p o) * T p (invp p ((X - o) % p))) := by
   unfold rstep
   rw [ev_trimL,ev_muls hp,M_take_all]
   simp only [M,List.map_cons,List.map_nil,ev,T_mod hp,T_mul,T_neg]
   grind
  simp only [List.foldl_cons,M,List.map_cons,lin] at *
  rw [e1] at ih
  generalize lin (T p X) (l.map (T p)) = L at *
  generalize lin y (l.map (T p)) = K at *
  generalize ev y ((l.foldl (rstep p X) (rstep p X f o)).map (T p)) = E at *
  grind
include hp in
theorem baseL_ev {xs : List Int} (hx : ∀ x ∈ xs,Res p x) (hn : xs.Nodup) (i : Nat) (hi : i < xs.length) (y : Fin p.toNat) : ev y (M p (baseL p xs i xs.length)) = lin y (oth p xs i) * dinv p xs i := by
 have h := rstep_ev hp y (rd_res' hx i hi) (othersN xs i xs.length) [1] (fun o ho => ⟨othersN_res hx i _ (Nat.le_refl _) o ho,othersN_ne hn i hi _ (Nat.le_refl _) o ho⟩)
 have d := dinv_spec hp hx hn i hi
 have e1 : ev y (M p [1]) = 1 := by simp only [M,List.map_cons,List.map_nil,ev,T_one];grind
 rw [e1] at h
 unfold baseL oth at *
 generalize lin (T p (rd xs i)) (M p (othersN xs i xs.length)) = D at *
 grind
end
theorem rlagW_eq {p : Int} (hp : Supp p) {xs : List Int} (hx : ∀ x ∈ xs,Res p x) (hn : xs.Nodup) (a : Int) (i : Nat) (hi : i < xs.length) : evI p a (baseL p xs i xs.length) = lagW p a xs i := by
 haveI := nz hp
 refine T_inj hp (evI_res hp _ _) (Res.mod hp _) ?_
 rw [ev_evI hp,baseL_ev hp hx hn i hi,lagW_ev hp a hx hn i hi]
theorem rlag_ev {p : Int} (hp : Supp p) {xs : List Int} (hx : ∀ x ∈ xs,Res p x) (hl : xs.length ≤ 100000) {a : Int} (ha : Res p a) : Ev (fun k => privityref05_LagrangeWeights.f k p xs a) (if xs.Nodup then lagL p a xs xs.length else [],if xs.Nodup then 0 else 1) := by
 by_cases hn : xs.Nodup
 ·rw [if_pos hn,if_pos hn]
  have hu := unlike_ev xs (by omega)
  rw [decide_eq_true hn] at hu
  have main := up (Q := fun i => Ev (fun k => privityref05_LagrangeWeights.l0 k p xs a (lagL p a xs i) (i : Int)) (lagL p a xs xs.length,0)) (n := xs.length) ?_ ?_
  ·refine (Ev.bind (f := fun k t => if t = true then privityref05_LagrangeWeights.l0 k p xs a [] 0 else some ([],1)) hu ?_).congr fun k => rfl
   exact main.congr fun k => if_pos rfl
  ·refine Ev.step (fun k => ?_) (Ev.now _)
   simp only [privityref05_LagrangeWeights.l0]
   rw [if_neg (by omega)]
  ·intro i hi h
   have hb := baseL_ok hp xs i xs.length
   have hln := baseL_len hp xs i hi
   refine Ev.step (f := fun k => (privityref05_base.f k p xs (i : Int)).bind fun t287 => ((privityref04_Eval.f k p t287 a).bind fun t290 => (if (lagL p a xs i).length < 17592186044416 then (privityref05_LagrangeWeights.l0 k p xs a (lagL p a xs i ++ [t290]) ((i + 1 : Nat) : Int)) else (none)))) (fun k => ?_) (Ev.bind (base_ev hp hx hn hl i hi) (Ev.bind (reval_ev hp ha _ hb.1 (by omega)) ?_))
   ·simp only [privityref05_LagrangeWeights.l0]
    rw [if_pos (by omega),wnat (by omega)]
   ·rw [rlagW_eq hp hx hn a i hi]
    refine h.congr fun k => ?_
    rw [if_pos (by rw [lagL_length];omega)];rfl
 ·rw [if_neg hn,if_neg hn]
  have hu := unlike_ev xs (by omega)
  rw [decide_eq_false hn] at hu
  refine (Ev.bind (f := fun k t => if t = true then privityref05_LagrangeWeights.l0 k p xs a [] 0 else some ([],1)) hu ?_).congr fun k => rfl
  exact (Ev.now _).congr fun k => if_neg (by simp)
theorem ev_if {α : Type} {A : Nat → Option Bool} {b : Bool} (hA : Ev A b) {X Y : Nat → Option α} {r : α} (hx : b = true → Ev X r) (hy : b = false → Ev Y r) : Ev (fun k => (A k).bind fun t => if t = true then X k else Y k) r := by
 refine Ev.bind (f := fun k t => if t = true then X k else Y k) hA ?_
 cases b with
 | true => exact (hx rfl).congr fun k => if_pos rfl
 | false => exact (hy rfl).congr fun k => if_neg (by simp)
theorem ev_ite {α : Type} {c : Prop} [Decidable c] {X Y : Nat → Option α} {r : α} (hx : c → Ev X r) (hy : ¬ c → Ev Y r) : Ev (fun k => if c then X k else Y k) r := by
 by_cases h : c
 ·exact (hx h).congr fun k => if_pos h
 ·exact (hy h).congr fun k => if_neg h
theorem ev_now_bind {α β : Type} {x : Option α} {a : α} (hx : x = some a) {f : Nat → α → Option β} {r : β} (h : Ev (fun k => f k a) r) : Ev (fun k => x.bind (f k)) r := by subst hx;exact h
theorem ilag_eq {p : Int} (hp : Supp p) {xs : List Int} (hx : ∀ x ∈ xs,Res p x) (hl : xs.length ≤ 49) {a : Int} (ha : Res p a) : interpolate_LagrangeWeights.f p xs a = some (if xs.Nodup then lagL p a xs xs.length else [],if xs.Nodup then 0 else 1) := by
 unfold interpolate_LagrangeWeights.f
 rw [if_pos (supB_iff.2 hp),if_pos (ressB_iff.2 hx),if_pos (resB_iff.2 ha),if_pos hl]
theorem lagL_res {p : Int} (hp : Supp p) (a : Int) (xs : List Int) : ∀ n,∀ x ∈ lagL p a xs n,Res p x
 | 0 => fun x hx => by cases hx
 | n + 1 => fun x hx => by
  rcases List.mem_append.1 hx with h|h
  ·exact lagL_res hp a xs n x h
  ·simp only [List.mem_cons,List.not_mem_nil,or_false] at h
   rw [h];exact Res.mod hp _
theorem awake07 : Ev (fun k => privitylaw07_awake.f k) true := Ev.of (fun k => privitylaw07_awake.mono _) (k := 60) (by kernel_rfl)
def pz (a n : Nat) : List Int := (List.range n).map fun (i : Nat) => ((a + i : Nat) : Int)
theorem pz_len (a n : Nat) : (pz a n).length = n := by simp [pz]
theorem pz_next (a n : Nat) : pz a n ++ [((a + n : Nat) : Int)] = pz a (n + 1) := by unfold pz;rw [List.range_succ,List.map_append];rfl
theorem pz_mem {a n : Nat} {x : Int} : x ∈ pz a n ↔ (a : Int) ≤ x ∧ x < (a : Int) + n := by
 unfold pz
 simp only [List.mem_map,List.mem_range]
 constructor
 ·rintro ⟨i,h,rfl⟩;omega
 ·rintro ⟨h1,h2⟩;exact ⟨(x - a).toNat,by omega,by omega⟩
theorem pz_nodup (a n : Nat) : (pz a n).Nodup := by
 unfold pz
 exact List.Pairwise.map (R := fun a c => a ≠ c) _ (fun x y (h : x ≠ y) => fun e => h (by omega)) (List.nodup_range (n := n))
theorem pz_rd {a n i : Nat} (h : i < n) : rd (pz a n) (i : Int) = ((a + i : Nat) : Int) := by
 rw [rd_nat,List.getD_eq_getElem?_getD,List.getElem?_eq_getElem (by rw [pz_len];exact h)]
 simp [pz]
theorem pz_res {p : Int} {a n : Nat} (h : (a : Int) + n ≤ p) : ∀ x ∈ pz a n,Res p x := fun x hx => by
 have := pz_mem.1 hx
 exact ⟨by omega,by omega⟩
theorem points_ev (a n : Nat) (ha : a ≤ 1000) (hn : n ≤ 1000) : Ev (fun k => hyperinvertible_points.f k (a : Int) (n : Int)) (pz a n) := by
 refine (up (Q := fun i => Ev (fun k => hyperinvertible_points.l0 k (a : Int) (pz a i) (n : Int) (i : Int)) (pz a n)) (n := n) ?_ (fun i hi h => ?_)).congr fun k => rfl
 ·refine Ev.step (fun k => ?_) (Ev.now _)
  simp only [hyperinvertible_points.l0]
  rw [if_neg (by omega)]
 ·refine Ev.step (f := fun k => hyperinvertible_points.l0 k (a : Int) (pz a (i + 1)) (n : Int) ((i + 1 : Nat) : Int)) (fun k => ?_) h
  simp only [hyperinvertible_points.l0]
  rw [if_pos (by omega),if_pos (by rw [pz_len];omega),wnat (by omega),wcap (by omega) (by omega),wrapU_id (by omega) (by omega),show (a : Int) + (i : Int) = ((a + i : Nat) : Int) from by omega,pz_next]
def newM (p : Int) (rows cols : Nat) : List (List Int) := (List.range rows).map fun (i : Nat) => lagL p (((cols + 1) + i : Nat) : Int) (pz 1 cols) cols
theorem newM_len (p : Int) (rows cols : Nat) : (newM p rows cols).length = rows := by simp [newM]
theorem newM_next (p : Int) (rows cols : Nat) : newM p rows cols ++ [lagL p (((cols + 1) + rows : Nat) : Int) (pz 1 cols) cols] = newM p (rows + 1) cols := by unfold newM;rw [List.range_succ,List.map_append];rfl
theorem newM_ok {p : Int} (hp : Supp p) (rows cols : Nat) : RowsOk p cols (newM p rows cols) := by
 intro r hr
 obtain ⟨i,_,rfl⟩ := List.mem_map.1 hr
 exact ⟨lagL_length _ _ _ _,lagL_res hp _ _ _⟩
def newR (p r c : Int) : List (List Int) × Int := if r < 1 ∨ r > 26 ∨ c < 1 ∨ c > 26 ∨ r + c ≥ p then ([],2) else (newM p r.toNat c.toNat,0)
theorem new_main {p : Int} (hp : Supp p) {r c : Nat} (hr1 : 1 ≤ r) (hr : r ≤ 26) (hc1 : 1 ≤ c) (hc : c ≤ 26) (hs : (r : Int) + (c : Int) < p) : Ev (fun k => hyperinvertible_New.j0 k p (r : Int) (c : Int) false) (newM p r c,0) := by
 have hl : ∀ i,i < r → interpolate_LagrangeWeights.f p (pz 1 c) (rd (pz (c + 1) r) (i : Int)) = some (lagL p (((c + 1) + i : Nat) : Int) (pz 1 c) c,0) := fun i hi => by
  rw [pz_rd hi,ilag_eq hp (pz_res (by omega)) (by rw [pz_len];omega) ⟨by omega,by omega⟩,if_pos (pz_nodup _ _),if_pos (pz_nodup _ _),pz_len]
 have main : Ev (fun k => hyperinvertible_New.l0 k p (pz 1 c) ([] : List (List Int)) (pz (c + 1) r) (((pz (c + 1) r).length : Nat) : Int) ((0 : Nat) : Int)) (newM p r c,0) := by
  refine up (Q := fun i => Ev (fun k => hyperinvertible_New.l0 k p (pz 1 c) (newM p i c) (pz (c + 1) r) (((pz (c + 1) r).length : Nat) : Int) (i : Int)) (newM p r c,0)) (n := r) ?_ (fun i hi h => ?_)
  ·refine Ev.step (fun k => ?_) (Ev.now _)
   simp only [hyperinvertible_New.l0]
   rw [if_neg (by rw [pz_len];omega)]
  ·refine Ev.step (f := fun k => (interpolate_LagrangeWeights.f p (pz 1 c) (rd (pz (c + 1) r) (i : Int))).bind fun bt => (if bt.2 = 0 then (if (newM p i c).length < 5864062014805 then hyperinvertible_New.l0 k p (pz 1 c) (newM p i c ++ [bt.1]) (pz (c + 1) r) (((pz (c + 1) r).length : Nat) : Int) ((i + 1 : Nat) : Int) else none) else some ([],bt.2))) (fun k => ?_) (ev_now_bind (hl i hi) ?_)
   ·simp only [hyperinvertible_New.l0]
    rw [if_pos (by rw [pz_len];omega),if_pos (by omega),if_pos (by rw [pz_len];omega),wnat (by omega)]
   ·refine h.congr fun k => ?_
    rw [if_pos rfl,if_pos (by rw [newM_len];omega),newM_next]
 refine Ev.step (f := fun k => (hyperinvertible_points.f k 1 (c : Int)).bind fun t372 => ((hyperinvertible_points.f k ((c + 1 : Nat) : Int) (r : Int)).bind fun t375 => (hyperinvertible_New.l0 k p t372 ([] : List (List Int)) t375 (t375.length : Int) 0))) (fun k => ?_) (Ev.bind (points_ev 1 c (by omega) (by omega)) (Ev.bind (points_ev (c + 1) r (by omega) (by omega)) main))
 simp only [hyperinvertible_New.j0]
 rw [if_neg (by simp),wnat (by omega)]
theorem new_bad (p r c : Int) : Ev (fun k => hyperinvertible_New.j0 k p r c true) (([] : List (List Int)),2) :=
 Ev.step (f := fun _ => some (([] : List (List Int)),2)) (fun k => by simp only [hyperinvertible_New.j0];rw [if_pos trivial]) (Ev.now _)
theorem new_ev {p : Int} (hp : Supp p) (r c : Int) : Ev (fun k => hyperinvertible_New.f k p r c) (newR p r c) := by
 unfold newR
 refine ev_ite (c := r < 1) (fun h => ?_) (fun h1 => ev_ite (c := r > 26) (fun h => ?_) (fun h2 => ev_ite (c := c < 1) (fun h => ?_) (fun h3 => ev_ite (c := c > 26) (fun h => ?_) (fun h4 => ?_))))
 ·rw [if_pos (Or.inl h)];exact new_bad p r c
 ·rw [if_pos (Or.inr (Or.inl h))];exact new_bad p r c
 ·rw [if_pos (Or.inr (Or.inr (Or.inl h)))];exact new_bad p r c
 ·rw [if_pos (Or.inr (Or.inr (Or.inr (Or.inl h))))];exact new_bad p r c
 ·rw [wcap (by omega) (by omega),wrapU_id (by omega) (by omega)]
  by_cases hs : r + c ≥ p
  ·rw [decide_eq_true hs,if_pos (Or.inr (Or.inr (Or.inr (Or.inr hs))))];exact new_bad p r c
  ·rw [decide_eq_false hs,if_neg (by omega)]
   have h := new_main hp (r := r.toNat) (c := c.toNat) (by omega) (by omega) (by omega) (by omega) (by omega)
   rw [show ((r.toNat : Nat) : Int) = r from by omega,show ((c.toNat : Nat) : Int) = c from by omega] at h
   exact h
theorem rnew_main {p : Int} (hp : Supp p) {r c : Nat} (hr1 : 1 ≤ r) (hr : r ≤ 26) (hc1 : 1 ≤ c) (hc : c ≤ 26) (hs : (r : Int) + (c : Int) < p) : Ev (fun k => privityref07_New.j0 k p (r : Int) (c : Int) false) (newM p r c,0) := by
 have main : Ev (fun k => privityref07_New.l1 k p (r : Int) (c : Int) (pz 1 c) ([] : List (List Int)) 1) (newM p r c,0) := by
  have h0 := up (Q := fun i => Ev (fun k => privityref07_New.l1 k p (r : Int) (c : Int) (pz 1 c) (newM p i c) ((i + 1 : Nat) : Int)) (newM p r c,0)) (n := r) ?_ (fun i hi h => ?_)
  ·exact h0
  ·refine Ev.step (fun k => ?_) (Ev.now _)
   simp only [privityref07_New.l1]
   rw [if_neg (by omega)]
  ·have hg := rlag_ev hp (xs := pz 1 c) (pz_res (by omega)) (by rw [pz_len];omega) (a := (((c + 1) + i : Nat) : Int)) ⟨by omega,by omega⟩
   rw [if_pos (pz_nodup _ _),if_pos (pz_nodup _ _),pz_len] at hg
   refine Ev.step (f := fun k => (privityref05_LagrangeWeights.f k p (pz 1 c) (((c + 1) + i : Nat) : Int)).bind fun bt => (if (newM p i c).length < 5864062014805 then privityref07_New.l1 k p (r : Int) (c : Int) (pz 1 c) (newM p i c ++ [bt.1]) ((i + 1 + 1 : Nat) : Int) else none)) (fun k => ?_) (Ev.bind hg ?_)
   ·simp only [privityref07_New.l1]
    rw [if_pos (by omega),wnat (by omega),wcap (by omega) (by omega),wrapU_id (by omega) (by omega),show (c : Int) + ((i + 1 : Nat) : Int) = (((c + 1) + i : Nat) : Int) from by omega]
   ·refine h.congr fun k => ?_
    rw [if_pos (by rw [newM_len];omega),newM_next]
 have main2 : Ev (fun k => privityref07_New.l0 k p (r : Int) (c : Int) ([] : List Int) 1) (newM p r c,0) := by
  have h0 := up (Q := fun i => Ev (fun k => privityref07_New.l0 k p (r : Int) (c : Int) (pz 1 i) ((i + 1 : Nat) : Int)) (newM p r c,0)) (n := c) ?_ (fun i hi h => ?_)
  ·exact h0
  ·refine Ev.step (f := fun k => privityref07_New.l1 k p (r : Int) (c : Int) (pz 1 c) ([] : List (List Int)) 1) (fun k => ?_) main
   simp only [privityref07_New.l0]
   rw [if_neg (by omega)]
  ·refine Ev.step (f := fun k => privityref07_New.l0 k p (r : Int) (c : Int) (pz 1 (i + 1)) ((i + 1 + 1 : Nat) : Int)) (fun k => ?_) h
   simp only [privityref07_New.l0]
   rw [if_pos (by omega),if_pos (by rw [pz_len];omega),wnat (by omega),wrapU_id (by omega) (by omega),show ((i + 1 : Nat) : Int) = ((1 + i : Nat) : Int) from by omega,pz_next]
 refine Ev.step (f := fun k => privityref07_New.l0 k p (r : Int) (c : Int) ([] : List Int) 1) (fun k => ?_) main2
 simp only [privityref07_New.j0]
 rw [if_neg (by simp)]
theorem rnew_bad (p r c : Int) : Ev (fun k => privityref07_New.j0 k p r c true) (([] : List (List Int)),2) :=
 Ev.step (f := fun _ => some (([] : List (List Int)),2)) (fun k => by simp only [privityref07_New.j0];rw [if_pos trivial]) (Ev.now _)
theorem rnew_ev {p : Int} (hp : Supp p) (r c : Int) : Ev (fun k => privityref07_New.f k p r c) (newR p r c) := by
 unfold newR
 refine ev_ite (c := r < 1) (fun h => ?_) (fun h1 => ev_ite (c := r > 26) (fun h => ?_) (fun h2 => ev_ite (c := c < 1) (fun h => ?_) (fun h3 => ev_ite (c := c > 26) (fun h => ?_) (fun h4 => ?_))))
 ·rw [if_pos (Or.inl h)];exact rnew_bad p r c
 ·rw [if_pos (Or.inr (Or.inl h))];exact rnew_bad p r c
 ·rw [if_pos (Or.inr (Or.inr (Or.inl h)))];exact rnew_bad p r c
 ·rw [if_pos (Or.inr (Or.inr (Or.inr (Or.inl h))))];exact rnew_bad p r c
 ·rw [wcap (by omega) (by omega),wrapU_id (by omega) (by omega)]
  by_cases hs : r + c ≥ p
  ·rw [decide_eq_true hs,if_pos (Or.inr (Or.inr (Or.inr (Or.inr hs))))];exact rnew_bad p r c
  ·rw [decide_eq_false hs,if_neg (by omega)]
   have h := rnew_main hp (r := r.toNat) (c := c.toNat) (by omega) (by omega) (by omega) (by omega) (by omega)
   rw [show ((r.toNat : Nat) : Int) = r from by omega,show ((c.toNat : Nat) : Int) = c from by omega] at h
   exact h
end Go.Proofs.Ytmdoaijkaaaglaa.E
end
section
namespace Go.Proofs.Ytmdoaijkaaaglaa.Pure
open Go.RowKit Go.Proofs.Ytmdoaijkaaaglaa.Pr Go.Proofs.Ytmdoaijkaaaglaa.Hw Go.Proofs.Ytmdoaijkaaaglaa.E Go.Proofs.YtmdoaijkaaaglaaW.PrintWords Go.Proofs.YtmdoaijkaaaglaaW.PrintLast Go.Proofs.YtmdoaijkaaaglaaW.PrintMore
theorem HyperinvertibleNewMatchesReference : privitylaw07_HyperinvertibleNewMatchesReference.Pure := by
 intro p r c wp wr wc
 refine Ev.rounds (r := true) ?_
 refine ev_if awake07 (fun _ => ev_if (supported_ev p) (fun hs => ?_) fun _ => Ev.now _) (fun h => by cases h)
 have hp := supB_of hs
 refine Ev.bind (new_ev hp r c) (Ev.bind (rnew_ev hp r c) (Ev.congr (fun k => if_pos rfl) (Ev.bind (sameRows_ev _ _ ?_ ?_) ?_)))
 ·unfold newR;split
  ·simp
  ·rw [newM_len];omega
 ·unfold newR;split
  ·simp
  ·intro x hx
   rw [(newM_ok hp _ _ x hx).1];omega
 ·rw [decide_eq_true rfl];exact Ev.now _
end Go.Proofs.Ytmdoaijkaaaglaa.Pure
end
section
/- Printed by a program of this seat (the kit's printer, with the functions that were proved by hand given to it). What stands here: the functions that the statements reach, as plain functions, and that the Go code computes them. -/
namespace Go.Proofs.Ytmdoaijkaaaglaa.hyperinvertibleNewMatchesReference
open Go.ChangeShapes Go.WideShapes Go.ChangeAt Go.RowKit
open Go.ChangeMaps (open_string shut_string)
theorem own : ownKnob Try.prog.godebug = none := by kernel_rfl
set_option maxRecDepth 100000 in
theorem lifted (os : Os) (started : os.Started) (H : Type) (enc : TypeId × Value → H) :
    ReturnsInHanded {} Try.checked os 3 .any (Rows.hyperinvertibleNewMatchesReferenceSpec.pre6 enc Try.prog Try.f3 Rows.hyperinvertibleNewMatchesReferenceRow.domain false) (Rows.hyperinvertibleNewMatchesReferenceSpec.post enc Try.prog Try.f3 false true false false) := by
  refine returnsInHanded_of_change_sized (C := Try.checked) own started (by kernel_rfl) Try.func3
    (ChangeSpec.witness6 (enc := enc) (C := Try.checked) false ⟨#[], #[.int .u64 0, .int .i64 0, .int .i64 0], []⟩ 8 (by kernel_rfl) (by kernel_rfl) (by kernel_rfl) (by kernel_rfl)) ?_
  intro W base args ds gs before hval0 hW hcnd hsz0 _
  have hsz : (DataW.weightsEach Try.prog (Try.f3.params.toList ++ Rows.hyperinvertibleNewMatchesReferenceSpec.plain.varTypes Try.prog) (ds ++ gs)).all (· ≤ reachBytes) = true := hsz0
  have hval : ∀ (j : Nat) t v, Try.f3.params[j]? = some t → args[j]? = some v → Value.okWide Try.prog W .any base t v := hval0
  have hW' := hW
  obtain ⟨p, q, hA0, hV, rfl, hfz, hnd⟩ := hW
  have hA : DataW.TrodAll enc Try.prog W 0 (fun _ => true) true Try.f3.params.toList args.toList ds p := hA0
  rw [Try.params3] at hA hval hsz
  obtain ⟨v0, vs0, d0, ds0, p0, q0, hargs, rfl, rfl, h0, r0⟩ := trodAll_cons hA
  obtain ⟨v1, vs1, d1, ds1, p1, q1, rfl, rfl, rfl, h1, r1⟩ := trodAll_cons r0
  obtain ⟨v2, vs2, d2, ds2, p2, q2, rfl, rfl, rfl, h2, r2⟩ := trodAll_cons r1
  obtain ⟨rfl, rfl, rfl⟩ := trodAll_nil r2
  obtain rfl : args = #[v0, v1, v2] := by cases args; simp_all
  obtain ⟨rfl, rfl⟩ := trodVars_none hV
  obtain ⟨a0, rfl, rfl, rfl, w0⟩ := open_int Try.underlying22 (hval 0 22 v0 rfl rfl) h0
  obtain ⟨a1, rfl, rfl, rfl, w1⟩ := open_int Try.underlying3 (hval 1 3 v1 rfl rfl) h1
  obtain ⟨a2, rfl, rfl, rfl, w2⟩ := open_int Try.underlying3 (hval 2 3 v2 rfl rfl) h2
  clear hA0 hval0 hsz0 hsz
  refine (Pr.privitylaw07_HyperinvertibleNewMatchesReference.walk Pure.HyperinvertibleNewMatchesReference a0 a1 a2 W w0 w1 w2).mono fun e W' ⟨he, bel⟩ => ?_
  subst he
  exact ⟨_, rfl, _, _, _, [], _, [], hW', trodAll_mk1 (shut_bool Try.underlying4 _), (trodAll_cons_mk (shut_int Try.underlying22 w0) (trodAll_cons_mk (shut_int Try.underlying3 w1) (trodAll_cons_mk (shut_int Try.underlying3 w2) trodAll_mk0))), rfl, bel.frame _, fun h => by cases h⟩
theorem over : Rows.hyperinvertibleNewMatchesReferenceRow.holds Try.pinned (OpenSpec.ofChange Rows.hyperinvertibleNewMatchesReferenceSpec) :=
  OpenClaim.holds_of_wide 3 Try.f3 rfl rfl rfl rfl rfl rfl rfl ⟨rfl, rfl, rfl, rfl, rfl⟩ rfl rfl rfl rfl rfl (by kernel_rfl) Try.func3 (by kernel_rfl)
    (of_decide_eq_true (by kernel_rfl)) (by unfold Func.isWrapper; first | (rw [if_pos (by decide +kernel)]; kernel_rfl) | (rw [if_neg (by decide +kernel)]; exact ⟨rfl, rfl⟩))
    (fun os started H enc _ => lifted os started H enc)
theorem proved : Rows.HyperinvertibleNewMatchesReferenceSaid := over
#print axioms proved
end Go.Proofs.Ytmdoaijkaaaglaa.hyperinvertibleNewMatchesReference
namespace Go.Proofs.Ytmdoaijkaaaglaa
/-- The row, under a short name, for the claim. -/
theorem hyperinvertibleNewMatchesReference_holds : Rows.HyperinvertibleNewMatchesReferenceSaid := hyperinvertibleNewMatchesReference.proved
end Go.Proofs.Ytmdoaijkaaaglaa
end
