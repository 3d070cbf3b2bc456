/- The row of the law HyperinvertibleOutputsAreFree, out of its plain law and the walk. -/
import Derived.Test.YtmdoaijkaaaglaaZQ710
import Derived.Test.YtmdoaijkaaaglaaZO71
import Derived.Test.YtmdoaijkaaaglaaZQ76
import Derived.Test.YtmdoaijkaaaglaaZQ71
import Derived.Test.YtmdoaijkaaaglaaZQ77
import Derived.Test.YtmdoaijkaaaglaaZQ79
import Derived.Test.YtmdoaijkaaaglaaProg
import Derived.ChangeArms
import Derived.DataReads
import Derived.DataElems
import Derived.ShutString
import Derived.ChangeSame
import Derived.OpenShut
import Derived.Test.YtmdoaijkaaaglaaZQ70
import Derived.Test.YtmdoaijkaaaglaaRows
import Derived.WalkKit
import Derived.ProofKit
import Derived.ChangeOld
import Derived.Below
import Derived.SizedLaws
set_option linter.unusedVariables false
set_option linter.unusedSimpArgs false
section
namespace Go.Proofs.Ytmdoaijkaaaglaa.E
open Go.RowKit Go.Proofs.Ytmdoaijkaaaglaa.Pr Go.Proofs.Ytmdoaijkaaaglaa.Hw Go.Proofs.Ytmdoaijkaaaglaa.Pl Go.Proofs.YtmdoaijkaaaglaaW.PrintWords Go.Proofs.YtmdoaijkaaaglaaW.PrintLast Go.Proofs.YtmdoaijkaaaglaaW.PrintMore
theorem awake07 : Ev (fun k => privitylaw07_awake.f k) true := Ev.of (fun k => privitylaw07_awake.mono _) (k := 60) (by kernel_rfl)
def pz (a n : Nat) : List Int := (List.range n).map fun (i : Nat) => ((a + i : Nat) : Int)
theorem pz_len (a n : Nat) : (pz a n).length = n := by simp [pz]
theorem pz_next (a n : Nat) : pz a n ++ [((a + n : Nat) : Int)] = pz a (n + 1) := by unfold pz;rw [List.range_succ,List.map_append];rfl
theorem pz_mem {a n : Nat} {x : Int} : x ∈ pz a n ↔ (a : Int) ≤ x ∧ x < (a : Int) + n := by
 unfold pz
 simp only [List.mem_map,List.mem_range]
 constructor
 ·rintro ⟨i,h,rfl⟩;omega
 ·rintro ⟨h1,h2⟩;exact ⟨(x - a).toNat,by omega,by omega⟩
theorem pz_nodup (a n : Nat) : (pz a n).Nodup := by
 unfold pz
 exact List.Pairwise.map (R := fun a c => a ≠ c) _ (fun x y (h : x ≠ y) => fun e => h (by omega)) (List.nodup_range (n := n))
theorem pz_rd {a n i : Nat} (h : i < n) : rd (pz a n) (i : Int) = ((a + i : Nat) : Int) := by
 rw [rd_nat,List.getD_eq_getElem?_getD,List.getElem?_eq_getElem (by rw [pz_len];exact h)]
 simp [pz]
theorem pz_res {p : Int} {a n : Nat} (h : (a : Int) + n ≤ p) : ∀ x ∈ pz a n,Res p x := fun x hx => by
 have := pz_mem.1 hx
 exact ⟨by omega,by omega⟩
theorem points_ev (a n : Nat) (ha : a ≤ 1000) (hn : n ≤ 1000) : Ev (fun k => hyperinvertible_points.f k (a : Int) (n : Int)) (pz a n) := by
 refine (up (Q := fun i => Ev (fun k => hyperinvertible_points.l0 k (a : Int) (pz a i) (n : Int) (i : Int)) (pz a n)) (n := n) ?_ (fun i hi h => ?_)).congr fun k => rfl
 ·refine Ev.step (fun k => ?_) (Ev.now _)
  simp only [hyperinvertible_points.l0]
  rw [if_neg (by omega)]
 ·refine Ev.step (f := fun k => hyperinvertible_points.l0 k (a : Int) (pz a (i + 1)) (n : Int) ((i + 1 : Nat) : Int)) (fun k => ?_) h
  simp only [hyperinvertible_points.l0]
  rw [if_pos (by omega),if_pos (by rw [pz_len];omega),wnat (by omega),wcap (by omega) (by omega),wrapU_id (by omega) (by omega),show (a : Int) + (i : Int) = ((a + i : Nat) : Int) from by omega,pz_next]
def newM (p : Int) (rows cols : Nat) : List (List Int) := (List.range rows).map fun (i : Nat) => lagL p (((cols + 1) + i : Nat) : Int) (pz 1 cols) cols
theorem newM_len (p : Int) (rows cols : Nat) : (newM p rows cols).length = rows := by simp [newM]
theorem newM_next (p : Int) (rows cols : Nat) : newM p rows cols ++ [lagL p (((cols + 1) + rows : Nat) : Int) (pz 1 cols) cols] = newM p (rows + 1) cols := by unfold newM;rw [List.range_succ,List.map_append];rfl
theorem newM_at {p : Int} {rows cols i : Nat} (h : i < rows) : (newM p rows cols).getD i [] = lagL p (((cols + 1) + i : Nat) : Int) (pz 1 cols) cols := by
 rw [List.getD_eq_getElem?_getD,List.getElem?_eq_getElem (by rw [newM_len];exact h)]
 simp [newM]
theorem newM_ok {p : Int} (hp : Supp p) (rows cols : Nat) : RowsOk p cols (newM p rows cols) := by
 intro r hr
 obtain ⟨i,_,rfl⟩ := List.mem_map.1 hr
 exact ⟨lagL_length _ _ _ _,lagL_res hp _ _ _⟩
def newR (p r c : Int) : List (List Int) × Int := if r < 1 ∨ r > 26 ∨ c < 1 ∨ c > 26 ∨ r + c ≥ p then ([],2) else (newM p r.toNat c.toNat,0)
theorem new_main {p : Int} (hp : Supp p) {r c : Nat} (hr1 : 1 ≤ r) (hr : r ≤ 26) (hc1 : 1 ≤ c) (hc : c ≤ 26) (hs : (r : Int) + (c : Int) < p) : Ev (fun k => hyperinvertible_New.j0 k p (r : Int) (c : Int) false) (newM p r c,0) := by
 have hl : ∀ i,i < r → interpolate_LagrangeWeights.f p (pz 1 c) (rd (pz (c + 1) r) (i : Int)) = some (lagL p (((c + 1) + i : Nat) : Int) (pz 1 c) c,0) := fun i hi => by
  rw [pz_rd hi,ilag_eq hp (pz_res (by omega)) (by rw [pz_len];omega) ⟨by omega,by omega⟩,if_pos (pz_nodup _ _),if_pos (pz_nodup _ _),pz_len]
 have main : Ev (fun k => hyperinvertible_New.l0 k p (pz 1 c) ([] : List (List Int)) (pz (c + 1) r) (((pz (c + 1) r).length : Nat) : Int) ((0 : Nat) : Int)) (newM p r c,0) := by
  refine up (Q := fun i => Ev (fun k => hyperinvertible_New.l0 k p (pz 1 c) (newM p i c) (pz (c + 1) r) (((pz (c + 1) r).length : Nat) : Int) (i : Int)) (newM p r c,0)) (n := r) ?_ (fun i hi h => ?_)
  ·refine Ev.step (fun k => ?_) (Ev.now _)
   simp only [hyperinvertible_New.l0]
   rw [if_neg (by rw [pz_len];omega)]
  ·refine Ev.step (f := fun k => (interpolate_LagrangeWeights.f p (pz 1 c) (rd (pz (c + 1) r) (i : Int))).bind fun bt => (if bt.2 = 0 then (if (newM p i c).length < 5864062014805 then hyperinvertible_New.l0 k p (pz 1 c) (newM p i c ++ [bt.1]) (pz (c + 1) r) (((pz (c + 1) r).length : Nat) : Int) ((i + 1 : Nat) : Int) else none) else some ([],bt.2))) (fun k => ?_) (ev_now_bind (hl i hi) ?_)
   ·simp only [hyperinvertible_New.l0]
    rw [if_pos (by rw [pz_len];omega),if_pos (by omega),if_pos (by rw [pz_len];omega),wnat (by omega)]
   ·refine h.congr fun k => ?_
    rw [if_pos rfl,if_pos (by rw [newM_len];omega),newM_next]
 refine Ev.step (f := fun k => (hyperinvertible_points.f k 1 (c : Int)).bind fun t372 => ((hyperinvertible_points.f k ((c + 1 : Nat) : Int) (r : Int)).bind fun t375 => (hyperinvertible_New.l0 k p t372 ([] : List (List Int)) t375 (t375.length : Int) 0))) (fun k => ?_) (Ev.bind (points_ev 1 c (by omega) (by omega)) (Ev.bind (points_ev (c + 1) r (by omega) (by omega)) main))
 simp only [hyperinvertible_New.j0]
 rw [if_neg (by simp),wnat (by omega)]
theorem new_bad (p r c : Int) : Ev (fun k => hyperinvertible_New.j0 k p r c true) (([] : List (List Int)),2) :=
 Ev.step (f := fun _ => some (([] : List (List Int)),2)) (fun k => by simp only [hyperinvertible_New.j0];rw [if_pos trivial]) (Ev.now _)
theorem new_ev {p : Int} (hp : Supp p) (r c : Int) : Ev (fun k => hyperinvertible_New.f k p r c) (newR p r c) := by
 unfold newR
 refine ev_ite (c := r < 1) (fun h => ?_) (fun h1 => ev_ite (c := r > 26) (fun h => ?_) (fun h2 => ev_ite (c := c < 1) (fun h => ?_) (fun h3 => ev_ite (c := c > 26) (fun h => ?_) (fun h4 => ?_))))
 ·rw [if_pos (Or.inl h)];exact new_bad p r c
 ·rw [if_pos (Or.inr (Or.inl h))];exact new_bad p r c
 ·rw [if_pos (Or.inr (Or.inr (Or.inl h)))];exact new_bad p r c
 ·rw [if_pos (Or.inr (Or.inr (Or.inr (Or.inl h))))];exact new_bad p r c
 ·rw [wcap (by omega) (by omega),wrapU_id (by omega) (by omega)]
  by_cases hs : r + c ≥ p
  ·rw [decide_eq_true hs,if_pos (Or.inr (Or.inr (Or.inr (Or.inr hs))))];exact new_bad p r c
  ·rw [decide_eq_false hs,if_neg (by omega)]
   have h := new_main hp (r := r.toNat) (c := c.toNat) (by omega) (by omega) (by omega) (by omega) (by omega)
   rw [show ((r.toNat : Nat) : Int) = r from by omega,show ((c.toNat : Nat) : Int) = c from by omega] at h
   exact h
theorem dotP_acc (p : Int) (r l : List Int) : ∀ n,dotP p r l n = accI p (fun i => r.getD i 0 * l.getD i 0 % p) n
 | 0 => rfl
 | n + 1 => by
  show (dotP p r l n + _) % p = (accI p _ n + _) % p
  rw [dotP_acc p r l n]
theorem weval07 {p : Int} (hp : Supp p) {xs f : List Int} (hx : ∀ x ∈ xs,Res p x) (hn : xs.Nodup) (hf : ∀ x ∈ f,Res p x) (hl : f.length ≤ xs.length) (a : Int) :
  accI p (fun i => (lagL p a xs xs.length).getD i 0 * evI p (xs.getD i 0) f % p) xs.length = evI p a f := by
 haveI := nz hp
 refine T_inj hp (accI_res hp _ _) (evI_res hp _ _) ?_
 rw [accI_T hp,← lagW_sum hp hx hn hf hl a]
 refine sumF_congr _ fun i hi => ?_
 rw [T_mod hp,T_mul,lagL_getD p a xs _ _ hi,rd_nat]
theorem pz_getD {a n i : Nat} (h : i < n) : (pz a n).getD i 0 = ((a + i : Nat) : Int) := by rw [← rd_nat];exact pz_rd h
theorem ne_bool {a b : Int} (h : a = b) : (a != b) = false := by rw [h];simp
theorem newR_ok {p : Int} (hp : Supp p) {r c : Nat} (hr1 : 1 ≤ r) (hr : r ≤ 13) (hc1 : 1 ≤ c) (hc : c ≤ 13) : newR p (r : Int) (c : Int) = (newM p r c,0) := by
 have := hp.bd
 unfold newR
 rw [if_neg (by omega),Int.toNat_natCast,Int.toNat_natCast]
end Go.Proofs.Ytmdoaijkaaaglaa.E
end
section
namespace Go.Proofs.Ytmdoaijkaaaglaa.E
open Go.Proofs.Ytmdoaijkaaaglaa.Hw Go.Proofs.Ytmdoaijkaaaglaa.Pl
theorem getD_some {rs : List (List Int)} {i : Nat} {r : List Int} (h : rs[i]? = some r) : rs.getD i [] = r := by rw [List.getD_eq_getElem?_getD,h];rfl
theorem getD_none {rs : List (List Int)} {i : Nat} (h : rs.length ≤ i) : rs.getD i [] = [] := by rw [List.getD_eq_getElem?_getD,List.getElem?_eq_none h];rfl
def ent (rs : List (List Int)) (i j : Nat) : Int := (rs.getD i []).getD j 0
theorem ent_res {p : Int} (hp : Supp p) {n : Nat} {rs : List (List Int)} (h : RowsOk p n rs) (i j : Nat) : Res p (ent rs i j) := by
 have hb := hp.bd
 have z : Res p 0 := ⟨Int.le_refl _,by omega⟩
 unfold ent
 by_cases hi : i < rs.length
 ·rw [getD_row hi]
  by_cases hj : j < rs[i].length
  ·rw [List.getD_eq_getElem?_getD,List.getElem?_eq_getElem hj];exact (h.at hi).2 _ (List.getElem_mem hj)
  ·rw [List.getD_eq_getElem?_getD,List.getElem?_eq_none (by omega)];exact z
 ·rw [getD_none (by omega)];exact z
theorem ent_at {rs : List (List Int)} {i j : Nat} {r : List Int} (h : rs[i]? = some r) : ent rs i j = r.getD j 0 := by
 unfold ent
 rw [getD_some h]
theorem scale_at {p k : Int} {row : List Int} {j : Nat} (h : j < row.length) : (scaleR p k row).getD j 0 = k * row.getD j 0 % p := by
 unfold scaleR
 rw [List.getD_eq_getElem?_getD,List.getElem?_map,List.getElem?_eq_getElem h,List.getD_eq_getElem?_getD,List.getElem?_eq_getElem h];rfl
theorem elim_at {p k : Int} {prow row : List Int} {j : Nat} (h1 : j < row.length) (h2 : j < prow.length) : (elimR p k prow row).getD j 0 = (row.getD j 0 - k * prow.getD j 0 % p) % p := by
 rw [List.getD_eq_getElem?_getD,elimR_at h1 h2,List.getD_eq_getElem?_getD,List.getElem?_eq_getElem h1,List.getD_eq_getElem?_getD,List.getElem?_eq_getElem h2];rfl
def sgm (q r i : Nat) : Nat := if i = r then q else if i = q then r else i
theorem swap_ent {p : Int} {n : Nat} {rs : List (List Int)} (h : RowsOk p n rs) {q r : Nat} (hq : q < rs.length) (hr : r < rs.length) (i j : Nat) : ent (if q = r then rs else swapR rs q r) i j = ent rs (sgm q r i) j := by
 unfold sgm
 by_cases e : q = r
 ·rw [if_pos e]
  by_cases e1 : i = r
  ·rw [if_pos e1,e1,e]
  ·rw [if_neg e1,if_neg (by omega)]
 ·rw [if_neg e]
  unfold ent swapR
  by_cases e1 : i = r
  ·subst e1
   rw [if_pos rfl,getD_some (List.getElem?_set_self (by rw [List.length_set];exact hr))]
  ·rw [if_neg e1]
   by_cases e2 : i = q
   ·subst e2
    rw [if_pos rfl,getD_some (show _ = some (rs.getD r []) from by rw [List.getElem?_set_ne (fun h => e1 h.symm),List.getElem?_set_self hq])]
   ·rw [if_neg e2]
    congr 1
    rw [List.getD_eq_getElem?_getD,List.getElem?_set_ne (fun h => e1 h.symm),List.getElem?_set_ne (fun h => e2 h.symm),← List.getD_eq_getElem?_getD]
section
variable {p : Int} (hp : Supp p) {m n : Nat} {s : List (List Int) × List Int × Int} (ok : RedOk p m n s) {c : Nat}
def pvX (s : List (List Int) × List Int × Int) (c : Nat) : Int := ent s.1 (fndP s.1 c s.2.1.length) c
def pvR (p : Int) (s : List (List Int) × List Int × Int) (c j : Nat) : Int := invp p (pvX s c) * ent s.1 (fndP s.1 c s.2.1.length) j % p
include hp ok in
theorem pvX_ok (hq : fndP s.1 c s.2.1.length < s.1.length) : Res p (pvX s c) ∧ pvX s c ≠ 0 := by
 refine ⟨ent_res hp ok.rows _ _,?_⟩
 unfold pvX
 rw [ent_at (List.getElem?_eq_getElem hq)]
 exact fndP_nz hq
include hp ok in
theorem step_ent (hq : fndP s.1 c s.2.1.length < s.1.length) (i j : Nat) (hi : i < m) (hj : j < n) (hc : c < n) :
  ent (redStep p s c).1 i j = if i = s.2.1.length then pvR p s c j else (ent s.1 (sgm (fndP s.1 c s.2.1.length) s.2.1.length i) j - ent s.1 (sgm (fndP s.1 c s.2.1.length) s.2.1.length i) c * pvR p s c j % p) % p := by
 obtain ⟨q,hqe⟩ : ∃ q,q = fndP s.1 c s.2.1.length := ⟨_,rfl⟩
 have hge : s.2.1.length ≤ q := by rw [hqe];exact fndP_ge _ _ _
 obtain ⟨r,hre⟩ : ∃ r,r = s.2.1.length := ⟨_,rfl⟩
 have hm := ok.len
 have hr : r < s.1.length := by omega
 obtain ⟨rs1,h1⟩ : ∃ x,x = (if q = r then s.1 else swapR s.1 q r) := ⟨_,rfl⟩
 have hent : ∀ i j,ent rs1 i j = ent s.1 (sgm q r i) j := fun i j => by rw [h1];exact swap_ent ok.rows (by rw [hqe];exact hq) hr i j
 have hok1 : RowsOk p n rs1 ∧ rs1.length = m := by
  rw [h1];split
  ·exact ⟨ok.rows,ok.len⟩
  ·exact ⟨swapR_ok ok.rows (by rw [hqe];exact hq) hr,by rw [swapR_len];exact ok.len⟩
 have hst : (redStep p s c).1 = elimAll p c r (scaleR p (invp p ((rs1.getD r []).getD c 0)) (rs1.getD r [])) (rs1.set r (scaleR p (invp p ((rs1.getD r []).getD c 0)) (rs1.getD r []))) := by
  unfold redStep
  rw [if_pos hq,h1,hqe,hre]
 have hx : (rs1.getD r []).getD c 0 = pvX s c := by
  have := hent r c
  unfold ent at this
  rw [this]
  unfold pvX sgm
  rw [if_pos rfl,hqe];rfl
 have hrl : (rs1.getD r []).length = n := by rw [getD_row (by omega)];exact (hok1.1.at (by omega)).1
 have hprow : ∀ j,j < n → (scaleR p (invp p (pvX s c)) (rs1.getD r [])).getD j 0 = pvR p s c j := fun j hj => by
  rw [scale_at (by omega)]
  have := hent r j
  unfold ent at this
  rw [this]
  unfold pvR sgm
  rw [if_pos rfl,hqe];rfl
 rw [hx] at hst
 have hpl : (scaleR p (invp p (pvX s c)) (rs1.getD r [])).length = n := by rw [scaleR_len];exact hrl
 obtain ⟨prow,hpr⟩ : ∃ x,x = scaleR p (invp p (pvX s c)) (rs1.getD r []) := ⟨_,rfl⟩
 rw [← hpr] at hst hprow hpl
 rw [hst,← hqe,← hre]
 have hi1 : i < (rs1.set r prow).length := by rw [List.length_set];omega
 rw [ent_at (elimAll_get p c r prow (rs1.set r prow) hi1)]
 by_cases e : i = r
 ·subst e
  rw [if_pos rfl]
  unfold elimRow
  rw [if_pos (Or.inl rfl)]
  rw [List.getElem_set_self,hprow j hj]
 ·rw [if_neg e]
  have hrow : (rs1.set r prow)[i] = rs1[i]'(by omega) := by rw [List.getElem_set_ne (fun h => e h.symm)]
  have hli := (hok1.1.at (show i < rs1.length by omega)).1
  have hri := (hok1.1.at (show i < rs1.length by omega)).2
  have hej : ∀ j,(rs1[i]'(by omega)).getD j 0 = ent s.1 (sgm q r i) j := fun j => by
   rw [← hent]
   rw [ent_at (List.getElem?_eq_getElem (show i < rs1.length by omega))]
  rw [hrow]
  unfold elimRow
  by_cases e0 : (rs1[i]'(by omega)).getD c 0 = 0
  ·rw [if_pos (Or.inr e0),hej,← hej c,e0,Int.zero_mul,Int.zero_emod,Int.sub_zero]
   exact (Res.eq (by rw [← hent];exact ent_res hp hok1.1 _ _)).symm
  ·rw [if_neg (by intro h;rcases h with h|h;exact e h;exact e0 h),elim_at (by omega) (by omega),hej,hej,hprow j hj]
theorem step_skip (hq : ¬ fndP s.1 c s.2.1.length < s.1.length) : redStep p s c = s := by unfold redStep;rw [if_neg hq]
theorem step_piv (hq : fndP s.1 c s.2.1.length < s.1.length) : (redStep p s c).2.1 = s.2.1 ++ [(c : Int)] := by unfold redStep;rw [if_pos hq]
end
def lf (p : Int) [NeZero p.toNat] (rs : List (List Int)) (i : Nat) (x : Nat → Fin p.toNat) : Nat → Fin p.toNat
 | 0 => 0
 | n + 1 => lf p rs i x n + T p (ent rs i n) * x n
theorem lf_lin {p : Int} [NeZero p.toNat] {rs rs1 rs2 : List (List Int)} {i i1 i2 : Nat} {x : Nat → Fin p.toNat} (a b : Fin p.toNat) : ∀ n,(∀ j,j < n → T p (ent rs i j) = a * T p (ent rs1 i1 j) + b * T p (ent rs2 i2 j)) → lf p rs i x n = a * lf p rs1 i1 x n + b * lf p rs2 i2 x n
 | 0,_ => by
  show (0 : Fin p.toNat) = a * 0 + b * 0
  grind
 | n + 1,h => by
  show _ + _ = a * (_ + _) + b * (_ + _)
  rw [lf_lin a b n (fun j hj => h j (by omega)),h n (by omega)]
  grind
def Ker (p : Int) [NeZero p.toNat] (rs : List (List Int)) (m n : Nat) (x : Nat → Fin p.toNat) : Prop := ∀ i,i < m → lf p rs i x n = 0
theorem step_ker {p : Int} (hp : Supp p) [NeZero p.toNat] {m n : Nat} {s : List (List Int) × List Int × Int} (ok : RedOk p m n s) {c : Nat} (hc : c < n) (x : Nat → Fin p.toNat) : Ker p (redStep p s c).1 m n x ↔ Ker p s.1 m n x := by
 by_cases hq : fndP s.1 c s.2.1.length < s.1.length
 ·have hm := ok.len
  have hge := fndP_ge s.1 c s.2.1.length
  obtain ⟨hxr,hx0⟩ := pvX_ok hp ok hq
  have hinv := T_inv hp hxr hx0
  have hst := fun i j hi hj => step_ent hp ok hq i j hi hj hc
  obtain ⟨q,hqe⟩ : ∃ q,q = fndP s.1 c s.2.1.length := ⟨_,rfl⟩
  obtain ⟨r,hre⟩ : ∃ r,r = s.2.1.length := ⟨_,rfl⟩
  have hpv : ∀ j,T p (pvR p s c j) = T p (invp p (pvX s c)) * T p (ent s.1 q j) := fun j => by unfold pvR;rw [T_mod hp,T_mul,hqe]
  rw [← hqe,← hre] at hst
  have hr : r < m := by omega
  have hqm : q < m := by omega
  have e1 : lf p (redStep p s c).1 r x n = T p (invp p (pvX s c)) * lf p s.1 q x n := by
   have := lf_lin (p := p) (rs := (redStep p s c).1) (i := r) (rs1 := s.1) (i1 := q) (rs2 := s.1) (i2 := q) (x := x) (T p (invp p (pvX s c))) 0 n (fun j hj => by
    rw [hst r j hr hj,if_pos rfl,hpv];grind)
   rw [this];grind
  have e2 : ∀ i,i < m → i ≠ r → lf p (redStep p s c).1 i x n = lf p s.1 (sgm q r i) x n - T p (ent s.1 (sgm q r i) c) * T p (invp p (pvX s c)) * lf p s.1 q x n := fun i hi hir => by
   have := lf_lin (p := p) (rs := (redStep p s c).1) (i := i) (rs1 := s.1) (i1 := sgm q r i) (rs2 := s.1) (i2 := q) (x := x) 1 (- (T p (ent s.1 (sgm q r i) c) * T p (invp p (pvX s c)))) n (fun j hj => by
    rw [hst i j hi hj,if_neg hir,T_mod hp,T_sub,T_mod hp,T_mul,hpv];grind)
   rw [this];grind
  have hsg : ∀ i,i < m → i ≠ q → sgm q r (sgm q r i) = i ∧ sgm q r i < m ∧ sgm q r i ≠ r := fun i hi hiq => by
   unfold sgm
   by_cases h1 : i = r
   ·subst h1
    by_cases h2 : q = i
    ·omega
    ·rw [if_pos rfl,if_neg h2,if_pos rfl];exact ⟨rfl,hqm,h2⟩
   ·rw [if_neg h1,if_neg hiq,if_neg h1,if_neg hiq];exact ⟨rfl,hi,h1⟩
  constructor
  ·intro h
   have h1 : lf p s.1 q x n = 0 := by
    have h2 := h r hr
    rw [e1] at h2
    have : T p (pvX s c) * (T p (invp p (pvX s c)) * lf p s.1 q x n) = 0 := by rw [h2];grind
    grind
   intro i hi
   by_cases hiq : i = q
   ·rw [hiq];exact h1
   ·obtain ⟨k1,k2,k3⟩ := hsg i hi hiq
    have h2 := h _ k2
    rw [e2 _ k2 k3,k1,h1] at h2
    grind
  ·intro h
   intro i hi
   have h1 := h q hqm
   by_cases hir : i = r
   ·rw [hir,e1,h1];grind
   ·rw [e2 i hi hir,h1]
    have hs : sgm q r i < m := by unfold sgm;split;exact hqm;split;exact hr;exact hi
    rw [h _ hs];grind
 ·rw [step_skip hq]
theorem red_ker {p : Int} (hp : Supp p) [NeZero p.toNat] {n : Nat} {rs : List (List Int)} (h : RowsOk p n rs) (x : Nat → Fin p.toNat) : ∀ k,k ≤ n → (Ker p (red p rs k).1 rs.length n x ↔ Ker p rs rs.length n x)
 | 0,_ => Iff.rfl
 | k + 1,hk => by rw [red_succ];exact (step_ker hp (red_ok hp h k) (by omega) x).trans (red_ker hp h x k (by omega))
structure Shape (m c : Nat) (s : List (List Int) × List Int × Int) : Prop where
 len : s.2.1.length ≤ c
 piv : ∀ i,i < s.2.1.length → ∃ ci : Nat,s.2.1[i]? = some (ci : Int) ∧ ci < c ∧ ∀ j,j < m → ent s.1 j ci = if j = i then 1 else 0
 zero : ∀ j,s.2.1.length ≤ j → j < m → ∀ c',c' < c → ent s.1 j c' = 0
theorem zsub {p : Int} (hp : Supp p) {e : Int} (he : Res p e) : (e - e * 1 % p) % p = 0 := by rw [Int.mul_one,he.eq,Int.sub_self,Int.zero_emod]
theorem shape_step {p : Int} (hp : Supp p) {m n : Nat} {s : List (List Int) × List Int × Int} (ok : RedOk p m n s) {c : Nat} (hc : c < n) (h : Shape m c s) : Shape m (c + 1) (redStep p s c) := by
 have hm := ok.len
 by_cases hq : fndP s.1 c s.2.1.length < s.1.length
 ·have hge := fndP_ge s.1 c s.2.1.length
  obtain ⟨hxr,hx0⟩ := pvX_ok hp ok hq
  have hst := fun i j hi hj => step_ent hp ok hq i j hi hj hc
  have hpx : pvR p s c c = 1 := by
   unfold pvR
   rw [show ent s.1 (fndP s.1 c s.2.1.length) c = pvX s c from rfl,Int.mul_comm]
   exact inv_spec hp hxr hx0
  obtain ⟨q,hqe⟩ : ∃ q,q = fndP s.1 c s.2.1.length := ⟨_,rfl⟩
  obtain ⟨r,hre⟩ : ∃ r,r = s.2.1.length := ⟨_,rfl⟩
  have hr : r < m := by omega
  have hqm : q < m := by omega
  have hp0 : ∀ j,ent s.1 q j = 0 → pvR p s c j = 0 := fun j hj => by unfold pvR;rw [← hqe,hj,Int.mul_zero,Int.zero_emod]
  rw [← hqe,← hre] at hst
  have hres := ent_res hp ok.rows
  have hc0 : ∀ j,j < m → j ≠ r → ent (redStep p s c).1 j c = 0 := fun j hj hjr => by
   rw [hst j c hj hc,if_neg hjr,hpx];exact zsub hp (hres _ _)
  have hcr : ent (redStep p s c).1 r c = 1 := by rw [hst r c hr hc,if_pos rfl,hpx]
  have hkeep : ∀ j j',j < m → j ≠ r → j' < n → ent s.1 q j' = 0 → ent (redStep p s c).1 j j' = ent s.1 (sgm q r j) j' := fun j j' hj hjr hj' h0 => by
   rw [hst j j' hj hj',if_neg hjr,hp0 j' h0,Int.mul_zero,Int.zero_emod,Int.sub_zero]
   exact (hres _ _).eq
  have hpl := step_piv (p := p) (s := s) (c := c) hq
  refine ⟨?_,?_,?_⟩
  ·rw [hpl,List.length_append,List.length_singleton];have := h.len;omega
  ·intro i hi
   rw [hpl,List.length_append,List.length_singleton] at hi
   rw [hpl]
   by_cases e : i < r
   ·obtain ⟨ci,h1,h2,h3⟩ := h.piv i (by omega)
    refine ⟨ci,by rw [List.getElem?_append_left (by omega)];exact h1,by omega,fun j hj => ?_⟩
    have hq0 : ent s.1 q ci = 0 := by rw [h3 q hqm,if_neg (by omega)]
    by_cases hjr : j = r
    ·rw [hjr,hst r ci hr (by omega),if_pos rfl,hp0 ci hq0,if_neg (by omega)]
    ·rw [hkeep j ci hj hjr (by omega) hq0]
     unfold sgm
     rw [if_neg hjr]
     by_cases hjq : j = q
     ·rw [if_pos hjq,h3 r hr,if_neg (by omega),if_neg (by omega)]
     ·rw [if_neg hjq,h3 j hj]
   ·have hir : i = r := by omega
    refine ⟨c,by rw [List.getElem?_append_right (by omega),show i - s.2.1.length = 0 from by omega];rfl,by omega,fun j hj => ?_⟩
    by_cases hjr : j = r
    ·rw [hjr,hcr,if_pos hir.symm]
    ·rw [hc0 j hj hjr,if_neg (by omega)]
  ·intro j hj hjm c' hc'
   rw [hpl,List.length_append,List.length_singleton] at hj
   by_cases e : c' = c
   ·rw [e];exact hc0 j hjm (by omega)
   ·have hq0 : ent s.1 q c' = 0 := h.zero q (by omega) hqm c' (by omega)
    rw [hkeep j c' hjm (by omega) (by omega) hq0]
    refine h.zero _ ?_ ?_ c' (by omega)
    ·unfold sgm;rw [if_neg (by omega)];split <;> omega
    ·unfold sgm;rw [if_neg (by omega)];split <;> omega
 ·rw [step_skip hq]
  refine ⟨by have := h.len;omega,fun i hi => ?_,fun j hj hjm c' hc' => ?_⟩
  ·obtain ⟨ci,h1,h2,h3⟩ := h.piv i hi
   exact ⟨ci,h1,by omega,h3⟩
  ·by_cases e : c' = c
   ·rw [e,ent_at (List.getElem?_eq_getElem (show j < s.1.length by omega))]
    exact fndP_zero hj (by omega) (by omega)
   ·exact h.zero j hj hjm c' (by omega)
theorem red_shape {p : Int} (hp : Supp p) {n : Nat} {rs : List (List Int)} (h : RowsOk p n rs) : ∀ k,k ≤ n → Shape rs.length k (red p rs k)
 | 0,_ => ⟨Nat.le_refl _,fun i hi => absurd hi (Nat.not_lt_zero i),fun j _ _ c' hc' => absurd hc' (Nat.not_lt_zero c')⟩
 | k + 1,hk => by rw [red_succ];exact shape_step hp (red_ok hp h k) (by omega) (red_shape hp h k (by omega))
theorem full_piv {p : Int} (hp : Supp p) {n : Nat} {rs : List (List Int)} (h : RowsOk p n rs) : ∀ k,k ≤ n → (red p rs k).2.1.length = k → ∀ i,i < k → (red p rs k).2.1[i]? = some (i : Int)
 | 0,_,_,i,hi => absurd hi (Nat.not_lt_zero i)
 | k + 1,hk,hl,i,hi => by
  have hsh := (red_shape hp h k (by omega)).len
  rw [red_succ] at hl ⊢
  by_cases hq : fndP (red p rs k).1 k (red p rs k).2.1.length < (red p rs k).1.length
  ·rw [step_piv (p := p) hq] at hl ⊢
   rw [List.length_append,List.length_singleton] at hl
   have hk2 : (red p rs k).2.1.length = k := by omega
   by_cases e : i < k
   ·rw [List.getElem?_append_left (by omega)];exact full_piv hp h k (by omega) hk2 i e
   ·rw [List.getElem?_append_right (by omega),show i - (red p rs k).2.1.length = 0 from by omega,show i = k from by omega];rfl
  ·rw [step_skip hq] at hl
   omega
theorem full_id {p : Int} (hp : Supp p) {n : Nat} {rs : List (List Int)} (h : RowsOk p n rs) {k : Nat} (hk : k ≤ n) (hl : (red p rs k).2.1.length = k) {i j : Nat} (hi : i < k) (hj : j < rs.length) : ent (red p rs k).1 j i = if j = i then 1 else 0 := by
 obtain ⟨ci,h1,h2,h3⟩ := (red_shape hp h k hk).piv i (by omega)
 rw [full_piv hp h k hk hl i hi] at h1
 have : i = ci := by have := Option.some.inj h1;omega
 subst this
 exact h3 j hj
theorem lf_two {p : Int} [NeZero p.toNat] {rs : List (List Int)} {i a b : Nat} {x : Nat → Fin p.toNat} (hab : a ≠ b) : ∀ n,(∀ j,j < n → j ≠ a → j ≠ b → T p (ent rs i j) * x j = 0) → lf p rs i x n = (if a < n then T p (ent rs i a) * x a else 0) + (if b < n then T p (ent rs i b) * x b else 0)
 | 0,_ => by
  show (0 : Fin p.toNat) = _
  rw [if_neg (Nat.not_lt_zero _),if_neg (Nat.not_lt_zero _)];grind
 | n + 1,h => by
  show _ + _ = _
  rw [lf_two hab n (fun j hj => h j (by omega))]
  by_cases ea : n = a
  ·subst ea
   rw [if_neg (Nat.lt_irrefl _),if_pos (Nat.lt_succ_self _)]
   by_cases eb : b < n
   ·rw [if_pos eb,if_pos (by omega)];grind
   ·rw [if_neg eb,if_neg (by omega)];grind
  ·by_cases eb : n = b
   ·subst eb
    rw [if_neg (Nat.lt_irrefl n),if_pos (Nat.lt_succ_self n)]
    by_cases ea2 : a < n
    ·rw [if_pos ea2,if_pos (by omega)];grind
    ·rw [if_neg ea2,if_neg (by omega)];grind
   ·rw [h n (by omega) ea eb]
    by_cases ha : a < n <;> by_cases hb : b < n
    ·rw [if_pos ha,if_pos hb,if_pos (by omega),if_pos (by omega)];grind
    ·rw [if_pos ha,if_neg hb,if_pos (by omega),if_neg (by omega)];grind
    ·rw [if_neg ha,if_pos hb,if_neg (by omega),if_pos (by omega)];grind
    ·rw [if_neg ha,if_neg hb,if_neg (by omega),if_neg (by omega)];grind
theorem lf_ext {p : Int} [NeZero p.toNat] {rs : List (List Int)} {i k : Nat} {x : Nat → Fin p.toNat} (h : ∀ j,k ≤ j → x j = 0) : ∀ d,lf p rs i x (k + d) = lf p rs i x k
 | 0 => rfl
 | d + 1 => by
  show lf p rs i x (k + d) + T p (ent rs i (k + d)) * x (k + d) = _
  rw [lf_ext h d,h (k + d) (by omega)];grind
theorem free_col (ps : List Int) (k : Nat) (hl : ps.length < k) : ∃ c,c < k ∧ (c : Int) ∉ ps := by
 refine Classical.byContradiction fun hcon => ?_
 have hall : ∀ c,c < k → (c : Int) ∈ ps := fun c hc => Classical.byContradiction fun h => hcon ⟨c,hc,h⟩
 have h1 : ∀ (k : Nat) (ps : List Int),(∀ c,c < k → (c : Int) ∈ ps) → k ≤ ps.length := by
  intro k
  induction k with
  | zero => intro ps _;exact Nat.zero_le _
  | succ k ih =>
   intro ps h
   have hk := h k (by omega)
   have h2 := ih (ps.erase (k : Int)) (fun c hc => (List.mem_erase_of_ne (by omega)).2 (h c (by omega)))
   rw [List.length_erase_of_mem hk] at h2
   have := List.length_pos_of_mem hk
   omega
 have := h1 k ps hall
 omega
theorem ker_of_few {p : Int} (hp : Supp p) [NeZero p.toNat] {n : Nat} {rs : List (List Int)} (h : RowsOk p n rs) {k : Nat} (hk : k ≤ n) (hl : (red p rs k).2.1.length < k) : ∃ x : Nat → Fin p.toNat,(∃ j,j < k ∧ x j ≠ 0) ∧ (∀ j,k ≤ j → x j = 0) ∧ Ker p rs rs.length n x := by
 have hsh := red_shape hp h k hk
 obtain ⟨c,hck,hcn⟩ := free_col (red p rs k).2.1 k hl
 obtain ⟨s,hs⟩ : ∃ s,s = red p rs k := ⟨_,rfl⟩
 rw [← hs] at hsh hcn hl
 have hlen : s.1.length = rs.length := by rw [hs];exact (red_ok hp h k).len
 obtain ⟨f,hf⟩ : ∃ f : Nat → Nat,f = fun (j : Nat) => s.2.1.findIdx (fun y => y == ((j : Nat) : Int)) := ⟨_,rfl⟩
 have hf1 : ∀ j,f j < s.2.1.length → s.2.1[f j]? = some (j : Int) := fun j hj => by
  rw [hf] at hj ⊢
  have := List.findIdx_getElem (w := hj)
  rw [List.getElem?_eq_getElem hj]
  simpa using this
 obtain ⟨x,hx⟩ : ∃ x : Nat → Fin p.toNat,x = fun j => if j = c then 1 else if f j < s.2.1.length then - T p (ent s.1 (f j) c) else 0 := ⟨_,rfl⟩
 have hsup : ∀ j,k ≤ j → x j = 0 := fun j hj => by
  rw [hx]
  show (if j = c then 1 else if f j < s.2.1.length then - T p (ent s.1 (f j) c) else 0) = (0 : Fin p.toNat)
  rw [if_neg (by omega)]
  by_cases e : f j < s.2.1.length
  ·obtain ⟨ci,h1,h2,_⟩ := hsh.piv _ e
   rw [hf1 j e] at h1
   have := Option.some.inj h1
   omega
  ·rw [if_neg e]
 have hker : Ker p s.1 rs.length n x := by
  intro i hi
  rw [show n = k + (n - k) from by omega,lf_ext hsup]
  by_cases e : i < s.2.1.length
  ·obtain ⟨ci,h1,h2,h3⟩ := hsh.piv i e
   have hcc : c ≠ ci := fun hh => hcn (by rw [hh];exact List.mem_of_getElem? h1)
   have hfi : f ci = i := by
    have hlt : f ci < s.2.1.length := by
     rw [hf]
     exact List.findIdx_lt_length_of_exists ⟨(ci : Int),List.mem_of_getElem? h1,by simp⟩
    have h4 := hf1 ci hlt
    obtain ⟨cj,h5,h6,h7⟩ := hsh.piv (f ci) hlt
    rw [h4] at h5
    have : ci = cj := by have := Option.some.inj h5;omega
    rw [← this] at h7
    have h8 := h7 i hi
    rw [h3 i hi,if_pos rfl] at h8
    by_cases e2 : i = f ci
    ·exact e2.symm
    ·rw [if_neg e2] at h8;omega
   rw [lf_two hcc k (fun j hj hjc hjci => ?_),if_pos hck,if_pos h2]
   ·have e1 : x c = 1 := by rw [hx];show (if c = c then _ else _) = _;rw [if_pos rfl]
    have e2 : x ci = - T p (ent s.1 i c) := by
     rw [hx]
     show (if ci = c then 1 else if f ci < s.2.1.length then - T p (ent s.1 (f ci) c) else 0) = _
     rw [if_neg (fun hh => hcc hh.symm),hfi,if_pos e]
    rw [e1,e2,h3 i hi,if_pos rfl,T_one]
    grind
   ·rw [hx]
    show T p (ent s.1 i j) * (if j = c then 1 else if f j < s.2.1.length then - T p (ent s.1 (f j) c) else 0) = 0
    rw [if_neg hjc]
    by_cases e3 : f j < s.2.1.length
    ·obtain ⟨cj,h5,h6,h7⟩ := hsh.piv (f j) e3
     rw [hf1 j e3] at h5
     have : j = cj := by have := Option.some.inj h5;omega
     rw [← this] at h7
     have hne : i ≠ f j := fun hh => by
      rw [← hh] at h7
      have h8 := hf1 j e3
      rw [← hh,h1] at h8
      have := Option.some.inj h8
      omega
     rw [h7 i hi,if_neg hne,T_zero];grind
    ·rw [if_neg e3];grind
  ·have h0 : ∀ j,j < k → T p (ent s.1 i j) = 0 := fun j hj => by rw [hsh.zero i (by omega) hi j hj,T_zero]
   have : ∀ d,d ≤ k → lf p s.1 i x d = 0 := by
    intro d
    induction d with
    | zero => intro _;rfl
    | succ d ih =>
     intro hd
     show _ + _ = _
     rw [ih (by omega),h0 d (by omega)];grind
   exact this k (Nat.le_refl _)
 refine ⟨x,⟨c,hck,?_⟩,hsup,?_⟩
 ·rw [hx]
  show (if c = c then 1 else _) ≠ (0 : Fin p.toNat)
  rw [if_pos rfl];exact one_ne hp
 ·rw [hs] at hker
  exact (red_ker hp h x k hk).1 hker
end Go.Proofs.Ytmdoaijkaaaglaa.E
end
section
namespace Go.Proofs.Ytmdoaijkaaaglaa.E
open Go.RowKit Go.Proofs.Ytmdoaijkaaaglaa.Pr Go.Proofs.Ytmdoaijkaaaglaa.Hw Go.Proofs.Ytmdoaijkaaaglaa.Pl Go.Proofs.YtmdoaijkaaaglaaW.PrintWords Go.Proofs.YtmdoaijkaaaglaaW.PrintLast Go.Proofs.YtmdoaijkaaaglaaW.PrintMore
section
variable {p : Int} [NeZero p.toNat]
theorem sumQ_add (f g : Nat → Fin p.toNat) : ∀ n,sumF (fun i => f i + g i) n = sumF f n + sumF g n
 | 0 => by simp only [sumF];grind
 | n + 1 => by simp only [sumF];rw [sumQ_add f g n];grind
theorem sumQ_mul (c : Fin p.toNat) (f : Nat → Fin p.toNat) : ∀ n,sumF (fun i => c * f i) n = c * sumF f n
 | 0 => by simp only [sumF];grind
 | n + 1 => by simp only [sumF];rw [sumQ_mul c f n];grind
theorem sumQ_zero : ∀ n,sumF (fun _ => (0 : Fin p.toNat)) n = 0
 | 0 => rfl
 | n + 1 => by simp only [sumF];rw [sumQ_zero n];grind
theorem sumQ_swap (F : Nat → Nat → Fin p.toNat) (m : Nat) : ∀ n,sumF (fun i => sumF (fun j => F i j) m) n = sumF (fun j => sumF (fun i => F i j) n) m
 | 0 => by simp only [sumF];exact (sumQ_zero m).symm
 | n + 1 => by simp only [sumF];rw [sumQ_swap F m n,sumQ_add]
theorem lf_sum (rs : List (List Int)) (i : Nat) (x : Nat → Fin p.toNat) : ∀ n,lf p rs i x n = sumF (fun j => T p (ent rs i j) * x j) n
 | 0 => rfl
 | n + 1 => by
  show lf p rs i x n + _ = sumF _ n + _
  rw [lf_sum rs i x n]
end
def selQN (keys : List Int) (b : Bool) (n : Nat) : List Nat := (List.range n).filter fun (i : Nat) => decide ((i : Int) ∈ keys) == b
def selQ (keys : List Int) (b : Bool) (n : Nat) : List Int := (selQN keys b n).map fun (i : Nat) => (i : Int)
theorem selQN_next (keys : List Int) (b : Bool) (n : Nat) : selQN keys b (n + 1) = if (decide ((n : Int) ∈ keys) == b) = true then selQN keys b n ++ [n] else selQN keys b n := by
 unfold selQN
 rw [List.range_succ,List.filter_append]
 by_cases h : (decide ((n : Int) ∈ keys) == b) = true
 ·rw [if_pos h]
  congr 1
  exact List.filter_cons_of_pos (p := fun (i : Nat) => decide ((i : Int) ∈ keys) == b) h
 ·rw [if_neg h]
  have e : List.filter (fun (i : Nat) => decide ((i : Int) ∈ keys) == b) [n] = [] := List.filter_cons_of_neg (p := fun (i : Nat) => decide ((i : Int) ∈ keys) == b) h
  rw [e,List.append_nil]
theorem selQ_mem {keys : List Int} {b : Bool} {n : Nat} {x : Int} : x ∈ selQ keys b n ↔ (0 ≤ x ∧ x < n ∧ (x ∈ keys ↔ b = true)) := by
 unfold selQ selQN
 simp only [List.mem_map,List.mem_filter,List.mem_range,beq_iff_eq]
 constructor
 ·rintro ⟨i,⟨h1,h2⟩,rfl⟩
  refine ⟨by omega,by omega,?_⟩
  rw [← h2];simp
 ·rintro ⟨h1,h2,h3⟩
  refine ⟨x.toNat,⟨by omega,?_⟩,by omega⟩
  rw [show ((x.toNat : Nat) : Int) = x from by omega]
  cases b with
  | true => exact decide_eq_true (h3.2 rfl)
  | false => exact decide_eq_false fun h => by have := h3.1 h;cases this
theorem selQ_nodup (keys : List Int) (b : Bool) (n : Nat) : (selQ keys b n).Nodup := by
 unfold selQ selQN
 have h1 : (List.filter (fun (i : Nat) => decide ((i : Int) ∈ keys) == b) (List.range n)).Nodup := (List.nodup_range (n := n)).sublist List.filter_sublist
 exact List.Pairwise.map (R := fun a c => a ≠ c) (fun (i : Nat) => (i : Int)) (fun a c (h : a ≠ c) => fun e => h (by omega)) h1
theorem selQ_yes {keys : List Int} {n : Nat} (hn : keys.Nodup) (h : ∀ x ∈ keys,0 ≤ x ∧ x < n) : (selQ keys true n).length = keys.length := by
 refine List.Perm.length_eq ((List.perm_ext_iff_of_nodup (selQ_nodup _ _ _) hn).2 fun a => ?_)
 rw [selQ_mem]
 exact ⟨fun h2 => h2.2.2.2 rfl,fun h2 => ⟨(h a h2).1,(h a h2).2,⟨fun _ => rfl,fun _ => h2⟩⟩⟩
theorem selQN_sum (keys : List Int) : ∀ n,(selQN keys true n).length + (selQN keys false n).length = n
 | 0 => rfl
 | n + 1 => by
  have ih := selQN_sum keys n
  rw [selQN_next,selQN_next]
  cases h : decide ((n : Int) ∈ keys)
  ·rw [if_neg (by decide),if_pos (by decide),List.length_append,List.length_singleton];omega
  ·rw [if_pos (by decide),if_neg (by decide),List.length_append,List.length_singleton];omega
theorem selQ_no {keys : List Int} {n : Nat} (hn : keys.Nodup) (h : ∀ x ∈ keys,0 ≤ x ∧ x < n) : (selQ keys false n).length + keys.length = n := by
 have h1 := selQ_yes hn h
 have h2 := selQN_sum keys n
 unfold selQ at h1 ⊢
 rw [List.length_map] at h1 ⊢
 omega
theorem thruQ {p : Int} (hp : Supp p) {n : Nat} (hn : (n : Int) < p) {a : List Int} (ha : ∀ x ∈ a,Res p x) (hl : a.length = n) : ∃ f : List Int,(∀ x ∈ f,Res p x) ∧ f.length ≤ n ∧ ∀ i,i < n → evI p ((1 + i : Nat) : Int) f = a.getD i 0 := by
 obtain ⟨pts,hpts⟩ : ∃ pts,pts = (List.range n).map fun (i : Nat) => (⟨((1 + i : Nat) : Int),a.getD i 0⟩ : S56) := ⟨_,rfl⟩
 have hlen : pts.length = n := by rw [hpts];simp
 have hat : ∀ i (h : i < n),rd_T56 pts (i : Int) = ⟨((1 + i : Nat) : Int),a.getD i 0⟩ := fun i h => by
  rw [rdT_nat pts i (by omega)]
  simp [hpts]
 have hok : PtsOk p pts := fun x hx => by
  rw [hpts] at hx
  obtain ⟨i,hi,rfl⟩ := List.mem_map.1 hx
  have := List.mem_range.1 hi
  exact ⟨⟨by show (0 : Int) ≤ ((1 + i : Nat) : Int);omega,by show ((1 + i : Nat) : Int) < p;omega⟩,res_at ha (by omega)⟩
 have hxs : xsOf pts = pz 1 n := by rw [hpts];unfold xsOf Go.Proofs.Ytmdoaijkaaaglaa.E.pz;rw [List.map_map];rfl
 have hnd : (xsOf pts).Nodup := by rw [hxs];exact pz_nodup _ _
 refine ⟨polL p pts,polL_res hp hok,by rw [← hlen];exact polL_len hp,fun i hi => ?_⟩
 have h := polL_at hp hok hnd i (by omega)
 rw [hat i hi] at h
 exact h
theorem sub_len (m : List (List Int)) (rows cols : List Int) : (subM m rows cols).length = rows.length := by unfold subM;rw [List.length_map]
theorem getD_in {l : List Int} {i : Nat} (h : i < l.length) : l.getD i 0 ∈ l := by rw [List.getD_eq_getElem?_getD,List.getElem?_eq_getElem h];exact List.getElem_mem h
theorem rd_pos {l : List Int} {c : Int} (h : 0 ≤ c) : rd l c = l.getD c.toNat 0 := by rw [← rd_nat,show ((c.toNat : Nat) : Int) = c from by omega]
theorem sub_ent {m : List (List Int)} {rows cols : List Int} {i j : Nat} (hi : i < rows.length) (hj : j < cols.length) (h0 : 0 ≤ rows.getD i 0) (h1 : 0 ≤ cols.getD j 0) : ent (subM m rows cols) i j = (m.getD (rows.getD i 0).toNat []).getD (cols.getD j 0).toNat 0 := by
 have e1 : rows.getD i 0 = rows[i] := by rw [List.getD_eq_getElem?_getD,List.getElem?_eq_getElem hi];rfl
 have e2 : cols.getD j 0 = cols[j] := by rw [List.getD_eq_getElem?_getD,List.getElem?_eq_getElem hj];rfl
 have h3 : (subM m rows cols)[i]? = some (cols.map fun c => rd (rd_L2 m rows[i]) c) := by
  unfold subM
  rw [List.getElem?_map,List.getElem?_eq_getElem hi];rfl
 rw [ent_at h3,List.getD_eq_getElem?_getD,List.getElem?_map,List.getElem?_eq_getElem hj]
 show rd (rd_L2 m rows[i]) cols[j] = _
 rw [← e1,← e2,rd_pos h1,← rdM_nat,show (((rows.getD i 0).toNat : Nat) : Int) = rows.getD i 0 from by omega]
theorem nodup_at {l : List Int} (h : l.Nodup) {i j : Nat} (hi : i < l.length) (hj : j < l.length) (e : l.getD i 0 = l.getD j 0) : i = j := by
 rw [List.getD_eq_getElem?_getD,List.getD_eq_getElem?_getD,List.getElem?_eq_getElem hi,List.getElem?_eq_getElem hj] at e
 exact (List.getElem_inj h).1 e
theorem sub_ker {p : Int} (hp : Supp p) [NeZero p.toNat] {R C : Nat} (hC : C ≤ 13) (hR : R ≤ 13) {rows cols : List Int} (hr : ∀ x ∈ rows,0 ≤ x ∧ x < (R : Int)) (hc : ∀ x ∈ cols,0 ≤ x ∧ x < (C : Int)) (nr : rows.Nodup) (nc : cols.Nodup) (hl : rows.length = cols.length)
  {x : Nat → Fin p.toNat} (hker : ∀ i,i < rows.length → lf p (subM (newM p R C) rows cols) i x cols.length = 0) {j0 : Nat} (hj0 : j0 < cols.length) : x j0 = 0 := by
 have hbd := hp.bd
 obtain ⟨V,hV⟩ : ∃ V : Nat → Fin p.toNat,V = fun c => sumF (fun j => if cols.getD j 0 = ((c : Nat) : Int) then x j else 0) cols.length := ⟨_,rfl⟩
 obtain ⟨v,hv⟩ : ∃ v : List Int,v = (List.range C).map fun c => (((V c).val : Nat) : Int) := ⟨_,rfl⟩
 have lv : v.length = C := by rw [hv];simp
 have vat : ∀ c,c < C → v.getD c 0 = (((V c).val : Nat) : Int) := fun c h => by
  rw [hv,List.getD_eq_getElem?_getD,List.getElem?_map,List.getElem?_range h];rfl
 have rv : ∀ y ∈ v,Res p y := fun y hy => by
  rw [hv] at hy
  obtain ⟨c,_,rfl⟩ := List.mem_map.1 hy
  exact (T_back hp _).1
 have vT : ∀ c,c < C → T p (v.getD c 0) = V c := fun c h => by rw [vat c h];exact (T_back hp _).2
 obtain ⟨f,hf,lf0,ef⟩ := thruQ hp (n := C) (by omega) rv lv
 have z0 : Res p 0 := ⟨Int.le_refl _,by omega⟩
 have hzr : ∀ y ∈ rows,evI p (((C + 1 : Nat) : Int) + y) f = 0 := fun y hy => by
  obtain ⟨i,hi,e⟩ := List.getElem_of_mem hy
  have ey : rows.getD i 0 = y := by rw [List.getD_eq_getElem?_getD,List.getElem?_eq_getElem hi,← e];rfl
  have hy2 := hr y hy
  have h2 := weval07 hp (xs := pz 1 C) (f := f) (pz_res (by omega)) (pz_nodup _ _) hf (by rw [pz_len];exact lf0) (((C + 1) + y.toNat : Nat) : Int)
  rw [pz_len] at h2
  rw [show ((C + 1 : Nat) : Int) + y = (((C + 1) + y.toNat : Nat) : Int) from by omega]
  refine T_inj hp (evI_res hp _ _) z0 ?_
  rw [← h2,accI_T hp,T_zero]
  have hk := hker i hi
  rw [lf_sum] at hk
  rw [← hk]
  have s1 : sumF (fun c => T p ((lagL p (((C + 1) + y.toNat : Nat) : Int) (pz 1 C) C).getD c 0 * evI p ((pz 1 C).getD c 0) f % p)) C = sumF (fun c => sumF (fun j => if cols.getD j 0 = ((c : Nat) : Int) then T p ((lagL p (((C + 1) + y.toNat : Nat) : Int) (pz 1 C) C).getD c 0) * x j else 0) cols.length) C := by
   refine sumF_congr _ fun c hcC => ?_
   rw [pz_getD hcC,ef c hcC,T_mod hp,T_mul,vT c hcC,hV]
   rw [← sumQ_mul]
   refine sumF_congr _ fun j hj => ?_
   by_cases e : cols.getD j 0 = ((c : Nat) : Int)
   ·rw [if_pos e,if_pos e]
   ·rw [if_neg e,if_neg e];grind
  rw [s1,sumQ_swap]
  refine sumF_congr _ fun j hj => ?_
  have hcj := hc _ (getD_in hj)
  rw [sumF_one (j := (cols.getD j 0).toNat) _ (fun c hcC hne => if_neg (by omega)),if_pos (by omega),if_pos (by omega),sub_ent hi hj (by rw [ey];omega) hcj.1,ey,newM_at (by omega)]
 have hzc : ∀ y ∈ selQ cols false C,evI p (1 + y) f = 0 := fun y hy => by
  have h3 := selQ_mem.1 hy
  have e := ef y.toNat (by omega)
  rw [show (1 + y : Int) = ((1 + y.toNat : Nat) : Int) from by omega,e]
  refine T_inj hp (res_at rv (by omega)) z0 ?_
  rw [vT _ (by omega),hV,T_zero]
  refine (sumF_congr (g := fun _ => 0) _ fun j hj => if_neg fun hh => ?_).trans (sumQ_zero cols.length)
  have := h3.2.2.1 (by rw [show y = ((y.toNat : Nat) : Int) from by omega,← hh];exact getD_in hj)
  cases this
 have hno := selQ_no nc hc
 obtain ⟨S,hS⟩ : ∃ S,S = rows.map (fun y => ((C + 1 : Nat) : Int) + y) ++ (selQ cols false C).map (fun y => 1 + y) := ⟨_,rfl⟩
 have hSl : S.length = C := by rw [hS,List.length_append,List.length_map,List.length_map];omega
 have hm1 : ∀ z ∈ rows.map (fun y => ((C + 1 : Nat) : Int) + y),(C : Int) + 1 ≤ z ∧ z < (C : Int) + 1 + R ∧ evI p z f = 0 := fun z hz => by
  obtain ⟨y,hy,rfl⟩ := List.mem_map.1 hz
  have := hr y hy
  exact ⟨by omega,by omega,hzr y hy⟩
 have hm2 : ∀ z ∈ (selQ cols false C).map (fun y => 1 + y),1 ≤ z ∧ z < (C : Int) + 1 ∧ evI p z f = 0 := fun z hz => by
  obtain ⟨y,hy,rfl⟩ := List.mem_map.1 hz
  have := selQ_mem.1 hy
  exact ⟨by omega,by omega,hzc y hy⟩
 have hSr : ∀ z ∈ S,Res p z := fun z hz => by
  rw [hS] at hz
  rcases List.mem_append.1 hz with h|h
  ·have := hm1 z h;exact ⟨by omega,by omega⟩
  ·have := hm2 z h;exact ⟨by omega,by omega⟩
 have hSe : ∀ z ∈ S,evI p z f = evI p z [] := fun z hz => by
  rw [hS] at hz
  rcases List.mem_append.1 hz with h|h
  ·exact (hm1 z h).2.2
  ·exact (hm2 z h).2.2
 have hSn : S.Nodup := by
  rw [hS,List.nodup_append]
  refine ⟨List.Pairwise.map (R := fun a c => a ≠ c) _ (fun a c (h : a ≠ c) => fun e => h (by omega)) nr,List.Pairwise.map (R := fun a c => a ≠ c) _ (fun a c (h : a ≠ c) => fun e => h (by omega)) (selQ_nodup _ _ _),fun a ha b hb e => ?_⟩
  have := hm1 a ha
  have := hm2 b hb
  omega
 have hu := uniq hp hSr hSn hf (g := []) (fun _ h => by cases h) (by omega) (Nat.zero_le _) hSe
 have hc0 := hc _ (getD_in hj0)
 have e1 : V (cols.getD j0 0).toNat = x j0 := by
  rw [hV]
  show sumF (fun j => if cols.getD j 0 = (((cols.getD j0 0).toNat : Nat) : Int) then x j else 0) cols.length = _
  rw [sumF_one (j := j0) _ (fun j hj hne => if_neg fun hh => hne (nodup_at nc hj hj0 (by omega))),if_pos hj0,if_pos (by omega)]
 rw [← e1,← vT _ (by omega),← ef _ (by omega),ev_evI hp,← ev_trimL,hu,ev_trimL,← ev_evI hp]
 exact T_zero
section
variable {p : Int} [NeZero p.toNat]
theorem lf_split (rs : List (List Int)) (i : Nat) (x : Nat → Fin p.toNat) (a : Nat) : ∀ b,lf p rs i x (a + b) = lf p rs i x a + sumF (fun j => T p (ent rs i (a + j)) * x (a + j)) b
 | 0 => by
  show lf p rs i x a = _ + (0 : Fin p.toNat)
  grind
 | b + 1 => by
  show lf p rs i x (a + b) + T p (ent rs i (a + b)) * x (a + b) = _ + (sumF _ b + _)
  rw [lf_split rs i x a b];grind
theorem sumQ_neg (f : Nat → Fin p.toNat) : ∀ n,sumF (fun i => - f i) n = - sumF f n
 | 0 => by simp only [sumF];grind
 | n + 1 => by simp only [sumF];rw [sumQ_neg f n];grind
theorem sum_cols {cols : List Int} {C : Nat} (hc : ∀ x ∈ cols,0 ≤ x ∧ x < (C : Int)) (g y : Nat → Fin p.toNat) :
  sumF (fun c => g c * sumF (fun j => if cols.getD j 0 = ((c : Nat) : Int) then y j else 0) cols.length) C = sumF (fun j => g (cols.getD j 0).toNat * y j) cols.length := by
 have s1 : sumF (fun c => g c * sumF (fun j => if cols.getD j 0 = ((c : Nat) : Int) then y j else 0) cols.length) C = sumF (fun c => sumF (fun j => if cols.getD j 0 = ((c : Nat) : Int) then g c * y j else 0) cols.length) C := by
  refine sumF_congr _ fun c _ => ?_
  rw [← sumQ_mul]
  refine sumF_congr _ fun j _ => ?_
  by_cases e : cols.getD j 0 = ((c : Nat) : Int)
  ·rw [if_pos e,if_pos e]
  ·rw [if_neg e,if_neg e];grind
 rw [s1,sumQ_swap]
 refine sumF_congr _ fun j hj => ?_
 have hcj := hc _ (getD_in hj)
 rw [sumF_one (j := (cols.getD j 0).toNat) _ (fun c hcC hne => if_neg (by omega)),if_pos (by omega),if_pos (by omega)]
theorem dotP_T (hp : Supp p) (r l : List Int) (n : Nat) : T p (dotP p r l n) = sumF (fun c => T p (r.getD c 0) * T p (l.getD c 0)) n := by
 rw [dotP_acc,accI_T hp]
 refine sumF_congr _ fun c _ => ?_
 rw [T_mod hp,T_mul]
end
theorem wide_lo {p : Int} {k : Nat} {part : List (List Int)} (hk : part.length = k) (hok : RowsOk p k part) {i j : Nat} (hi : i < k) (hj : j < k) : ent (wideM part) i j = ent part i j := by
 have hl := (hok.at (i := i) (by omega)).1
 rw [ent_at (wideM_at (show i < part.length by omega)),ent_at (List.getElem?_eq_getElem (show i < part.length by omega)),List.getD_eq_getElem?_getD,List.getElem?_append_left (by omega),← List.getD_eq_getElem?_getD]
theorem wide_hi {p : Int} {k : Nat} {part : List (List Int)} (hk : part.length = k) (hok : RowsOk p k part) {i j : Nat} (hi : i < k) (hj : j < k) : ent (wideM part) i (k + j) = if j = i then 1 else 0 := by
 have hl := (hok.at (i := i) (by omega)).1
 rw [ent_at (wideM_at (show i < part.length by omega)),List.getD_eq_getElem?_getD,List.getElem?_append_right (by omega),hl,show k + j - k = j from by omega]
 unfold unitR
 rw [List.getElem?_set]
 by_cases e : i = j
 ·rw [if_pos e,if_pos (by rw [List.length_replicate];omega),if_pos e.symm];rfl
 ·rw [if_neg e,if_neg (fun h => e h.symm),List.getElem?_replicate,if_pos (by omega)];rfl
theorem inv_mul {p : Int} (hp : Supp p) [NeZero p.toNat] {k : Nat} {part : List (List Int)} (hk : part.length = k) (hok : RowsOk p k part) (hfull : (red p (wideM part) k).2.1.length = k) (l : Nat → Fin p.toNat) {i : Nat} (hi : i < k) :
  lf p part i (fun j => lf p ((red p (wideM part) k).1.map (·.drop k)) j l k) k = l i := by
 have hw : RowsOk p (k + k) (wideM part) := by
  have := wideM_ok hp (l := part) (by rw [hk];exact hok)
  rwa [hk] at this
 have hwl : (wideM part).length = k := by rw [wideM_len,hk]
 have hro := red_ok hp hw k
 obtain ⟨S,hS⟩ : ∃ S,S = (red p (wideM part) k).1 := ⟨_,rfl⟩
 have hid : ∀ a b,a < k → b < k → ent S b a = if b = a then 1 else 0 := fun a b ha hb => by
  rw [hS];exact full_id hp hw (by omega) hfull ha (by omega)
 have hSl : S.length = k := by rw [hS,hro.len,hwl]
 have hSr : RowsOk p (k + k) S := by rw [hS];exact hro.rows
 have hinv : ∀ a b,a < k → b < k → ent (S.map (·.drop k)) a b = ent S a (k + b) := fun a b ha hb => by
  have e : (S.map (·.drop k))[a]? = some ((S[a]'(by omega)).drop k) := by rw [List.getElem?_map,List.getElem?_eq_getElem (by omega)];rfl
  rw [ent_at e,ent_at (List.getElem?_eq_getElem (show a < S.length by omega)),List.getD_eq_getElem?_getD,List.getElem?_drop,← List.getD_eq_getElem?_getD]
 rw [← hS]
 obtain ⟨z,hz⟩ : ∃ z : Nat → Fin p.toNat,z = fun j => lf p (S.map (·.drop k)) j l k := ⟨_,rfl⟩
 rw [← hz]
 obtain ⟨x,hx⟩ : ∃ x : Nat → Fin p.toNat,x = fun j => if j < k then z j else - l (j - k) := ⟨_,rfl⟩
 have xlo : ∀ j,j < k → x j = z j := fun j h => by rw [hx];exact if_pos h
 have xhi : ∀ j,x (k + j) = - l j := fun j => by rw [hx];show (if k + j < k then _ else - l (k + j - k)) = _;rw [if_neg (by omega),show k + j - k = j from by omega]
 have hker : Ker p S (wideM part).length (k + k) x := by
  intro a ha
  rw [hwl] at ha
  have s1 : lf p S a x k = z a := by
   rw [lf_sum,sumF_one (j := a) _ (fun j hj hne => by rw [hid j a hj ha,if_neg (fun h => hne h.symm),T_zero];grind),if_pos ha,hid a a ha ha,if_pos rfl,T_one,xlo a ha];grind
  have s2 : sumF (fun j => T p (ent S a (k + j)) * x (k + j)) k = - z a := by
   have e : z a = sumF (fun j => T p (ent S a (k + j)) * l j) k := by
    rw [hz]
    show lf p (S.map (·.drop k)) a l k = _
    rw [lf_sum]
    exact sumF_congr _ fun j hj => by rw [hinv a j ha hj]
   rw [e,← sumQ_neg]
   refine sumF_congr _ fun j _ => ?_
   rw [xhi];grind
  rw [lf_split,s1,s2];grind
 have hk2 := (red_ker hp hw x k (by omega)).1 (by rw [← hS];exact hker) i (by omega)
 have s1 : lf p (wideM part) i x k = lf p part i z k := by
  rw [lf_sum,lf_sum]
  exact sumF_congr _ fun j hj => by rw [wide_lo hk hok hi hj,xlo j hj]
 have s2 : sumF (fun j => T p (ent (wideM part) i (k + j)) * x (k + j)) k = - l i := by
  rw [sumF_one (j := i) _ (fun j hj hne => by rw [wide_hi hk hok hi hj,if_neg hne,T_zero];grind),if_pos hi,wide_hi hk hok hi hi,if_pos rfl,T_one,xhi];grind
 rw [lf_split,s1,s2] at hk2
 grind
theorem wide_full {p : Int} (hp : Supp p) {k : Nat} {part : List (List Int)} (hk : part.length = k) (hok : RowsOk p k part) (hinj : ∀ [NeZero p.toNat] (x : Nat → Fin p.toNat),(∀ i,i < k → lf p part i x k = 0) → ∀ j,j < k → x j = 0) :
  (red p (wideM part) k).2.1.length = k := by
 haveI := nz hp
 have hw : RowsOk p (k + k) (wideM part) := by
  have := wideM_ok hp (l := part) (by rw [hk];exact hok)
  rwa [hk] at this
 have hwl : (wideM part).length = k := by rw [wideM_len,hk]
 have h1 := (red_shape hp hw k (by omega)).len
 refine Nat.le_antisymm h1 (Nat.le_of_not_lt fun hlt => ?_)
 obtain ⟨x,⟨j0,hj0,hx0⟩,hsup,hker⟩ := ker_of_few hp hw (by omega) hlt
 refine hx0 (hinj x (fun i hi => ?_) j0 hj0)
 have h2 := hker i (by omega)
 rw [lf_ext hsup] at h2
 rw [← h2,lf_sum,lf_sum]
 exact sumF_congr _ fun j hj => by rw [wide_lo hk hok hi hj]
theorem set_getD (l : List Int) (i : Nat) (a : Int) (c : Nat) (h : i < l.length) : (l.set i a).getD c 0 = if i = c then a else l.getD c 0 := by
 rw [List.getD_eq_getElem?_getD,List.getElem?_set]
 by_cases e : i = c
 ·rw [if_pos e,if_pos (by omega),if_pos e];rfl
 ·rw [if_neg e,if_neg e,List.getD_eq_getElem?_getD]
theorem fill_T {p : Int} [NeZero p.toNat] {cols vals all : List Int} (nc : cols.Nodup) (hc : ∀ x ∈ cols,0 ≤ x ∧ x < (all.length : Int)) (h0 : ∀ x ∈ cols,all.getD x.toNat 0 = 0) (c : Nat) : ∀ k,k ≤ cols.length →
  T p ((fillN cols vals all k).getD c 0) = T p (all.getD c 0) + sumF (fun j => if cols.getD j 0 = ((c : Nat) : Int) then T p (vals.getD j 0) else 0) k
 | 0,_ => by
  show T p (all.getD c 0) = _ + (0 : Fin p.toNat)
  grind
 | k + 1,hk => by
  have hck := hc _ (getD_in (l := cols) (i := k) (by omega))
  show T p (((fillN cols vals all k).set (rd cols (k : Int)).toNat (vals.getD k 0)).getD c 0) = _ + (sumF (fun j => if cols.getD j 0 = ((c : Nat) : Int) then T p (vals.getD j 0) else 0) k + (if cols.getD k 0 = ((c : Nat) : Int) then T p (vals.getD k 0) else 0))
  rw [set_getD _ _ _ _ (by rw [fillN_len,rd_nat];omega),rd_nat]
  by_cases e : (cols.getD k 0).toNat = c
  ·have e2 : cols.getD k 0 = ((c : Nat) : Int) := by omega
   have e3 : all.getD c 0 = 0 := by rw [← e];exact h0 _ (getD_in (by omega))
   rw [if_pos e,if_pos e2,e3,T_zero,sumF_congr (g := fun _ => 0) k (fun j hj => if_neg fun hh => by have := nodup_at nc (show j < cols.length by omega) (show k < cols.length by omega) (by omega);omega),sumQ_zero]
   grind
  ·rw [if_neg e,if_neg (by omega),fill_T nc hc h0 c k (by omega)]
   grind
theorem fill_out {p : Int} {cols vals all : List Int} (hc : ∀ x ∈ cols,0 ≤ x ∧ x < (all.length : Int)) {c : Nat} (hcn : ((c : Nat) : Int) ∉ cols) : ∀ k,k ≤ cols.length → (fillN cols vals all k).getD c 0 = all.getD c 0
 | 0,_ => rfl
 | k + 1,hk => by
  have hck := hc _ (getD_in (l := cols) (i := k) (by omega))
  show ((fillN cols vals all k).set (rd cols (k : Int)).toNat (vals.getD k 0)).getD c 0 = _
  have hne : ¬ (cols.getD k 0).toNat = c := fun e => hcn (by
   rw [← e,show (((cols.getD k 0).toNat : Nat) : Int) = cols.getD k 0 from by omega]
   exact getD_in (by omega))
  rw [set_getD _ _ _ _ (by rw [fillN_len,rd_nat];omega),rd_nat,if_neg hne,fill_out (p := p) hc hcn k (by omega)]
theorem newM_cpN {p : Int} {R n : Nat} (h : 0 < R) : cpN (newM p R n) = n := by
 unfold cpN
 rw [newM_at h,lagL_length]
theorem map_at (F : List Int → Int) (m : List (List Int)) {i : Nat} (h : i < m.length) : (m.map F).getD i 0 = F (m.getD i []) := by
 rw [List.getD_eq_getElem?_getD,List.getElem?_map,List.getElem?_eq_getElem h,List.getD_eq_getElem?_getD,List.getElem?_eq_getElem h];rfl
theorem mapI_at (F : Int → Int) (m : List Int) {i : Nat} (h : i < m.length) : (m.map F).getD i 0 = F (m.getD i 0) := by
 rw [List.getD_eq_getElem?_getD,List.getElem?_map,List.getElem?_eq_getElem h,List.getD_eq_getElem?_getD,List.getElem?_eq_getElem h];rfl
theorem all0_at {m : List (List Int)} {ins : List S56} {c : Nat} (h : c < cpN m) : (cpAll0 m ins).getD c 0 = val7 (ptsM ins) (c : Int) := by
 unfold cpAll0
 rw [List.getD_eq_getElem?_getD,List.getElem?_map,List.getElem?_range h];rfl
theorem val7_pts {pts : List S56} (hn : (keys7 (ptsM pts)).Nodup) {y : S56} (hy : y ∈ pts) : val7 (ptsM pts) y.f0 = y.f1 :=
 val7_in hn (p := (y.f0,y.f1)) (List.mem_map.2 ⟨y,hy,rfl⟩)
theorem keys_of {pts : List S56} {y : S56} (hy : y ∈ pts) : y.f0 ∈ keys7 (ptsM pts) :=
 List.mem_map.2 ⟨(y.f0,y.f1),List.mem_map.2 ⟨y,hy,rfl⟩,rfl⟩
theorem cp_core {p : Int} (hp : Supp p) [NeZero p.toNat] {n : Nat} {m : List (List Int)} {rows cols all0 left vals : List Int} {inv : List (List Int)} {w : Int → Int} (hM : RowsOk p n m) (hr : ∀ x ∈ rows,0 ≤ x ∧ x < (m.length : Int)) (hc : ∀ x ∈ cols,0 ≤ x ∧ x < (n : Int)) (nc : cols.Nodup) (hl : cols.length = rows.length) (hA0l : all0.length = n)
  (hc0 : ∀ x ∈ cols,all0.getD x.toNat 0 = 0) (hLd : left = rows.map fun i => (w i - dotP p (rd_L2 m i) all0 n) % p) (hok : RowsOk p rows.length (subM m rows cols)) (hfull : (red p (wideM (subM m rows cols)) rows.length).2.1.length = rows.length)
  (hinv : inv = (red p (wideM (subM m rows cols)) rows.length).1.map (·.drop rows.length)) (hil : inv.length = rows.length) (hv : vals = inv.map fun r => dotP p r left rows.length) {y : Int} (hy : y ∈ rows) :
  T p (dotP p (m.getD y.toNat []) (fillN cols vals all0 rows.length) n) = T p (w y) := by
 obtain ⟨q,hq,e⟩ := List.getElem_of_mem hy
 have eq : rows.getD q 0 = y := by rw [List.getD_eq_getElem?_getD,List.getElem?_eq_getElem hq,← e];rfl
 have hy2 := hr y hy
 have hll : left.length = rows.length := by rw [hLd,List.length_map]
 have hT : ∀ c,T p ((fillN cols vals all0 rows.length).getD c 0) = T p (all0.getD c 0) + sumF (fun j => if cols.getD j 0 = ((c : Nat) : Int) then T p (vals.getD j 0) else 0) cols.length := fun c => by
  rw [← hl];exact fill_T nc (by rw [hA0l];exact hc) hc0 c _ (Nat.le_refl _)
 have hvt : ∀ j,j < rows.length → T p (vals.getD j 0) = lf p inv j (fun c => T p (left.getD c 0)) rows.length := fun j hj => by
  rw [hv,map_at _ _ (by omega),dotP_T hp,lf_sum];rfl
 have h2 := inv_mul hp (sub_len m rows cols) hok hfull (fun c => T p (left.getD c 0)) hq
 rw [← hinv] at h2
 have h3 : sumF (fun j => T p ((m.getD y.toNat []).getD (cols.getD j 0).toNat 0) * T p (vals.getD j 0)) cols.length = T p (left.getD q 0) := by
  rw [← h2,lf_sum,hl]
  refine sumF_congr _ fun j hj => ?_
  have hcj := hc _ (getD_in (l := cols) (i := j) (by omega))
  rw [hvt j hj,sub_ent hq (by omega) (by rw [eq];omega) hcj.1,eq]
 rw [dotP_T hp,sumF_congr (g := fun c => T p ((m.getD y.toNat []).getD c 0) * T p (all0.getD c 0) + T p ((m.getD y.toNat []).getD c 0) * sumF (fun j => if cols.getD j 0 = ((c : Nat) : Int) then T p (vals.getD j 0) else 0) cols.length) n (fun c _ => by rw [hT];grind),sumQ_add,
  sum_cols hc (fun c => T p ((m.getD y.toNat []).getD c 0)) (fun j => T p (vals.getD j 0)),h3,← dotP_T hp,hLd,mapI_at _ _ hq,eq,T_mod hp,T_sub,
  show rd_L2 m y = m.getD y.toNat [] from by rw [← rdM_nat,show ((y.toNat : Nat) : Int) = y from by omega]]
 grind
theorem cp_free {p : Int} (hp : Supp p) {R n : Nat} (hR1 : 1 ≤ R) (hR : R ≤ 13) (hn1 : 1 ≤ n) (hn : n ≤ 13) {ins outs : List S56} (h : CpOk p (newM p R n) ins outs) (hg : cpGo (newM p R n) ins outs = true) :
  ∃ all,cpR p (newM p R n) ins outs = (all,cpOut p (newM p R n) all,0) ∧ all.length = n ∧ (∀ x ∈ all,Res p x) ∧ (∀ y ∈ ins,all.getD y.f0.toNat 0 = y.f1) ∧ (∀ y ∈ outs,(cpOut p (newM p R n) all).getD y.f0.toNat 0 = y.f1) := by
 haveI := nz hp
 obtain ⟨g1,g2,g3,g4⟩ := cpGo_iff.1 hg
 obtain ⟨l1,l2⟩ := cp_lens h hg
 have hN := newM_cpN (p := p) (R := R) (n := n) (by omega)
 have hM : RowsOk p (cpN (newM p R n)) (newM p R n) := by rw [hN];exact newM_ok hp R n
 have hML := newM_len p R n
 have hi0 : ∀ y ∈ ins,(cpAll0 (newM p R n) ins).getD y.f0.toNat 0 = y.f1 ∧ y.f0.toNat < n ∧ 0 ≤ y.f0 := fun y hy => by
  have h1 := (plcB_iff.1 g2).1 y hy
  have h2 := (h.pi y hy).1.1
  refine ⟨?_,by omega,h2⟩
  rw [all0_at (by omega),show ((y.f0.toNat : Nat) : Int) = y.f0 from by omega,val7_pts (plcB_iff.1 g2).2 hy]
 by_cases hz : (cpRows (newM p R n) outs).length = 0
 ·refine ⟨cpAll0 (newM p R n) ins,?_,by rw [cpAll0_len,hN],cpAll0_res h hg,fun y hy => (hi0 y hy).1,fun y hy => ?_⟩
  ·unfold cpR;rw [if_pos hg,if_pos hz]
  ·have : outs.length = 0 := by omega
   rw [List.length_eq_zero_iff.1 this] at hy
   cases hy
 ·have hr : ∀ x ∈ cpRows (newM p R n) outs,0 ≤ x ∧ x < ((newM p R n).length : Int) := fun x hx => by
   have := selR_mem.1 hx
   exact ⟨this.1,this.2.1⟩
  have hc : ∀ x ∈ cpCols (newM p R n) ins,0 ≤ x ∧ x < (cpN (newM p R n) : Int) := fun x hx => by
   have := selR_mem.1 hx
   exact ⟨this.1,this.2.1⟩
  have nr : (cpRows (newM p R n) outs).Nodup := selR_nodup _ _ _
  have nc : (cpCols (newM p R n) ins).Nodup := selR_nodup _ _ _
  obtain ⟨e1,e2,_⟩ := cp_part h hg
  have hc0 : ∀ x ∈ cpCols (newM p R n) ins,(cpAll0 (newM p R n) ins).getD x.toNat 0 = 0 := fun x hx => by
   have h1 := hc x hx
   rw [all0_at (by omega),show ((x.toNat : Nat) : Int) = x from by omega]
   refine val7_out fun hk => ?_
   have := (selR_mem.1 hx).2.2.1 hk
   cases this
  have hfull := wide_full hp e1 e2 (fun x hx j hj => sub_ker hp hn hR (fun x hx => by have := hr x hx;rw [hML] at this;exact this) (fun x hx => by have := hc x hx;rw [hN] at this;exact this) nr nc (by omega) (fun i hi => by rw [l2,← l1];exact hx i hi) (by omega))
  refine ⟨cpAll1 p (newM p R n) ins outs,?_,?_,?_,fun y hy => ?_,fun y hy => ?_⟩
  ·unfold cpR
   rw [if_pos hg,if_neg hz,if_neg (show ¬ (cpRed p (newM p R n) ins outs).2.1.length < _ from by unfold cpRed;omega)]
  ·unfold cpAll1;rw [fillN_len,cpAll0_len,hN]
  ·exact fillN_res hp (cpVals_res h) (cpAll0_res h hg) _
  ·have h1 := hi0 y hy
   unfold cpAll1
   rw [fill_out (p := p) (by rw [cpAll0_len];exact hc) (fun hm => ?_) _ (by omega)]
   ·exact h1.1
   ·rw [show ((y.f0.toNat : Nat) : Int) = y.f0 from by omega] at hm
    have := (selR_mem.1 hm).2.2.1 (keys_of hy)
    cases this
  ·have h1 := (plcB_iff.1 g3).1 y hy
   have h2 := h.po y hy
   have hm : y.f0 ∈ cpRows (newM p R n) outs := selR_mem.2 ⟨h2.1.1,h1,⟨fun _ => rfl,fun _ => keys_of hy⟩⟩
   have hcore := cp_core hp (w := fun i => val7 (ptsM outs) i) hM hr hc nc (by omega) (cpAll0_len _ _) hc0 rfl e2 hfull rfl (cpInv_ok h hg).1 rfl hm
   unfold cpOut
   rw [map_at _ _ (by omega)]
   refine T_inj hp (dotP_res hp _ _ _) h2.2 ?_
   rw [val7_pts (plcB_iff.1 g3).2 hy] at hcore
   exact hcore
end Go.Proofs.Ytmdoaijkaaaglaa.E
end
section
namespace Go.Proofs.Ytmdoaijkaaaglaa.Pure
open Go.RowKit Go.Proofs.Ytmdoaijkaaaglaa.Pr Go.Proofs.Ytmdoaijkaaaglaa.Hw Go.Proofs.Ytmdoaijkaaaglaa.E Go.Proofs.YtmdoaijkaaaglaaW.PrintWords Go.Proofs.YtmdoaijkaaaglaaW.PrintLast Go.Proofs.YtmdoaijkaaaglaaW.PrintMore
theorem applyO_ev {p : Int} (hp : Supp p) {n : Nat} {m : List (List Int)} (hm : RowsOk p n m) (h0 : 0 < m.length) (hl : m.length ≤ 1000) (hn : n ≤ 1000) {v : List Int} (hv : ∀ x ∈ v,Res p x) (hvn : v.length = n) :
  Ev (fun k => matrix_Apply.f k p m v) (m.map fun r => dotP p r v n,0) := by
 have hf : (rd_L2 m 0) = m[0] := by rw [show (0 : Int) = ((0 : Nat) : Int) from rfl,rdM_nat,List.getD_eq_getElem?_getD,List.getElem?_eq_getElem h0];rfl
 have hrect : matrix_rect.f m = some true := by
  unfold matrix_rect.f
  rw [if_pos (by omega)]
  congr 1
  rw [Bool.not_eq_true',List.any_eq_false]
  intro x hx
  unfold oddRow
  rw [hf,(hm x hx).1,(hm.at h0).1]
  simp
 have hcols : matrix_cols.f m = some (n : Int) := by
  unfold matrix_cols.f
  rw [if_neg (by omega),if_pos (by omega),hf,(hm.at h0).1]
 have main := up (Q := fun i => Ev (fun k => matrix_Apply.l0 k p v ((m.map fun r => dotP p r v n).take i) m (m.length : Int) (i : Int)) (m.map fun r => dotP p r v n,0)) (n := m.length) ?_ (fun i hi h => ?_)
 ·refine (ev_now_bind hrect (Ev.congr (fun k => if_pos rfl) (ev_now_bind hcols ?_))).congr fun k => rfl
  rw [ne_bool (show (n : Int) = (v.length : Int) from by omega)]
  refine Ev.step (f := fun k => matrix_Apply.l0 k p v ((m.map fun r => dotP p r v n).take 0) m (m.length : Int) ((0 : Nat) : Int)) (fun k => ?_) main
  simp only [matrix_Apply.j0]
  rw [if_neg (by simp)];rfl
 ·refine Ev.step (fun k => ?_) (Ev.now _)
  simp only [matrix_Apply.l0]
  rw [if_neg (by omega),List.take_of_length_le (by rw [List.length_map];exact Nat.le_refl _)]
 ·have hr := hm.at hi
  have hd := dot_ev hp (r := m[i]) (l := v) hr.2 hv (by omega) (by omega)
  rw [hr.1] at hd
  refine Ev.step (f := fun k => (matrix_dot.f k p m[i] v).bind fun t => (if ((m.map fun r => dotP p r v n).take i).length < 17592186044416 then matrix_Apply.l0 k p v (((m.map fun r => dotP p r v n).take i) ++ [t]) m (m.length : Int) ((i + 1 : Nat) : Int) else none)) (fun k => ?_) (Ev.bind hd (h.congr fun k => ?_))
  ·simp only [matrix_Apply.l0]
   rw [if_pos (by omega),if_pos (by omega),if_pos (by omega),wnat (by omega),rdM_nat,List.getD_eq_getElem?_getD,List.getElem?_eq_getElem hi];rfl
  ·rw [if_pos (by rw [List.length_take,List.length_map];omega),← List.map_take,← List.map_take,List.take_succ_eq_append_getElem hi,List.map_append];rfl
def unlikeP (l : List Int) (n : Int) (i : Nat) : Prop := (0 ≤ l.getD i 0 ∧ l.getD i 0 < n) ∧ ∀ j,j < i → l.getD i 0 ≠ l.getD j 0
instance (l : List Int) (n : Int) (i : Nat) : Decidable (unlikeP l n i) := by unfold unlikeP;exact inferInstance
theorem unlikeO_ev (l : List Int) (n : Int) (hl : l.length ≤ 1000) : Ev (fun k => privitylaw07_unlike.f k l n) (decide (∀ i,i < l.length → unlikeP l n i)) := by
 have hin : ∀ i,i < l.length → ∀ r,(∀ j,j < i → l.getD i 0 ≠ l.getD j 0) → Ev (fun k => privitylaw07_unlike.l0 k l n ((i + 1 : Nat) : Int)) r → Ev (fun k => privitylaw07_unlike.l1 k l n (i : Int) ((0 : Nat) : Int)) r := fun i hi r hne h => by
  refine up (Q := fun j => Ev (fun k => privitylaw07_unlike.l1 k l n (i : Int) (j : Int)) r) (n := i) ?_ (fun j hj h2 => ?_)
  ·refine Ev.step (fun k => ?_) h
   simp only [privitylaw07_unlike.l1]
   rw [if_neg (by omega),wnat (by omega)]
  ·refine Ev.step (fun k => ?_) h2
   simp only [privitylaw07_unlike.l1]
   rw [if_pos (by omega),if_pos (by omega),if_pos (by omega),if_pos (by omega),if_pos (by omega),rd_nat,rd_nat,if_neg (hne j hj),wnat (by omega)]
 have hbad : ∀ i,i < l.length → (¬ ∀ j,j < i → l.getD i 0 ≠ l.getD j 0) → Ev (fun k => privitylaw07_unlike.l1 k l n (i : Int) ((0 : Nat) : Int)) false := fun i hi hne => by
  have h := allL (F := fun k j => privitylaw07_unlike.l1 k l n (i : Int) j) (n := i) (Q := fun j => l.getD i 0 ≠ l.getD j 0) (e := false)
  by_cases hh : ∃ j,j < i ∧ l.getD i 0 = l.getD j 0
  ·obtain ⟨j,hj,e⟩ := hh
   have hmin : ∃ j,(j < i ∧ l.getD i 0 = l.getD j 0) ∧ ∀ q,q < j → l.getD i 0 ≠ l.getD q 0 := by
    have : ∀ m,(∃ j,j < m ∧ l.getD i 0 = l.getD j 0) → ∃ j,(j < m ∧ l.getD i 0 = l.getD j 0) ∧ ∀ q,q < j → l.getD i 0 ≠ l.getD q 0 := by
     intro m
     induction m with
     | zero => rintro ⟨j,hj,_⟩;omega
     | succ m ih =>
      rintro ⟨j,hj,e⟩
      by_cases h3 : ∃ j,j < m ∧ l.getD i 0 = l.getD j 0
      ·obtain ⟨j',h4,h5⟩ := ih h3
       exact ⟨j',⟨by omega,h4.2⟩,h5⟩
      ·exact ⟨j,⟨hj,e⟩,fun q hq hqe => h3 ⟨q,by omega,hqe⟩⟩
    exact this i ⟨j,hj,e⟩
   obtain ⟨j,⟨hj,e⟩,hm⟩ := hmin
   refine up (Q := fun j => Ev (fun k => privitylaw07_unlike.l1 k l n (i : Int) (j : Int)) false) (n := j) ?_ (fun q hq h2 => ?_)
   ·refine Ev.step (fun k => ?_) (Ev.now _)
    simp only [privitylaw07_unlike.l1]
    rw [if_pos (by omega),if_pos (by omega),if_pos (by omega),if_pos (by omega),if_pos (by omega),rd_nat,rd_nat,if_pos e]
   ·refine Ev.step (fun k => ?_) h2
    simp only [privitylaw07_unlike.l1]
    rw [if_pos (by omega),if_pos (by omega),if_pos (by omega),if_pos (by omega),if_pos (by omega),rd_nat,rd_nat,if_neg (hm q hq),wnat (by omega)]
  ·exact absurd (fun j hj e => hh ⟨j,hj,e⟩) hne
 have hst : ∀ i,i < l.length → ∀ r,((0 ≤ l.getD i 0 ∧ l.getD i 0 < n) → Ev (fun k => privitylaw07_unlike.l1 k l n (i : Int) ((0 : Nat) : Int)) r) → (¬ (0 ≤ l.getD i 0 ∧ l.getD i 0 < n) → r = false) → Ev (fun k => privitylaw07_unlike.l0 k l n (i : Int)) r := fun i hi r h1 h2 => by
  by_cases hneg : l.getD i 0 < 0
  ·rw [h2 (by omega)]
   refine Ev.step (f := fun k => privitylaw07_unlike.j1 k l n (i : Int) true) (fun k => ?_) (Ev.step (f := fun _ => some false) (fun k => ?_) (Ev.now _))
   ·simp only [privitylaw07_unlike.l0]
    rw [if_pos (by omega),if_pos (by omega),rd_nat,if_pos hneg]
   ·simp only [privitylaw07_unlike.j1];rw [if_pos trivial]
  ·refine Ev.step (f := fun k => privitylaw07_unlike.j1 k l n (i : Int) (decide (l.getD i 0 ≥ n))) (fun k => ?_) ?_
   ·simp only [privitylaw07_unlike.l0]
    rw [if_pos (by omega),if_pos (by omega),rd_nat,if_neg hneg]
   ·by_cases hge : l.getD i 0 ≥ n
    ·rw [decide_eq_true hge,h2 (by omega)]
     exact Ev.step (f := fun _ => some false) (fun k => by simp only [privitylaw07_unlike.j1];rw [if_pos trivial]) (Ev.now _)
    ·rw [decide_eq_false hge]
     exact Ev.step (f := fun k => privitylaw07_unlike.l1 k l n (i : Int) ((0 : Nat) : Int)) (fun k => by simp only [privitylaw07_unlike.j1];rw [if_neg (by simp)];rfl) (h1 ⟨by omega,by omega⟩)
 have main := allL (F := fun k i => privitylaw07_unlike.l0 k l n i) (n := l.length) (Q := fun i => unlikeP l n i) (e := true) ?_ (fun i hi hq r h => ?_) (fun i hi hq => ?_) (decide (∀ i,i < l.length → unlikeP l n i)) ?_
 ·exact main.congr fun k => rfl
 ·refine Ev.step (fun k => ?_) (Ev.now _)
  simp only [privitylaw07_unlike.l0]
  rw [if_neg (by omega)]
 ·exact hst i hi r (fun _ => hin i hi r hq.2 h) (fun hn => absurd hq.1 hn)
 ·refine hst i hi false (fun hin2 => hbad i hi fun hall => hq ⟨hin2,hall⟩) (fun _ => rfl)
 ·rw [decide_eq_true_iff]
  exact ⟨fun h => ⟨h,rfl⟩,fun h => h.1⟩
theorem unlikeO_facts {l : List Int} {n : Int} (h : ∀ i,i < l.length → unlikeP l n i) : (∀ x ∈ l,0 ≤ x ∧ x < n) ∧ l.Nodup := by
 have e : ∀ i (hi : i < l.length),l.getD i 0 = l[i] := fun i hi => by rw [List.getD_eq_getElem?_getD,List.getElem?_eq_getElem hi];rfl
 refine ⟨fun x hx => ?_,?_⟩
 ·obtain ⟨i,hi,rfl⟩ := List.getElem_of_mem hx
  have := (h i hi).1
  rwa [e i hi] at this
 ·rw [List.Nodup,List.pairwise_iff_getElem]
  intro i j hi hj hij hh
  exact (h j hj).2 i hij (by rw [e i hi,e j hj,hh])
theorem belowO_ev (p : Int) (l : List S56) (hl : l.length ≤ 1000) : Ev (fun k => privitylaw07_below.f k p l) (decide (∀ i,i < l.length → (rd_T56 l (i : Int)).f1 < p)) := by
 have main := allL (F := fun k i => privitylaw07_below.l0 k p l i) (n := l.length) (Q := fun i => (rd_T56 l (i : Int)).f1 < p) (e := true) ?_ (fun i hi hq r h => ?_) (fun i hi hq => ?_) (decide (∀ i,i < l.length → (rd_T56 l (i : Int)).f1 < p)) ?_
 ·exact main.congr fun k => rfl
 ·refine Ev.step (fun k => ?_) (Ev.now _)
  simp only [privitylaw07_below.l0]
  rw [if_neg (by omega)]
 ·refine Ev.step (fun k => ?_) h
  simp only [privitylaw07_below.l0]
  rw [if_pos (by omega),if_pos (by omega),if_neg (by omega),wnat (by omega)]
 ·refine Ev.step (fun k => ?_) (Ev.now _)
  simp only [privitylaw07_below.l0]
  rw [if_pos (by omega),if_pos (by omega),if_pos (by omega)]
 ·rw [decide_eq_true_iff]
  exact ⟨fun h => ⟨h,rfl⟩,fun h => h.1⟩
def insO (l : List Int) (n : Nat) : List S56 := (List.range n).map fun (i : Nat) => ⟨(i : Int),l.getD i 0⟩
theorem insO_len (l : List Int) (n : Nat) : (insO l n).length = n := by simp [insO]
theorem insO_next (l : List Int) (n : Nat) : insO l n ++ [⟨(n : Int),l.getD n 0⟩] = insO l (n + 1) := by unfold insO;rw [List.range_succ,List.map_append];rfl
theorem keysO (pts : List S56) : keys7 (ptsM pts) = pts.map fun x => x.f0 := by unfold keys7 ptsM;rw [List.map_map];rfl
theorem free_end {p : Int} (hp : Supp p) {n : Nat} (hn1 : 1 ≤ n) (hn : n ≤ 7) {l : List Int} {outs : List S56} {all : List Int} (ls : List Int) (la : all.length = n) (ra : ∀ x ∈ all,Res p x) (hll : l.length ≤ n) (hol : outs.length ≤ 6) (hls : ls = outs.map fun x => x.f0)
  (h0 : ∀ y ∈ outs,0 ≤ y.f0 ∧ y.f0 ≤ 5) (hin : ∀ i,i < l.length → all.getD i 0 = l.getD i 0) (hout : ∀ y ∈ outs,(cpOut p (newM p 6 n) all).getD y.f0.toNat 0 = y.f1) :
  Ev (fun k => privitylaw07_HyperinvertibleOutputsAreFree.l2 k p l outs ls (newM p 6 n) all (cpOut p (newM p 6 n) all) 0) true := by
 have hM := newM_ok hp 6 n
 have hcl : (cpOut p (newM p 6 n) all).length = 6 := by unfold cpOut;rw [List.length_map,newM_len]
 have hlsl : ls.length = outs.length := by rw [hls,List.length_map]
 have h3 : Ev (fun k => privitylaw07_HyperinvertibleOutputsAreFree.l3 k p outs ls (newM p 6 n) all (cpOut p (newM p 6 n) all) ((0 : Nat) : Int)) true := by
  refine up (Q := fun i => Ev (fun k => privitylaw07_HyperinvertibleOutputsAreFree.l3 k p outs ls (newM p 6 n) all (cpOut p (newM p 6 n) all) (i : Int)) true) (n := outs.length) ?_ (fun i hi h => ?_)
  ·have ha := applyO_ev hp hM (by rw [newM_len];omega) (by rw [newM_len];omega) (by omega) ra la
   have he : (newM p 6 n).map (fun r => dotP p r all n) = cpOut p (newM p 6 n) all := by unfold cpOut;rw [newM_cpN (by omega)]
   rw [he] at ha
   refine Ev.step (f := fun k => (matrix_Apply.f k p (newM p 6 n) all).bind fun bt713 => (if bt713.2 = 0 then ((privityref05_Same.f k bt713.1 (cpOut p (newM p 6 n) all)).bind fun t717 => (some t717)) else (some false))) (fun k => ?_) (Ev.bind ha (Ev.congr (fun k => if_pos rfl) (Ev.bind (same_ev _ _ (by show (cpOut p (newM p 6 n) all).length ≤ _;omega)) ?_)))
   ·simp only [privitylaw07_HyperinvertibleOutputsAreFree.l3]
    rw [if_neg (by omega)]
   ·rw [decide_eq_true rfl];exact Ev.now _
  ·have hy := outs[i]
   have e1 := rdT_nat outs i hi
   have e2 : rd ls (i : Int) = outs[i].f0 := by
    rw [rd_nat,hls,List.getD_eq_getElem?_getD,List.getElem?_map,List.getElem?_eq_getElem hi];rfl
   have h4 := h0 _ (List.getElem_mem hi)
   have h5 := hout _ (List.getElem_mem hi)
   refine Ev.step (fun k => ?_) h
   simp only [privitylaw07_HyperinvertibleOutputsAreFree.l3]
   rw [if_pos (by omega),if_pos (by omega),if_pos (by omega),e2,if_pos h4.1,if_pos (by omega),rd_pos h4.1,h5,e1,if_pos rfl,wnat (by omega)]
 refine up (Q := fun i => Ev (fun k => privitylaw07_HyperinvertibleOutputsAreFree.l2 k p l outs ls (newM p 6 n) all (cpOut p (newM p 6 n) all) (i : Int)) true) (n := l.length) ?_ (fun i hi h => ?_)
 ·refine Ev.step (fun k => ?_) h3
  simp only [privitylaw07_HyperinvertibleOutputsAreFree.l2]
  rw [if_neg (by omega)];rfl
 ·refine Ev.step (fun k => ?_) h
  simp only [privitylaw07_HyperinvertibleOutputsAreFree.l2]
  rw [if_pos (by omega),if_pos (by omega),if_pos (by omega),rd_nat,rd_nat,if_pos (hin i hi),wnat (by omega)]
theorem free_main {p : Int} (hp : Supp p) {l : List Int} {outs : List S56} (hl : ∀ x ∈ l,Res p x) (ho : ∀ y ∈ outs,(0 ≤ y.f0 ∧ y.f0 < 18446744073709551616) ∧ Res p y.f1) (h6 : outs.length ≤ 6) (h7 : l.length + outs.length ≤ 7) (h1 : 1 ≤ l.length + outs.length) :
  Ev (fun k => privitylaw07_HyperinvertibleOutputsAreFree.j0 k p l outs false) true := by
 obtain ⟨n,hn⟩ : ∃ n,n = l.length + outs.length := ⟨_,rfl⟩
 have hend : (∀ q,q < outs.length → (rd_T56 outs (q : Int)).f0 ≤ 5) → Ev (fun k => privitylaw07_HyperinvertibleOutputsAreFree.l1 k p l outs (insO l l.length) (outs.map fun x => x.f0) (outs.length : Int)) true := by
  intro hle
  have h0 : ∀ y ∈ outs,0 ≤ y.f0 ∧ y.f0 ≤ 5 := fun y hy => by
   obtain ⟨q,hq,rfl⟩ := List.getElem_of_mem hy
   have h2 := hle q hq
   rw [rdT_nat outs q hq] at h2
   exact ⟨(ho _ hy).1.1,h2⟩
  have hst : ∀ r,Ev (fun k => (privitylaw07_unlike.f k (outs.map fun x => x.f0) 6).bind fun t696 => (if t696 = true then ((hyperinvertible_New.f k p 6 (n : Int)).bind fun bt697 => ((hyperinvertible_Complete.f p bt697.1 (insO l l.length) outs).bind fun bt701 => (if bt697.2 = 0 then (if bt701.2.2 = 0 then (if (bt701.1.length : Int) = (n : Int) then (privitylaw07_HyperinvertibleOutputsAreFree.j3 k p l outs (outs.map fun x => x.f0) bt697.1 bt701.1 bt701.2.1 ((bt701.2.1.length : Int) != 6)) else (privitylaw07_HyperinvertibleOutputsAreFree.j3 k p l outs (outs.map fun x => x.f0) bt697.1 bt701.1 bt701.2.1 true)) else (privitylaw07_HyperinvertibleOutputsAreFree.j3 k p l outs (outs.map fun x => x.f0) bt697.1 bt701.1 bt701.2.1 true)) else (privitylaw07_HyperinvertibleOutputsAreFree.j3 k p l outs (outs.map fun x => x.f0) bt697.1 bt701.1 bt701.2.1 true)))) else (some true))) r → Ev (fun k => privitylaw07_HyperinvertibleOutputsAreFree.l1 k p l outs (insO l l.length) (outs.map fun x => x.f0) (outs.length : Int)) r := fun r h => by
   refine Ev.step (fun k => ?_) h
   simp only [privitylaw07_HyperinvertibleOutputsAreFree.l1]
   rw [if_neg (by omega),wcap (n := (l.length : Int) + (outs.length : Int)) (by omega) (by omega),show (l.length : Int) + (outs.length : Int) = (n : Int) from by omega]
  refine hst true (ev_if (unlikeO_ev _ _ (by rw [List.length_map];omega)) (fun hu => ?_) (fun _ => Ev.now _))
  have huf := unlikeO_facts (of_decide_eq_true hu)
  have hN := new_ev hp ((6 : Nat) : Int) (n : Int)
  rw [newR_ok hp (r := 6) (by omega) (by omega) (by omega) (by omega)] at hN
  have hM := newM_ok hp 6 n
  have hcp : CpOk p (newM p 6 n) (insO l l.length) outs := by
   refine ⟨hp,by rw [newM_len];omega,fun r hr => ⟨by rw [(hM r hr).1];omega,(hM r hr).2⟩,by rw [insO_len];omega,by omega,fun x hx => ?_,ho⟩
   obtain ⟨i,hi,rfl⟩ := List.mem_map.1 hx
   have := List.mem_range.1 hi
   exact ⟨⟨by show (0 : Int) ≤ (i : Int);omega,by show (i : Int) < _;omega⟩,res_at hl this⟩
  have hgo : cpGo (newM p 6 n) (insO l l.length) outs = true := by
   refine cpGo_iff.2 ⟨flatB_iff.2 ⟨by rw [newM_len];omega,by rw [newM_cpN (by omega)];omega,fun r hr => by rw [newM_cpN (by omega)];exact (hM r hr).1⟩,plcB_iff.2 ⟨fun x hx => ?_,?_⟩,plcB_iff.2 ⟨fun x hx => ?_,?_⟩,?_⟩
   ·obtain ⟨i,hi,rfl⟩ := List.mem_map.1 hx
    have := List.mem_range.1 hi
    rw [newM_cpN (by omega)]
    show (i : Int) < _
    omega
   ·rw [keysO]
    unfold insO
    rw [List.map_map]
    exact List.Pairwise.map (R := fun a c => a ≠ c) _ (fun (a b : Nat) (h : a ≠ b) => fun (e : (a : Int) = (b : Int)) => h (by omega)) (List.nodup_range (n := l.length))
   ·have := h0 x hx
    rw [newM_len];omega
   ·rw [keysO];exact huf.2
   ·rw [insO_len,newM_cpN (by omega)];omega
  obtain ⟨all,e1,e2,e3,e4,e5⟩ := cp_free hp (by omega) (by omega) (by omega) (by omega) hcp hgo
  have hC : hyperinvertible_Complete.f p (newM p 6 n) (insO l l.length) outs = some (all,cpOut p (newM p 6 n) all,0) := by
   unfold hyperinvertible_Complete.f
   rw [if_pos (cpOkB_iff.2 hcp),e1]
  have hcl : (cpOut p (newM p 6 n) all).length = 6 := by unfold cpOut;rw [List.length_map,newM_len]
  have fin := free_end hp (n := n) (by omega) (by omega) (l := l) (outs := outs) (all := all) (outs.map fun x => x.f0) e2 e3 (by omega) h6 rfl h0 (fun i hi => ?_) e5
  ·refine Ev.bind hN (ev_now_bind hC ?_)
   refine Ev.congr (f := fun k => privitylaw07_HyperinvertibleOutputsAreFree.j3 k p l outs (outs.map fun x => x.f0) (newM p 6 n) all (cpOut p (newM p 6 n) all) false) (fun k => ?_) (Ev.step (fun k => ?_) fin)
   ·rw [if_pos rfl,if_pos rfl,if_pos (show (all.length : Int) = (n : Int) from by omega),ne_bool (show ((cpOut p (newM p 6 n) all).length : Int) = 6 from by omega)]
   ·simp only [privitylaw07_HyperinvertibleOutputsAreFree.j3]
    rw [if_neg (by simp)]
  ·have := e4 ⟨(i : Int),l.getD i 0⟩ (List.mem_map.2 ⟨i,List.mem_range.2 hi,rfl⟩)
   exact this
 have h2 : Ev (fun k => privitylaw07_HyperinvertibleOutputsAreFree.l1 k p l outs (insO l l.length) ([] : List Int) ((0 : Nat) : Int)) true := by
  refine up (Q := fun i => (∀ q,q < i → (rd_T56 outs (q : Int)).f0 ≤ 5) → Ev (fun k => privitylaw07_HyperinvertibleOutputsAreFree.l1 k p l outs (insO l l.length) ((outs.take i).map fun x => x.f0) (i : Int)) true) (n := outs.length) ?_ (fun i hi h => ?_) (fun q hq => by omega)
  ·rw [List.take_length];exact hend
  ·intro hle
   have e1 := rdT_nat outs i hi
   have h3 := (ho _ (List.getElem_mem hi)).1
   by_cases h5 : (rd_T56 outs (i : Int)).f0 > 5
   ·refine Ev.step (fun k => ?_) (Ev.now _)
    simp only [privitylaw07_HyperinvertibleOutputsAreFree.l1]
    rw [if_pos (by omega),if_pos (by omega),if_pos h5]
   ·refine Ev.step (fun k => ?_) (h fun q hq => ?_)
    ·simp only [privitylaw07_HyperinvertibleOutputsAreFree.l1]
     rw [if_pos (by omega),if_pos (by omega),if_neg h5,if_pos (by rw [List.length_map,List.length_take];omega),wnat (by omega),e1,wcap (by omega) (by rw [e1] at h5;omega),List.take_succ_eq_append_getElem hi,List.map_append];rfl
    ·by_cases e : q = i
     ·subst e;omega
     ·exact hle q (by omega)
 have h0 : Ev (fun k => privitylaw07_HyperinvertibleOutputsAreFree.l0 k p l outs ([] : List S56) ((0 : Nat) : Int)) true := by
  refine up (Q := fun i => Ev (fun k => privitylaw07_HyperinvertibleOutputsAreFree.l0 k p l outs (insO l i) (i : Int)) true) (n := l.length) ?_ (fun i hi h => ?_)
  ·refine Ev.step (fun k => ?_) h2
   simp only [privitylaw07_HyperinvertibleOutputsAreFree.l0]
   rw [if_neg (by omega)];rfl
  ·refine Ev.step (fun k => ?_) h
   simp only [privitylaw07_HyperinvertibleOutputsAreFree.l0]
   rw [if_pos (by omega),if_pos (by omega),if_pos (by rw [insO_len];omega),wnat (by omega),wrapU_id (by omega) (by omega),rd_nat,insO_next]
 refine Ev.step (fun k => ?_) h0
 simp only [privitylaw07_HyperinvertibleOutputsAreFree.j0]
 rw [if_neg (by simp)];rfl
theorem free_skip (p : Int) (l : List Int) (outs : List S56) : Ev (fun k => privitylaw07_HyperinvertibleOutputsAreFree.j0 k p l outs true) true :=
 Ev.step (f := fun _ => some true) (fun k => by simp only [privitylaw07_HyperinvertibleOutputsAreFree.j0];rw [if_pos trivial]) (Ev.now _)
theorem HyperinvertibleOutputsAreFree (p : Int) (l : List Int) (outs : List S56) (hll : l.length ≤ 9223372036854775807) (wp : (Lit.int .u64 p).wf = true) (wl : ∀ x ∈ l,(Lit.int .u64 x).wf = true) (wo : ∀ y ∈ outs,(Lit.int .u64 y.f0).wf = true ∧ (Lit.int .u64 y.f1).wf = true) : ∃ k,privitylaw07_HyperinvertibleOutputsAreFree.f k p l outs = some true := by
 refine Ev.rounds (r := true) ?_
 refine ev_if awake07 (fun _ => ev_if (supported_ev p) (fun hs => ev_ite (fun _ => free_skip p l outs) fun h6 => ev_ite (fun _ => free_skip p l outs) fun h7 => ev_ite (fun _ => free_skip p l outs) fun h1 => ?_) fun _ => free_skip p l outs) (fun h => by cases h)
 have hsum : l.length + outs.length ≤ 7 ∧ 1 ≤ l.length + outs.length := by
  unfold wrap64 at h7 h1
  omega
 refine ev_if (below_ev p l (by omega)) (fun hb => ?_) fun _ => free_skip p l outs
 refine Ev.bind (f := fun k t => privitylaw07_HyperinvertibleOutputsAreFree.j0 k p l outs (!t)) (belowO_ev p outs (by omega)) ?_
 by_cases hv : ∀ i,i < outs.length → (rd_T56 outs (i : Int)).f1 < p
 ·rw [decide_eq_true hv]
  refine free_main (supB_of hs) (below_res hb fun x hx => (wf64 (wl x hx)).1) (fun y hy => ?_) (by omega) hsum.1 hsum.2
  obtain ⟨i,hi,rfl⟩ := List.getElem_of_mem hy
  have h3 := hv i hi
  rw [rdT_nat outs i hi] at h3
  exact ⟨wf64 (wo _ hy).1,⟨(wf64 (wo _ hy).2).1,h3⟩⟩
 ·rw [decide_eq_false hv]
  exact free_skip p l outs
end Go.Proofs.Ytmdoaijkaaaglaa.Pure
end
section
namespace Go.Proofs.Ytmdoaijkaaaglaa.Op
open Go.RowKit Go.Proofs.YtmdoaijkaaaglaaW.PrintWords
def OpenK {α : Type} (P : Program) (t : TypeId) (d : Kd α) (Q : α → Prop) : Prop :=
 ∀ {H : Type} {enc : TypeId × Value → H} {w : World} {base : Nat} {sp : Nat → Bool} {hd : Bool} {fuel : Nat} {cs : List Value} {x : DataW H × List MemPlace},DataW.trod enc P w base sp hd fuel t cs = some x → ∃ v : α,d.K w v cs ∧ Q v
theorem openInt {P : Program} {t : TypeId} {k : IntKind} (ht : P.underlying t = some (.int k)) : OpenK P t (Kd.int k) (fun n => (Lit.int k n).wf = true) := by
 intro H enc w base sp hd fuel cs x h
 obtain ⟨n,rfl,_,hw⟩ := DataW.trod_int ht h
 exact ⟨n,rfl,hw⟩
theorem exists_list {α : Type} {R : Nat → α → Prop} : ∀ (n : Nat),(∀ i,i < n → ∃ v,R i v) → ∃ l : List α,l.length = n ∧ ∀ i v,l[i]? = some v → R i v
 | 0,_ => ⟨[],rfl,fun i v h => by simp at h⟩
 | n + 1,h => by
  obtain ⟨l,hl,hr⟩ := exists_list n (fun i hi => h i (by omega))
  obtain ⟨v,hv⟩ := h n (by omega)
  refine ⟨l ++ [v],by simp [hl],fun i u hu => ?_⟩
  by_cases hi : i < n
  ·rw [List.getElem?_append_left (by omega)] at hu
   exact hr i u hu
  ·rw [List.getElem?_append_right (by omega)] at hu
   by_cases h0 : i - l.length = 0
   ·rw [h0] at hu
    simp only [List.getElem?_cons_zero,Option.some.injEq] at hu
    rw [← hu,show i = n from by omega];exact hv
   ·rw [List.getElem?_eq_none (by simp;omega)] at hu;cases hu
theorem openSlice {α : Type} {P : Program} {t e : TypeId} {d : Kd α} {Q : α → Prop} (ht : P.underlying t = some (.slice e)) (hc : P.cellsOf e = d.sz) (he : OpenK P e d Q) : OpenK P t (Kd.slice e d) (fun l => ∀ x ∈ l,Q x) := by
 intro H enc w base sp hd fuel cs x h
 rcases DataW.trod_slice ht h with ⟨rfl,_⟩|⟨a,len,cap,elems,rest,n,_,rfl,_,_,hlc,hm,hlen,hel,_,_⟩
 ·exact ⟨[],⟨none,0,rfl,Nat.le_refl _,rfl,Nat.zero_le _,fun h => absurd h (Nat.lt_irrefl 0)⟩,fun x hx => by cases hx⟩
 ·have each : ∀ i,i < len → ∃ v,(∃ c,c.length = d.sz ∧ d.K w v c ∧ ∀ j u,c[j]? = some u → w.cell? (a.add (i * d.sz + j)) = some u) ∧ Q v := by
   intro i hi
   have h1 := hel i hi
   rw [List.getElem?_eq_getElem (by omega),hc] at h1
   obtain ⟨c,hcs,htr⟩ := Option.bind_eq_some_iff.1 h1
   obtain ⟨v,hk,hq⟩ := he htr
   refine ⟨v,⟨c,d.K_len hk,hk,fun j u hu => ?_⟩,hq⟩
   have h2 := World.cells?_some hcs
   have hj := (List.getElem?_eq_some_iff.1 hu).1
   have h3 := h2.2.2 j (by rw [← d.K_len hk];exact hj)
   rw [hu] at h3
   rw [← h3,← Addr.add_add]
  obtain ⟨l,hl,hr⟩ := exists_list len each
  refine ⟨l,⟨some a,cap,by rw [hl],by omega,rfl,by rw [hl];simp only [maxLen] at hm;omega,fun _ => ⟨a,rfl,fun j p hj => (hr j p hj).1⟩⟩,fun x hx => ?_⟩
  obtain ⟨i,hi,rfl⟩ := List.getElem_of_mem hx
  exact (hr i _ (List.getElem?_eq_getElem hi)).2
theorem openFields {P : Program} {H : Type} {enc : TypeId × Value → H} {w : World} {base : Nat} {sp : Nat → Bool} {hd : Bool} {fuel : Nat} {t : TypeId} {cs : List Value} {x : DataW H × List MemPlace} {fs : Array Field} (ht : P.underlying t = some (.struct fs))
  (h : DataW.trod enc P w base sp hd fuel t cs = some x) : cs.length = P.cellsOf t ∧ ∀ (i : Nat) (f : Field),fs[i]? = some f → ∃ n y,DataW.trod enc P w base sp hd n f.type ((cs.drop f.offset).take (P.cellsOf f.type)) = some y := by
 obtain ⟨xs,n,_,_,hl,hlen,hf⟩ := DataW.trod_struct ht h
 refine ⟨hl,fun i f hi => ?_⟩
 have h1 := hf i f hi
 have h2 : i < fs.size := (Array.getElem?_eq_some_iff.1 hi).1
 rw [List.getElem?_eq_getElem (by omega)] at h1
 exact ⟨n,_,h1⟩
end Go.Proofs.Ytmdoaijkaaaglaa.Op
end
section
/- The row of the law HyperinvertibleOutputsAreFree, out of its plain law and the walk. -/
namespace Go.Proofs.Ytmdoaijkaaaglaa.hyperinvertibleOutputsAreFree
open Go.ChangeShapes Go.WideShapes Go.ChangeAt Go.RowKit Go.Proofs.Ytmdoaijkaaaglaa.Pr Go.Proofs.YtmdoaijkaaaglaaW.PrintWords
theorem own : ownKnob Try.prog.godebug = none := by kernel_rfl
theorem laidOut : laidOutB Try.prog = true := by kernel_rfl
set_option maxRecDepth 100000 in
theorem open56 : Op.OpenK Try.prog 56 k56 (fun x_ => ((Lit.int .u64 x_.f0).wf = true) ∧ ((Lit.int .u64 x_.f1).wf = true)) := by
  intro H enc w base sp hd fuel cs x h
  obtain ⟨hl, hf⟩ := Op.openFields Try.underlying56 h
  have hN : Try.prog.cellsOf 56 = 2 := by kernel_rfl
  rw [hN] at hl
  obtain ⟨c0_, c1_, rfl⟩ : ∃ c0_ c1_, cs = [c0_, c1_] := by
    match cs, hl with
    | [c0_, c1_], _ => exact ⟨_, _, rfl⟩
  obtain ⟨n0_, y0_, e0_⟩ := hf 0 _ rfl
  have g0_ := (Op.openInt (k := .u64) Try.underlying22) e0_
  obtain ⟨v0_, m0_, q0_⟩ := g0_
  obtain ⟨n1_, y1_, e1_⟩ := hf 1 _ rfl
  have g1_ := (Op.openInt (k := .u64) Try.underlying22) e1_
  obtain ⟨v1_, m1_, q1_⟩ := g1_
  exact ⟨⟨v0_, v1_⟩, ⟨_, _, rfl, m0_, m1_⟩, ⟨q0_, q1_⟩⟩
set_option maxHeartbeats 4000000 in
set_option maxRecDepth 100000 in
theorem lifted (os : Os) (started : os.Started) (H : Type) (enc : TypeId × Value → H) :
    ReturnsInHanded {} Try.checked os 8 .any (Rows.hyperinvertibleOutputsAreFreeSpec.pre6 enc Try.prog Try.f8 Rows.hyperinvertibleOutputsAreFreeRow.domain false) (Rows.hyperinvertibleOutputsAreFreeSpec.post enc Try.prog Try.f8 false true false false) := by
  refine returnsInHanded_of_change_sized (C := Try.checked) own started (by kernel_rfl) Try.func8
    (ChangeSpec.witness6 (enc := enc) (C := Try.checked) false ⟨#[], #[.int .u64 0, .slice none 0 0, .slice none 0 0], []⟩ 8 (by kernel_rfl) (by kernel_rfl) (by kernel_rfl) (by kernel_rfl)) ?_
  intro W base args ds gs before hval0 hW hcnd hsz0 _
  have hval : ∀ (j : Nat) t v, Try.f8.params[j]? = some t → args[j]? = some v → Value.okWide Try.prog W .any base t v := hval0
  have hW' := hW
  obtain ⟨p, q, hA0, hV, rfl, hfz, hnd⟩ := hW
  have hA : DataW.TrodAll enc Try.prog W 0 (fun _ => true) true Try.f8.params.toList args.toList ds p := hA0
  rw [Try.params8] at hA hval
  obtain ⟨v0, vs0, d0, ds0, p0, q0, hargs, rfl, rfl, h0, r0⟩ := trodAll_cons hA
  obtain ⟨v1, vs1, d1, ds1, p1, q1, rfl, rfl, rfl, h1, r1⟩ := trodAll_cons r0
  obtain ⟨v2, vs2, d2, ds2, p2, q2, rfl, rfl, rfl, h2, r2⟩ := trodAll_cons r1
  obtain ⟨rfl, rfl, rfl⟩ := trodAll_nil r2
  obtain rfl : args = #[v0, v1, v2] := by cases args; simp_all
  obtain ⟨rfl, rfl⟩ := trodVars_none hV
  have k0 := h0
  have lt0 : ∀ x ∈ p0, x.block < W.heap.size := by obtain ⟨m, hm⟩ := k0; exact DataW.trod_lt m _ _ _ hm
  obtain ⟨a0, rfl, rfl, rfl, w0⟩ := open_int Try.underlying22 (hval 0 22 v0 rfl rfl) h0
  have k1 := h1
  have lt1 : ∀ x ∈ p1, x.block < W.heap.size := by obtain ⟨m, hm⟩ := k1; exact DataW.trod_lt m _ _ _ hm
  obtain ⟨a1, len1, cap1, rfl⟩ := okWide_slice Try.underlying40 (hval 1 40 v1 rfl rfl)
  obtain ⟨fu1, hf1⟩ := h1
  obtain ⟨z1, ⟨A1, c1, e1, hc1, g1⟩, w1⟩ := (Op.openSlice (d := (Kd.int .u64)) Try.underlying40 (by kernel_rfl) (Op.openInt (k := .u64) Try.underlying22)) hf1
  cases e1
  have k2 := h2
  have lt2 : ∀ x ∈ p2, x.block < W.heap.size := by obtain ⟨m, hm⟩ := k2; exact DataW.trod_lt m _ _ _ hm
  obtain ⟨a2, len2, cap2, rfl⟩ := okWide_slice Try.underlying35 (hval 2 35 v2 rfl rfl)
  obtain ⟨fu2, hf2⟩ := h2
  obtain ⟨z2, ⟨A2, c2, e2, hc2, g2⟩, w2⟩ := (Op.openSlice (d := k56) Try.underlying35 (by kernel_rfl) open56) hf2
  cases e2
  clear hA0 hval0 hsz0
  obtain ⟨kk, hk⟩ := Pure.HyperinvertibleOutputsAreFree a0 z1 z2 g1.2.1 w0 w1 w2
  refine (privitylaw07_HyperinvertibleOutputsAreFree.calls kk a0 _ _ z1 _ _ z2 true W g1 hc1 g2 hc2 rfl hk).mono fun e W' ⟨he, bel⟩ => ?_
  subst he
  exact ⟨_, rfl, _, _, _, [], _, [], hW', trodAll_mk1 (shut_bool Try.underlying4 _), (trodAll_cons_mk (shut_int Try.underlying22 w0) (trodAll_cons_mk (Below.trod laidOut (by kernel_rfl) (of_decide_eq_true (by kernel_rfl)) k1 bel lt1) (trodAll_cons_mk (Below.trod laidOut (by kernel_rfl) (of_decide_eq_true (by kernel_rfl)) k2 bel lt2) trodAll_mk0))), rfl, bel.frame _, fun h => by cases h⟩
theorem over : Rows.hyperinvertibleOutputsAreFreeRow.holds Try.pinned (OpenSpec.ofChange Rows.hyperinvertibleOutputsAreFreeSpec) :=
  OpenClaim.holds_of_wide 8 Try.f8 rfl rfl rfl rfl rfl rfl rfl ⟨rfl, rfl, rfl, rfl, rfl⟩ rfl rfl rfl rfl rfl (by kernel_rfl) Try.func8 (by kernel_rfl)
    (of_decide_eq_true (by kernel_rfl)) (by unfold Func.isWrapper; first | (rw [if_pos (by decide +kernel)]; kernel_rfl) | (rw [if_neg (by decide +kernel)]; exact ⟨rfl, rfl⟩))
    (fun os started H enc _ => lifted os started H enc)
theorem proved : Rows.HyperinvertibleOutputsAreFreeSaid := over
#print axioms proved
end Go.Proofs.Ytmdoaijkaaaglaa.hyperinvertibleOutputsAreFree
namespace Go.Proofs.Ytmdoaijkaaaglaa
/-- The row, under a short name, for the claim. -/
theorem hyperinvertibleOutputsAreFree_holds : Rows.HyperinvertibleOutputsAreFreeSaid := hyperinvertibleOutputsAreFree.proved
end Go.Proofs.Ytmdoaijkaaaglaa
end
