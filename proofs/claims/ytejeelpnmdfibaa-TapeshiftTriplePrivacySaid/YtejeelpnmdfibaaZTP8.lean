/- The row of the law TapeshiftTriplePrivacy, out of its plain law and the walk. -/
import Derived.Test.YtejeelpnmdfibaaZTP4
import Derived.Test.YtejeelpnmdfibaaZTP3
import Derived.Test.YtejeelpnmdfibaaZTP6
import Derived.Test.YtejeelpnmdfibaaZTP5
import Derived.Test.YtejeelpnmdfibaaZTP7
import Derived.Test.YtejeelpnmdfibaaProg
import Derived.ChangeArms
import Derived.DataReads
import Derived.DataElems
import Derived.ShutString
import Derived.ChangeSame
import Derived.OpenShut
import Derived.Test.YtejeelpnmdfibaaZTP0
import Derived.Test.YtejeelpnmdfibaaRows
import Derived.WalkKit
import Derived.ProofKit
import Derived.ChangeOld
import Derived.Below
import Derived.SizedLaws
set_option linter.unusedVariables false
set_option linter.unusedSimpArgs false
section
namespace Go.Proofs.Ytejeelpnmdfibaa.E
open Go.RowKit Go.Proofs.Ytejeelpnmdfibaa.Pr Go.Proofs.Ytejeelpnmdfibaa.Hw Go.Proofs.Ytejeelpnmdfibaa.Pl Go.Proofs.YtejeelpnmdfibaaW.PrintWords Go.Proofs.YtejeelpnmdfibaaW.PrintLast Go.Proofs.YtejeelpnmdfibaaW.PrintMore
theorem value43 {p : Int} (hp : Supp p) {l : List Int} (hl : ∀ x ∈ l,Res p x) (hll : l.length ≤ 1000000) {x : Int} (hx : Res p x) : Ev (fun k => privityref10_Value.f k p l x) (evI p x l) := by
 have hb := hp.bd
 have main : ∀ m,m ≤ l.length → Ev (fun k => privityref10_Value.l0 k p l x (evI p x (l.drop m)) ((m : Int) - 1)) (evI p x l) := by
  intro m
  induction m with
  | zero =>
   intro _
   refine Ev.step (f := fun _ => some (evI p x l)) (fun k => ?_) (Ev.now _)
   simp only [privityref10_Value.l0]
   rw [if_neg (by omega)];rfl
  | succ m ih =>
   intro hm
   have ih := ih (by omega)
   have e : l.drop m = l.getD m 0 :: l.drop (m + 1) := by
    rw [Hw.getD_in _ _ (show m < l.length by omega)]
    exact List.drop_eq_getElem_cons (by omega)
   rw [e] at ih
   refine Ev.step (f := fun k => (privityref01_Mul.f k p (evI p x (l.drop (m + 1))) x).bind fun t => ((privityref01_Add.f p t (l.getD m 0)).bind fun t2 => privityref10_Value.l0 k p l x t2 ((m : Int) - 1))) (fun k => ?_) (Ev.bind (rmul_ev hp (evI_res hp _ _) hx) (ev_now_bind (radd_eq hp (Res.mod hp _) (res_getD hp hl m)) ih))
   have e2 : ((m + 1 : Nat) : Int) - 1 = (m : Int) := by omega
   simp only [privityref10_Value.l0]
   rw [e2,if_pos (by omega)]
   refine congrArg (Option.bind _) (funext fun t => ?_)
   rw [if_pos (by omega),if_pos (by omega),rd_nat,w64' (by omega) (by omega)]
 refine (main l.length (Nat.le_refl _)).congr fun k => ?_
 unfold privityref10_Value.f
 rw [List.drop_length,w64' (by omega) (by omega)];rfl
theorem rdR_nat (l : List (List Int)) (i : Nat) : rd_L4 l (i : Int) = l.getD i [] := by unfold rd_L4;rw [Int.toNat_natCast]
theorem rrow_ev {p : Int} (hp : Supp p) {n : Nat} (hn : n ≤ 1000) {g : Nat → Nat → Int} (hg : ∀ i j,Res p (g i j)) {x : Int} (hx : Res p x) : Ev (fun k => privityref10_Row.f k p (matL n g) x) (rowX p n g x) := by
 have hml : (matL n g).length = n := (matL_sq n g).len
 have hrow : ∀ j : Nat,j < n → rd_L4 (matL n g) (j : Int) = tabL n (g j) := fun j hj => by rw [rdR_nat];exact matP_getD _ _ _ _ hj
 unfold privityref10_Row.f
 have h := up (Q := fun i => Ev (fun k => privityref10_Row.l0 k p (matL n g) x (tabL i fun j => evI p x (tabL n fun a => g a j)) (i : Int)) (rowX p n g x)) (n := n) ?_ fun i hi h => ?_
 ·exact h
 ·refine Ev.step (fun k => ?_) (Ev.now _)
  simp only [privityref10_Row.l0]
  rw [if_neg (by omega)];rfl
 ·refine Ev.step (f := fun k => privityref10_Row.l1 k p (matL n g) x (tabL i fun j => evI p x (tabL n fun a => g a j)) (i : Int) [] 0) (fun k => by simp only [privityref10_Row.l0];rw [if_pos (by omega)]) ?_
  have h1 := up (Q := fun j => Ev (fun k => privityref10_Row.l1 k p (matL n g) x (tabL i fun j => evI p x (tabL n fun a => g a j)) (i : Int) (tabL j fun a => g a i) (j : Int)) (rowX p n g x)) (n := n) ?_ fun j hj h1 => ?_
  ·exact h1
  ·rw [tabL_succ] at h
   refine Ev.step (f := fun k => (privityref10_Value.f k p (tabL n fun a => g a i) x).bind fun t => privityref10_Row.l0 k p (matL n g) x ((tabL i fun j => evI p x (tabL n fun a => g a j)) ++ [t]) ((i + 1 : Nat) : Int)) (fun k => ?_) (Ev.bind (value43 hp (tabL_res fun a _ => hg a i) (by rw [tabL_length];omega) hx) h)
   simp only [privityref10_Row.l1]
   rw [if_neg (by omega),tabL_length]
   refine congrArg (Option.bind _) (funext fun t => ?_)
   rw [if_pos (by omega),wnat (by omega)]
  ·rw [tabL_succ] at h1
   refine Ev.step (fun k => ?_) h1
   simp only [privityref10_Row.l1]
   rw [if_pos (by omega),if_pos (by omega),if_pos (by omega),hrow j hj,tabL_length,if_pos (by omega),tabL_length,if_pos (by omega),rd_nat,tabL_getD,if_pos hi,wnat (by omega)]
theorem offs_T {T : Int} (hT : T = 1 ∨ T = 2) : offs (T.toNat + 1) (T.toNat + 1) = T.toNat * (T.toNat + 1) / 2 := by
 rcases hT with rfl|rfl <;> decide
theorem rnew_eq {T : Int} (hT : T = 1 ∨ T = 2) {q r : List Int} (lq : q.length = T.toNat + 1) (lr : r.length = T.toNat * (T.toNat + 1) / 2) : privityref10_New.f q r = some (matL (T.toNat + 1) (newG (T.toNat + 1) q r),0) := by
 have h3 : T.toNat + 1 ≤ 3 ∧ T.toNat * (T.toNat + 1) / 2 ≤ 3 := by rcases hT with rfl|rfl <;> decide
 unfold privityref10_New.f
 rw [if_pos (by omega),if_pos (by omega),if_neg,lq]
 intro h
 rcases newBad_iff.1 h with h|h
 ·omega
 ·rw [lq,offs_T hT] at h;exact h lr
theorem newG_res {p : Int} (hp : Supp p) {q r : List Int} (hq : ∀ x ∈ q,Res p x) (hr : ∀ x ∈ r,Res p x) (n i j : Nat) : Res p (newG n q r i j) := by
 unfold newG
 split
 ·exact res_getD hp hq _
 ·exact res_getD hp hr _
theorem by_getD {p : Int} {z : List Int} {d : Int} {l : List Int} {j : Nat} (hj : j < l.length) : (byL p z d l).getD j 0 = (l.getD j 0 + d * z.getD j 0 % p) % p := by unfold byL;rw [tabL_getD,if_pos hj]
theorem newG_shift {p : Int} (hp : Supp p) {T : Int} (hT : T = 1 ∨ T = 2) {z : List Int} (hz : ∀ x ∈ z,Res p x) (z0 : z.getD 0 0 = 1) (d : Int) {q r : List Int} (lq : q.length = T.toNat + 1) (lr : r.length = T.toNat * (T.toNat + 1) / 2) :
  ∀ i,i < T.toNat + 1 → ∀ j,j < T.toNat + 1 → newG (T.toNat + 1) (byL p z d q) (byL p (wL p T z) d r) i j = trG p d (fun a => z.getD a 0) (newG (T.toNat + 1) q r) i j := by
 intro i hi j hj
 unfold trG
 by_cases h0 : min i j = 0
 ·unfold newG
  rw [if_pos h0,if_pos h0,by_getD (by omega)]
  have e : z.getD i 0 * z.getD j 0 = z.getD (max i j) 0 := by
   rcases Nat.eq_zero_or_pos i with rfl|h
   ·rw [z0,Int.one_mul,Nat.zero_max]
   ·have : j = 0 := by omega
    subst this
    rw [z0,Int.mul_one,Nat.max_zero]
  rw [e,(res_getD hp hz (max i j)).eq]
 ·unfold newG
  rw [if_neg h0,if_neg h0]
  have key : ∀ m : Nat,m < r.length → (wL p T z).getD m 0 = z.getD i 0 * z.getD j 0 % p → offs (T.toNat + 1) (min i j) + (max i j - min i j) = m → (byL p (wL p T z) d r).getD (offs (T.toNat + 1) (min i j) + (max i j - min i j)) 0 = (r.getD (offs (T.toNat + 1) (min i j) + (max i j - min i j)) 0 + d * (z.getD i 0 * z.getD j 0 % p) % p) % p := fun m hm hw e => by
   rw [e,by_getD hm,hw]
  rcases hT with rfl|rfl
  ·have hi1 : i = 1 := by have : i < 2 := hi;omega
   have hj1 : j = 1 := by have : j < 2 := hj;omega
   subst hi1;subst hj1
   exact key 0 (by rw [lr];decide) (by rw [wL1];rfl) rfl
  ·have hi3 : i < 3 := hi
   have hj3 : j < 3 := hj
   have ci : i = 1 ∨ i = 2 := by omega
   have cj : j = 1 ∨ j = 2 := by omega
   rcases ci with rfl|rfl
   ·rcases cj with rfl|rfl
    ·exact key 0 (by rw [lr];decide) (by rw [wL2];rfl) rfl
    ·exact key 1 (by rw [lr];decide) (by rw [wL2];rfl) rfl
   ·rcases cj with rfl|rfl
    ·exact key 1 (by rw [lr];decide) (by rw [wL2];show z.getD 1 0 * z.getD 2 0 % p = _;rw [Int.mul_comm]) rfl
    ·exact key 2 (by rw [lr];decide) (by rw [wL2];rfl) rfl
structure Zs (p N T : Int) (bad z : List Int) : Prop where
 res : ∀ x ∈ z,Res p x
 len : z.length = T.toNat + 1
 z0 : z.getD 0 0 = 1
 root : ∀ x ∈ extB N T bad,evI p x z = 0
theorem vanZs {p N T : Int} {bad : List Int} (h : Ok12 p N T bad) : Zs p N T bad (vanZ p N T bad) := by
 have hr : ∀ x ∈ vanZ p N T bad,Res p x := van_res h.hp h.van
 have hl := vanZ_length h
 have ht := h.coa.t0
 refine ⟨hr,by omega,?_,fun x hx => van_root h.hp h.van x hx⟩
 rw [← evI_zero' h.hp hr]
 exact van_zero h.hp h.van
theorem Zs.tab {p N T : Int} {bad z : List Int} (h : Zs p N T bad z) : tabL (T.toNat + 1) (fun a => z.getD a 0) = z := by
 rw [← h.len];exact tabL_of z
def hL (p T : Int) (w : List Int) : List Int := cutL p w 0 (2 * (T.toNat + 1) + T.toNat * T.toNat)
def lL (p T : Int) (w : List Int) : List Int := cutL p w (2 * (T.toNat + 1) + T.toNat * T.toNat) ((T.toNat + 3) * (T.toNat * (T.toNat + 1) / 2))
theorem triple_ev {p : Int} (hp : Supp p) (N : Int) {T : Int} (hT : T = 1 ∨ T = 2) (bad : List Int) (da db : Int) {w : List Int} (hw : ∀ x ∈ w,0 ≤ x) : Ev (fun k => privitylaw43_triple.f k p N T bad da db w) (hL p T w,lL p T w) := by
 unfold privitylaw43_triple.f
 rcases hT with rfl|rfl
 ·have h1 := cut_ev hp N 1 bad da db hw 0 5 (by omega) (by omega)
  have h2 := cut_ev hp N 1 bad da db hw 5 4 (by omega) (by omega)
  have a1 : wrap64 (wrap64 (2 * wrap64 ((1 : Int) + 1)) + wrap64 (1 * 1)) = 5 := by kernel_rfl
  have a2 : wrap64 (Int.tdiv (wrap64 (wrap64 (wrap64 ((1 : Int) + 3) * 1) * wrap64 (1 + 1))) 2) = 4 := by kernel_rfl
  rw [a1,a2]
  exact Ev.bind h1 (Ev.bind h2 (Ev.now _))
 ·have h1 := cut_ev hp N 2 bad da db hw 0 10 (by omega) (by omega)
  have h2 := cut_ev hp N 2 bad da db hw 10 15 (by omega) (by omega)
  have a1 : wrap64 (wrap64 (2 * wrap64 ((2 : Int) + 1)) + wrap64 (2 * 2)) = 10 := by kernel_rfl
  have a2 : wrap64 (Int.tdiv (wrap64 (wrap64 (wrap64 ((2 : Int) + 3) * 2) * wrap64 (2 + 1))) 2) = 15 := by kernel_rfl
  rw [a1,a2]
  exact Ev.bind h1 (Ev.bind h2 (Ev.now _))
theorem hL_length (p T : Int) (w : List Int) : (hL p T w).length = 2 * (T.toNat + 1) + T.toNat * T.toNat := cutL_length _ _ _ _
theorem lL_length (p T : Int) (w : List Int) : (lL p T w).length = (T.toNat + 3) * (T.toNat * (T.toNat + 1) / 2) := cutL_length _ _ _ _
theorem tri_eq {p N T : Int} {bad : List Int} (h : mayB p N T bad = true) {da db : Int} (rda : Res p da) (rdb : Res p db) {head rests : List Int} (rh : ∀ x ∈ head,Res p x) (rr : ∀ x ∈ rests,Res p x) (lh : head.length = 2 * (T.toNat + 1) + T.toNat * T.toNat) (lr : rests.length = (T.toNat + 3) * (T.toNat * (T.toNat + 1) / 2)) :
  tapeshift_Triple.f p N T bad da db head rests = some (triH p N T bad da db head,triR p N T bad da db head rests) := by
 unfold tapeshift_Triple.f
 rw [if_pos h,if_pos (resB_iff.2 rda),if_pos (resB_iff.2 rdb),if_pos (ressB_iff.2 rh),if_pos (ressB_iff.2 rr),if_pos lh,if_pos lr]
theorem triH_len (p N : Int) {T : Int} (bad : List Int) (da db : Int) (hT : T = 1 ∨ T = 2) {head : List Int} (lh : head.length = 2 * (T.toNat + 1) + T.toNat * T.toNat) : (triH p N T bad da db head).length = head.length := by
 have hD : ∀ m,(triD p N T bad da db head m).length = ((head.drop (2 * (T.toNat + 1) + (m - 1) * T.toNat)).take T.toNat).length := fun m => byL_length _ _ _ _
 unfold triH
 rw [List.length_append,List.length_append,byL_length,byL_length]
 rcases hT with rfl|rfl
 ·have h1 := hD 1
  have h5 : head.length = 5 := lh
  rw [List.length_take,List.length_drop,h5] at h1
  rw [show Int.toNat 1 = 1 from rfl] at h1 ⊢
  simp only [catF,List.length_append,List.length_nil,h1,List.length_take,List.length_drop,h5]
  decide
 ·have h1 := hD 1
  have h2 := hD 2
  have h5 : head.length = 10 := lh
  rw [List.length_take,List.length_drop,h5] at h1 h2
  rw [show Int.toNat 2 = 2 from rfl] at h1 h2 ⊢
  simp only [catF,List.length_append,List.length_nil,h1,h2,List.length_take,List.length_drop,h5]
  decide
theorem triR_len (p N : Int) {T : Int} (bad : List Int) (da db : Int) (hT : T = 1 ∨ T = 2) (head : List Int) {rests : List Int} (lr : rests.length = (T.toNat + 3) * (T.toNat * (T.toNat + 1) / 2)) : (triR p N T bad da db head rests).length = rests.length := by
 have hE : ∀ m,(triE p N T bad da db head rests m).length = ((rests.drop ((if m = 0 then T.toNat + 2 else m + 1) * (T.toNat * (T.toNat + 1) / 2))).take (T.toNat * (T.toNat + 1) / 2)).length := fun m => byL_length _ _ _ _
 unfold triR
 rw [List.length_append,List.length_append,List.length_append,byL_length,byL_length]
 rcases hT with rfl|rfl
 ·have h0 := hE 0
  have h1 := hE 1
  have h5 : rests.length = 4 := lr
  rw [List.length_take,List.length_drop,h5] at h0 h1
  rw [show Int.toNat 1 = 1 from rfl] at h0 h1 ⊢
  simp only [catF,List.length_append,List.length_nil,h0,h1,List.length_take,List.length_drop,h5]
  decide
 ·have h0 := hE 0
  have h1 := hE 1
  have h2 := hE 2
  have h5 : rests.length = 15 := lr
  rw [List.length_take,List.length_drop,h5] at h0 h1 h2
  rw [show Int.toNat 2 = 2 from rfl] at h0 h1 h2 ⊢
  simp only [catF,List.length_append,List.length_nil,h0,h1,h2,List.length_take,List.length_drop,h5]
  decide
theorem zero_res {p : Int} (hp : Supp p) : Res p 0 := by have := hp.bd;exact ⟨Int.le_refl 0,by omega⟩
theorem len_catF {f : Nat → List Int} {t : Nat} : ∀ n,(∀ m,m < n → (f (m + 1)).length = t) → (catF f n).length = n * t
 | 0,_ => by simp [catF]
 | n + 1,h => by
  rw [catF,List.length_append,len_catF n (fun m hm => h m (by omega)),h n (by omega),Nat.succ_mul]
theorem catF_piece {f : Nat → List Int} {t : Nat} : ∀ n,(∀ m,m < n → (f (m + 1)).length = t) → ∀ m,m < n → ((catF f n).drop (m * t)).take t = f (m + 1)
 | n + 1,h,m,hm => by
  have hl := len_catF n (fun m hm => h m (by omega))
  rw [catF]
  by_cases e : m = n
  ·subst e
   rw [List.drop_left' hl,List.take_of_length_le (Nat.le_of_eq (h m hm))]
  ·have hle : m * t + t ≤ n * t := by
    have := Nat.mul_le_mul_right t (show m + 1 ≤ n by omega)
    rwa [Nat.succ_mul] at this
   rw [List.drop_append_of_le_length (by omega),List.take_append_of_le_length (by rw [List.length_drop];omega)]
   exact catF_piece n (fun m hm => h m (by omega)) m (by omega)
structure Parts (p N T : Int) (bad : List Int) (da db : Int) (head rests : List Int) : Prop where
 a : (triH p N T bad da db head).take (T.toNat + 1) = byL p (vanZ p N T bad) da (head.take (T.toNat + 1))
 b : ((triH p N T bad da db head).drop (T.toNat + 1)).take (T.toNat + 1) = byL p (vanZ p N T bad) db ((head.drop (T.toNat + 1)).take (T.toNat + 1))
 d : ∀ m,m < T.toNat → ((triH p N T bad da db head).drop (2 * (T.toNat + 1) + m * T.toNat)).take T.toNat = triD p N T bad da db head (m + 1)
 ra : (triR p N T bad da db head rests).take (T.toNat * (T.toNat + 1) / 2) = byL p (wL p T (vanZ p N T bad)) da (rests.take (T.toNat * (T.toNat + 1) / 2))
 rb : ((triR p N T bad da db head rests).drop (T.toNat * (T.toNat + 1) / 2)).take (T.toNat * (T.toNat + 1) / 2) = byL p (wL p T (vanZ p N T bad)) db ((rests.drop (T.toNat * (T.toNat + 1) / 2)).take (T.toNat * (T.toNat + 1) / 2))
 rd : ∀ m,m < T.toNat → ((triR p N T bad da db head rests).drop ((m + 2) * (T.toNat * (T.toNat + 1) / 2))).take (T.toNat * (T.toNat + 1) / 2) = triE p N T bad da db head rests (m + 1)
 rc : ((triR p N T bad da db head rests).drop ((T.toNat + 2) * (T.toNat * (T.toNat + 1) / 2))).take (T.toNat * (T.toNat + 1) / 2) = triE p N T bad da db head rests 0
theorem parts (p N T : Int) (bad : List Int) (da db : Int) {head rests : List Int} (lh : head.length = 2 * (T.toNat + 1) + T.toNat * T.toNat) (lr : rests.length = (T.toNat + 3) * (T.toNat * (T.toNat + 1) / 2)) : Parts p N T bad da db head rests := by
 obtain ⟨t,ht⟩ : ∃ t,t = T.toNat := ⟨_,rfl⟩
 obtain ⟨O,hO⟩ : ∃ O,O = T.toNat * (T.toNat + 1) / 2 := ⟨_,rfl⟩
 rw [← hO] at lr
 rw [← ht] at lh lr
 have la : (byL p (vanZ p N T bad) da (head.take (t + 1))).length = t + 1 := by rw [byL_length,List.length_take];omega
 have lb : (byL p (vanZ p N T bad) db ((head.drop (t + 1)).take (t + 1))).length = t + 1 := by rw [byL_length,List.length_take,List.length_drop];omega
 have ld : ∀ m,m < t → (triD p N T bad da db head (m + 1)).length = t := fun m hm => by
  unfold triD
  rw [byL_length,List.length_take,List.length_drop,← ht,Nat.add_sub_cancel]
  have := Nat.mul_le_mul_right t (show m + 1 ≤ t by omega)
  rw [Nat.succ_mul] at this
  omega
 have m3 : (t + 3) * O = (t + 2) * O + O := Nat.succ_mul (t + 2) O
 have m2 : (t + 2) * O = t * O + O + O := by rw [show t + 2 = t + 1 + 1 from rfl,Nat.succ_mul,Nat.succ_mul]
 have lra : (byL p (wL p T (vanZ p N T bad)) da (rests.take O)).length = O := by rw [byL_length,List.length_take];omega
 have lrb : (byL p (wL p T (vanZ p N T bad)) db ((rests.drop O).take O)).length = O := by rw [byL_length,List.length_take,List.length_drop];omega
 have le : ∀ m,m < t → (triE p N T bad da db head rests (m + 1)).length = O := fun m hm => by
  unfold triE
  rw [byL_length,List.length_take,List.length_drop,if_neg (by omega),← hO]
  have h2 : (m + 1 + 1 + 1) * O ≤ (t + 3) * O := Nat.mul_le_mul_right O (by omega)
  rw [Nat.succ_mul (m + 1 + 1) O] at h2
  omega
 have le0 : (triE p N T bad da db head rests 0).length = O := by
  unfold triE
  rw [byL_length,List.length_take,List.length_drop,if_pos rfl,← hO,← ht]
  omega
 have lcd := len_catF (t := t) t ld
 have lce := len_catF (t := O) t le
 have eH : triH p N T bad da db head = byL p (vanZ p N T bad) da (head.take (t + 1)) ++ (byL p (vanZ p N T bad) db ((head.drop (t + 1)).take (t + 1)) ++ catF (triD p N T bad da db head) t) := by
  unfold triH
  rw [← ht,List.append_assoc]
 have eR : triR p N T bad da db head rests = byL p (wL p T (vanZ p N T bad)) da (rests.take O) ++ (byL p (wL p T (vanZ p N T bad)) db ((rests.drop O).take O) ++ (catF (triE p N T bad da db head rests) t ++ triE p N T bad da db head rests 0)) := by
  unfold triR
  rw [← hO,← ht,List.append_assoc,List.append_assoc]
 refine ⟨?_,?_,fun m hm => ?_,?_,?_,fun m hm => ?_,?_⟩
 ·rw [← ht,eH,List.take_left' la]
 ·rw [← ht,eH,List.drop_left' la,List.take_left' lb]
 ·rw [← ht] at hm ⊢
  rw [eH,show 2 * (t + 1) + m * t = (t + 1) + ((t + 1) + m * t) by omega,← List.drop_drop,List.drop_left' la,← List.drop_drop,List.drop_left' lb]
  exact catF_piece t ld m hm
 ·rw [← hO,eR,List.take_left' lra]
 ·rw [← hO,eR,List.drop_left' lra,List.take_left' lrb]
 ·rw [← ht] at hm
  rw [← hO,eR,show (m + 2) * O = O + (O + m * O) by rw [show m + 2 = m + 1 + 1 from rfl,Nat.succ_mul,Nat.succ_mul];omega,← List.drop_drop,List.drop_left' lra,← List.drop_drop,List.drop_left' lrb]
  have hle : m * O + O ≤ t * O := by
   have := Nat.mul_le_mul_right O (show m + 1 ≤ t by omega)
   rwa [Nat.succ_mul] at this
  rw [List.drop_append_of_le_length (by omega),List.take_append_of_le_length (by rw [List.length_drop];omega)]
  exact catF_piece t le m hm
 ·rw [← hO,← ht,eR,m2,show t * O + O + O = O + (O + t * O) by omega,← List.drop_drop,List.drop_left' lra,← List.drop_drop,List.drop_left' lrb,List.drop_left' lce]
  exact List.take_of_length_le (Nat.le_of_eq le0)
theorem triH_res {p N T : Int} (hp : Supp p) (bad : List Int) (da db : Int) (head : List Int) : ∀ x ∈ triH p N T bad da db head,Res p x := by
 have hc : ∀ n,∀ x ∈ catF (triD p N T bad da db head) n,Res p x := fun n => by
  induction n with
  | zero => intro x hx;simp [catF] at hx
  | succ n ih =>
   intro x hx
   rw [catF] at hx
   rcases List.mem_append.1 hx with h|h
   ·exact ih x h
   ·exact byL_res hp _ _ _ x h
 intro x hx
 unfold triH at hx
 rcases List.mem_append.1 hx with h|h
 ·rcases List.mem_append.1 h with h|h
  ·exact byL_res hp _ _ _ x h
  ·exact byL_res hp _ _ _ x h
 ·exact hc _ x h
theorem triR_res {p N T : Int} (hp : Supp p) (bad : List Int) (da db : Int) (head rests : List Int) : ∀ x ∈ triR p N T bad da db head rests,Res p x := by
 have hc : ∀ n,∀ x ∈ catF (triE p N T bad da db head rests) n,Res p x := fun n => by
  induction n with
  | zero => intro x hx;simp [catF] at hx
  | succ n ih =>
   intro x hx
   rw [catF] at hx
   rcases List.mem_append.1 hx with h|h
   ·exact ih x h
   ·exact byL_res hp _ _ _ x h
 intro x hx
 unfold triR at hx
 rcases List.mem_append.1 hx with h|h
 ·rcases List.mem_append.1 h with h|h
  ·rcases List.mem_append.1 h with h|h
   ·exact byL_res hp _ _ _ x h
   ·exact byL_res hp _ _ _ x h
  ·exact hc _ x h
 ·exact byL_res hp _ _ _ x h
section
variable {p : Int} (hp : Supp p) {a b : List Int} (ha : ∀ x ∈ a,Res p x) (hb : ∀ x ∈ b,Res p x)
include hp ha hb
theorem m21_step {x : List Int} (hx : ∀ v ∈ x,Res p v) (lx : x.length ≤ 100) {i j : Nat} (hi : i < a.length) (hj : j < b.length) (hij : i + j < x.length) {X : List Int} (h : Ev (fun k => privityref21_Mul.l1 k p a b (x.set (i + j) ((x.getD (i + j) 0 + a.getD i 0 * b.getD j 0 % p) % p)) (i : Int) ((j + 1 : Nat) : Int)) X) :
  Ev (fun k => privityref21_Mul.l1 k p a b x (i : Int) (j : Int)) X := by
 have c1 : (j : Int) < (b.length : Int) := by omega
 have c2 : (0 : Int) ≤ ((i + j : Nat) : Int) := by omega
 have c3 : ((i + j : Nat) : Int) < (x.length : Int) := by omega
 have c4 : (0 : Int) ≤ (i : Int) := by omega
 have c5 : (i : Int) < (a.length : Int) := by omega
 have c6 : (0 : Int) ≤ (j : Int) := by omega
 have c7 : j < 1099511627776 := by omega
 have hw : wrap64 ((i : Int) + (j : Int)) = ((i + j : Nat) : Int) := by rw [w64' (by omega) (by omega)];omega
 refine Ev.step (f := fun k => (privityref01_Mul.f k p (a.getD i 0) (b.getD j 0)).bind fun t => ((privityref01_Add.f p (x.getD (i + j) 0) t).bind fun t2 => privityref21_Mul.l1 k p a b (x.set (i + j) t2) (i : Int) ((j + 1 : Nat) : Int))) (fun k => ?_)
  (Ev.bind (rmul_ev hp (res_getD hp ha i) (res_getD hp hb j)) (ev_now_bind (radd_eq hp (res_getD hp hx _) (Res.mod hp _)) h))
 simp only [privityref21_Mul.l1]
 rw [hw,if_pos c1,if_pos c2,if_pos c3,if_pos c4,if_pos c5,if_pos c6,rd_nat,rd_nat,rd_nat,Int.toNat_natCast,wnat c7]
omit hp ha hb in
theorem m21_next {x : List Int} {i : Nat} (hi : i ≤ 1000) {j : Nat} (hj : j = b.length) {X : List Int} (h : Ev (fun k => privityref21_Mul.l0 k p a b x ((i + 1 : Nat) : Int)) X) :
  Ev (fun k => privityref21_Mul.l1 k p a b x (i : Int) (j : Int)) X := by
 refine Ev.step (fun k => ?_) h
 simp only [privityref21_Mul.l1]
 rw [if_neg (by omega),wnat (by omega)]
omit hp ha hb in
theorem m21_go {x : List Int} {i : Nat} (hi : i < a.length) {X : List Int} (h : Ev (fun k => privityref21_Mul.l1 k p a b x (i : Int) ((0 : Nat) : Int)) X) :
  Ev (fun k => privityref21_Mul.l0 k p a b x (i : Int)) X := by
 refine Ev.step (fun k => ?_) h
 simp only [privityref21_Mul.l0]
 rw [if_pos (by omega)];rfl
omit hp ha hb in
theorem m21_end {x : List Int} {i : Nat} (hi : i = a.length) : Ev (fun k => privityref21_Mul.l0 k p a b x (i : Int)) x := by
 refine Ev.step (fun k => ?_) (Ev.now _)
 simp only [privityref21_Mul.l0]
 rw [if_neg (by omega)]
end
theorem res1 {p a : Int} (h : Res p a) : ∀ x ∈ [a],Res p x := fun x hx => by
 simp only [List.mem_cons,List.not_mem_nil,or_false] at hx;rw [hx];exact h
theorem resc {p a : Int} {l : List Int} (h : Res p a) (hl : ∀ x ∈ l,Res p x) : ∀ x ∈ a :: l,Res p x := fun x hx => by
 rcases List.mem_cons.1 hx with rfl|hx
 ·exact h
 ·exact hl x hx
theorem res_zeros {p : Int} (hp : Supp p) (n : Nat) : ∀ x ∈ List.replicate n (0 : Int),Res p x := fun x hx => by
 rw [List.eq_of_mem_replicate hx];exact zero_res hp
theorem m21_two {p : Int} (hp : Supp p) {a0 a1 b0 b1 : Int} (ha : ∀ x ∈ [a0,a1],Res p x) (hb : ∀ x ∈ [b0,b1],Res p x) :
  Ev (fun k => privityref21_Mul.f k p [a0,a1] [b0,b1]) [(0 + a0 * b0 % p) % p,((0 + a0 * b1 % p) % p + a1 * b0 % p) % p,(0 + a1 * b1 % p) % p] := by
 unfold privityref21_Mul.f
 have hw : wrap64 (wrap64 ((([a0,a1] : List Int).length : Int) + (([b0,b1] : List Int).length : Int)) - 1) = 3 := by
  show wrap64 (wrap64 (2 + 2) - 1) = 3
  decide +kernel
 rw [hw]
 refine Ev.congr (fun k => if_pos (by omega)) (Ev.congr (fun k => if_pos (by decide)) ?_)
 have r0 := res_zeros hp 3
 have m := fun v : Int => Res.mod hp v
 refine m21_go (i := 0) (by simp) ?_
 refine m21_step hp ha hb r0 (by decide) (i := 0) (j := 0) (by simp) (by simp) (by decide) ?_
 have r1 := res_set r0 (0 + 0) (m ((List.replicate 3 (0 : Int)).getD (0 + 0) 0 + [a0,a1].getD 0 0 * [b0,b1].getD 0 0 % p))
 refine m21_step hp ha hb r1 (by simp) (i := 0) (j := 1) (by simp) (by simp) (by simp) ?_
 refine m21_next (i := 0) (by omega) (j := 2) rfl (m21_go (i := 1) (by simp) ?_)
 refine m21_step hp ha hb (res_set r1 _ (m _)) (by simp) (i := 1) (j := 0) (by simp) (by simp) (by simp) ?_
 refine m21_step hp ha hb (res_set (res_set r1 _ (m _)) _ (m _)) (by simp) (i := 1) (j := 1) (by simp) (by simp) (by simp) ?_
 refine m21_next (i := 1) (by omega) (j := 2) rfl ?_
 exact m21_end (i := 2) rfl
theorem m21_three {p : Int} (hp : Supp p) {a0 a1 a2 b0 b1 b2 : Int} (ha : ∀ x ∈ [a0,a1,a2],Res p x) (hb : ∀ x ∈ [b0,b1,b2],Res p x) :
  Ev (fun k => privityref21_Mul.f k p [a0,a1,a2] [b0,b1,b2]) [(0 + a0 * b0 % p) % p,((0 + a0 * b1 % p) % p + a1 * b0 % p) % p,(((0 + a0 * b2 % p) % p + a1 * b1 % p) % p + a2 * b0 % p) % p,((0 + a1 * b2 % p) % p + a2 * b1 % p) % p,(0 + a2 * b2 % p) % p] := by
 unfold privityref21_Mul.f
 have hw : wrap64 (wrap64 ((([a0,a1,a2] : List Int).length : Int) + (([b0,b1,b2] : List Int).length : Int)) - 1) = 5 := by
  show wrap64 (wrap64 (3 + 3) - 1) = 5
  decide +kernel
 rw [hw]
 refine Ev.congr (fun k => if_pos (by omega)) (Ev.congr (fun k => if_pos (by decide)) ?_)
 have r0 := res_zeros hp 5
 have m := fun v : Int => Res.mod hp v
 refine m21_go (i := 0) (by simp) ?_
 refine m21_step hp ha hb r0 (by decide) (i := 0) (j := 0) (by simp) (by simp) (by decide) ?_
 refine m21_step hp ha hb (res_set r0 _ (m _)) (by simp) (i := 0) (j := 1) (by simp) (by simp) (by simp) ?_
 refine m21_step hp ha hb (res_set (res_set r0 _ (m _)) _ (m _)) (by simp) (i := 0) (j := 2) (by simp) (by simp) (by simp) ?_
 refine m21_next (i := 0) (by omega) (j := 3) rfl (m21_go (i := 1) (by simp) ?_)
 refine m21_step hp ha hb (res_set (res_set (res_set r0 _ (m _)) _ (m _)) _ (m _)) (by simp) (i := 1) (j := 0) (by simp) (by simp) (by simp) ?_
 refine m21_step hp ha hb (res_set (res_set (res_set (res_set r0 _ (m _)) _ (m _)) _ (m _)) _ (m _)) (by simp) (i := 1) (j := 1) (by simp) (by simp) (by simp) ?_
 refine m21_step hp ha hb (res_set (res_set (res_set (res_set (res_set r0 _ (m _)) _ (m _)) _ (m _)) _ (m _)) _ (m _)) (by simp) (i := 1) (j := 2) (by simp) (by simp) (by simp) ?_
 refine m21_next (i := 1) (by omega) (j := 3) rfl (m21_go (i := 2) (by simp) ?_)
 refine m21_step hp ha hb (res_set (res_set (res_set (res_set (res_set (res_set r0 _ (m _)) _ (m _)) _ (m _)) _ (m _)) _ (m _)) _ (m _)) (by simp) (i := 2) (j := 0) (by simp) (by simp) (by simp) ?_
 refine m21_step hp ha hb (res_set (res_set (res_set (res_set (res_set (res_set (res_set r0 _ (m _)) _ (m _)) _ (m _)) _ (m _)) _ (m _)) _ (m _)) _ (m _)) (by simp) (i := 2) (j := 1) (by simp) (by simp) (by simp) ?_
 refine m21_step hp ha hb (res_set (res_set (res_set (res_set (res_set (res_set (res_set (res_set r0 _ (m _)) _ (m _)) _ (m _)) _ (m _)) _ (m _)) _ (m _)) _ (m _)) _ (m _)) (by simp) (i := 2) (j := 2) (by simp) (by simp) (by simp) ?_
 refine m21_next (i := 2) (by omega) (j := 3) rfl ?_
 exact m21_end (i := 3) rfl
section
variable {p : Int} (hp : Supp p) {T : Nat} (hT : T ≤ 10)
include hT
theorem pr_l1 {c : List Int} {d : List (List Int)} {k : Nat} (hk : 1 ≤ k) (hkT : k ≤ T) (ld : d.length = T) (lc : T + k < c.length) (ldk : T < (d.getD (k - 1) []).length) {X : List (List Int) × List Int}
  (h : Ev (fun n => privityref21_Prove.l2 n p (T : Int) c (d.set (k - 1) ((d.getD (k - 1) []).set T (c.getD (T + k) 0))) (k : Int) ((0 : Nat) : Int)) X) :
  Ev (fun n => privityref21_Prove.l1 n p (T : Int) c d (k : Int)) X := by
 have hw1 : wrap64 ((k : Int) - 1) = ((k - 1 : Nat) : Int) := by rw [w64' (by omega) (by omega)];omega
 have hw2 : wrap64 ((T : Int) + (k : Int)) = ((T + k : Nat) : Int) := by rw [w64' (by omega) (by omega)];omega
 have c1 : (k : Int) ≥ 1 := by omega
 have c2 : (0 : Int) ≤ ((k - 1 : Nat) : Int) := by omega
 have c3 : ((k - 1 : Nat) : Int) < (d.length : Int) := by omega
 have c4 : (0 : Int) ≤ ((T + k : Nat) : Int) := by omega
 have c5 : ((T + k : Nat) : Int) < (c.length : Int) := by omega
 have c6 : (0 : Int) ≤ (T : Int) := by omega
 have c7 : (T : Int) < ((d.getD (k - 1) []).length : Int) := by omega
 refine Ev.step (fun n => ?_) h
 simp only [privityref21_Prove.l1]
 rw [hw1,hw2,if_pos c1,if_pos c2,if_pos c3,if_pos c4,if_pos c5,if_pos c6,rdR_nat,if_pos c7,rd_nat,Int.toNat_natCast,Int.toNat_natCast];rfl
include hp in
theorem pr_l2 {c : List Int} (hc : ∀ x ∈ c,Res p x) {d : List (List Int)} {k i : Nat} (hk : 1 ≤ k) (hkT : k ≤ T) (hi : i ≤ T) (ld : d.length = T) (lc : k + i < c.length) (hd : ∀ x ∈ d.getD (k - 1) [],Res p x) (ldk : i < (d.getD (k - 1) []).length) {X : List (List Int) × List Int}
  (h : Ev (fun n => privityref21_Prove.l2 n p (T : Int) (c.set (k + i) ((c.getD (k + i) 0 - (d.getD (k - 1) []).getD i 0) % p)) d (k : Int) ((i + 1 : Nat) : Int)) X) :
  Ev (fun n => privityref21_Prove.l2 n p (T : Int) c d (k : Int) (i : Int)) X := by
 have hw1 : wrap64 ((k : Int) - 1) = ((k - 1 : Nat) : Int) := by rw [w64' (by omega) (by omega)];omega
 have hw2 : wrap64 ((k : Int) + (i : Int)) = ((k + i : Nat) : Int) := by rw [w64' (by omega) (by omega)];omega
 have c1 : (i : Int) ≤ (T : Int) := by omega
 have c2 : (0 : Int) ≤ ((k + i : Nat) : Int) := by omega
 have c3 : ((k + i : Nat) : Int) < (c.length : Int) := by omega
 have c4 : (0 : Int) ≤ ((k - 1 : Nat) : Int) := by omega
 have c5 : ((k - 1 : Nat) : Int) < (d.length : Int) := by omega
 have c6 : (0 : Int) ≤ (i : Int) := by omega
 have c7 : (i : Int) < ((d.getD (k - 1) []).length : Int) := by omega
 have c8 : i < 1099511627776 := by omega
 refine Ev.step (fun n => ?_) h
 simp only [privityref21_Prove.l2]
 rw [hw1,hw2,if_pos c1,if_pos c2,if_pos c3,if_pos c4,if_pos c5,if_pos c6,rdR_nat,if_pos c7,rd_nat,rd_nat,rsub_eq hp (res_getD hp hc _) (res_getD hp hd _),Int.toNat_natCast,wnat c8];rfl
theorem pr_l2e {c : List Int} {d : List (List Int)} {k i : Nat} (hk : 1 ≤ k) (hkT : k ≤ T) (hi : i = T + 1) {X : List (List Int) × List Int}
  (h : Ev (fun n => privityref21_Prove.l1 n p (T : Int) c d ((k - 1 : Nat) : Int)) X) : Ev (fun n => privityref21_Prove.l2 n p (T : Int) c d (k : Int) (i : Int)) X := by
 have hw1 : wrap64 ((k : Int) - 1) = ((k - 1 : Nat) : Int) := by rw [w64' (by omega) (by omega)];omega
 have c1 : ¬ (i : Int) ≤ (T : Int) := by omega
 refine Ev.step (fun n => ?_) h
 simp only [privityref21_Prove.l2]
 rw [hw1,if_neg c1]
theorem pr_l1e {c : List Int} {d : List (List Int)} (lc : T + 1 ≤ c.length) : Ev (fun n => privityref21_Prove.l1 n p (T : Int) c d ((0 : Nat) : Int)) (d,c.take (T + 1)) := by
 have hw1 : wrap64 ((T : Int) + 1) = ((T + 1 : Nat) : Int) := wnat (by omega)
 have c1 : ¬ ((0 : Nat) : Int) ≥ 1 := by omega
 have c2 : (0 : Int) ≤ ((T + 1 : Nat) : Int) := by omega
 have c3 : ((T + 1 : Nat) : Int) ≤ (c.length : Int) := by omega
 refine Ev.step (fun n => ?_) (Ev.now _)
 simp only [privityref21_Prove.l1]
 rw [if_neg c1,hw1,if_pos c2,if_pos c3,Int.toNat_natCast]
theorem pr_l0 {c r : List Int} {d : List (List Int)} {k : Nat} (hk : k < T) (ld : d.length = k) (lr : r.length = T * T) {X : List (List Int) × List Int} (hm : wrap64 ((k : Int) * (T : Int)) = ((k * T : Nat) : Int)) (hm2 : wrap64 (((k + 1 : Nat) : Int) * (T : Int)) = (((k + 1) * T : Nat) : Int))
  (h : Ev (fun n => privityref21_Prove.l0 n p (T : Int) r c (d ++ [(r.take ((k + 1) * T)).drop (k * T) ++ [0]]) ((k + 1 : Nat) : Int)) X) : Ev (fun n => privityref21_Prove.l0 n p (T : Int) r c d (k : Int)) X := by
 have hle : (k + 1) * T ≤ T * T := Nat.mul_le_mul_right T (by omega)
 have hle2 : k * T ≤ (k + 1) * T := Nat.mul_le_mul_right T (by omega)
 have hTT : T * T ≤ 100 := Nat.mul_le_mul hT hT
 have l1 : ((r.take ((k + 1) * T)).drop (k * T)).length ≤ 100 := by rw [List.length_drop,List.length_take];omega
 have c1 : (k : Int) < (T : Int) := by omega
 have c2 : (0 : Int) ≤ ((k * T : Nat) : Int) := Int.natCast_nonneg _
 have c3 : ((k * T : Nat) : Int) ≤ (((k + 1) * T : Nat) : Int) := Int.ofNat_le.2 hle2
 have c4 : (((k + 1) * T : Nat) : Int) ≤ (r.length : Int) := Int.ofNat_le.2 (by omega)
 have c5 : k < 1099511627776 := by omega
 have c6 : ([] : List Int).length + ((r.take ((k + 1) * T)).drop (k * T)).length < 17592186044416 := by rw [List.length_nil];omega
 have c7 : ([] ++ (r.take ((k + 1) * T)).drop (k * T)).length < 17592186044416 := by rw [List.nil_append];omega
 have c8 : d.length < 5864062014805 := by omega
 refine Ev.step (fun n => ?_) h
 simp only [privityref21_Prove.l0]
 rw [if_pos c1,Option.bind_some,wnat c5,hm,hm2,if_pos c2,if_pos c3,if_pos c4,Int.toNat_natCast,Int.toNat_natCast,if_pos c6,Option.bind_some,if_pos c7,if_pos c8,List.nil_append]
omit hT in
theorem pr_l0e {c r : List Int} {d : List (List Int)} {X : List (List Int) × List Int} (h : Ev (fun n => privityref21_Prove.l1 n p (T : Int) c d (T : Int)) X) : Ev (fun n => privityref21_Prove.l0 n p (T : Int) r c d (T : Int)) X := by
 refine Ev.step (fun n => ?_) h
 simp only [privityref21_Prove.l0]
 rw [if_neg (by omega)]
end
theorem prove_one {p : Int} (hp : Supp p) {a b : List Int} {c0 c1 c2 r0 : Int} (hc : ∀ x ∈ [c0,c1,c2],Res p x) (hr : ∀ x ∈ [r0],Res p x) (hm : Ev (fun k => privityref21_Mul.f k p a b) [c0,c1,c2]) :
  Ev (fun k => privityref21_Prove.f k p 1 a b [r0]) ([[r0,c2]],[c0,(c1 - r0) % p]) := by
 have m := fun v : Int => Res.mod hp v
 have rd : ∀ x ∈ [r0,c2],Res p x := resc (hr r0 (by simp)) (res1 (hc c2 (by simp)))
 unfold privityref21_Prove.f
 refine Ev.bind hm ?_
 refine pr_l0 (T := 1) (by omega) (k := 0) (d := []) (by omega) rfl rfl (by decide +kernel) (by decide +kernel) ?_
 refine pr_l0e (T := 1) ?_
 refine pr_l1 (T := 1) (by omega) (k := 1) (by omega) (by omega) rfl (by simp) (by simp) ?_
 refine pr_l2 hp (d := [[r0,c2]]) (T := 1) (by omega) hc (k := 1) (i := 0) (by omega) (by omega) (by omega) rfl (by simp) rd (by simp) ?_
 refine pr_l2 hp (d := [[r0,c2]]) (T := 1) (by omega) (res_set hc _ (m _)) (k := 1) (i := 1) (by omega) (by omega) (by omega) rfl (by simp) rd (by simp) ?_
 refine pr_l2e (T := 1) (by omega) (k := 1) (by omega) (by omega) rfl ?_
 exact pr_l1e (T := 1) (by omega) (by simp)
theorem prove_two {p : Int} (hp : Supp p) {a b : List Int} {c0 c1 c2 c3 c4 r0 r1 r2 r3 : Int} (hc : ∀ x ∈ [c0,c1,c2,c3,c4],Res p x) (hr : ∀ x ∈ [r0,r1,r2,r3],Res p x) (hm : Ev (fun k => privityref21_Mul.f k p a b) [c0,c1,c2,c3,c4]) :
  Ev (fun k => privityref21_Prove.f k p 2 a b [r0,r1,r2,r3]) ([[r0,r1,(c3 - r3) % p],[r2,r3,c4]],[c0,(c1 - r0) % p,((c2 - r2) % p - r1) % p]) := by
 have m := fun v : Int => Res.mod hp v
 have rd2 : ∀ x ∈ [r2,r3,c4],Res p x := resc (hr r2 (by simp)) (resc (hr r3 (by simp)) (res1 (hc c4 (by simp))))
 have rd1 : ∀ x ∈ [r0,r1,(c3 - r3) % p],Res p x := resc (hr r0 (by simp)) (resc (hr r1 (by simp)) (res1 (m _)))
 have k1 : ∀ x ∈ [c0,c1,(c2 - r2) % p,(c3 - r3) % p,(c4 - c4) % p],Res p x := resc (hc c0 (by simp)) (resc (hc c1 (by simp)) (resc (m _) (resc (m _) (res1 (m _)))))
 unfold privityref21_Prove.f
 refine Ev.bind hm ?_
 refine pr_l0 (T := 2) (by omega) (k := 0) (d := []) (by omega) rfl rfl (by decide +kernel) (by decide +kernel) ?_
 refine pr_l0 (T := 2) (by omega) (k := 1) (by omega) rfl rfl (by decide +kernel) (by decide +kernel) ?_
 refine pr_l0e (T := 2) ?_
 refine pr_l1 (T := 2) (by omega) (k := 2) (by omega) (by omega) rfl (by simp) (by simp) ?_
 refine pr_l2 hp (d := [[r0,r1,0],[r2,r3,c4]]) (T := 2) (by omega) hc (k := 2) (i := 0) (by omega) (by omega) (by omega) rfl (by simp) rd2 (by simp) ?_
 refine pr_l2 hp (d := [[r0,r1,0],[r2,r3,c4]]) (T := 2) (by omega) (res_set hc _ (m _)) (k := 2) (i := 1) (by omega) (by omega) (by omega) rfl (by simp) rd2 (by simp) ?_
 refine pr_l2 hp (d := [[r0,r1,0],[r2,r3,c4]]) (T := 2) (by omega) (res_set (res_set hc _ (m _)) _ (m _)) (k := 2) (i := 2) (by omega) (by omega) (by omega) rfl (by simp) rd2 (by simp) ?_
 refine pr_l2e (T := 2) (by omega) (k := 2) (by omega) (by omega) rfl ?_
 refine pr_l1 (T := 2) (by omega) (c := [c0,c1,(c2 - r2) % p,(c3 - r3) % p,(c4 - c4) % p]) (k := 1) (by omega) (by omega) rfl (by simp) (by simp) ?_
 refine pr_l2 hp (d := [[r0,r1,(c3 - r3) % p],[r2,r3,c4]]) (T := 2) (by omega) k1 (k := 1) (i := 0) (by omega) (by omega) (by omega) rfl (by simp) rd1 (by simp) ?_
 refine pr_l2 hp (d := [[r0,r1,(c3 - r3) % p],[r2,r3,c4]]) (T := 2) (by omega) (res_set k1 _ (m _)) (k := 1) (i := 1) (by omega) (by omega) (by omega) rfl (by simp) rd1 (by simp) ?_
 refine pr_l2 hp (d := [[r0,r1,(c3 - r3) % p],[r2,r3,c4]]) (T := 2) (by omega) (res_set (res_set k1 _ (m _)) _ (m _)) (k := 1) (i := 2) (by omega) (by omega) (by omega) rfl (by simp) rd1 (by simp) ?_
 refine pr_l2e (T := 2) (by omega) (k := 1) (by omega) (by omega) rfl ?_
 exact pr_l1e (T := 2) (by omega) (by simp)
theorem four {l : List Int} (h : l.length = 4) : l = [l.getD 0 0,l.getD 1 0,l.getD 2 0,l.getD 3 0] := by
 match l,h with
 | [a,b,c,d],_ => rfl
theorem two2 {l : List Int} (h : l.length = 2) : l = [l.getD 0 0,l.getD 1 0] := by
 match l,h with
 | [a,b],_ => rfl
def rowsL (p T : Int) (a b r : List Int) : List (List Int) :=
 if T = 1 then [a,b,[r.getD 0 0,(0 + a.getD 1 0 * b.getD 1 0 % p) % p],[(0 + a.getD 0 0 * b.getD 0 0 % p) % p,(((0 + a.getD 0 0 * b.getD 1 0 % p) % p + a.getD 1 0 * b.getD 0 0 % p) % p - r.getD 0 0) % p]]
 else [a,b,[r.getD 0 0,r.getD 1 0,(((0 + a.getD 1 0 * b.getD 2 0 % p) % p + a.getD 2 0 * b.getD 1 0 % p) % p - r.getD 3 0) % p],[r.getD 2 0,r.getD 3 0,(0 + a.getD 2 0 * b.getD 2 0 % p) % p],
  [(0 + a.getD 0 0 * b.getD 0 0 % p) % p,(((0 + a.getD 0 0 * b.getD 1 0 % p) % p + a.getD 1 0 * b.getD 0 0 % p) % p - r.getD 0 0) % p,(((((0 + a.getD 0 0 * b.getD 2 0 % p) % p + a.getD 1 0 * b.getD 1 0 % p) % p + a.getD 2 0 * b.getD 0 0 % p) % p - r.getD 2 0) % p - r.getD 1 0) % p]]
theorem rowsL1 (p : Int) (a b r : List Int) : rowsL p 1 a b r = [a,b,[r.getD 0 0,(0 + a.getD 1 0 * b.getD 1 0 % p) % p],[(0 + a.getD 0 0 * b.getD 0 0 % p) % p,(((0 + a.getD 0 0 * b.getD 1 0 % p) % p + a.getD 1 0 * b.getD 0 0 % p) % p - r.getD 0 0) % p]] := if_pos rfl
theorem rowsL2 (p : Int) (a b r : List Int) : rowsL p 2 a b r = [a,b,[r.getD 0 0,r.getD 1 0,(((0 + a.getD 1 0 * b.getD 2 0 % p) % p + a.getD 2 0 * b.getD 1 0 % p) % p - r.getD 3 0) % p],[r.getD 2 0,r.getD 3 0,(0 + a.getD 2 0 * b.getD 2 0 % p) % p],
  [(0 + a.getD 0 0 * b.getD 0 0 % p) % p,(((0 + a.getD 0 0 * b.getD 1 0 % p) % p + a.getD 1 0 * b.getD 0 0 % p) % p - r.getD 0 0) % p,(((((0 + a.getD 0 0 * b.getD 2 0 % p) % p + a.getD 1 0 * b.getD 1 0 % p) % p + a.getD 2 0 * b.getD 0 0 % p) % p - r.getD 2 0) % p - r.getD 1 0) % p]] := if_neg (by omega)
theorem rowsL_length {p T : Int} (hT : T = 1 ∨ T = 2) (a b r : List Int) : (rowsL p T a b r).length = T.toNat + 3 := by
 rcases hT with rfl|rfl
 ·rw [rowsL1];rfl
 ·rw [rowsL2];rfl
theorem rowsL_ok {p T : Int} (hp : Supp p) (hT : T = 1 ∨ T = 2) {a b r : List Int} (ha : ∀ x ∈ a,Res p x) (hb : ∀ x ∈ b,Res p x) (hr : ∀ x ∈ r,Res p x) (la : a.length = T.toNat + 1) (lb : b.length = T.toNat + 1) (i : Nat) (hi : i < T.toNat + 3) :
  ((rowsL p T a b r).getD i []).length = T.toNat + 1 ∧ ∀ x ∈ (rowsL p T a b r).getD i [],Res p x := by
 have m := fun v : Int => Res.mod hp v
 have g := fun j => res_getD hp hr j
 rcases hT with rfl|rfl
 ·rw [rowsL1]
  have hi4 : i < 4 := hi
  have c : i = 0 ∨ i = 1 ∨ i = 2 ∨ i = 3 := by omega
  rcases c with rfl|rfl|rfl|rfl
  ·exact ⟨la,ha⟩
  ·exact ⟨lb,hb⟩
  ·exact ⟨rfl,resc (g 0) (res1 (m _))⟩
  ·exact ⟨rfl,resc (m _) (res1 (m _))⟩
 ·rw [rowsL2]
  have hi4 : i < 5 := hi
  have c : i = 0 ∨ i = 1 ∨ i = 2 ∨ i = 3 ∨ i = 4 := by omega
  rcases c with rfl|rfl|rfl|rfl|rfl
  ·exact ⟨la,ha⟩
  ·exact ⟨lb,hb⟩
  ·exact ⟨rfl,resc (g 0) (resc (g 1) (res1 (m _)))⟩
  ·exact ⟨rfl,resc (g 2) (resc (g 3) (res1 (m _)))⟩
  ·exact ⟨rfl,resc (m _) (resc (m _) (res1 (m _)))⟩
theorem prove_ev {p T : Int} (hp : Supp p) (hT : T = 1 ∨ T = 2) {a b r : List Int} (ha : ∀ x ∈ a,Res p x) (hb : ∀ x ∈ b,Res p x) (hr : ∀ x ∈ r,Res p x) (la : a.length = T.toNat + 1) (lb : b.length = T.toNat + 1) (lr : r.length = T.toNat * T.toNat) :
  ∃ d c,Ev (fun k => privityref21_Prove.f k p T a b r) (d,c) ∧ [a,b] ++ d ++ [c] = rowsL p T a b r := by
 have m := fun v : Int => Res.mod hp v
 rcases hT with rfl|rfl
 ·have ea := two2 la
  have eb := two2 lb
  have er := sole (l := r) lr
  have hm := m21_two hp (a0 := a.getD 0 0) (a1 := a.getD 1 0) (b0 := b.getD 0 0) (b1 := b.getD 1 0) (by rw [← ea];exact ha) (by rw [← eb];exact hb)
  have h := prove_one hp (r0 := r.getD 0 0) (resc (m _) (resc (m _) (res1 (m _)))) (by rw [← er];exact hr) hm
  rw [← ea,← eb,← er] at h
  exact ⟨_,_,h,by rw [rowsL1];rfl⟩
 ·have ea := three la
  have eb := three lb
  have er := four (l := r) lr
  have hm := m21_three hp (a0 := a.getD 0 0) (a1 := a.getD 1 0) (a2 := a.getD 2 0) (b0 := b.getD 0 0) (b1 := b.getD 1 0) (b2 := b.getD 2 0) (by rw [← ea];exact ha) (by rw [← eb];exact hb)
  have h := prove_two hp (r0 := r.getD 0 0) (r1 := r.getD 1 0) (r2 := r.getD 2 0) (r3 := r.getD 3 0) (resc (m _) (resc (m _) (resc (m _) (resc (m _) (res1 (m _)))))) (by rw [← er];exact hr) hm
  rw [← ea,← eb,← er] at h
  exact ⟨_,_,h,by rw [rowsL2];rfl⟩
def pieceL (T : Int) (rests : List Int) (i : Nat) : List Int := (rests.drop (i * (T.toNat * (T.toNat + 1) / 2))).take (T.toNat * (T.toNat + 1) / 2)
def polG (T : Int) (R : List (List Int)) (rests : List Int) (i : Nat) : Nat → Nat → Int := newG (T.toNat + 1) (R.getD i []) (pieceL T rests i)
def polM (T : Int) (R : List (List Int)) (rests : List Int) (m : Nat) : List (List (List Int)) := (List.range m).map fun i => matL (T.toNat + 1) (polG T R rests i)
theorem polM_length (T : Int) (R : List (List Int)) (rests : List Int) (m : Nat) : (polM T R rests m).length = m := by simp [polM]
theorem polM_succ (T : Int) (R : List (List Int)) (rests : List Int) (m : Nat) : polM T R rests (m + 1) = polM T R rests m ++ [matL (T.toNat + 1) (polG T R rests m)] := by simp [polM,List.range_succ]
theorem polM_getD {T : Int} {R : List (List Int)} {rests : List Int} {m i : Nat} (hi : i < m) : (polM T R rests m).getD i [] = matL (T.toNat + 1) (polG T R rests i) := by
 unfold polM
 rw [List.getD_eq_getElem?_getD,List.getElem?_map,List.getElem?_range hi];rfl
theorem pieceL_length {T : Int} (hT : T = 1 ∨ T = 2) {rests : List Int} (lr : rests.length = (T.toNat + 3) * (T.toNat * (T.toNat + 1) / 2)) {i : Nat} (hi : i < T.toNat + 3) : (pieceL T rests i).length = T.toNat * (T.toNat + 1) / 2 := by
 unfold pieceL
 rw [List.length_take,List.length_drop]
 have h2 : (i + 1) * (T.toNat * (T.toNat + 1) / 2) ≤ (T.toNat + 3) * (T.toNat * (T.toNat + 1) / 2) := Nat.mul_le_mul_right _ (by omega)
 rw [Nat.succ_mul] at h2
 omega
theorem toP {T : Int} (hT : T = 1 ∨ T = 2) : wrap64 (T + 1) = ((T.toNat + 1 : Nat) : Int) := by rcases hT with rfl|rfl <;> kernel_rfl
theorem toP2 {T : Int} (hT : T = 1 ∨ T = 2) : wrap64 (wrap64 (2 * T) + 2) = ((2 * (T.toNat + 1) : Nat) : Int) := by rcases hT with rfl|rfl <;> kernel_rfl
theorem oneP {T : Int} (hT : T = 1 ∨ T = 2) : wrap64 (Int.tdiv (wrap64 (T * wrap64 (T + 1))) 2) = ((T.toNat * (T.toNat + 1) / 2 : Nat) : Int) := by rcases hT with rfl|rfl <;> kernel_rfl
theorem mulP {O i : Nat} (hO : O = 1 ∨ O = 3) (hi : i ≤ 10) : wrap64 ((i : Int) * (O : Int)) = ((i * O : Nat) : Int) := by
 rcases hO with rfl|rfl
 ·rw [w64' (by omega) (by omega)];omega
 ·rw [w64' (by omega) (by omega)];omega
theorem polys_ev {p N T : Int} (hp : Supp p) (hT : T = 1 ∨ T = 2) {head rests : List Int} (rh : ∀ x ∈ head,Res p x) (lh : head.length = 2 * (T.toNat + 1) + T.toNat * T.toNat) (lr : rests.length = (T.toNat + 3) * (T.toNat * (T.toNat + 1) / 2)) :
  Ev (fun k => privityref43_Polys.f k p N T head rests) (polM T (rowsL p T (head.take (T.toNat + 1)) ((head.drop (T.toNat + 1)).take (T.toNat + 1)) (head.drop (2 * (T.toNat + 1)))) rests (T.toNat + 3)) := by
 obtain ⟨A,hA⟩ : ∃ A,A = head.take (T.toNat + 1) := ⟨_,rfl⟩
 obtain ⟨B,hB⟩ : ∃ B,B = (head.drop (T.toNat + 1)).take (T.toNat + 1) := ⟨_,rfl⟩
 obtain ⟨r,hr⟩ : ∃ r,r = head.drop (2 * (T.toNat + 1)) := ⟨_,rfl⟩
 have ra : ∀ x ∈ A,Res p x := by rw [hA];exact res_take rh _
 have rb : ∀ x ∈ B,Res p x := by rw [hB];exact res_take (res_drop rh _) _
 have rr : ∀ x ∈ r,Res p x := by rw [hr];exact res_drop rh _
 have la : A.length = T.toNat + 1 := by rw [hA,List.length_take];omega
 have lb : B.length = T.toNat + 1 := by rw [hB,List.length_take,List.length_drop];omega
 have lrr : r.length = T.toNat * T.toNat := by rw [hr,List.length_drop];omega
 obtain ⟨d,c,hev,hR⟩ := prove_ev hp hT ra rb rr la lb lrr
 have lR := rowsL_length (p := p) hT A B r
 have hok := fun i hi => (rowsL_ok hp hT ra rb rr la lb i hi).1
 rw [← hA,← hB,← hr]
 obtain ⟨R,eR⟩ : ∃ R,R = rowsL p T A B r := ⟨_,rfl⟩
 rw [← eR] at hR lR hok ⊢
 have hT3 : T.toNat + 3 ≤ 5 := by rcases hT with rfl|rfl <;> decide
 have ld : d.length ≤ 5 := by
  have := congrArg List.length hR
  rw [lR,List.length_append,List.length_append] at this
  simp only [List.length_cons,List.length_nil] at this
  omega
 have hB2 : (head.take (2 * (T.toNat + 1))).drop (T.toNat + 1) = B := by
  rw [hB,List.drop_take,show 2 * (T.toNat + 1) - (T.toNat + 1) = T.toNat + 1 by omega]
 obtain ⟨O,hO⟩ : ∃ O,O = T.toNat * (T.toNat + 1) / 2 := ⟨_,rfl⟩
 have hO3 : O = 1 ∨ O = 3 := by rcases hT with rfl|rfl;exact .inl hO;exact .inr hO
 have main : Ev (fun k => privityref43_Polys.l0 k rests R (O : Int) (polM T R rests 0) ((0 : Nat) : Int)) (polM T R rests (T.toNat + 3)) := by
  refine up (Q := fun i => Ev (fun k => privityref43_Polys.l0 k rests R (O : Int) (polM T R rests i) (i : Int)) (polM T R rests (T.toNat + 3))) (n := T.toNat + 3) ?_ fun i hi h => ?_
  ·refine Ev.step (fun k => ?_) (Ev.now _)
   simp only [privityref43_Polys.l0]
   rw [if_neg (by omega)]
  ·have lp := pieceL_length hT lr hi
   have hn := rnew_eq hT (hok i hi) lp
   have hpc : (rests.take ((i + 1) * O)).drop (i * O) = pieceL T rests i := by
    unfold pieceL
    rw [List.drop_take,Nat.succ_mul,Nat.add_sub_cancel_left,← hO]
   have hle : i * O ≤ (i + 1) * O := Nat.mul_le_mul_right _ (by omega)
   have hle2 : (i + 1) * O ≤ rests.length := by rw [lr,← hO];exact Nat.mul_le_mul_right _ (by omega)
   have ci : i < 1099511627776 := by omega
   have c1 : (i : Int) < (R.length : Int) := by omega
   have c2 : (0 : Int) ≤ (i : Int) := by omega
   have c3 : (0 : Int) ≤ ((i * O : Nat) : Int) := Int.natCast_nonneg _
   have c4 : ((i * O : Nat) : Int) ≤ (((i + 1) * O : Nat) : Int) := Int.ofNat_le.2 hle
   have c5 : (((i + 1) * O : Nat) : Int) ≤ (rests.length : Int) := Int.ofNat_le.2 hle2
   have c6 : (polM T R rests i).length < 5864062014805 := by rw [polM_length];omega
   have i1 : i ≤ 10 := by omega
   have i2 : i + 1 ≤ 10 := by omega
   rw [polM_succ] at h
   refine Ev.step (fun k => ?_) h
   simp only [privityref43_Polys.l0]
   rw [wnat ci,mulP hO3 i1,mulP hO3 i2,if_pos c1,if_pos c2,if_pos c3,if_pos c4,if_pos c5,rdR_nat,Int.toNat_natCast,Int.toNat_natCast,hpc,hn,Option.bind_some,if_pos c6];rfl
 have e1 := oneP hT
 have n1 : ((T.toNat + 1 : Nat) : Int) ≤ (head.length : Int) := by omega
 have n2 : ((2 * (T.toNat + 1) : Nat) : Int) ≤ (head.length : Int) := by omega
 have n3 : ((T.toNat + 1 : Nat) : Int) ≤ ((2 * (T.toNat + 1) : Nat) : Int) := by omega
 have n4 : (0 : Int) ≤ ((T.toNat + 1 : Nat) : Int) := by omega
 have n5 : (0 : Int) ≤ ((2 * (T.toNat + 1) : Nat) : Int) := by omega
 have n6 : ([A,B] : List (List Int)).length + d.length < 5864062014805 := by show 2 + d.length < _;omega
 have n7 : ([A,B] ++ d).length < 5864062014805 := by rw [List.length_append];exact n6
 unfold privityref43_Polys.f
 rw [e1,toP hT,toP2 hT,Int.toNat_natCast,Int.toNat_natCast,hB2,← hA,← hr,← hO]
 refine Ev.congr (fun k => if_pos n4) (Ev.congr (fun k => if_pos n1) (Ev.congr (fun k => Option.bind_some _ _) ?_))
 refine Ev.congr (fun k => if_pos n3) (Ev.congr (fun k => if_pos n2) (Ev.congr (fun k => Option.bind_some _ _) ?_))
 refine Ev.congr (fun k => if_pos n5) (Ev.bind hev ?_)
 refine Ev.congr (fun k => Option.bind_some _ _) (Ev.congr (fun k => if_pos n6) (Ev.congr (fun k => Option.bind_some _ _) (Ev.congr (fun k => if_pos n7) ?_)))
 rw [show ([A,B] ++ d ++ [c] : List (List Int)) = R from hR]
 exact main
def amt (T : Int) (da db : Int) (W : List Int) (i : Nat) : Int := if i = 0 then da else if i = 1 then db else if i = T.toNat + 2 then W.getD 0 0 else W.getD (i - 1) 0
set_option maxHeartbeats 1000000 in
theorem rows_shift {p T : Int} (hp : Supp p) (hT : T = 1 ∨ T = 2) {z a b r r' : List Int} {da db : Int} (lz : z.length = T.toNat + 1) (la : a.length = T.toNat + 1) (lb : b.length = T.toNat + 1) (lr : r.length = T.toNat * T.toNat) (lr' : r'.length = T.toNat * T.toNat)
  (hr' : ∀ m,m < T.toNat → (r'.drop (m * T.toNat)).take T.toNat = byL p z ((wqL p z da db a b).getD (m + 1) 0) ((r.drop (m * T.toNat)).take T.toNat)) :
  ∀ i,i < T.toNat + 3 → (rowsL p T (byL p z da a) (byL p z db b) r').getD i [] = byL p z (amt T da db (wqL p z da db a b) i) ((rowsL p T a b r).getD i []) := by
 haveI := nz hp
 intro i hi
 rcases hT with rfl|rfl
 ·obtain ⟨a0,a1,rfl⟩ : ∃ a0 a1,a = [a0,a1] := ⟨_,_,two2 la⟩
  obtain ⟨b0,b1,rfl⟩ : ∃ b0 b1,b = [b0,b1] := ⟨_,_,two2 lb⟩
  obtain ⟨z0,z1,rfl⟩ : ∃ z0 z1,z = [z0,z1] := ⟨_,_,two2 lz⟩
  obtain ⟨r0,rfl⟩ : ∃ r0,r = [r0] := ⟨_,sole lr⟩
  obtain ⟨s0,rfl⟩ : ∃ s0,r' = [s0] := ⟨_,sole lr'⟩
  have e0 : [s0] = [(r0 + ((da * b1 + db * a1 + da * db * z1) % p) * z0 % p) % p] := hr' 0 (by decide)
  have e0 : s0 = (r0 + ((da * b1 + db * a1 + da * db * z1) % p) * z0 % p) % p := by injection e0
  subst e0
  rw [rowsL1,rowsL1]
  have hi4 : i < 4 := hi
  have c : i = 0 ∨ i = 1 ∨ i = 2 ∨ i = 3 := by omega
  rcases c with rfl|rfl|rfl|rfl
  ·rfl
  ·rfl
  ·show [_,_] = [(r0 + ((da * b1 + db * a1 + da * db * z1) % p) * z0 % p) % p,((0 + a1 * b1 % p) % p + ((da * b1 + db * a1 + da * db * z1) % p) * z1 % p) % p]
   refine congr (congrArg List.cons rfl) (congrArg (· :: []) ?_)
   show (0 + ((a1 + da * z1 % p) % p) * ((b1 + db * z1 % p) % p) % p) % p = _
   refine T_inj hp (Res.mod hp _) (Res.mod hp _) ?_
   simp only [T_mod hp,T_add,T_sub,T_mul,T_zero]
   grind
  ·show [_,_] = [((0 + a0 * b0 % p) % p + ((da * b0 + db * a0 + da * db * z0) % p) * z0 % p) % p,((((0 + a0 * b1 % p) % p + a1 * b0 % p) % p - r0) % p + ((da * b0 + db * a0 + da * db * z0) % p) * z1 % p) % p]
   refine congr (congrArg List.cons ?_) (congrArg (· :: []) ?_)
   ·show (0 + ((a0 + da * z0 % p) % p) * ((b0 + db * z0 % p) % p) % p) % p = _
    refine T_inj hp (Res.mod hp _) (Res.mod hp _) ?_
    simp only [T_mod hp,T_add,T_sub,T_mul,T_zero]
    grind
   ·show (((0 + ((a0 + da * z0 % p) % p) * ((b1 + db * z1 % p) % p) % p) % p + ((a1 + da * z1 % p) % p) * ((b0 + db * z0 % p) % p) % p) % p - (r0 + ((da * b1 + db * a1 + da * db * z1) % p) * z0 % p) % p) % p = _
    refine T_inj hp (Res.mod hp _) (Res.mod hp _) ?_
    simp only [T_mod hp,T_add,T_sub,T_mul,T_zero]
    grind
 ·obtain ⟨a0,a1,a2,rfl⟩ : ∃ a0 a1 a2,a = [a0,a1,a2] := ⟨_,_,_,three la⟩
  obtain ⟨b0,b1,b2,rfl⟩ : ∃ b0 b1 b2,b = [b0,b1,b2] := ⟨_,_,_,three lb⟩
  obtain ⟨z0,z1,z2,rfl⟩ : ∃ z0 z1 z2,z = [z0,z1,z2] := ⟨_,_,_,three lz⟩
  obtain ⟨r0,r1,r2,r3,rfl⟩ : ∃ r0 r1 r2 r3,r = [r0,r1,r2,r3] := ⟨_,_,_,_,four lr⟩
  obtain ⟨s0,s1,s2,s3,rfl⟩ : ∃ s0 s1 s2 s3,r' = [s0,s1,s2,s3] := ⟨_,_,_,_,four lr'⟩
  have e0 : [s0,s1] = [(r0 + ((da * b1 + db * a1 + da * db * z1) % p) * z0 % p) % p,(r1 + ((da * b1 + db * a1 + da * db * z1) % p) * z1 % p) % p] := hr' 0 (by decide)
  have e1 : [s2,s3] = [(r2 + ((da * b2 + db * a2 + da * db * z2) % p) * z0 % p) % p,(r3 + ((da * b2 + db * a2 + da * db * z2) % p) * z1 % p) % p] := hr' 1 (by decide)
  injection e0 with f0 f1
  injection f1 with f1
  injection e1 with f2 f3
  injection f3 with f3
  subst f0;subst f1;subst f2;subst f3
  rw [rowsL2,rowsL2]
  have hi4 : i < 5 := hi
  have c : i = 0 ∨ i = 1 ∨ i = 2 ∨ i = 3 ∨ i = 4 := by omega
  rcases c with rfl|rfl|rfl|rfl|rfl
  ·rfl
  ·rfl
  ·show [_,_,_] = [(r0 + ((da * b1 + db * a1 + da * db * z1) % p) * z0 % p) % p,(r1 + ((da * b1 + db * a1 + da * db * z1) % p) * z1 % p) % p,((((0 + a1 * b2 % p) % p + a2 * b1 % p) % p - r3) % p + ((da * b1 + db * a1 + da * db * z1) % p) * z2 % p) % p]
   refine congr (congrArg List.cons rfl) (congr (congrArg List.cons rfl) (congrArg (· :: []) ?_))
   show (((0 + ((a1 + da * z1 % p) % p) * ((b2 + db * z2 % p) % p) % p) % p + ((a2 + da * z2 % p) % p) * ((b1 + db * z1 % p) % p) % p) % p - (r3 + ((da * b2 + db * a2 + da * db * z2) % p) * z1 % p) % p) % p = _
   refine T_inj hp (Res.mod hp _) (Res.mod hp _) ?_
   simp only [T_mod hp,T_add,T_sub,T_mul,T_zero]
   grind
  ·show [_,_,_] = [(r2 + ((da * b2 + db * a2 + da * db * z2) % p) * z0 % p) % p,(r3 + ((da * b2 + db * a2 + da * db * z2) % p) * z1 % p) % p,((0 + a2 * b2 % p) % p + ((da * b2 + db * a2 + da * db * z2) % p) * z2 % p) % p]
   refine congr (congrArg List.cons rfl) (congr (congrArg List.cons rfl) (congrArg (· :: []) ?_))
   show (0 + ((a2 + da * z2 % p) % p) * ((b2 + db * z2 % p) % p) % p) % p = _
   refine T_inj hp (Res.mod hp _) (Res.mod hp _) ?_
   simp only [T_mod hp,T_add,T_sub,T_mul,T_zero]
   grind
  ·show [_,_,_] = [((0 + a0 * b0 % p) % p + ((da * b0 + db * a0 + da * db * z0) % p) * z0 % p) % p,((((0 + a0 * b1 % p) % p + a1 * b0 % p) % p - r0) % p + ((da * b0 + db * a0 + da * db * z0) % p) * z1 % p) % p,((((((0 + a0 * b2 % p) % p + a1 * b1 % p) % p + a2 * b0 % p) % p - r2) % p - r1) % p + ((da * b0 + db * a0 + da * db * z0) % p) * z2 % p) % p]
   refine congr (congrArg List.cons ?_) (congr (congrArg List.cons ?_) (congrArg (· :: []) ?_))
   ·show (0 + ((a0 + da * z0 % p) % p) * ((b0 + db * z0 % p) % p) % p) % p = _
    refine T_inj hp (Res.mod hp _) (Res.mod hp _) ?_
    simp only [T_mod hp,T_add,T_sub,T_mul,T_zero]
    grind
   ·show (((0 + ((a0 + da * z0 % p) % p) * ((b1 + db * z1 % p) % p) % p) % p + ((a1 + da * z1 % p) % p) * ((b0 + db * z0 % p) % p) % p) % p - (r0 + ((da * b1 + db * a1 + da * db * z1) % p) * z0 % p) % p) % p = _
    refine T_inj hp (Res.mod hp _) (Res.mod hp _) ?_
    simp only [T_mod hp,T_add,T_sub,T_mul,T_zero]
    grind
   ·show (((((0 + ((a0 + da * z0 % p) % p) * ((b2 + db * z2 % p) % p) % p) % p + ((a1 + da * z1 % p) % p) * ((b1 + db * z1 % p) % p) % p) % p + ((a2 + da * z2 % p) % p) * ((b0 + db * z0 % p) % p) % p) % p - (r2 + ((da * b2 + db * a2 + da * db * z2) % p) * z0 % p) % p) % p - (r1 + ((da * b1 + db * a1 + da * db * z1) % p) * z1 % p) % p) % p = _
    refine T_inj hp (Res.mod hp _) (Res.mod hp _) ?_
    simp only [T_mod hp,T_add,T_sub,T_mul,T_zero]
    grind
def verS (p x : Int) (d : List Int) (v : Int) : Nat → Int × Int
 | 0 => (v,1)
 | i + 1 => (((verS p x d v i).1 - (verS p x d v i).2 * x % p * d.getD i 0 % p) % p,(verS p x d v i).2 * x % p)
theorem one_res {p : Int} (hp : Supp p) : Res p 1 := by have := hp.bd;exact ⟨by omega,by omega⟩
theorem verS_res {p : Int} (hp : Supp p) (x : Int) (d : List Int) {v : Int} (hv : Res p v) : ∀ i,Res p (verS p x d v i).1 ∧ Res p (verS p x d v i).2
 | 0 => ⟨hv,one_res hp⟩
 | i + 1 => ⟨Res.mod hp _,Res.mod hp _⟩
theorem verify_ev {p : Int} (hp : Supp p) {x A B : Int} (hx : Res p x) (hA : Res p A) (hB : Res p B) {d : List Int} (hd : ∀ v ∈ d,Res p v) (ld : d.length ≤ 100) (c : Int) : Ev (fun k => privityref21_Verify.f k p x A B d c) ((verS p x d (A * B % p) d.length).1 == c) := by
 unfold privityref21_Verify.f
 refine Ev.bind (rmul_ev hp hA hB) ?_
 refine up (Q := fun i => Ev (fun k => privityref21_Verify.l0 k p x d c (verS p x d (A * B % p) i).1 (verS p x d (A * B % p) i).2 (i : Int)) ((verS p x d (A * B % p) d.length).1 == c)) (n := d.length) ?_ fun i hi h => ?_
 ·refine Ev.step (fun k => ?_) (Ev.now _)
  simp only [privityref21_Verify.l0]
  rw [if_neg (by omega)]
 ·obtain ⟨r1,r2⟩ := verS_res hp x d (Res.mod hp (A * B)) i
  rw [verS] at h
  obtain ⟨s,hs⟩ : ∃ s,s = verS p x d (A * B % p) i := ⟨_,rfl⟩
  rw [← hs] at r1 r2 h ⊢
  have c1 : (i : Int) < (d.length : Int) := by omega
  have c2 : (0 : Int) ≤ (i : Int) := by omega
  have c3 : i < 1099511627776 := by omega
  refine Ev.step (f := fun k => (privityref01_Mul.f k p s.2 x).bind fun t428 => ((privityref01_Mul.f k p t428 (d.getD i 0)).bind fun t430 => ((privityref01_Sub.f p s.1 t430).bind fun t431 => (privityref21_Verify.l0 k p x d c t431 t428 ((i + 1 : Nat) : Int))))) (fun k => ?_)
   (Ev.bind (rmul_ev hp r2 hx) (Ev.bind (rmul_ev hp (Res.mod hp _) (res_getD hp hd i)) (ev_now_bind (rsub_eq hp r1 (Res.mod hp _)) h)))
  simp only [privityref21_Verify.l0]
  rw [if_pos c1]
  refine congrArg _ (funext fun t => ?_)
  rw [if_pos c2,rd_nat,wnat c3]
theorem ver_true {p T : Int} (hp : Supp p) (hT : T = 1 ∨ T = 2) {a b r : List Int} (la : a.length = T.toNat + 1) (lb : b.length = T.toNat + 1) (x : Int) :
  (verS p x (tabL T.toNat fun j => evI p x ((rowsL p T a b r).getD (j + 2) [])) (evI p x a * evI p x b % p) T.toNat).1 = evI p x ((rowsL p T a b r).getD (T.toNat + 2) []) := by
 haveI := nz hp
 rcases hT with rfl|rfl
 ·obtain ⟨a0,a1,rfl⟩ : ∃ a0 a1,a = [a0,a1] := ⟨_,_,two2 la⟩
  obtain ⟨b0,b1,rfl⟩ : ∃ b0 b1,b = [b0,b1] := ⟨_,_,two2 lb⟩
  rw [rowsL1]
  show ((evI p x [a0,a1] * evI p x [b0,b1] % p) - (1 * x % p) * evI p x [r.getD 0 0,(0 + a1 * b1 % p) % p] % p) % p = evI p x [(0 + a0 * b0 % p) % p,(((0 + a0 * b1 % p) % p + a1 * b0 % p) % p - r.getD 0 0) % p]
  refine T_inj hp (Res.mod hp _) (evI_res hp _ _) ?_
  simp only [T_mod hp,T_sub,T_mul,T_one,ev_evI hp]
  simp only [M,List.map_cons,List.map_nil,ev,T_mod hp,T_add,T_sub,T_mul,T_zero]
  grind
 ·obtain ⟨a0,a1,a2,rfl⟩ : ∃ a0 a1 a2,a = [a0,a1,a2] := ⟨_,_,_,three la⟩
  obtain ⟨b0,b1,b2,rfl⟩ : ∃ b0 b1 b2,b = [b0,b1,b2] := ⟨_,_,_,three lb⟩
  rw [rowsL2]
  show (((evI p x [a0,a1,a2] * evI p x [b0,b1,b2] % p) - (1 * x % p) * evI p x [r.getD 0 0,r.getD 1 0,(((0 + a1 * b2 % p) % p + a2 * b1 % p) % p - r.getD 3 0) % p] % p) % p - ((1 * x % p) * x % p) * evI p x [r.getD 2 0,r.getD 3 0,(0 + a2 * b2 % p) % p] % p) % p = evI p x [(0 + a0 * b0 % p) % p,(((0 + a0 * b1 % p) % p + a1 * b0 % p) % p - r.getD 0 0) % p,(((((0 + a0 * b2 % p) % p + a1 * b1 % p) % p + a2 * b0 % p) % p - r.getD 2 0) % p - r.getD 1 0) % p]
  refine T_inj hp (Res.mod hp _) (evI_res hp _ _) ?_
  simp only [T_mod hp,T_sub,T_mul,T_one,ev_evI hp]
  simp only [M,List.map_cons,List.map_nil,ev,T_mod hp,T_add,T_sub,T_mul,T_zero]
  grind
theorem eval10_ev {p : Int} (hp : Supp p) {n : Nat} (hn : 0 < n) (hn2 : n ≤ 1000) {q r : List Int} (hq : ∀ v ∈ q,Res p v) (hr : ∀ v ∈ r,Res p v) (lq : q.length = n) {x : Int} (hx : Res p x) : Ev (fun k => privityref10_Eval.f k p (matL n (newG n q r)) x 0) (evI p x q) := by
 have hg := newG_res hp hq hr n
 have e1 := rrow_ev hp hn2 hg hx
 have rX : ∀ v ∈ rowX p n (newG n q r) x,Res p v := tabL_res fun j _ => evI_res hp _ _
 have e2 := value43 hp rX (by rw [rowX_length];omega) (zero_res hp)
 have e3 : evI p 0 (rowX p n (newG n q r) x) = evI p x q := by
  rw [evI_zero' hp rX]
  unfold rowX
  rw [tabL_getD,if_pos hn]
  refine congrArg _ ((tabL_congr fun a _ => ?_).trans (lq ▸ tabL_of q))
  unfold newG
  rw [if_pos (by omega),Nat.max_zero]
 rw [e3] at e2
 unfold privityref10_Eval.f
 exact Ev.bind e1 (Ev.bind e2 (Ev.now _))
theorem row_same {p N T : Int} {bad z : List Int} (hp : Supp p) (hT : T = 1 ∨ T = 2) (hz : Zs p N T bad z) (d : Int) {q r : List Int} (lq : q.length = T.toNat + 1) (lr : r.length = T.toNat * (T.toNat + 1) / 2) {x : Int} (hx : x ∈ extB N T bad) :
  rowX p (T.toNat + 1) (newG (T.toNat + 1) (byL p z d q) (byL p (wL p T z) d r)) x = rowX p (T.toNat + 1) (newG (T.toNat + 1) q r) x := by
 rw [rowX_congr (newG_shift hp hT hz.res hz.z0 d lq lr),rowX_tr hp]
 rw [hz.tab];exact hz.root _ hx
theorem piece_shift {p N T : Int} (bad : List Int) (da db : Int) {head rests : List Int} (P : Parts p N T bad da db head rests) {i : Nat} (hi : i < T.toNat + 3) :
  pieceL T (triR p N T bad da db head rests) i = byL p (wL p T (vanZ p N T bad)) (amt T da db (triW p N T bad da db head) i) (pieceL T rests i) := by
 unfold pieceL
 by_cases h0 : i = 0
 ·subst h0
  rw [Nat.zero_mul,List.drop_zero,List.drop_zero,P.ra];rfl
 ·by_cases h1 : i = 1
  ·subst h1
   rw [Nat.one_mul,P.rb];rfl
  ·by_cases h2 : i = T.toNat + 2
   ·subst h2
    rw [P.rc]
    unfold triE amt
    rw [if_pos rfl,if_neg h0,if_neg h1,if_pos rfl]
   ·obtain ⟨j,rfl⟩ : ∃ j,i = j + 2 := ⟨i - 2,by omega⟩
    rw [P.rd j (by omega)]
    unfold triE amt
    rw [if_neg (by omega),if_neg h0,if_neg h1,if_neg h2];rfl
theorem rows_shift2 {p N T : Int} {bad : List Int} (h : OkM p N T bad) (da db : Int) {head rests : List Int} (P : Parts p N T bad da db head rests) (lh : head.length = 2 * (T.toNat + 1) + T.toNat * T.toNat) (lE : (triH p N T bad da db head).length = head.length) {i : Nat} (hi : i < T.toNat + 3) :
  (rowsL p T ((triH p N T bad da db head).take (T.toNat + 1)) (((triH p N T bad da db head).drop (T.toNat + 1)).take (T.toNat + 1)) ((triH p N T bad da db head).drop (2 * (T.toNat + 1)))).getD i [] =
   byL p (vanZ p N T bad) (amt T da db (triW p N T bad da db head) i) ((rowsL p T (head.take (T.toNat + 1)) ((head.drop (T.toNat + 1)).take (T.toNat + 1)) (head.drop (2 * (T.toNat + 1)))).getD i []) := by
 have hzl := vanZ_length h.ok
 have hT := h.t
 rw [P.a,P.b]
 refine rows_shift h.ok.hp hT (by omega) (by rw [List.length_take];omega) (by rw [List.length_take,List.length_drop];omega) (by rw [List.length_drop];omega) (by rw [List.length_drop];omega) (fun m hm => ?_) i hi
 rw [List.drop_drop,List.drop_drop,P.d m hm]
 unfold triD
 rw [Nat.add_sub_cancel];rfl
theorem rdP_nat (l : List (List (List Int))) (i : Nat) : rd_L7 l (i : Int) = l.getD i [] := by unfold rd_L7;rw [Int.toNat_natCast]
theorem sec43 {T : Int} {R : List (List Int)} {rests : List Int} {m i : Nat} (hi : i < m) : 0 < ((rd_L7 (polM T R rests m) (i : Int)).length : Int) ∧ 0 < ((rd_L4 (rd_L7 (polM T R rests m) (i : Int)) 0).length : Int) ∧ rd (rd_L4 (rd_L7 (polM T R rests m) (i : Int)) 0) 0 = (R.getD i []).getD 0 0 := by
 have e0 : ∀ l : List (List Int),rd_L4 l 0 = l.getD 0 [] := fun l => rdR_nat l 0
 have e2 : ∀ l : List Int,rd l 0 = l.getD 0 0 := fun l => rd_nat l 0
 have e1 : (matL (T.toNat + 1) (polG T R rests i)).getD 0 [] = tabL (T.toNat + 1) (polG T R rests i 0) := matP_getD _ _ _ _ (by omega)
 rw [rdP_nat,polM_getD hi,e0,e1,e2,(matL_sq _ _).len,tabL_length,tabL_getD,if_pos (by omega)]
 refine ⟨by omega,by omega,?_⟩
 unfold polG newG
 rw [if_pos (by omega),Nat.max_self]
end Go.Proofs.Ytejeelpnmdfibaa.E
end
section
namespace Go.Proofs.Ytejeelpnmdfibaa.Pure
open Go.RowKit Go.Proofs.Ytejeelpnmdfibaa.Pr Go.Proofs.Ytejeelpnmdfibaa.Hw Go.Proofs.Ytejeelpnmdfibaa.E Go.Proofs.Ytejeelpnmdfibaa.Pl Go.Proofs.YtejeelpnmdfibaaW.PrintWords Go.Proofs.YtejeelpnmdfibaaW.PrintLast Go.Proofs.YtejeelpnmdfibaaW.PrintMore
theorem below14P_ev (p : Int) (l : List (List Int)) (hl : l.length ≤ 1000) (h : ∀ i,i < l.length → (l.getD i []).length ≤ 100 ∧ ∀ j,j < (l.getD i []).length → (l.getD i []).getD j 0 < p) : Ev (fun k => privityref14_Below.f k p l 100) true := by
 unfold privityref14_Below.f
 refine up (Q := fun i => Ev (fun k => privityref14_Below.l0 k p l 100 (i : Int)) true) (n := l.length) ?_ fun i hi h2 => ?_
 ·refine Ev.step (fun k => ?_) (Ev.now _)
  simp only [privityref14_Below.l0]
  rw [if_neg (by omega)]
 ·obtain ⟨h3,h4⟩ := h i hi
  have hin := up (Q := fun j => Ev (fun k => privityref14_Below.l1 k p l 100 (i : Int) (j : Int)) true) (n := (l.getD i []).length) ?_ fun j hj h5 => ?_
  ·refine Ev.step (fun k => ?_) hin
   simp only [privityref14_Below.l0]
   rw [if_pos (by omega),if_pos (by omega),rdR_nat,if_neg (by omega)];rfl
  ·refine Ev.step (fun k => ?_) h2
   simp only [privityref14_Below.l1]
   rw [if_pos (by omega),if_pos (by omega),rdR_nat,if_neg (by omega),wnat (by omega)]
  ·have h6 := h4 j hj
   refine Ev.step (fun k => ?_) h5
   simp only [privityref14_Below.l1]
   rw [if_pos (by omega),if_pos (by omega),rdR_nat,if_pos (by omega),if_pos (by omega),rd_nat,if_neg (by omega),wnat (by omega)]
theorem triH_smallP (p N : Int) {T : Int} (bad : List Int) (da db : Int) (w : List Int) (hT : T = 1 ∨ T = 2) : (triH p N T bad da db (hL p T w)).length ≤ 10 := by
 rw [triH_len p N bad da db hT (hL_length p T w),hL_length]
 rcases hT with rfl|rfl <;> decide
theorem triR_smallP (p N : Int) {T : Int} (bad : List Int) (da db : Int) (w : List Int) (hT : T = 1 ∨ T = 2) : (triR p N T bad da db (hL p T w) (lL p T w)).length ≤ 15 := by
 rw [triR_len p N bad da db hT _ (lL_length p T w),lL_length]
 rcases hT with rfl|rfl <;> decide
theorem sameP (a : List Int) (h : a.length ≤ 1000) : Ev (fun k => privityref14_Words.f k a a) true := by
 have := words_ev a a (by omega)
 rwa [decide_eq_true rfl] at this
structure Two43 (p N T : Int) (bad z : List Int) (s : Nat → Int) (R R' : List (List Int)) (l l' : List Int) : Prop where
 hp : Supp p
 hT : T = 1 ∨ T = 2
 zs : Zs p N T bad z
 len : ∀ i,i < T.toNat + 3 → (R.getD i []).length = T.toNat + 1 ∧ ∀ x ∈ R.getD i [],Res p x
 pl : ∀ i,i < T.toNat + 3 → (pieceL T l i).length = T.toNat * (T.toNat + 1) / 2 ∧ ∀ x ∈ pieceL T l i,Res p x
 r : ∀ i,i < T.toNat + 3 → R'.getD i [] = byL p z (s i) (R.getD i [])
 p' : ∀ i,i < T.toNat + 3 → pieceL T l' i = byL p (wL p T z) (s i) (pieceL T l i)
theorem Two43.g {p N T : Int} {bad z : List Int} {s : Nat → Int} {R R' : List (List Int)} {l l' : List Int} (h : Two43 p N T bad z s R R' l l') {i : Nat} (hi : i < T.toNat + 3) : (∀ a b,Res p (polG T R l i a b)) ∧ ∀ a b,Res p (polG T R' l' i a b) := by
 refine ⟨newG_res h.hp (h.len i hi).2 (h.pl i hi).2 _,newG_res h.hp ?_ ?_ _⟩
 ·rw [h.r i hi];exact byL_res h.hp _ _ _
 ·rw [h.p' i hi];exact byL_res h.hp _ _ _
theorem Two43.row {p N T : Int} {bad z : List Int} {s : Nat → Int} {R R' : List (List Int)} {l l' : List Int} (h : Two43 p N T bad z s R R' l l') {i : Nat} (hi : i < T.toNat + 3) {x : Int} (hx : x ∈ extB N T bad) : rowX p (T.toNat + 1) (polG T R' l' i) x = rowX p (T.toNat + 1) (polG T R l i) x := by
 unfold polG
 rw [h.r i hi,h.p' i hi]
 exact row_same h.hp h.hT h.zs (s i) (h.len i hi).1 (h.pl i hi).1 hx
theorem Two43.val {p N T : Int} {bad z : List Int} {s : Nat → Int} {R R' : List (List Int)} {l l' : List Int} (h : Two43 p N T bad z s R R' l l') {i : Nat} (hi : i < T.toNat + 3) {x : Int} (hx : Res p x) : Ev (fun k => privityref10_Eval.f k p (matL (T.toNat + 1) (polG T R' l' i)) x 0) (evI p x (R'.getD i [])) := by
 have hT := h.hT
 refine eval10_ev h.hp (by omega) (by omega) ?_ ?_ ?_ hx
 ·rw [h.r i hi];exact byL_res h.hp _ _ _
 ·rw [h.p' i hi];exact byL_res h.hp _ _ _
 ·rw [h.r i hi,byL_length];exact (h.len i hi).1
section
variable {p N T : Int} {bad z : List Int} {s : Nat → Int} {R R' : List (List Int)} {l l' : List Int} (h : Two43 p N T bad z s R R' l l') (hN : 0 ≤ N ∧ N ≤ 7) (hNp : N < p) (hb : ∀ x ∈ bad,(1 ≤ x ∧ x ≤ N) ∧ x ∈ extB N T bad) (lb : bad.length ≤ 13) (da db : Int) (w : List Int)
include h hN hNp
include hb lb in
theorem rows_loop (hend : Ev (fun k => privitylaw43_TapeshiftTriplePrivacy.l2 k p (polM T R l (T.toNat + 3)) (polM T R' l' (T.toNat + 3)) ((T.toNat + 2 : Nat) : Int) 1 p N T bad da db w) true) :
  Ev (fun k => privitylaw43_TapeshiftTriplePrivacy.l0 k p (polM T R l (T.toNat + 3)) (polM T R' l' (T.toNat + 3)) 0 p N T bad da db w) true := by
 have hT := h.hT
 have hT5 : T.toNat + 3 ≤ 5 := by rcases hT with rfl|rfl <;> decide
 have lo := polM_length T R l (T.toNat + 3)
 have ln := polM_length T R' l' (T.toNat + 3)
 refine up (Q := fun i => Ev (fun k => privitylaw43_TapeshiftTriplePrivacy.l0 k p (polM T R l (T.toNat + 3)) (polM T R' l' (T.toNat + 3)) (i : Int) p N T bad da db w) true) (n := T.toNat + 3) ?_ fun i hi h2 => ?_
 ·have c1 : ¬ ((T.toNat + 3 : Nat) : Int) < ((polM T R l (T.toNat + 3)).length : Int) := by omega
  have c2 : wrap64 (((polM T R' l' (T.toNat + 3)).length : Int) - 1) = ((T.toNat + 2 : Nat) : Int) := by rw [w64' (by omega) (by omega)];omega
  refine Ev.step (fun k => ?_) hend
  simp only [privitylaw43_TapeshiftTriplePrivacy.l0]
  rw [if_neg c1,c2]
 ·have hin := up (Q := fun j => Ev (fun k => privitylaw43_TapeshiftTriplePrivacy.l1 k p (polM T R l (T.toNat + 3)) (polM T R' l' (T.toNat + 3)) (i : Int) (j : Int) p N T bad da db w) true) (n := bad.length) ?_ fun j hj h3 => ?_
  ·have c1 : (i : Int) < ((polM T R l (T.toNat + 3)).length : Int) := by omega
   refine Ev.step (fun k => ?_) hin
   simp only [privitylaw43_TapeshiftTriplePrivacy.l0]
   rw [if_pos c1];rfl
  ·have c1 : ¬ ((bad.length : Nat) : Int) < (bad.length : Int) := by omega
   have c2 : i < 1099511627776 := by omega
   refine Ev.step (fun k => ?_) h2
   simp only [privitylaw43_TapeshiftTriplePrivacy.l1]
   rw [if_neg c1,wnat c2]
  ·obtain ⟨hx1,hx2⟩ := hb (bad.getD j 0) (by rw [Hw.getD_in _ _ hj];exact List.getElem_mem _)
   have hxr : Res p (bad.getD j 0) := ⟨by omega,by omega⟩
   obtain ⟨g1,g2⟩ := h.g hi
   have e1 := rrow_ev h.hp (n := T.toNat + 1) (by omega) g1 hxr
   have e2 := rrow_ev h.hp (n := T.toNat + 1) (by omega) g2 hxr
   rw [h.row hi hx2] at e2
   have e3 := sameP (rowX p (T.toNat + 1) (polG T R l i) (bad.getD j 0)) (by rw [rowX_length];omega)
   have c1 : (j : Int) < (bad.length : Int) := by omega
   have c2 : (0 : Int) ≤ (i : Int) := by omega
   have c3 : (i : Int) < ((polM T R l (T.toNat + 3)).length : Int) := by omega
   have c4 : (0 : Int) ≤ (j : Int) := by omega
   have c5 : (i : Int) < ((polM T R' l' (T.toNat + 3)).length : Int) := by omega
   have c6 : j < 1099511627776 := by omega
   have hw : Aside0 (IntKind.u64.wrap (bad.getD j 0) = bad.getD j 0) := ⟨wrapU_id (by omega) (by omega)⟩
   refine Ev.step (f := fun k => (privityref10_Row.f k p (matL (T.toNat + 1) (polG T R l i)) (bad.getD j 0)).bind fun t459 => ((privityref10_Row.f k p (matL (T.toNat + 1) (polG T R' l' i)) (bad.getD j 0)).bind fun t464 => ((privityref14_Words.f k t459 t464).bind fun t467 => (if t467 = true then (privitylaw43_TapeshiftTriplePrivacy.l1 k p (polM T R l (T.toNat + 3)) (polM T R' l' (T.toNat + 3)) (i : Int) ((j + 1 : Nat) : Int) p N T bad da db w) else (some false))))) (fun k => ?_)
    (Ev.bind e1 (Ev.bind e2 (ev_if e3 (fun _ => h3) fun h => by cases h)))
   simp only [privitylaw43_TapeshiftTriplePrivacy.l1]
   rw [if_pos c1,if_pos c2,if_pos c3,if_pos c4,rdP_nat,polM_getD hi,rd_nat,hw.out]
   refine congrArg _ (funext fun t => ?_)
   rw [if_pos c5,rdP_nat,polM_getD hi,wnat c6]
theorem check_loop (hver : ∀ x,Res p x → (verS p x (tabL T.toNat fun j => evI p x (R'.getD (j + 2) [])) (evI p x (R'.getD 0 []) * evI p x (R'.getD 1 []) % p) T.toNat).1 = evI p x (R'.getD (T.toNat + 2) []))
  (hend : Ev (fun k => privitylaw43_TapeshiftTriplePrivacy.l2 k p (polM T R l (T.toNat + 3)) (polM T R' l' (T.toNat + 3)) ((T.toNat + 2 : Nat) : Int) (N + 1) p N T bad da db w) true) :
  Ev (fun k => privitylaw43_TapeshiftTriplePrivacy.l2 k p (polM T R l (T.toNat + 3)) (polM T R' l' (T.toNat + 3)) ((T.toNat + 2 : Nat) : Int) 1 p N T bad da db w) true := by
 have hp := h.hp
 have hT := h.hT
 have hT5 : T.toNat + 3 ≤ 5 := by rcases hT with rfl|rfl <;> decide
 have ln := polM_length T R' l' (T.toNat + 3)
 have hpb := hp.bd
 have main := up (Q := fun i => Ev (fun k => privitylaw43_TapeshiftTriplePrivacy.l2 k p (polM T R l (T.toNat + 3)) (polM T R' l' (T.toNat + 3)) ((T.toNat + 2 : Nat) : Int) ((i + 1 : Nat) : Int) p N T bad da db w) true) (n := N.toNat) ?_ fun i hi h2 => ?_
 ·exact main
 ·rw [show ((N.toNat + 1 : Nat) : Int) = N + 1 by omega];exact hend
 ·obtain ⟨x,hx⟩ : ∃ x : Int,x = ((i + 1 : Nat) : Int) := ⟨_,rfl⟩
  have rx : Res p x := ⟨by omega,by omega⟩
  have hwx : Aside0 (IntKind.u64.wrap x = x) := ⟨wrapU_id (by omega) (by omega)⟩
  have hnx : Aside0 (wrap64 (x + 1) = ((i + 1 + 1 : Nat) : Int)) := ⟨by rw [w64' (by omega) (by omega)];omega⟩
  have v0 := h.val (i := 0) (by omega) rx
  have v1 := h.val (i := 1) (by omega) rx
  have vl := h.val (i := T.toNat + 2) (by omega) rx
  have hres : ∀ j,Res p (evI p x (R'.getD j [])) := fun j => evI_res hp _ _
  have hv := verify_ev hp rx (hres 0) (hres 1) (d := tabL T.toNat fun j => evI p x (R'.getD (j + 2) [])) (tabL_res fun j _ => hres _) (by rw [tabL_length];omega) (evI p x (R'.getD (T.toNat + 2) []))
  rw [tabL_length,hver x rx,beq_self_eq_true] at hv
  have r0 : rd_L7 (polM T R' l' (T.toNat + 3)) 0 = matL (T.toNat + 1) (polG T R' l' 0) := (rdP_nat _ 0).trans (polM_getD (by omega))
  have r1 : rd_L7 (polM T R' l' (T.toNat + 3)) 1 = matL (T.toNat + 1) (polG T R' l' 1) := (rdP_nat _ 1).trans (polM_getD (by omega))
  have rl : rd_L7 (polM T R' l' (T.toNat + 3)) ((T.toNat + 2 : Nat) : Int) = matL (T.toNat + 1) (polG T R' l' (T.toNat + 2)) := (rdP_nat _ _).trans (polM_getD (by omega))
  have q0 : (0 : Int) < ((polM T R' l' (T.toNat + 3)).length : Int) := by omega
  have q1 : (1 : Int) < ((polM T R' l' (T.toNat + 3)).length : Int) := by omega
  have q2 : (0 : Int) ≤ ((T.toNat + 2 : Nat) : Int) := by omega
  have q3 : ((T.toNat + 2 : Nat) : Int) < ((polM T R' l' (T.toNat + 3)).length : Int) := by omega
  have hxN : x ≤ N := by omega
  have hl3 : Ev (fun k => privitylaw43_TapeshiftTriplePrivacy.l3 k p (polM T R l (T.toNat + 3)) (polM T R' l' (T.toNat + 3)) ((T.toNat + 2 : Nat) : Int) x (tabL T.toNat fun j => evI p x (R'.getD (j + 2) [])) ((T.toNat + 2 : Nat) : Int) p N T bad da db w) true := by
   have c1 : ¬ ((T.toNat + 2 : Nat) : Int) < ((T.toNat + 2 : Nat) : Int) := by omega
   refine Ev.step (f := fun k => (privityref10_Eval.f k p (matL (T.toNat + 1) (polG T R' l' 0)) x 0).bind fun t474 => ((privityref10_Eval.f k p (matL (T.toNat + 1) (polG T R' l' 1)) x 0).bind fun t476 => ((privityref10_Eval.f k p (matL (T.toNat + 1) (polG T R' l' (T.toNat + 2))) x 0).bind fun t478 => ((privityref21_Verify.f k p x t474 t476 (tabL T.toNat fun j => evI p x (R'.getD (j + 2) [])) t478).bind fun t479 => (if t479 = true then (privitylaw43_TapeshiftTriplePrivacy.l2 k p (polM T R l (T.toNat + 3)) (polM T R' l' (T.toNat + 3)) ((T.toNat + 2 : Nat) : Int) ((i + 1 + 1 : Nat) : Int) p N T bad da db w) else (some false)))))) (fun k => ?_)
    (Ev.bind v0 (Ev.bind v1 (Ev.bind vl (ev_if hv (fun _ => h2) fun h => by cases h))))
   simp only [privitylaw43_TapeshiftTriplePrivacy.l3]
   rw [if_neg c1,if_pos q0,r0,hwx.out]
   refine congrArg _ (funext fun t => ?_)
   rw [if_pos q1,r1]
   refine congrArg _ (funext fun t => ?_)
   rw [if_pos q2,if_pos q3,rl,hnx.out]
  have hl3' : Ev (fun k => privitylaw43_TapeshiftTriplePrivacy.l3 k p (polM T R l (T.toNat + 3)) (polM T R' l' (T.toNat + 3)) ((T.toNat + 2 : Nat) : Int) x (tabL 0 fun j => evI p x (R'.getD (j + 2) [])) ((0 + 2 : Nat) : Int) p N T bad da db w) true := by
   refine up (Q := fun j => Ev (fun k => privitylaw43_TapeshiftTriplePrivacy.l3 k p (polM T R l (T.toNat + 3)) (polM T R' l' (T.toNat + 3)) ((T.toNat + 2 : Nat) : Int) x (tabL j fun j => evI p x (R'.getD (j + 2) [])) ((j + 2 : Nat) : Int) p N T bad da db w) true) (n := T.toNat) hl3 fun j hj h3 => ?_
   have vj := h.val (i := j + 2) (by omega) rx
   have c1 : ((j + 2 : Nat) : Int) < ((T.toNat + 2 : Nat) : Int) := by omega
   have c2 : (0 : Int) ≤ ((j + 2 : Nat) : Int) := by omega
   have c3 : ((j + 2 : Nat) : Int) < ((polM T R' l' (T.toNat + 3)).length : Int) := by omega
   have c4 : (tabL j fun j => evI p x (R'.getD (j + 2) [])).length < 17592186044416 := by rw [tabL_length];omega
   have c6 : j + 2 < T.toNat + 3 := by omega
   rw [tabL_succ] at h3
   have c5 : wrap64 (((j + 2 : Nat) : Int) + 1) = ((j + 1 + 2 : Nat) : Int) := by
    have c7 : j + 2 < 1099511627776 := by omega
    exact wnat c7
   refine Ev.step (f := fun k => (privityref10_Eval.f k p (matL (T.toNat + 1) (polG T R' l' (j + 2))) x 0).bind fun t469 => (if (tabL j fun j => evI p x (R'.getD (j + 2) [])).length < 17592186044416 then (privitylaw43_TapeshiftTriplePrivacy.l3 k p (polM T R l (T.toNat + 3)) (polM T R' l' (T.toNat + 3)) ((T.toNat + 2 : Nat) : Int) x ((tabL j fun j => evI p x (R'.getD (j + 2) [])) ++ [t469]) ((j + 1 + 2 : Nat) : Int) p N T bad da db w) else (none))) (fun k => ?_)
    (Ev.bind vj (h3.congr fun k => if_pos c4))
   simp only [privitylaw43_TapeshiftTriplePrivacy.l3]
   rw [if_pos c1,if_pos c2,if_pos c3,rdP_nat,polM_getD c6,hwx.out,c5]
  rw [← hx]
  refine Ev.step (fun k => ?_) hl3'
  simp only [privitylaw43_TapeshiftTriplePrivacy.l2]
  rw [if_pos hxN];rfl
end
theorem secrets {p N T : Int} {bad : List Int} {R R' : List (List Int)} {l l' : List Int} {da db : Int} {w : List Int} (hp : Supp p) (hT : T = 1 ∨ T = 2) (da0 : 0 ≤ da) (db0 : 0 ≤ db) (r0 : Res p ((R.getD 0 []).getD 0 0)) (r1 : Res p ((R.getD 1 []).getD 0 0))
  (e0 : (R'.getD 0 []).getD 0 0 = ((R.getD 0 []).getD 0 0 + da % p) % p) (e1 : (R'.getD 1 []).getD 0 0 = ((R.getD 1 []).getD 0 0 + db % p) % p) (e2 : (R'.getD (T.toNat + 2) []).getD 0 0 = (R'.getD 0 []).getD 0 0 * (R'.getD 1 []).getD 0 0 % p) :
  Ev (fun k => privitylaw43_TapeshiftTriplePrivacy.l2 k p (polM T R l (T.toNat + 3)) (polM T R' l' (T.toNat + 3)) ((T.toNat + 2 : Nat) : Int) (N + 1) p N T bad da db w) true := by
 have hb := hp.bd
 have lo := polM_length T R l (T.toNat + 3)
 have ln := polM_length T R' l' (T.toNat + 3)
 obtain ⟨a1,a2,a3⟩ := sec43 (T := T) (R := R) (rests := l) (m := T.toNat + 3) (i := 0) (by omega)
 obtain ⟨b1,b2,b3⟩ := sec43 (T := T) (R := R) (rests := l) (m := T.toNat + 3) (i := 1) (by omega)
 obtain ⟨c1,c2,c3⟩ := sec43 (T := T) (R := R') (rests := l') (m := T.toNat + 3) (i := 0) (by omega)
 obtain ⟨d1,d2,d3⟩ := sec43 (T := T) (R := R') (rests := l') (m := T.toNat + 3) (i := 1) (by omega)
 obtain ⟨f1,f2,f3⟩ := sec43 (T := T) (R := R') (rests := l') (m := T.toNat + 3) (i := T.toNat + 2) (by omega)
 simp only [Int.ofNat_zero,Int.ofNat_one,show ((0 : Nat) : Int) = 0 from rfl,show ((1 : Nat) : Int) = 1 from rfl] at a1 a2 a3 b1 b2 b3 c1 c2 c3 d1 d2 d3
 have g1 : ¬ (N + 1) ≤ N := by omega
 have g2 : (0 : Int) < ((polM T R l (T.toNat + 3)).length : Int) := by omega
 have g3 : ¬ p = 0 := by omega
 have g4 : (1 : Int) < ((polM T R l (T.toNat + 3)).length : Int) := by omega
 have g5 : (0 : Int) < ((polM T R' l' (T.toNat + 3)).length : Int) := by omega
 have g6 : (1 : Int) < ((polM T R' l' (T.toNat + 3)).length : Int) := by omega
 have g7 : (0 : Int) ≤ ((T.toNat + 2 : Nat) : Int) := by omega
 have g8 : ((T.toNat + 2 : Nat) : Int) < ((polM T R' l' (T.toNat + 3)).length : Int) := by omega
 have m := rmul_ev hp (Res.mod hp ((R.getD 0 []).getD 0 0 + da % p)) (Res.mod hp ((R.getD 1 []).getD 0 0 + db % p))
 rw [e0,e1] at e2
 refine Ev.step (f := fun k => (privitylaw43_awake.f k).bind fun t488 => (if t488 = true then ((privityref01_Mul.f k p (((R.getD 0 []).getD 0 0 + da % p) % p) (((R.getD 1 []).getD 0 0 + db % p) % p)).bind fun t498 => (some ((R'.getD (T.toNat + 2) []).getD 0 0 == t498))) else (some false))) (fun k => ?_)
  (ev_if awake43 (fun _ => Ev.bind m (by rw [e2,beq_self_eq_true];exact Ev.now _)) fun h => by cases h)
 simp only [privitylaw43_TapeshiftTriplePrivacy.l2]
 rw [if_neg g1,if_pos g2,if_pos a1,if_pos a2,if_neg g3,a3,tmod_pos da0,radd_eq hp r0 (Res.mod hp _),Option.bind_some,if_pos g4,if_pos b1,if_pos b2,b3,tmod_pos db0,radd_eq hp r1 (Res.mod hp _),Option.bind_some]
 refine congrArg _ (funext fun t => ?_)
 rw [if_pos g5,if_pos c1,if_pos c2,c3,if_pos e0,if_pos g6,if_pos d1,if_pos d2,d3,if_pos e1,if_pos g7,if_pos g8,if_pos f1,if_pos f2,f3]
theorem TapeshiftTriplePrivacy (p N T : Int) (bad : List Int) (da db : Int) (w : List Int) (wp : (Lit.int .u64 p).wf = true) (wN : (Lit.int .i64 N).wf = true) (wT : (Lit.int .i64 T).wf = true) (wb : ∀ x_ ∈ bad,(Lit.int .i64 x_).wf = true) (wda : (Lit.int .u64 da).wf = true) (wdb : (Lit.int .u64 db).wf = true) (ww : ∀ x_ ∈ w,(Lit.int .u64 x_).wf = true) : ∃ k,privitylaw43_TapeshiftTriplePrivacy.f k p N T bad da db w = some true := by
 refine Ev.rounds (r := true) ?_
 unfold privitylaw43_TapeshiftTriplePrivacy.f
 refine ev_if (may_ev p N T bad da db w) (fun h => ?_) (fun _ => awake43')
 have hm := okM h
 have hp := hm.ok.hp
 have hb := hp.bd
 have hT := hm.t
 have hw : ∀ x ∈ w,0 ≤ x := fun x hx => (wf64 (ww x hx)).1
 have rda := Res.mod hp da
 have rdb := Res.mod hp db
 have da0 := (wf64 wda).1
 have db0 := (wf64 wdb).1
 have htri := triple_ev hp N hT bad da db hw
 have lh := hL_length p T w
 have ll := lL_length p T w
 have rh : ∀ x ∈ hL p T w,Res p x := cutL_res hp _ _ _
 have rl : ∀ x ∈ lL p T w,Res p x := cutL_res hp _ _ _
 have s1 := triH_smallP p N bad (da % p) (db % p) w hT
 have s2 := triR_smallP p N bad (da % p) (db % p) w hT
 have e1 := triH_len p N bad (da % p) (db % p) hT lh
 have e2 := triR_len p N bad (da % p) (db % p) hT (hL p T w) ll
 have ht := tri_eq h rda rdb rh rl lh ll
 have rH := triH_res (T := T) (N := N) hp bad (da % p) (db % p) (hL p T w)
 have rR := triR_res (T := T) (N := N) hp bad (da % p) (db % p) (hL p T w) (lL p T w)
 have P := parts p N T bad (da % p) (db % p) lh ll
 have p1 := polys_ev (N := N) hp hT rh lh ll
 have p2 := polys_ev (N := N) hp hT rH (by rw [e1,lh]) (by rw [e2,ll] : (triR p N T bad (da % p) (db % p) (hL p T w) (lL p T w)).length = (T.toNat + 3) * (T.toNat * (T.toNat + 1) / 2))
 have rs := fun i hi => rows_shift2 hm (da % p) (db % p) P lh e1 (i := i) hi
 have ps := fun i hi => piece_shift bad (da % p) (db % p) P (i := i) hi
 have la : ((hL p T w).take (T.toNat + 1)).length = T.toNat + 1 := by rw [List.length_take];omega
 have lb : (((hL p T w).drop (T.toNat + 1)).take (T.toNat + 1)).length = T.toNat + 1 := by rw [List.length_take,List.length_drop];omega
 have lE1 : ((triH p N T bad (da % p) (db % p) (hL p T w)).take (T.toNat + 1)).length = T.toNat + 1 := by rw [List.length_take];omega
 have lE2 : (((triH p N T bad (da % p) (db % p) (hL p T w)).drop (T.toNat + 1)).take (T.toNat + 1)).length = T.toNat + 1 := by rw [List.length_take,List.length_drop];omega
 have ok := fun i hi => rowsL_ok hp hT (res_take rh (T.toNat + 1)) (res_take (res_drop rh (T.toNat + 1)) (T.toNat + 1)) (res_drop rh (2 * (T.toNat + 1))) la lb i hi
 have hver := fun x => ver_true hp hT (r := (triH p N T bad (da % p) (db % p) (hL p T w)).drop (2 * (T.toNat + 1))) lE1 lE2 x
 have R0' : ∀ a b r : List Int,(rowsL p T a b r).getD 0 [] = a := fun a b r => by
  rcases hT with rfl|rfl
  ·rw [rowsL1];rfl
  ·rw [rowsL2];rfl
 have R1' : ∀ a b r : List Int,(rowsL p T a b r).getD 1 [] = b := fun a b r => by
  rcases hT with rfl|rfl
  ·rw [rowsL1];rfl
  ·rw [rowsL2];rfl
 have R2' : ∀ a b r : List Int,((rowsL p T a b r).getD (T.toNat + 2) []).getD 0 0 = a.getD 0 0 * b.getD 0 0 % p := fun a b r => by
  have e : ∀ v : Int,(0 + v % p) % p = v % p := fun v => by rw [Int.zero_add,Int.emod_emod_of_dvd _ (Int.dvd_refl p)]
  rcases hT with rfl|rfl
  ·rw [rowsL1];exact e _
  ·rw [rowsL2];exact e _
 obtain ⟨R,eR⟩ : ∃ R,R = rowsL p T ((hL p T w).take (T.toNat + 1)) (((hL p T w).drop (T.toNat + 1)).take (T.toNat + 1)) ((hL p T w).drop (2 * (T.toNat + 1))) := ⟨_,rfl⟩
 obtain ⟨R',eR'⟩ : ∃ R',R' = rowsL p T ((triH p N T bad (da % p) (db % p) (hL p T w)).take (T.toNat + 1)) (((triH p N T bad (da % p) (db % p) (hL p T w)).drop (T.toNat + 1)).take (T.toNat + 1)) ((triH p N T bad (da % p) (db % p) (hL p T w)).drop (2 * (T.toNat + 1))) := ⟨_,rfl⟩
 have k0 : R'.getD 0 [] = (triH p N T bad (da % p) (db % p) (hL p T w)).take (T.toNat + 1) := by rw [eR',R0']
 have k1 : R'.getD 1 [] = ((triH p N T bad (da % p) (db % p) (hL p T w)).drop (T.toNat + 1)).take (T.toNat + 1) := by rw [eR',R1']
 have k2 : (R'.getD (T.toNat + 2) []).getD 0 0 = (R'.getD 0 []).getD 0 0 * (R'.getD 1 []).getD 0 0 % p := by
  rw [k0,k1,eR',R2']
 rw [← eR,← eR'] at rs
 rw [← eR] at p1 ok
 rw [← eR'] at p2 hver
 have hz := vanZs hm.ok
 have h2 : Two43 p N T bad (vanZ p N T bad) (amt T (da % p) (db % p) (triW p N T bad (da % p) (db % p) (hL p T w))) R R' (lL p T w) (triR p N T bad (da % p) (db % p) (hL p T w) (lL p T w)) :=
  ⟨hp,hT,hz,ok,fun i hi => ⟨pieceL_length hT ll hi,res_take (res_drop rl _) _⟩,rs,ps⟩
 have hzero : ∀ (d : Int) (i : Nat) (hd : Res p d) (hi : i < T.toNat + 3),amt T (da % p) (db % p) (triW p N T bad (da % p) (db % p) (hL p T w)) i = d → (R'.getD i []).getD 0 0 = ((R.getD i []).getD 0 0 + d) % p := fun d i hd hi ea => by
  rw [rs i hi,ea,by_getD (by rw [(ok i hi).1];omega),hz.z0,Int.mul_one,hd.eq]
 have hsec := secrets (N := N) (bad := bad) (l := lL p T w) (l' := triR p N T bad (da % p) (db % p) (hL p T w) (lL p T w)) (w := w) hp hT da0 db0 (res_getD hp (ok 0 (by omega)).2 0) (res_getD hp (ok 1 (by omega)).2 0) (hzero (da % p) 0 rda (by omega) rfl) (hzero (db % p) 1 rdb (by omega) rfl) k2
 have hcoa := hm.ok.coa
 have hN : 0 ≤ N ∧ N ≤ 7 := ⟨by have := hcoa.n0;omega,hm.n7⟩
 have hchk := check_loop h2 hN hm.ok.np da db w (fun x rx => by rw [k0,k1];exact hver x) hsec
 have hrow := rows_loop h2 hN hm.ok.np (fun x hx => ⟨by have := hcoa.rng x hx;omega,extB_has hcoa x hx⟩) (by have h1 := hcoa.len;have h2 := hcoa.t1;omega) da db w hchk
 have hbel : Ev (fun k => privityref14_Below.f k p [triH p N T bad (da % p) (db % p) (hL p T w),triR p N T bad (da % p) (db % p) (hL p T w) (lL p T w)] 100) true := by
  refine below14P_ev p _ (by simp) fun i hi => ?_
  have hi4 : i < 2 := hi
  have key : ∀ r : List Int,r.length ≤ 100 → (∀ x ∈ r,Res p x) → r.length ≤ 100 ∧ ∀ j,j < r.length → r.getD j 0 < p := fun r h1 h2 => ⟨h1,fun j hj => (res_getD hp h2 j).2⟩
  have c : i = 0 ∨ i = 1 := by omega
  rcases c with rfl|rfl
  ·exact key (triH p N T bad (da % p) (db % p) (hL p T w)) (by omega) rH
  ·exact key (triR p N T bad (da % p) (db % p) (hL p T w) (lL p T w)) (by omega) rR
 rw [tmod_pos da0,tmod_pos db0]
 refine Ev.bind htri ?_
 refine Ev.congr (fun k => if_neg (by omega)) (ev_now_bind ht ?_)
 refine Ev.congr (fun k => if_pos (by show ((triH p N T bad (da % p) (db % p) (hL p T w)).length : Int) = ((hL p T w).length : Int);rw [e1])) ?_
 refine Ev.congr (fun k => if_pos (by show ((triR p N T bad (da % p) (db % p) (hL p T w) (lL p T w)).length : Int) = ((lL p T w).length : Int);rw [e2])) ?_
 refine Ev.bind hbel ?_
 refine Ev.step (f := fun k => (privityref43_Polys.f k p N T (hL p T w) (lL p T w)).bind fun t451 => ((privityref43_Polys.f k p N T (triH p N T bad (da % p) (db % p) (hL p T w)) (triR p N T bad (da % p) (db % p) (hL p T w) (lL p T w))).bind fun t454 => (privitylaw43_TapeshiftTriplePrivacy.l0 k p t451 t454 0 p N T bad da db w))) (fun k => ?_) (Ev.bind p1 (Ev.bind p2 hrow))
 simp only [privitylaw43_TapeshiftTriplePrivacy.j0,Bool.not_true]
 rw [if_neg (by simp)]
end Go.Proofs.Ytejeelpnmdfibaa.Pure
end
section
namespace Go.Proofs.Ytejeelpnmdfibaa.Op
open Go.RowKit Go.Proofs.YtejeelpnmdfibaaW.PrintWords
def OpenK {α : Type} (P : Program) (t : TypeId) (d : Kd α) (Q : α → Prop) : Prop :=
 ∀ {H : Type} {enc : TypeId × Value → H} {w : World} {base : Nat} {sp : Nat → Bool} {hd : Bool} {fuel : Nat} {cs : List Value} {x : DataW H × List MemPlace},DataW.trod enc P w base sp hd fuel t cs = some x → ∃ v : α,d.K w v cs ∧ Q v
theorem openInt {P : Program} {t : TypeId} {k : IntKind} (ht : P.underlying t = some (.int k)) : OpenK P t (Kd.int k) (fun n => (Lit.int k n).wf = true) := by
 intro H enc w base sp hd fuel cs x h
 obtain ⟨n,rfl,_,hw⟩ := DataW.trod_int ht h
 exact ⟨n,rfl,hw⟩
theorem exists_list {α : Type} {R : Nat → α → Prop} : ∀ (n : Nat),(∀ i,i < n → ∃ v,R i v) → ∃ l : List α,l.length = n ∧ ∀ i v,l[i]? = some v → R i v
 | 0,_ => ⟨[],rfl,fun i v h => by simp at h⟩
 | n + 1,h => by
  obtain ⟨l,hl,hr⟩ := exists_list n (fun i hi => h i (by omega))
  obtain ⟨v,hv⟩ := h n (by omega)
  refine ⟨l ++ [v],by simp [hl],fun i u hu => ?_⟩
  by_cases hi : i < n
  ·rw [List.getElem?_append_left (by omega)] at hu
   exact hr i u hu
  ·rw [List.getElem?_append_right (by omega)] at hu
   by_cases h0 : i - l.length = 0
   ·rw [h0] at hu
    simp only [List.getElem?_cons_zero,Option.some.injEq] at hu
    rw [← hu,show i = n from by omega];exact hv
   ·rw [List.getElem?_eq_none (by simp;omega)] at hu;cases hu
theorem openSlice {α : Type} {P : Program} {t e : TypeId} {d : Kd α} {Q : α → Prop} (ht : P.underlying t = some (.slice e)) (hc : P.cellsOf e = d.sz) (he : OpenK P e d Q) : OpenK P t (Kd.slice e d) (fun l => ∀ x ∈ l,Q x) := by
 intro H enc w base sp hd fuel cs x h
 rcases DataW.trod_slice ht h with ⟨rfl,_⟩|⟨a,len,cap,elems,rest,n,_,rfl,_,_,hlc,hm,hlen,hel,_,_⟩
 ·exact ⟨[],⟨none,0,rfl,Nat.le_refl _,rfl,Nat.zero_le _,fun h => absurd h (Nat.lt_irrefl 0)⟩,fun x hx => by cases hx⟩
 ·have each : ∀ i,i < len → ∃ v,(∃ c,c.length = d.sz ∧ d.K w v c ∧ ∀ j u,c[j]? = some u → w.cell? (a.add (i * d.sz + j)) = some u) ∧ Q v := by
   intro i hi
   have h1 := hel i hi
   rw [List.getElem?_eq_getElem (by omega),hc] at h1
   obtain ⟨c,hcs,htr⟩ := Option.bind_eq_some_iff.1 h1
   obtain ⟨v,hk,hq⟩ := he htr
   refine ⟨v,⟨c,d.K_len hk,hk,fun j u hu => ?_⟩,hq⟩
   have h2 := World.cells?_some hcs
   have hj := (List.getElem?_eq_some_iff.1 hu).1
   have h3 := h2.2.2 j (by rw [← d.K_len hk];exact hj)
   rw [hu] at h3
   rw [← h3,← Addr.add_add]
  obtain ⟨l,hl,hr⟩ := exists_list len each
  refine ⟨l,⟨some a,cap,by rw [hl],by omega,rfl,by rw [hl];simp only [maxLen] at hm;omega,fun _ => ⟨a,rfl,fun j p hj => (hr j p hj).1⟩⟩,fun x hx => ?_⟩
  obtain ⟨i,hi,rfl⟩ := List.getElem_of_mem hx
  exact (hr i _ (List.getElem?_eq_getElem hi)).2
theorem openFields {P : Program} {H : Type} {enc : TypeId × Value → H} {w : World} {base : Nat} {sp : Nat → Bool} {hd : Bool} {fuel : Nat} {t : TypeId} {cs : List Value} {x : DataW H × List MemPlace} {fs : Array Field} (ht : P.underlying t = some (.struct fs))
  (h : DataW.trod enc P w base sp hd fuel t cs = some x) : cs.length = P.cellsOf t ∧ ∀ (i : Nat) (f : Field),fs[i]? = some f → ∃ n y,DataW.trod enc P w base sp hd n f.type ((cs.drop f.offset).take (P.cellsOf f.type)) = some y := by
 obtain ⟨xs,n,_,_,hl,hlen,hf⟩ := DataW.trod_struct ht h
 refine ⟨hl,fun i f hi => ?_⟩
 have h1 := hf i f hi
 have h2 : i < fs.size := (Array.getElem?_eq_some_iff.1 hi).1
 rw [List.getElem?_eq_getElem (by omega)] at h1
 exact ⟨n,_,h1⟩
end Go.Proofs.Ytejeelpnmdfibaa.Op
end
section
/- The row of the law TapeshiftTriplePrivacy, out of its plain law and the walk. -/
namespace Go.Proofs.Ytejeelpnmdfibaa.tapeshiftTriplePrivacy
open Go.ChangeShapes Go.WideShapes Go.ChangeAt Go.RowKit Go.Proofs.Ytejeelpnmdfibaa.Pr Go.Proofs.YtejeelpnmdfibaaW.PrintWords
theorem own : ownKnob Try.prog.godebug = none := by kernel_rfl
theorem laidOut : laidOutB Try.prog = true := by kernel_rfl
set_option maxRecDepth 100000 in
theorem arr7 (cs : Array Value) (h : cs.size = 7) : ∃ c0_ c1_ c2_ c3_ c4_ c5_ c6_, cs = #[c0_, c1_, c2_, c3_, c4_, c5_, c6_] := by
  obtain ⟨l_⟩ := cs
  match l_, h with
  | [c0_, c1_, c2_, c3_, c4_, c5_, c6_], _ => exact ⟨_, _, _, _, _, _, _, rfl⟩
set_option maxHeartbeats 4000000 in
set_option maxRecDepth 100000 in
theorem lifted (os : Os) (started : os.Started) (H : Type) (enc : TypeId × Value → H) :
    ReturnsInHanded {} Try.checked os 8 .any (Rows.tapeshiftTriplePrivacySpec.pre6 enc Try.prog Try.f8 Rows.tapeshiftTriplePrivacyRow.domain false) (Rows.tapeshiftTriplePrivacySpec.post enc Try.prog Try.f8 false true false false) := by
  refine returnsInHanded_of_change_sized (C := Try.checked) own started (by kernel_rfl) Try.func8
    (ChangeSpec.witness6 (enc := enc) (C := Try.checked) false ⟨#[], #[.agg #[.int .u64 0, .int .i64 0, .int .i64 0, .slice none 0 0, .int .u64 0, .int .u64 0, .slice none 0 0]], []⟩ 8 (by kernel_rfl) (by kernel_rfl) (by kernel_rfl) (by kernel_rfl)) ?_
  intro W base args ds gs before hval0 hW hcnd hsz0 _
  have hval : ∀ (j : Nat) t v, Try.f8.params[j]? = some t → args[j]? = some v → Value.okWide Try.prog W .any base t v := hval0
  have hW' := hW
  obtain ⟨p, q, hA0, hV, rfl, hfz, hnd⟩ := hW
  have hA : DataW.TrodAll enc Try.prog W 0 (fun _ => true) true Try.f8.params.toList args.toList ds p := hA0
  rw [Try.params8] at hA hval
  obtain ⟨v0, vs0, d0, ds0, p0, q0, hargs, rfl, rfl, h0, r0⟩ := trodAll_cons hA
  obtain ⟨rfl, rfl, rfl⟩ := trodAll_nil r0
  obtain rfl : args = #[v0] := by cases args; simp_all
  obtain ⟨rfl, rfl⟩ := trodVars_none hV
  have k0 := h0
  have lt0 : ∀ x ∈ p0, x.block < W.heap.size := by obtain ⟨m, hm⟩ := k0; exact DataW.trod_lt m _ _ _ hm
  obtain ⟨cs0, rfl, hs0⟩ := okWide_struct Try.underlying28 (hval 0 28 v0 rfl rfl)
  have hN0 : Try.prog.cellsOf 28 = 7 := by kernel_rfl
  rw [hN0] at hs0
  obtain ⟨x0_0, x0_1, x0_2, x0_3, x0_4, x0_5, x0_6, rfl⟩ := arr7 cs0 hs0
  obtain ⟨fu0, hf0⟩ := h0
  have hg0 : DataW.trod enc Try.prog W 0 (fun _ => true) true fu0 28 [x0_0, x0_1, x0_2, x0_3, x0_4, x0_5, x0_6] = some (d0, p0) := hf0
  have f0 := (Op.openFields Try.underlying28 hg0).2
  obtain ⟨n0_0, y0_0, e0_0⟩ := f0 0 _ rfl
  have b0_0 : DataW.trod enc Try.prog W 0 (fun _ => true) true n0_0 24 [x0_0, x0_1, x0_2] = some y0_0 := e0_0
  have f0_0 := (Op.openFields Try.underlying24 b0_0).2
  obtain ⟨n0_0_0, y0_0_0, e0_0_0⟩ := f0_0 0 _ rfl
  have b0_0_0 : DataW.trod enc Try.prog W 0 (fun _ => true) true n0_0_0 22 [x0_0] = some y0_0_0 := e0_0_0
  obtain ⟨a0_0_0, e0_0_0, w0_0_0⟩ := (Op.openInt (k := .u64) Try.underlying22) b0_0_0
  cases e0_0_0
  obtain ⟨n0_0_1, y0_0_1, e0_0_1⟩ := f0_0 1 _ rfl
  have b0_0_1 : DataW.trod enc Try.prog W 0 (fun _ => true) true n0_0_1 3 [x0_1] = some y0_0_1 := e0_0_1
  obtain ⟨a0_0_1, e0_0_1, w0_0_1⟩ := (Op.openInt (k := .i64) Try.underlying3) b0_0_1
  cases e0_0_1
  obtain ⟨n0_0_2, y0_0_2, e0_0_2⟩ := f0_0 2 _ rfl
  have b0_0_2 : DataW.trod enc Try.prog W 0 (fun _ => true) true n0_0_2 3 [x0_2] = some y0_0_2 := e0_0_2
  obtain ⟨a0_0_2, e0_0_2, w0_0_2⟩ := (Op.openInt (k := .i64) Try.underlying3) b0_0_2
  cases e0_0_2
  obtain ⟨n0_1, y0_1, e0_1⟩ := f0 1 _ rfl
  have b0_1 : DataW.trod enc Try.prog W 0 (fun _ => true) true n0_1 25 [x0_3] = some y0_1 := e0_1
  obtain ⟨z0_1, ⟨A0_1, c0_1, e0_1, hc0_1, g0_1⟩, w0_1⟩ := (Op.openSlice (d := (Kd.int .i64)) Try.underlying25 (by kernel_rfl) (Op.openInt (k := .i64) Try.underlying3)) b0_1
  cases e0_1
  obtain ⟨n0_2, y0_2, e0_2⟩ := f0 2 _ rfl
  have b0_2 : DataW.trod enc Try.prog W 0 (fun _ => true) true n0_2 22 [x0_4] = some y0_2 := e0_2
  obtain ⟨a0_2, e0_2, w0_2⟩ := (Op.openInt (k := .u64) Try.underlying22) b0_2
  cases e0_2
  obtain ⟨n0_3, y0_3, e0_3⟩ := f0 3 _ rfl
  have b0_3 : DataW.trod enc Try.prog W 0 (fun _ => true) true n0_3 22 [x0_5] = some y0_3 := e0_3
  obtain ⟨a0_3, e0_3, w0_3⟩ := (Op.openInt (k := .u64) Try.underlying22) b0_3
  cases e0_3
  obtain ⟨n0_4, y0_4, e0_4⟩ := f0 4 _ rfl
  have b0_4 : DataW.trod enc Try.prog W 0 (fun _ => true) true n0_4 26 [x0_6] = some y0_4 := e0_4
  obtain ⟨z0_4, ⟨A0_4, c0_4, e0_4, hc0_4, g0_4⟩, w0_4⟩ := (Op.openSlice (d := (Kd.int .u64)) Try.underlying26 (by kernel_rfl) (Op.openInt (k := .u64) Try.underlying22)) b0_4
  cases e0_4
  clear hA0 hval0 hsz0
  obtain ⟨kk, hk⟩ := Pure.TapeshiftTriplePrivacy a0_0_0 a0_0_1 a0_0_2 z0_1 a0_2 a0_3 z0_4 w0_0_0 w0_0_1 w0_0_2 w0_1 w0_2 w0_3 w0_4
  refine (privitylaw43_TapeshiftTriplePrivacy.calls kk a0_0_0 a0_0_1 a0_0_2 _ _ z0_1 a0_2 a0_3 _ _ z0_4 true W g0_1 hc0_1 g0_4 hc0_4 rfl hk).mono fun e W' ⟨he, bel⟩ => ?_
  subst he
  exact ⟨_, rfl, _, _, _, [], _, [], hW', trodAll_mk1 (shut_bool Try.underlying4 _), (trodAll_cons_mk (Below.trod laidOut (by kernel_rfl) (of_decide_eq_true (by kernel_rfl)) k0 bel lt0) trodAll_mk0), rfl, bel.frame _, fun h => by cases h⟩
theorem over : Rows.tapeshiftTriplePrivacyRow.holds Try.pinned (OpenSpec.ofChange Rows.tapeshiftTriplePrivacySpec) :=
  OpenClaim.holds_of_wide 8 Try.f8 rfl rfl rfl rfl rfl rfl rfl ⟨rfl, rfl, rfl, rfl, rfl⟩ rfl rfl rfl rfl rfl (by kernel_rfl) Try.func8 (by kernel_rfl)
    (of_decide_eq_true (by kernel_rfl)) (by unfold Func.isWrapper; first | (rw [if_pos (by decide +kernel)]; kernel_rfl) | (rw [if_neg (by decide +kernel)]; exact ⟨rfl, rfl⟩))
    (fun os started H enc _ => lifted os started H enc)
theorem proved : Rows.TapeshiftTriplePrivacySaid := over
#print axioms proved
end Go.Proofs.Ytejeelpnmdfibaa.tapeshiftTriplePrivacy
namespace Go.Proofs.Ytejeelpnmdfibaa
/-- The row, under a short name, for the claim. -/
theorem tapeshiftTriplePrivacy_holds : Rows.TapeshiftTriplePrivacySaid := tapeshiftTriplePrivacy.proved
end Go.Proofs.Ytejeelpnmdfibaa
end
