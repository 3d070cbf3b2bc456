/- The row of the law TapeshiftShift, out of its plain law and the walk. -/
import Derived.Test.YtejeelpnmdfibaaZTSh7
import Derived.Test.YtejeelpnmdfibaaZTSh3
import Derived.Test.YtejeelpnmdfibaaZTSh2
import Derived.Test.YtejeelpnmdfibaaZTSh5
import Derived.Test.YtejeelpnmdfibaaZTSh6
import Derived.Test.YtejeelpnmdfibaaProg
import Derived.ChangeArms
import Derived.DataReads
import Derived.DataElems
import Derived.ShutString
import Derived.ChangeSame
import Derived.OpenShut
import Derived.Test.YtejeelpnmdfibaaZTSh0
import Derived.Test.YtejeelpnmdfibaaRows
import Derived.WalkKit
import Derived.ProofKit
import Derived.ChangeOld
import Derived.Below
import Derived.SizedLaws
section
namespace Go.Proofs.Ytejeelpnmdfibaa.E
open Go.RowKit Go.Proofs.Ytejeelpnmdfibaa.Pr Go.Proofs.Ytejeelpnmdfibaa.Hw Go.Proofs.Ytejeelpnmdfibaa.Pl Go.Proofs.YtejeelpnmdfibaaW.PrintWords Go.Proofs.YtejeelpnmdfibaaW.PrintLast Go.Proofs.YtejeelpnmdfibaaW.PrintMore
set_option linter.unusedVariables false
set_option linter.unusedSimpArgs false
theorem in_ev (l : List Int) (x : Int) (hl : l.length ≤ 1000) : Ev (fun k => privityref12_In.f k l x) (decide (x ∈ l)) := by
 unfold privityref12_In.f
 by_cases hx : x ∈ l
 ·rw [decide_eq_true hx]
  obtain ⟨i,hi,e⟩ := List.getElem_of_mem hx
  refine up (Q := fun j => Ev (fun k => privityref12_In.l0 k l x (j : Int)) true) (n := i) ?_ fun j hj h => ?_
  ·refine Ev.step (fun k => ?_) (Ev.now _)
   simp only [privityref12_In.l0]
   rw [if_pos (by omega),if_pos (by omega),rd_nat,Hw.getD_in _ _ hi,if_pos e]
  ·by_cases he : l.getD j 0 = x
   ·refine Ev.step (fun k => ?_) (Ev.now _)
    simp only [privityref12_In.l0]
    rw [if_pos (by omega),if_pos (by omega),rd_nat,if_pos he]
   ·refine Ev.step (fun k => ?_) h
    simp only [privityref12_In.l0]
    rw [if_pos (by omega),if_pos (by omega),rd_nat,if_neg he,wnat (by omega)]
 ·rw [decide_eq_false hx]
  refine up (Q := fun j => Ev (fun k => privityref12_In.l0 k l x (j : Int)) false) (n := l.length) ?_ fun j hj h => ?_
  ·refine Ev.step (fun k => ?_) (Ev.now _)
   simp only [privityref12_In.l0]
   rw [if_neg (by omega)]
  ·have he : l.getD j 0 ≠ x := fun e => hx (by rw [← e,Hw.getD_in _ _ hj];exact List.getElem_mem _)
   refine Ev.step (fun k => ?_) h
   simp only [privityref12_In.l0]
   rw [if_pos (by omega),if_pos (by omega),rd_nat,if_neg he,wnat (by omega)]
theorem rext_l0 (p N T : Int) (bad : List Int) (hl : bad.length ≤ 1000) (hN : N ≤ 13) : ∀ (n : Nat) (m lack : Int) (acc : List Int),1 ≤ m → m + n = N + 1 → -1000 ≤ lack → lack ≤ 1000 → (acc.length : Int) + 1 ≤ m →
  Ev (fun k => privityref12_ExtendCoalition.l0 k bad lack acc m p N T) (acc ++ extL bad n m lack)
 | 0,m,lack,acc,h1,h2,_,_,_ => by
  refine Ev.step (fun k => ?_) (Ev.now _)
  simp only [privityref12_ExtendCoalition.l0]
  rw [if_neg (by omega),extL,List.append_nil]
 | n + 1,m,lack,acc,h1,h2,h3,h4,h5 => by
  have hw : wrap64 (m + 1) = m + 1 := w64' (by omega) (by omega)
  refine Ev.step (f := fun k => (privityref12_In.f k bad m).bind fun t412 => (if t412 = true then (if acc.length < 17592186044416 then (privityref12_ExtendCoalition.l0 k bad lack (acc ++ [m]) (wrap64 (m + 1)) p N T) else (none)) else (if lack > 0 then (if acc.length < 17592186044416 then (privityref12_ExtendCoalition.l0 k bad (wrap64 (lack - 1)) (acc ++ [m]) (wrap64 (m + 1)) p N T) else (none)) else (privityref12_ExtendCoalition.l0 k bad lack acc (wrap64 (m + 1)) p N T)))) (fun k => ?_) ?_
  ·simp only [privityref12_ExtendCoalition.l0]
   rw [if_pos (by omega)]
  ·refine ev_if (in_ev bad m hl) (fun h => ?_) (fun h => ?_)
   ·rw [decide_eq_true_eq] at h
    refine ev_ite (fun _ => ?_) (fun h => absurd (show acc.length < 17592186044416 by omega) h)
    rw [hw,ext_yes h]
    have := rext_l0 p N T bad hl hN n (m + 1) lack (acc ++ [m]) (by omega) (by omega) h3 h4 (by rw [List.length_append];simp only [List.length_cons,List.length_nil];omega)
    rwa [List.append_assoc] at this
   ·rw [decide_eq_false_iff_not] at h
    refine ev_ite (fun hk => ?_) (fun hk => ?_)
    ·refine ev_ite (fun _ => ?_) (fun h => absurd (show acc.length < 17592186044416 by omega) h)
     rw [hw,ext_more h hk,w64' (n := lack - 1) (by omega) (by omega)]
     have := rext_l0 p N T bad hl hN n (m + 1) (lack - 1) (acc ++ [m]) (by omega) (by omega) (by omega) (by omega) (by rw [List.length_append];simp only [List.length_cons,List.length_nil];omega)
     rwa [List.append_assoc] at this
    ·rw [hw,ext_skip h hk]
     exact rext_l0 p N T bad hl hN n (m + 1) lack acc (by omega) (by omega) h3 h4 (by omega)
theorem rext_ev {p N T : Int} {bad : List Int} (h : Ok12 p N T bad) : Ev (fun k => privityref12_ExtendCoalition.f k p N T bad) (extB N T bad) := by
 have h1 := h.coa.n0
 have h2 := h.coa.n1
 have h3 := h.coa.len
 have h4 := h.coa.t1
 unfold privityref12_ExtendCoalition.f
 rw [w64' (by omega) (by omega)]
 have := rext_l0 p N T bad (by omega) h2 N.toNat 1 (T - bad.length) [] (by omega) (by omega) (by omega) (by omega) (by simp)
 rwa [List.nil_append] at this
theorem Ok12.len {p N T : Int} {bad : List Int} (h : Ok12 p N T bad) : bad.length ≤ 13 ∧ (extB N T bad).length ≤ 13 := by
 have h1 := h.coa.n0
 have h2 := h.coa.n1
 have h3 := h.coa.len
 have h4 := h.coa.t1
 have h5 := extB_length h.coa
 omega
theorem rvan_l0 {p : Int} (hp : Supp p) (N T : Int) (l : List Int) (hl : l.length ≤ 1000) (hr : ∀ x ∈ l,Res p x ∧ x ≠ 0) : ∀ (d i : Nat) (f : List Int),i + d = l.length → (∀ x ∈ f,Res p x) → f.length ≤ i + 1 →
  Ev (fun k => privityref12_VanishingPolynomial.l0 k f l (i : Int) p N T) ((l.drop i).foldl (vanStep p) f)
 | 0,i,f,h,hf,hfl => by
  refine Ev.step (fun k => ?_) (Ev.now _)
  simp only [privityref12_VanishingPolynomial.l0]
  rw [if_neg (by omega),List.drop_of_length_le (by omega)];rfl
 | d + 1,i,f,h,hf,hfl => by
  have hi : i < l.length := by omega
  obtain ⟨hx,hx0⟩ := hr l[i] (List.getElem_mem hi)
  have hb := hp.bd
  have hw : IntKind.u64.wrap (rd l (i : Int)) = l[i] := by
   rw [rd_nat,Hw.getD_in _ _ hi]
   have h1 := hx.1
   have h2 := hx.2
   exact wrapU_id (by omega) (by omega)
  have hinv : Res p (invp p l[i]) := by unfold invp;exact Res.mod hp _
  have hone : Res p 1 := ⟨by omega,by omega⟩
  have hstep := rvan_l0 hp N T l hl hr d (i + 1) (vanStep p f l[i]) (by omega) (vanStep_res hp _ _) (Nat.le_trans (vanStep_length _ _ _) (by omega))
  have e : (l.drop i).foldl (vanStep p) f = (l.drop (i + 1)).foldl (vanStep p) (vanStep p f l[i]) := by rw [List.drop_eq_getElem_cons hi];rfl
  rw [e]
  refine Ev.step (f := fun k => (privityref01_Inverse.f k p l[i]).bind fun bt => ((privityref01_Neg.f p bt.1).bind fun t => ((privityref04_Mul.f k p f (([1,t] : List Int))).bind fun u => (privityref12_VanishingPolynomial.l0 k u l ((i + 1 : Nat) : Int) p N T)))) (fun k => ?_) ?_
  ·simp only [privityref12_VanishingPolynomial.l0]
   rw [if_pos (by omega),if_pos (by omega),hw,wnat (by omega)]
  ·refine Ev.bind (rinv_ev hp hx hx0) (ev_now_bind (rneg_eq hp hinv) (Ev.bind (rmulL_ev hp hf ?_ (by omega) (by simp)) hstep))
   intro x hm
   simp only [List.mem_cons,List.not_mem_nil,or_false] at hm
   rcases hm with rfl|rfl
   ·exact hone
   ·exact Res.mod hp _
theorem rvan_ev {p N T : Int} {bad : List Int} (h : Ok12 p N T bad) : Ev (fun k => privityref12_VanishingPolynomial.f k p N T bad) (vanZ p N T bad) := by
 have hp := h.hp
 have hb := hp.bd
 have hnp := h.np
 unfold privityref12_VanishingPolynomial.f
 refine Ev.bind (rext_ev h) ?_
 have := rvan_l0 hp N T (extB N T bad) (by have := h.len;omega) (fun x hx => by have := extB_range h.coa x hx;exact ⟨⟨by omega,by omega⟩,by omega⟩) (extB N T bad).length 0 [1] (by omega) (fun x hm => by
  simp only [List.mem_cons,List.not_mem_nil,or_false] at hm
  subst hm;exact ⟨by omega,by omega⟩) (by simp)
 rw [List.drop_zero,vanFold_eq hp h.van] at this
 exact this
theorem idxR {T : Int} (hT : T = 1 ∨ T = 2) {k j : Nat} (h1 : 1 ≤ k) (hk : k ≤ 5) (hj : j ≤ 5) : wrap64 (wrap64 (wrap64 ((k : Int) - 1) * T) + (j : Int)) = (((k - 1) * T.toNat + j : Nat) : Int) := by
 rcases hT with rfl|rfl
 ·rw [w64' (n := (k : Int) - 1) (by omega) (by omega),w64' (n := ((k : Int) - 1) * 1) (by omega) (by omega),w64' (by omega) (by omega)]
  show _ = (((k - 1) * 1 + j : Nat) : Int)
  omega
 ·rw [w64' (n := (k : Int) - 1) (by omega) (by omega),w64' (n := ((k : Int) - 1) * 2) (by omega) (by omega),w64' (by omega) (by omega)]
  show _ = (((k - 1) * 2 + j : Nat) : Int)
  omega
theorem oneR {T : Int} (hT : T = 1 ∨ T = 2) : wrap64 (Int.tdiv (wrap64 (T * wrap64 (T + 1))) 2) = ((T.toNat * (T.toNat + 1) / 2 : Nat) : Int) := by
 rcases hT with rfl|rfl <;> kernel_rfl
theorem mulR {O i : Nat} (hO : O = 1 ∨ O = 3) (hi : i ≤ 10) : wrap64 ((i : Int) * (O : Int)) = ((i * O : Nat) : Int) := by
 rcases hO with rfl|rfl
 ·rw [w64' (by omega) (by omega)];omega
 ·rw [w64' (by omega) (by omega)];omega
theorem toR {T : Int} (hT : T = 1 ∨ T = 2) : wrap64 (T + 1) = ((T.toNat + 1 : Nat) : Int) := by
 rcases hT with rfl|rfl <;> kernel_rfl
theorem toR2 {T : Int} (hT : T = 1 ∨ T = 2) : wrap64 (wrap64 (2 * T) + 2) = ((2 * (T.toNat + 1) : Nat) : Int) := by
 rcases hT with rfl|rfl <;> kernel_rfl
section
variable {p N T da db : Int} {bad z rests a b r w : List Int} (hp : Supp p) (hT : T = 1 ∨ T = 2) (hz : Zs p N T bad z) (rr : ∀ x ∈ rests,Res p x)
include hT
theorem tri_l0 {acc : List Int} (la : acc.length ≤ 100) {i : Nat} (hi : (i : Int) ≤ T) {X : List Int × List Int} (h : Ev (fun k => privityref43_Triple.l0 k da db rests p T z a b r w (acc ++ [w.getD i 0]) ((i + 1 : Nat) : Int)) X) :
  Ev (fun k => privityref43_Triple.l0 k da db rests p T z a b r w acc (i : Int)) X := by
 refine Ev.step (fun k => ?_) h
 simp only [privityref43_Triple.l0]
 rw [if_pos hi,rcoef_eq,Option.bind_some,if_pos (by omega),wnat (by omega)]
include hp hz in
theorem tri_l2i (W : List Int) (hr : ∀ x ∈ r,Res p x) {m s : Nat} {V : Int} {F : Nat → Int} (hs : s = (m - 1) * T.toNat) (h1 : 1 ≤ m) (hm : m ≤ 3) (lW : m + 1 < W.length) (lr : s + T.toNat ≤ r.length) (hV : V = W.getD (m + 1) 0) (rV : Res p V) (hF : ∀ j,j < T.toNat → F j = (r.getD (s + j) 0 + V * z.getD j 0 % p) % p) {out : List Int} (lo : out.length ≤ 100) {X : List Int × List Int}
  (h : Ev (fun k => privityref43_Triple.l1 k rests p T z r W (out ++ tabL T.toNat F) ((m + 1 : Nat) : Int)) X) :
  Ev (fun k => privityref43_Triple.l2 k rests p T z r W out (m : Int) 0) X := by
 have hzl := hz.len
 have hzr := hz.res
 have hT2 : T.toNat ≤ 2 := by omega
 have hTn : (T.toNat : Int) = T := by omega
 have hidx_ : ∀ j : Nat,j ≤ 5 → wrap64 (wrap64 (wrap64 ((m : Int) - 1) * T) + (j : Int)) = ((s + j : Nat) : Int) := fun j hj => by rw [hs];exact idxR hT h1 (by omega) hj
 have hidx := Aside0.mk hidx_
 clear hidx_ hs hz hT
 have hin := up (Q := fun j => Ev (fun k => privityref43_Triple.l2 k rests p T z r W (out ++ tabL j F) (m : Int) (j : Int)) X) (n := T.toNat) ?_ fun j hj h2 => ?_
 ·rw [show tabL 0 F = [] from rfl,List.append_nil] at hin;exact hin
 ·refine Ev.step (fun k => ?_) h
  simp only [privityref43_Triple.l2]
  rw [if_neg (by omega),wnat (by omega)]
 ·rw [tabL_succ,← List.append_assoc,hF j hj] at h2
  obtain ⟨O,hO⟩ : ∃ O,O = out ++ tabL j F := ⟨_,rfl⟩
  have lO : O.length < 17592186044416 := by rw [hO,List.length_append,tabL_length];omega
  rw [← hO] at h2 ⊢
  have c0 : j ≤ 5 := by omega
  have cm : m < 1099511627776 := by omega
  have cj : j < 1099511627776 := by omega
  have c1 : (j : Int) < T := by omega
  have c2 : (0 : Int) ≤ ((s + j : Nat) : Int) := by omega
  have c3 : ((s + j : Nat) : Int) < (r.length : Int) := by omega
  have c4 : (0 : Int) ≤ ((m + 1 : Nat) : Int) := by omega
  have c5 : ((m + 1 : Nat) : Int) < (W.length : Int) := by omega
  have c6 : (0 : Int) ≤ (j : Int) := by omega
  have c7 : (j : Int) < (z.length : Int) := by omega
  refine Ev.step (f := fun k => (privityref01_Mul.f k p V (z.getD j 0)).bind fun t725 => ((privityref01_Add.f p (r.getD (s + j) 0) t725).bind fun t726 => (if O.length < 17592186044416 then (privityref43_Triple.l2 k rests p T z r W (O ++ [t726]) (m : Int) ((j + 1 : Nat) : Int)) else (none)))) (fun k => ?_)
   (Ev.bind (rmul_ev hp rV (res_getD hp hzr j)) (ev_now_bind (radd_eq hp (res_getD hp hr _) (Res.mod hp _)) (h2.congr fun k => if_pos lO)))
  simp only [privityref43_Triple.l2]
  rw [hidx.out j c0,wnat cm,wnat cj,if_pos c1,if_pos c2,if_pos c3,if_pos c4,if_pos c5,if_pos c6,if_pos c7,rd_nat,rd_nat,rd_nat,← hV]
include hp hz in
theorem tri_l2 (W : List Int) (hW : ∀ x ∈ W,Res p x) (hr : ∀ x ∈ r,Res p x) {m : Nat} (h1 : 1 ≤ m) (hm : (m : Int) ≤ T) (lW : m + 1 < W.length) (lr : r.length = T.toNat * T.toNat) {out : List Int} (lo : out.length ≤ 100) {X : List Int × List Int}
  (h : Ev (fun k => privityref43_Triple.l1 k rests p T z r W (out ++ byL p z (W.getD (m + 1) 0) ((r.drop ((m - 1) * T.toNat)).take T.toNat)) ((m + 1 : Nat) : Int)) X) :
  Ev (fun k => privityref43_Triple.l1 k rests p T z r W out (m : Int)) X := by
 obtain ⟨s,hs⟩ : ∃ s,s = (m - 1) * T.toNat := ⟨_,rfl⟩
 have hmt : s + T.toNat ≤ r.length := by
  rw [lr,hs]
  have := Nat.mul_le_mul_right T.toNat (show m - 1 + 1 ≤ T.toNat by omega)
  rwa [Nat.succ_mul] at this
 rw [← hs] at h
 have lp : ((r.drop s).take T.toNat).length = T.toNat := by rw [List.length_take,List.length_drop];omega
 unfold byL at h
 rw [lp] at h
 have hin := tri_l2i hp hT hz W hr hs h1 (by omega) lW hmt rfl (res_getD hp hW _) (fun j hj => by
  rw [List.getD_eq_getElem?_getD (l := (r.drop s).take T.toNat),List.getElem?_take_of_lt hj,List.getElem?_drop,← List.getD_eq_getElem?_getD]) lo h
 refine Ev.step (fun k => ?_) hin
 simp only [privityref43_Triple.l1]
 rw [if_pos hm]
theorem tri_l1 {W out : List Int} {X : List Int × List Int} (h : Ev (fun k => privityref43_Triple.l3 k rests p T z W out [] ((T.toNat * (T.toNat + 1) / 2 : Nat) : Int) ((0 : Nat) : Int)) X) :
  Ev (fun k => privityref43_Triple.l1 k rests p T z r W out ((T.toNat + 1 : Nat) : Int)) X := by
 refine Ev.step (fun k => ?_) h
 simp only [privityref43_Triple.l1]
 rw [if_neg (by omega),oneR hT];rfl
include hp hz rr in
theorem tri_l3 (W : List Int) (hW : ∀ x ∈ W,Res p x) {O : Nat} (hO : O = T.toNat * (T.toNat + 1) / 2) {i : Nat} (hi : i < W.length) (lW : W.length ≤ 5) (lr : (i + 1) * O ≤ rests.length) {out all : List Int} (la : all.length ≤ 100) {X : List Int × List Int}
  (h : Ev (fun k => privityref43_Triple.l3 k rests p T z W out (all ++ byL p (wL p T z) (W.getD i 0) ((rests.drop (i * O)).take O)) (O : Int) ((i + 1 : Nat) : Int)) X) :
  Ev (fun k => privityref43_Triple.l3 k rests p T z W out all (O : Int) (i : Int)) X := by
 have hO3 : O = 1 ∨ O = 3 := by rcases hT with rfl|rfl;exact .inl hO;exact .inr hO
 have lp : ((rests.drop (i * O)).take O).length = T.toNat * (T.toNat + 1) / 2 := by
  rw [List.length_take,List.length_drop,← hO]
  rw [Nat.succ_mul] at lr
  omega
 have hmv := moved_ev (d := W.getD i 0) (q := List.replicate (T.toNat + 1) 0) (r := (rests.drop (i * O)).take O) hp hT hz (res_getD hp hW i) (fun x hx => by
  rw [List.eq_of_mem_replicate hx];have := hp.bd;exact ⟨Int.le_refl 0,by omega⟩) (fun x hx => rr x (List.mem_of_mem_drop (List.mem_of_mem_take hx))) List.length_replicate lp
 have hle : i * O ≤ (i + 1) * O := Nat.mul_le_mul_right _ (by omega)
 have hpc : (rests.take ((i + 1) * O)).drop (i * O) = (rests.drop (i * O)).take O := by
  rw [List.drop_take,Nat.succ_mul,Nat.add_sub_cancel_left]
 have ci : i < 1099511627776 := by omega
 have ci1 : i ≤ 10 := by omega
 have ci2 : i + 1 ≤ 10 := by omega
 have ca : all.length + O < 17592186044416 := by omega
 have c1 : (i : Int) < (W.length : Int) := by omega
 have c2 : (0 : Int) ≤ (i : Int) := by omega
 have c3 : (0 : Int) ≤ ((T.toNat + 1 : Nat) : Int) := by omega
 have c4 : T.toNat + 1 ≤ 35184372088832 := by omega
 have c5 : (0 : Int) ≤ ((i * O : Nat) : Int) := Int.natCast_nonneg _
 have c6 : ((i * O : Nat) : Int) ≤ (((i + 1) * O : Nat) : Int) := Int.ofNat_le.2 hle
 have c7 : (((i + 1) * O : Nat) : Int) ≤ (rests.length : Int) := Int.ofNat_le.2 lr
 have hw0 := toR hT
 refine Ev.step (f := fun k => (privityref43_moved.f k p z (W.getD i 0) (List.replicate (T.toNat + 1) 0) ((rests.drop (i * O)).take O)).bind fun bt735 => (if all.length + bt735.2.length < 17592186044416 then (privityref43_Triple.l3 k rests p T z W out (all ++ bt735.2) (O : Int) ((i + 1 : Nat) : Int)) else (none))) (fun k => ?_)
  (Ev.bind hmv (h.congr fun k => if_pos (by
   show all.length + (byL p (wL p T z) (W.getD i 0) ((rests.drop (i * O)).take O)).length < _
   rw [byL_length,lp,← hO];exact ca)))
 simp only [privityref43_Triple.l3]
 rw [hw0,wnat ci,mulR hO3 ci1,mulR hO3 ci2,if_pos c1,if_pos c2,if_pos c3,Int.toNat_natCast,if_pos c4,if_pos c5,if_pos c6,if_pos c7,Int.toNat_natCast,Int.toNat_natCast,hpc,rd_nat]
omit hT in
theorem tri_l3e {W out all : List Int} {O : Nat} : Ev (fun k => privityref43_Triple.l3 k rests p T z W out all (O : Int) (W.length : Int)) (out,all) := by
 refine Ev.step (fun k => ?_) (Ev.now _)
 simp only [privityref43_Triple.l3]
 rw [if_neg (by omega)]
include hp hz in
theorem tri_l0e (rda : Res p da) (rdb : Res p db) (ra : ∀ x ∈ a,Res p x) (rb : ∀ x ∈ b,Res p x) (la : a.length = T.toNat + 1) (lb : b.length = T.toNat + 1) {acc : List Int} (lc : acc.length ≤ 100) {X : List Int × List Int}
  (h : Ev (fun k => privityref43_Triple.l1 k rests p T z r (acc ++ [w.getD 0 0]) (byL p z da a ++ byL p z db b) ((1 : Nat) : Int)) X) :
  Ev (fun k => privityref43_Triple.l0 k da db rests p T z a b r w acc ((T.toNat + 1 : Nat) : Int)) X := by
 have hzl := hz.len
 have hT3 : T.toNat + 1 ≤ 3 := by omega
 have hsum : ∀ {d : Int} {l : List Int},Res p d → (∀ x ∈ l,Res p x) → l.length = T.toNat + 1 → ∃ t,Ev (fun k => privityref04_Scale.f k p d z) t ∧ Ev (fun k => privityref04_Add.f k p l t) (rbyL p z d l) ∧ Ev (fun k => privityref43_Fit.f k (rbyL p z d l) ((T.toNat + 1 : Nat) : Int)) (byL p z d l) := fun {d l} hd hl hll => by
  have h2 := trimL_length (z.map fun v => d * v % p)
  rw [List.length_map] at h2
  refine ⟨_,rscale_ev hp hd z hz.res (by omega),rradd_ev hp hl (fun x hx => by
   obtain ⟨y,_,rfl⟩ := List.mem_map.1 (trimL_mem hx)
   exact Res.mod hp _) (by omega) (by omega),?_⟩
  have := fit_ev (rbyL p z d l) (T.toNat + 1) (by omega)
  rw [show tabL (T.toNat + 1) (fun i => (rbyL p z d l).getD i 0) = byL p z d l from by
   refine (tabL_congr fun j _ => rby_getD hp hl (by omega) j).trans ?_
   have e : (byL p z d l).length = T.toNat + 1 := by rw [byL_length,hll]
   rw [← e];exact tabL_of _] at this
  exact this
 obtain ⟨t1,s1,s2,s3⟩ := hsum rda ra la
 obtain ⟨t2,u1,u2,u3⟩ := hsum rdb rb lb
 refine Ev.step (f := fun k => ((privityref04_Scale.f k p da z).bind fun t701 => ((privityref04_Add.f k p a t701).bind fun t704 => ((privityref43_Fit.f k t704 ((T.toNat + 1 : Nat) : Int)).bind fun t707 => ((privityref04_Scale.f k p db z).bind fun t710 => ((privityref04_Add.f k p b t710).bind fun t713 => ((privityref43_Fit.f k t713 ((T.toNat + 1 : Nat) : Int)).bind fun t716 => (if t707.length + t716.length < 17592186044416 then (privityref43_Triple.l1 k rests p T z r (acc ++ [w.getD 0 0]) (t707 ++ t716) 1) else (none))))))))) (fun k => ?_)
  (Ev.bind s1 (Ev.bind s2 (Ev.bind s3 (Ev.bind u1 (Ev.bind u2 (Ev.bind u3 (h.congr fun k => if_pos (by rw [byL_length,byL_length];omega))))))))
 simp only [privityref43_Triple.l0]
 rw [if_neg (by omega),show privityref04_Coefficient.f w 0 = some (w.getD 0 0) from rcoef_eq w 0,Option.bind_some,if_pos (by omega),toR hT]
end
set_option maxHeartbeats 1000000 in
theorem rtri_ev {p N T : Int} {bad : List Int} (h : OkM p N T bad) {da db : Int} (rda : Res p da) (rdb : Res p db) {head rests : List Int} (rh : ∀ x ∈ head,Res p x) (rr : ∀ x ∈ rests,Res p x) (lh : head.length = 2 * (T.toNat + 1) + T.toNat * T.toNat) (lr : rests.length = (T.toNat + 3) * (T.toNat * (T.toNat + 1) / 2)) :
  Ev (fun k => privityref43_Triple.f k p N T bad da db head rests) (triH p N T bad da db head,triR p N T bad da db head rests) := by
 have hp := h.ok.hp
 have hT := h.t
 have hz := vanZs h.ok
 obtain ⟨A,hA⟩ : ∃ A,A = head.take (T.toNat + 1) := ⟨_,rfl⟩
 obtain ⟨B,hB⟩ : ∃ B,B = (head.drop (T.toNat + 1)).take (T.toNat + 1) := ⟨_,rfl⟩
 obtain ⟨R,hR⟩ : ∃ R,R = head.drop (2 * (T.toNat + 1)) := ⟨_,rfl⟩
 have ra : ∀ x ∈ A,Res p x := by rw [hA];exact res_take rh _
 have rb : ∀ x ∈ B,Res p x := by rw [hB];exact res_take (res_drop rh _) _
 have rR : ∀ x ∈ R,Res p x := by rw [hR];exact res_drop rh _
 have la : A.length = T.toNat + 1 := by rw [hA,List.length_take];omega
 have lb : B.length = T.toNat + 1 := by rw [hB,List.length_take,List.length_drop];omega
 have lR : R.length = T.toNat * T.toNat := by rw [hR,List.length_drop];omega
 obtain ⟨q,hq,rq,eq⟩ := rquot_ev h rda rdb ra rb la lb
 have hW : ∀ j,q.getD j 0 = (triW p N T bad da db head).getD j 0 := fun j => by rw [eq j,hA,hB];rfl
 have hB2 : (head.take (2 * (T.toNat + 1))).drop (T.toNat + 1) = B := by
  rw [hB,List.drop_take,show 2 * (T.toNat + 1) - (T.toNat + 1) = T.toNat + 1 by omega]
 unfold privityref43_Triple.f
 refine Ev.bind (rvan_ev h.ok) ?_
 rw [toR hT,toR2 hT,Int.toNat_natCast,Int.toNat_natCast,hB2,← hA,← hR]
 refine Ev.congr (fun k => if_pos (by omega)) (Ev.congr (fun k => if_pos (by omega)) (Ev.congr (fun k => if_pos (by omega)) (Ev.congr (fun k => if_pos (by omega)) (Ev.congr (fun k => if_pos (by omega)) (Ev.bind hq ?_)))))
 have rW : ∀ l : List Int,(∀ x ∈ l,x = da ∨ x = db ∨ ∃ j,x = q.getD j 0) → ∀ x ∈ l,Res p x := fun l hl x hx => by
  rcases hl x hx with rfl|rfl|⟨j,rfl⟩
  ·exact rda
  ·exact rdb
  ·exact res_getD hp rq j
 have dropR : ∀ m,R.drop m = head.drop (2 * (T.toNat + 1) + m) := fun m => by rw [hR,List.drop_drop]
 rcases hT with rfl|rfl
 ·have hm1 : ∀ x ∈ [da,db,q.getD 1 0,q.getD 0 0],Res p x := rW _ (fun x hx => by
   simp only [List.mem_cons,List.not_mem_nil,or_false] at hx
   rcases hx with rfl|rfl|rfl|rfl
   ·exact .inl rfl
   ·exact .inr (.inl rfl)
   ·exact .inr (.inr ⟨1,rfl⟩)
   ·exact .inr (.inr ⟨0,rfl⟩))
  have l4 : rests.length = 4 := lr
  refine tri_l0 (.inl rfl) (by simp) (i := 1) (by omega) (tri_l0e hp (.inl rfl) hz rda rdb ra rb la lb (by simp) ?_)
  refine tri_l2 hp (.inl rfl) hz [da,db,q.getD 1 0,q.getD 0 0] hm1 rR (m := 1) (by omega) (by omega) (by simp) lR (by rw [List.length_append,byL_length,byL_length,la,lb];decide) ?_
  refine tri_l1 (.inl rfl) ?_
  refine tri_l3 hp (.inl rfl) hz rr [da,db,q.getD 1 0,q.getD 0 0] hm1 (O := 1) rfl (i := 0) (by simp) (by simp) (by omega) (by simp) ?_
  have lpc : ∀ i,(byL p (wL p 1 (vanZ p N 1 bad)) ([da,db,q.getD 1 0,q.getD 0 0].getD i 0) ((rests.drop (i * 1)).take 1)).length ≤ 1 := fun i => by rw [byL_length,List.length_take];omega
  have c0 := lpc 0
  have c1 := lpc 1
  have c2 := lpc 2
  refine tri_l3 hp (.inl rfl) hz rr [da,db,q.getD 1 0,q.getD 0 0] hm1 (O := 1) rfl (i := 1) (by simp) (by simp) (by omega) (by simp only [List.length_append,List.length_nil];omega) ?_
  refine tri_l3 hp (.inl rfl) hz rr [da,db,q.getD 1 0,q.getD 0 0] hm1 (O := 1) rfl (i := 2) (by simp) (by simp) (by omega) (by simp only [List.length_append,List.length_nil];omega) ?_
  refine tri_l3 hp (.inl rfl) hz rr [da,db,q.getD 1 0,q.getD 0 0] hm1 (O := 1) rfl (i := 3) (by simp) (by simp) (by omega) (by simp only [List.length_append,List.length_nil];omega) ?_
  have fin := tri_l3e (p := p) (T := 1) (z := vanZ p N 1 bad) (rests := rests) (W := [da,db,q.getD 1 0,q.getD 0 0]) (O := 1) (out := triH p N 1 bad da db head) (all := triR p N 1 bad da db head rests)
  have eH : triH p N 1 bad da db head = byL p (vanZ p N 1 bad) da A ++ byL p (vanZ p N 1 bad) db B ++ byL p (vanZ p N 1 bad) ([da,db,q.getD 1 0,q.getD 0 0].getD (1 + 1) 0) ((R.drop ((1 - 1) * Int.toNat 1)).take (Int.toNat 1)) := by
   rw [dropR,hA,hB]
   unfold triH
   show _ ++ _ ++ catF _ 1 = _
   simp only [catF,List.nil_append]
   unfold triD
   rw [← hW];rfl
  have eR : triR p N 1 bad da db head rests = [] ++ byL p (wL p 1 (vanZ p N 1 bad)) ([da,db,q.getD 1 0,q.getD 0 0].getD 0 0) ((rests.drop (0 * 1)).take 1) ++ byL p (wL p 1 (vanZ p N 1 bad)) ([da,db,q.getD 1 0,q.getD 0 0].getD 1 0) ((rests.drop (1 * 1)).take 1) ++ byL p (wL p 1 (vanZ p N 1 bad)) ([da,db,q.getD 1 0,q.getD 0 0].getD 2 0) ((rests.drop (2 * 1)).take 1) ++ byL p (wL p 1 (vanZ p N 1 bad)) ([da,db,q.getD 1 0,q.getD 0 0].getD 3 0) ((rests.drop (3 * 1)).take 1) := by
   unfold triR
   show _ ++ _ ++ catF _ 1 ++ _ = _
   simp only [catF,List.nil_append]
   unfold triE
   rw [← hW,← hW];rfl
  rw [eH,eR] at fin ⊢
  exact fin
 ·have hm1 : ∀ x ∈ [da,db,q.getD 1 0,q.getD 2 0,q.getD 0 0],Res p x := rW _ (fun x hx => by
   simp only [List.mem_cons,List.not_mem_nil,or_false] at hx
   rcases hx with rfl|rfl|rfl|rfl|rfl
   ·exact .inl rfl
   ·exact .inr (.inl rfl)
   ·exact .inr (.inr ⟨1,rfl⟩)
   ·exact .inr (.inr ⟨2,rfl⟩)
   ·exact .inr (.inr ⟨0,rfl⟩))
  have l15 : rests.length = 15 := lr
  refine tri_l0 (.inr rfl) (by simp) (i := 1) (by omega) (tri_l0 (.inr rfl) (by simp) (i := 2) (by omega) (tri_l0e hp (.inr rfl) hz rda rdb ra rb la lb (by simp) ?_))
  refine tri_l2 hp (.inr rfl) hz [da,db,q.getD 1 0,q.getD 2 0,q.getD 0 0] hm1 rR (m := 1) (by omega) (by omega) (by simp) lR (by rw [List.length_append,byL_length,byL_length,la,lb];decide) ?_
  have ld : ∀ m,(byL p (vanZ p N 2 bad) ([da,db,q.getD 1 0,q.getD 2 0,q.getD 0 0].getD (m + 1) 0) ((R.drop ((m - 1) * Int.toNat 2)).take (Int.toNat 2))).length ≤ 2 := fun m => by
   rw [byL_length,List.length_take];show min 2 _ ≤ 2;omega
  have d1 := ld 1
  refine tri_l2 hp (.inr rfl) hz [da,db,q.getD 1 0,q.getD 2 0,q.getD 0 0] hm1 rR (m := 2) (by omega) (by omega) (by simp) lR (by
   have l3 : Int.toNat 2 + 1 = 3 := rfl
   rw [List.length_append,List.length_append,byL_length,byL_length,la,lb];omega) ?_
  refine tri_l1 (.inr rfl) ?_
  refine tri_l3 hp (.inr rfl) hz rr [da,db,q.getD 1 0,q.getD 2 0,q.getD 0 0] hm1 (O := 3) rfl (i := 0) (by simp) (by simp) (by omega) (by simp) ?_
  have lpc : ∀ i,(byL p (wL p 2 (vanZ p N 2 bad)) ([da,db,q.getD 1 0,q.getD 2 0,q.getD 0 0].getD i 0) ((rests.drop (i * 3)).take 3)).length ≤ 3 := fun i => by rw [byL_length,List.length_take];omega
  have c0 := lpc 0
  have c1 := lpc 1
  have c2 := lpc 2
  have c3 := lpc 3
  refine tri_l3 hp (.inr rfl) hz rr [da,db,q.getD 1 0,q.getD 2 0,q.getD 0 0] hm1 (O := 3) rfl (i := 1) (by simp) (by simp) (by omega) (by simp only [List.length_append,List.length_nil];omega) ?_
  refine tri_l3 hp (.inr rfl) hz rr [da,db,q.getD 1 0,q.getD 2 0,q.getD 0 0] hm1 (O := 3) rfl (i := 2) (by simp) (by simp) (by omega) (by simp only [List.length_append,List.length_nil];omega) ?_
  refine tri_l3 hp (.inr rfl) hz rr [da,db,q.getD 1 0,q.getD 2 0,q.getD 0 0] hm1 (O := 3) rfl (i := 3) (by simp) (by simp) (by omega) (by simp only [List.length_append,List.length_nil];omega) ?_
  refine tri_l3 hp (.inr rfl) hz rr [da,db,q.getD 1 0,q.getD 2 0,q.getD 0 0] hm1 (O := 3) rfl (i := 4) (by simp) (by simp) (by omega) (by simp only [List.length_append,List.length_nil];omega) ?_
  have fin := tri_l3e (p := p) (T := 2) (z := vanZ p N 2 bad) (rests := rests) (W := [da,db,q.getD 1 0,q.getD 2 0,q.getD 0 0]) (O := 3) (out := triH p N 2 bad da db head) (all := triR p N 2 bad da db head rests)
  have eH : triH p N 2 bad da db head = byL p (vanZ p N 2 bad) da A ++ byL p (vanZ p N 2 bad) db B ++ byL p (vanZ p N 2 bad) ([da,db,q.getD 1 0,q.getD 2 0,q.getD 0 0].getD (1 + 1) 0) ((R.drop ((1 - 1) * Int.toNat 2)).take (Int.toNat 2)) ++ byL p (vanZ p N 2 bad) ([da,db,q.getD 1 0,q.getD 2 0,q.getD 0 0].getD (2 + 1) 0) ((R.drop ((2 - 1) * Int.toNat 2)).take (Int.toNat 2)) := by
   rw [dropR,dropR,hA,hB]
   unfold triH
   show _ ++ _ ++ catF _ 2 = _
   simp only [catF,List.nil_append]
   unfold triD
   rw [← hW,← hW,← List.append_assoc];rfl
  have eR : triR p N 2 bad da db head rests = [] ++ byL p (wL p 2 (vanZ p N 2 bad)) ([da,db,q.getD 1 0,q.getD 2 0,q.getD 0 0].getD 0 0) ((rests.drop (0 * 3)).take 3) ++ byL p (wL p 2 (vanZ p N 2 bad)) ([da,db,q.getD 1 0,q.getD 2 0,q.getD 0 0].getD 1 0) ((rests.drop (1 * 3)).take 3) ++ byL p (wL p 2 (vanZ p N 2 bad)) ([da,db,q.getD 1 0,q.getD 2 0,q.getD 0 0].getD 2 0) ((rests.drop (2 * 3)).take 3) ++ byL p (wL p 2 (vanZ p N 2 bad)) ([da,db,q.getD 1 0,q.getD 2 0,q.getD 0 0].getD 3 0) ((rests.drop (3 * 3)).take 3) ++ byL p (wL p 2 (vanZ p N 2 bad)) ([da,db,q.getD 1 0,q.getD 2 0,q.getD 0 0].getD 4 0) ((rests.drop (4 * 3)).take 3) := by
   unfold triR
   show _ ++ _ ++ catF _ 2 ++ _ = _
   simp only [catF,List.nil_append]
   unfold triE
   rw [← hW,← hW,← hW,← List.append_assoc];rfl
  rw [eH,eR] at fin ⊢
  exact fin
theorem rsharing_ev {p N T : Int} {bad : List Int} (h : OkM p N T bad) {d : Int} (hd : Res p d) {q r : List Int} (hq : ∀ x ∈ q,Res p x) (hr : ∀ x ∈ r,Res p x) (lq : q.length = T.toNat + 1) (lr : r.length = T.toNat * (T.toNat + 1) / 2) :
  Ev (fun k => privityref43_Sharing.f k p N T bad d q r) (byL p (vanZ p N T bad) d q,byL p (wL p T (vanZ p N T bad)) d r) := by
 unfold privityref43_Sharing.f
 exact Ev.bind (rvan_ev h.ok) (Ev.bind (moved_ev h.ok.hp h.t (vanZs h.ok) hd hq hr lq lr) (Ev.now _))
end Go.Proofs.Ytejeelpnmdfibaa.E
end
section
namespace Go.Proofs.Ytejeelpnmdfibaa.Pure
open Go.RowKit Go.Proofs.Ytejeelpnmdfibaa.Pr Go.Proofs.Ytejeelpnmdfibaa.Hw Go.Proofs.Ytejeelpnmdfibaa.E Go.Proofs.Ytejeelpnmdfibaa.Pl Go.Proofs.YtejeelpnmdfibaaW.PrintWords Go.Proofs.YtejeelpnmdfibaaW.PrintLast Go.Proofs.YtejeelpnmdfibaaW.PrintMore
set_option linter.unusedVariables false
set_option linter.unusedSimpArgs false
theorem triH_smallS (p N : Int) {T : Int} (bad : List Int) (da db : Int) (w : List Int) (hT : T = 1 ∨ T = 2) : (triH p N T bad da db (hL p T w)).length ≤ 10 := by
 rw [triH_len p N bad da db hT (hL_length p T w),hL_length]
 rcases hT with rfl|rfl <;> decide
theorem triR_smallS (p N : Int) {T : Int} (bad : List Int) (da db : Int) (w : List Int) (hT : T = 1 ∨ T = 2) : (triR p N T bad da db (hL p T w) (lL p T w)).length ≤ 15 := by
 rw [triR_len p N bad da db hT _ (lL_length p T w),lL_length]
 rcases hT with rfl|rfl <;> decide
theorem sameW (a : List Int) (h : a.length ≤ 1000) : Ev (fun k => privityref14_Words.f k a a) true := by
 have := words_ev a a (by omega)
 rwa [decide_eq_true rfl] at this
theorem TapeshiftShift (p N T : Int) (bad : List Int) (da db : Int) (w : List Int) (wp : (Lit.int .u64 p).wf = true) (wN : (Lit.int .i64 N).wf = true) (wT : (Lit.int .i64 T).wf = true) (wb : ∀ x_ ∈ bad,(Lit.int .i64 x_).wf = true) (wda : (Lit.int .u64 da).wf = true) (wdb : (Lit.int .u64 db).wf = true) (ww : ∀ x_ ∈ w,(Lit.int .u64 x_).wf = true) : ∃ k,privitylaw43_TapeshiftShift.f k p N T bad da db w = some true := by
 refine Ev.rounds (r := true) ?_
 unfold privitylaw43_TapeshiftShift.f
 refine ev_if (may_ev p N T bad da db w) (fun h => ?_) (fun _ => awake43')
 have hm := okM h
 have hp := hm.ok.hp
 have hb := hp.bd
 have hT := hm.t
 have hw : ∀ x ∈ w,0 ≤ x := fun x hx => (wf64 (ww x hx)).1
 have rda := Res.mod hp da
 have rdb := Res.mod hp db
 have hone := one_ev hp N hT bad da db hw
 have htri := triple_ev hp N hT bad da db hw
 have lq : (qL p T w).length = T.toNat + 1 := cutL_length _ _ _ _
 have lr : (rL p T w).length = T.toNat * (T.toNat + 1) / 2 := cutL_length _ _ _ _
 have lh := hL_length p T w
 have ll := lL_length p T w
 have rq : ∀ x ∈ qL p T w,Res p x := cutL_res hp _ _ _
 have rr : ∀ x ∈ rL p T w,Res p x := cutL_res hp _ _ _
 have rh : ∀ x ∈ hL p T w,Res p x := cutL_res hp _ _ _
 have rl : ∀ x ∈ lL p T w,Res p x := cutL_res hp _ _ _
 have s1 := triH_smallS p N bad (da % p) (db % p) w hT
 have s2 := triR_smallS p N bad (da % p) (db % p) w hT
 have s3 : T.toNat + 1 ≤ 3 ∧ T.toNat * (T.toNat + 1) / 2 ≤ 3 := ⟨by omega,by rcases hT with rfl|rfl <;> decide⟩
 have hs := sharing_ev hm rda rq rr lq lr
 have hrs := rsharing_ev hm rda rq rr lq lr
 have ht := tri_eq h rda rdb rh rl lh ll
 have hrt := rtri_ev hm rda rdb rh rl lh ll
 have w1 := sameW (byL p (vanZ p N T bad) (da % p) (qL p T w)) (by rw [byL_length];omega)
 have w2 := sameW (byL p (wL p T (vanZ p N T bad)) (da % p) (rL p T w)) (by rw [byL_length];omega)
 have w3 := sameW (triH p N T bad (da % p) (db % p) (hL p T w)) (by omega)
 have w4 := sameW (triR p N T bad (da % p) (db % p) (hL p T w) (lL p T w)) (by omega)
 rw [tmod_pos (wf64 wda).1,tmod_pos (wf64 wdb).1]
 refine Ev.congr (fun k => if_neg (by omega)) ?_
 refine Ev.bind hone (Ev.bind hs (Ev.bind hrs (Ev.bind htri (ev_now_bind ht (Ev.bind hrt ?_)))))
 refine ev_if awake43 (fun _ => ?_) fun h => by cases h
 refine ev_if w1 (fun _ => ?_) fun h => by cases h
 refine ev_if w2 (fun _ => ?_) fun h => by cases h
 refine ev_if w3 (fun _ => ?_) fun h => by cases h
 exact Ev.bind w4 (Ev.now _)
end Go.Proofs.Ytejeelpnmdfibaa.Pure
end
section
namespace Go.Proofs.Ytejeelpnmdfibaa.Op
open Go.RowKit Go.Proofs.YtejeelpnmdfibaaW.PrintWords
set_option linter.unusedVariables false
def OpenK {α : Type} (P : Program) (t : TypeId) (d : Kd α) (Q : α → Prop) : Prop :=
 ∀ {H : Type} {enc : TypeId × Value → H} {w : World} {base : Nat} {sp : Nat → Bool} {hd : Bool} {fuel : Nat} {cs : List Value} {x : DataW H × List MemPlace},DataW.trod enc P w base sp hd fuel t cs = some x → ∃ v : α,d.K w v cs ∧ Q v
theorem openInt {P : Program} {t : TypeId} {k : IntKind} (ht : P.underlying t = some (.int k)) : OpenK P t (Kd.int k) (fun n => (Lit.int k n).wf = true) := by
 intro H enc w base sp hd fuel cs x h
 obtain ⟨n,rfl,_,hw⟩ := DataW.trod_int ht h
 exact ⟨n,rfl,hw⟩
theorem exists_list {α : Type} {R : Nat → α → Prop} : ∀ (n : Nat),(∀ i,i < n → ∃ v,R i v) → ∃ l : List α,l.length = n ∧ ∀ i v,l[i]? = some v → R i v
 | 0,_ => ⟨[],rfl,fun i v h => by simp at h⟩
 | n + 1,h => by
  obtain ⟨l,hl,hr⟩ := exists_list n (fun i hi => h i (by omega))
  obtain ⟨v,hv⟩ := h n (by omega)
  refine ⟨l ++ [v],by simp [hl],fun i u hu => ?_⟩
  by_cases hi : i < n
  ·rw [List.getElem?_append_left (by omega)] at hu
   exact hr i u hu
  ·rw [List.getElem?_append_right (by omega)] at hu
   by_cases h0 : i - l.length = 0
   ·rw [h0] at hu
    simp only [List.getElem?_cons_zero,Option.some.injEq] at hu
    rw [← hu,show i = n from by omega];exact hv
   ·rw [List.getElem?_eq_none (by simp;omega)] at hu;cases hu
theorem openSlice {α : Type} {P : Program} {t e : TypeId} {d : Kd α} {Q : α → Prop} (ht : P.underlying t = some (.slice e)) (hc : P.cellsOf e = d.sz) (he : OpenK P e d Q) : OpenK P t (Kd.slice e d) (fun l => ∀ x ∈ l,Q x) := by
 intro H enc w base sp hd fuel cs x h
 rcases DataW.trod_slice ht h with ⟨rfl,_⟩|⟨a,len,cap,elems,rest,n,_,rfl,_,_,hlc,hm,hlen,hel,_,_⟩
 ·exact ⟨[],⟨none,0,rfl,Nat.le_refl _,rfl,Nat.zero_le _,fun h => absurd h (Nat.lt_irrefl 0)⟩,fun x hx => by cases hx⟩
 ·have each : ∀ i,i < len → ∃ v,(∃ c,c.length = d.sz ∧ d.K w v c ∧ ∀ j u,c[j]? = some u → w.cell? (a.add (i * d.sz + j)) = some u) ∧ Q v := by
   intro i hi
   have h1 := hel i hi
   rw [List.getElem?_eq_getElem (by omega),hc] at h1
   obtain ⟨c,hcs,htr⟩ := Option.bind_eq_some_iff.1 h1
   obtain ⟨v,hk,hq⟩ := he htr
   refine ⟨v,⟨c,d.K_len hk,hk,fun j u hu => ?_⟩,hq⟩
   have h2 := World.cells?_some hcs
   have hj := (List.getElem?_eq_some_iff.1 hu).1
   have h3 := h2.2.2 j (by rw [← d.K_len hk];exact hj)
   rw [hu] at h3
   rw [← h3,← Addr.add_add]
  obtain ⟨l,hl,hr⟩ := exists_list len each
  refine ⟨l,⟨some a,cap,by rw [hl],by omega,rfl,by rw [hl];simp only [maxLen] at hm;omega,fun _ => ⟨a,rfl,fun j p hj => (hr j p hj).1⟩⟩,fun x hx => ?_⟩
  obtain ⟨i,hi,rfl⟩ := List.getElem_of_mem hx
  exact (hr i _ (List.getElem?_eq_getElem hi)).2
theorem openFields {P : Program} {H : Type} {enc : TypeId × Value → H} {w : World} {base : Nat} {sp : Nat → Bool} {hd : Bool} {fuel : Nat} {t : TypeId} {cs : List Value} {x : DataW H × List MemPlace} {fs : Array Field} (ht : P.underlying t = some (.struct fs))
  (h : DataW.trod enc P w base sp hd fuel t cs = some x) : cs.length = P.cellsOf t ∧ ∀ (i : Nat) (f : Field),fs[i]? = some f → ∃ n y,DataW.trod enc P w base sp hd n f.type ((cs.drop f.offset).take (P.cellsOf f.type)) = some y := by
 obtain ⟨xs,n,_,_,hl,hlen,hf⟩ := DataW.trod_struct ht h
 refine ⟨hl,fun i f hi => ?_⟩
 have h1 := hf i f hi
 have h2 : i < fs.size := (Array.getElem?_eq_some_iff.1 hi).1
 rw [List.getElem?_eq_getElem (by omega)] at h1
 exact ⟨n,_,h1⟩
end Go.Proofs.Ytejeelpnmdfibaa.Op
end
section
/- The row of the law TapeshiftShift, out of its plain law and the walk. -/
namespace Go.Proofs.Ytejeelpnmdfibaa.tapeshiftShift
open Go.ChangeShapes Go.WideShapes Go.ChangeAt Go.RowKit Go.Proofs.Ytejeelpnmdfibaa.Pr Go.Proofs.YtejeelpnmdfibaaW.PrintWords
set_option linter.unusedVariables false
theorem own : ownKnob Try.prog.godebug = none := by kernel_rfl
theorem laidOut : laidOutB Try.prog = true := by kernel_rfl
set_option maxRecDepth 100000 in
theorem arr7 (cs : Array Value) (h : cs.size = 7) : ∃ c0_ c1_ c2_ c3_ c4_ c5_ c6_, cs = #[c0_, c1_, c2_, c3_, c4_, c5_, c6_] := by
  obtain ⟨l_⟩ := cs
  match l_, h with
  | [c0_, c1_, c2_, c3_, c4_, c5_, c6_], _ => exact ⟨_, _, _, _, _, _, _, rfl⟩
set_option maxHeartbeats 4000000 in
set_option maxRecDepth 100000 in
theorem lifted (os : Os) (started : os.Started) (H : Type) (enc : TypeId × Value → H) :
    ReturnsInHanded {} Try.checked os 6 .any (Rows.tapeshiftShiftSpec.pre6 enc Try.prog Try.f6 Rows.tapeshiftShiftRow.domain false) (Rows.tapeshiftShiftSpec.post enc Try.prog Try.f6 false true false false) := by
  refine returnsInHanded_of_change_sized (C := Try.checked) own started (by kernel_rfl) Try.func6
    (ChangeSpec.witness6 (enc := enc) (C := Try.checked) false ⟨#[], #[.agg #[.int .u64 0, .int .i64 0, .int .i64 0, .slice none 0 0, .int .u64 0, .int .u64 0, .slice none 0 0]], []⟩ 8 (by kernel_rfl) (by kernel_rfl) (by kernel_rfl) (by kernel_rfl)) ?_
  intro W base args ds gs before hval0 hW hcnd hsz0 _
  have hval : ∀ (j : Nat) t v, Try.f6.params[j]? = some t → args[j]? = some v → Value.okWide Try.prog W .any base t v := hval0
  have hW' := hW
  obtain ⟨p, q, hA0, hV, rfl, hfz, hnd⟩ := hW
  have hA : DataW.TrodAll enc Try.prog W 0 (fun _ => true) true Try.f6.params.toList args.toList ds p := hA0
  rw [Try.params6] at hA hval
  obtain ⟨v0, vs0, d0, ds0, p0, q0, hargs, rfl, rfl, h0, r0⟩ := trodAll_cons hA
  obtain ⟨rfl, rfl, rfl⟩ := trodAll_nil r0
  obtain rfl : args = #[v0] := by cases args; simp_all
  obtain ⟨rfl, rfl⟩ := trodVars_none hV
  have k0 := h0
  have lt0 : ∀ x ∈ p0, x.block < W.heap.size := by obtain ⟨m, hm⟩ := k0; exact DataW.trod_lt m _ _ _ hm
  obtain ⟨cs0, rfl, hs0⟩ := okWide_struct Try.underlying28 (hval 0 28 v0 rfl rfl)
  have hN0 : Try.prog.cellsOf 28 = 7 := by kernel_rfl
  rw [hN0] at hs0
  obtain ⟨x0_0, x0_1, x0_2, x0_3, x0_4, x0_5, x0_6, rfl⟩ := arr7 cs0 hs0
  obtain ⟨fu0, hf0⟩ := h0
  have hg0 : DataW.trod enc Try.prog W 0 (fun _ => true) true fu0 28 [x0_0, x0_1, x0_2, x0_3, x0_4, x0_5, x0_6] = some (d0, p0) := hf0
  have f0 := (Op.openFields Try.underlying28 hg0).2
  obtain ⟨n0_0, y0_0, e0_0⟩ := f0 0 _ rfl
  have b0_0 : DataW.trod enc Try.prog W 0 (fun _ => true) true n0_0 24 [x0_0, x0_1, x0_2] = some y0_0 := e0_0
  have f0_0 := (Op.openFields Try.underlying24 b0_0).2
  obtain ⟨n0_0_0, y0_0_0, e0_0_0⟩ := f0_0 0 _ rfl
  have b0_0_0 : DataW.trod enc Try.prog W 0 (fun _ => true) true n0_0_0 22 [x0_0] = some y0_0_0 := e0_0_0
  obtain ⟨a0_0_0, e0_0_0, w0_0_0⟩ := (Op.openInt (k := .u64) Try.underlying22) b0_0_0
  cases e0_0_0
  obtain ⟨n0_0_1, y0_0_1, e0_0_1⟩ := f0_0 1 _ rfl
  have b0_0_1 : DataW.trod enc Try.prog W 0 (fun _ => true) true n0_0_1 3 [x0_1] = some y0_0_1 := e0_0_1
  obtain ⟨a0_0_1, e0_0_1, w0_0_1⟩ := (Op.openInt (k := .i64) Try.underlying3) b0_0_1
  cases e0_0_1
  obtain ⟨n0_0_2, y0_0_2, e0_0_2⟩ := f0_0 2 _ rfl
  have b0_0_2 : DataW.trod enc Try.prog W 0 (fun _ => true) true n0_0_2 3 [x0_2] = some y0_0_2 := e0_0_2
  obtain ⟨a0_0_2, e0_0_2, w0_0_2⟩ := (Op.openInt (k := .i64) Try.underlying3) b0_0_2
  cases e0_0_2
  obtain ⟨n0_1, y0_1, e0_1⟩ := f0 1 _ rfl
  have b0_1 : DataW.trod enc Try.prog W 0 (fun _ => true) true n0_1 25 [x0_3] = some y0_1 := e0_1
  obtain ⟨z0_1, ⟨A0_1, c0_1, e0_1, hc0_1, g0_1⟩, w0_1⟩ := (Op.openSlice (d := (Kd.int .i64)) Try.underlying25 (by kernel_rfl) (Op.openInt (k := .i64) Try.underlying3)) b0_1
  cases e0_1
  obtain ⟨n0_2, y0_2, e0_2⟩ := f0 2 _ rfl
  have b0_2 : DataW.trod enc Try.prog W 0 (fun _ => true) true n0_2 22 [x0_4] = some y0_2 := e0_2
  obtain ⟨a0_2, e0_2, w0_2⟩ := (Op.openInt (k := .u64) Try.underlying22) b0_2
  cases e0_2
  obtain ⟨n0_3, y0_3, e0_3⟩ := f0 3 _ rfl
  have b0_3 : DataW.trod enc Try.prog W 0 (fun _ => true) true n0_3 22 [x0_5] = some y0_3 := e0_3
  obtain ⟨a0_3, e0_3, w0_3⟩ := (Op.openInt (k := .u64) Try.underlying22) b0_3
  cases e0_3
  obtain ⟨n0_4, y0_4, e0_4⟩ := f0 4 _ rfl
  have b0_4 : DataW.trod enc Try.prog W 0 (fun _ => true) true n0_4 26 [x0_6] = some y0_4 := e0_4
  obtain ⟨z0_4, ⟨A0_4, c0_4, e0_4, hc0_4, g0_4⟩, w0_4⟩ := (Op.openSlice (d := (Kd.int .u64)) Try.underlying26 (by kernel_rfl) (Op.openInt (k := .u64) Try.underlying22)) b0_4
  cases e0_4
  clear hA0 hval0 hsz0
  obtain ⟨kk, hk⟩ := Pure.TapeshiftShift a0_0_0 a0_0_1 a0_0_2 z0_1 a0_2 a0_3 z0_4 w0_0_0 w0_0_1 w0_0_2 w0_1 w0_2 w0_3 w0_4
  refine (privitylaw43_TapeshiftShift.calls kk a0_0_0 a0_0_1 a0_0_2 _ _ z0_1 a0_2 a0_3 _ _ z0_4 true W g0_1 hc0_1 g0_4 hc0_4 rfl hk).mono fun e W' ⟨he, bel⟩ => ?_
  subst he
  exact ⟨_, rfl, _, _, _, [], _, [], hW', trodAll_mk1 (shut_bool Try.underlying4 _), (trodAll_cons_mk (Below.trod laidOut (by kernel_rfl) (of_decide_eq_true (by kernel_rfl)) k0 bel lt0) trodAll_mk0), rfl, bel.frame _, fun h => by cases h⟩
theorem over : Rows.tapeshiftShiftRow.holds Try.pinned (OpenSpec.ofChange Rows.tapeshiftShiftSpec) :=
  OpenClaim.holds_of_wide 6 Try.f6 rfl rfl rfl rfl rfl rfl rfl ⟨rfl, rfl, rfl, rfl, rfl⟩ rfl rfl rfl rfl rfl (by kernel_rfl) Try.func6 (by kernel_rfl)
    (of_decide_eq_true (by kernel_rfl)) (by unfold Func.isWrapper; first | (rw [if_pos (by decide +kernel)]; kernel_rfl) | (rw [if_neg (by decide +kernel)]; exact ⟨rfl, rfl⟩))
    (fun os started H enc _ => lifted os started H enc)
theorem proved : Rows.TapeshiftShiftSaid := over
#print axioms proved
end Go.Proofs.Ytejeelpnmdfibaa.tapeshiftShift
namespace Go.Proofs.Ytejeelpnmdfibaa
/-- The row, under a short name, for the claim. -/
theorem tapeshiftShift_holds : Rows.TapeshiftShiftSaid := tapeshiftShift.proved
end Go.Proofs.Ytejeelpnmdfibaa
end
