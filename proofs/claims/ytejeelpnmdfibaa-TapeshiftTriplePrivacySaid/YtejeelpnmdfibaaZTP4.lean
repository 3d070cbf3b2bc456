/- Part 4 of the proof's texts, joined in build order. -/
import Derived.Test.YtejeelpnmdfibaaZTP3
import Derived.Test.YtejeelpnmdfibaaZTP0
import Derived.Laws.CopyOwn
import Derived.Deep.WholeRow
import Derived.Test.YtejeelpnmdfibaaZTP2
set_option linter.unusedVariables false
set_option linter.unusedSimpArgs false
section
namespace Go.Proofs.Ytejeelpnmdfibaa.E
open Go.RowKit Go.Proofs.Ytejeelpnmdfibaa.Pr Go.Proofs.Ytejeelpnmdfibaa.Hw Go.Proofs.Ytejeelpnmdfibaa.Pl Go.Proofs.YtejeelpnmdfibaaW.PrintWords Go.Proofs.YtejeelpnmdfibaaW.PrintLast Go.Proofs.YtejeelpnmdfibaaW.PrintMore
theorem vsub_len : ∀ (l m : List Int),l.Nodup → (∀ x ∈ l,x ∈ m) → l.length ≤ m.length
 | [],m,_,_ => Nat.zero_le _
 | a :: l,m,hn,h => by
  have hn' := List.nodup_cons.1 hn
  have ha := h a (by simp)
  have h1 := vsub_len l (m.erase a) hn'.2 (fun x hx => (List.mem_erase_of_ne (fun e => hn'.1 (by rw [← e];exact hx))).2 (h x (List.mem_cons_of_mem _ hx)))
  rw [List.length_erase_of_mem ha] at h1
  have := List.length_pos_of_mem ha
  simp only [List.length_cons];omega
def runL : Nat → Int → List Int
 | 0,_ => []
 | n + 1,k => k :: runL n (k + 1)
theorem runL_mem : ∀ (n : Nat) (k x : Int),x ∈ runL n k ↔ k ≤ x ∧ x < k + n
 | 0,k,x => by simp [runL]
 | n + 1,k,x => by rw [runL,List.mem_cons,runL_mem n (k + 1) x];omega
theorem runL_nodup : ∀ (n : Nat) (k : Int),(runL n k).Nodup
 | 0,k => List.nodup_nil
 | n + 1,k => List.nodup_cons.2 ⟨fun h => by rw [runL_mem] at h;omega,runL_nodup n (k + 1)⟩
theorem runL_length : ∀ (n : Nat) (k : Int),(runL n k).length = n
 | 0,k => rfl
 | n + 1,k => by rw [runL,List.length_cons,runL_length n]
def extL (bad : List Int) : Nat → Int → Int → List Int
 | 0,_,_ => []
 | n + 1,k,lack => if k ∈ bad then k :: extL bad n (k + 1) lack else if lack > 0 then k :: extL bad n (k + 1) (lack - 1) else extL bad n (k + 1) lack
def honL (bad : List Int) (n : Nat) (k : Int) : List Int := (runL n k).filter fun x => decide (x ∉ bad)
theorem extL_range {bad : List Int} : ∀ (n : Nat) (k lack x : Int),x ∈ extL bad n k lack → k ≤ x ∧ x < k + n
 | 0,k,lack,x,h => by cases h
 | n + 1,k,lack,x,h => by
  rw [extL] at h
  split at h
  ·rcases List.mem_cons.1 h with h|h
   ·omega
   ·have := extL_range n _ _ _ h;omega
  ·split at h
   ·rcases List.mem_cons.1 h with h|h
    ·omega
    ·have := extL_range n _ _ _ h;omega
   ·have := extL_range n _ _ _ h;omega
theorem extL_has {bad : List Int} : ∀ (n : Nat) (k lack x : Int),x ∈ bad → k ≤ x → x < k + n → x ∈ extL bad n k lack
 | 0,k,lack,x,_,h1,h2 => by omega
 | n + 1,k,lack,x,hb,h1,h2 => by
  rw [extL]
  by_cases e : x = k
  ·subst e;rw [if_pos hb];simp
  ·have ih := fun lack => extL_has n (k + 1) lack x hb (by omega) (by omega)
   split
   ·exact List.mem_cons_of_mem _ (ih _)
   ·split
    ·exact List.mem_cons_of_mem _ (ih _)
    ·exact ih _
theorem extL_filter {bad : List Int} : ∀ (n : Nat) (k lack : Int) (P : Int → Bool),(∀ x,k ≤ x → x < k + n → (P x = true ↔ x ∈ extL bad n k lack)) → extL bad n k lack = (runL n k).filter P
 | 0,k,lack,P,h => rfl
 | n + 1,k,lack,P,h => by
  have hk := h k (by omega) (by omega)
  have hno : ∀ lack,k ∉ extL bad n (k + 1) lack := fun lack hx => by have := extL_range n _ _ _ hx;omega
  rw [extL] at h hk ⊢
  rw [runL]
  split
  ·rename_i hb
   rw [if_pos hb] at hk
   rw [List.filter_cons_of_pos (hk.2 (by simp))]
   refine congrArg _ (extL_filter n (k + 1) lack P fun x h1 h2 => ?_)
   have := h x (by omega) (by omega)
   rw [if_pos hb,List.mem_cons] at this
   rw [this]
   exact ⟨fun h => h.resolve_left (by omega),Or.inr⟩
  ·rename_i hb
   split
   ·rename_i hl
    rw [if_neg hb,if_pos hl] at hk
    rw [List.filter_cons_of_pos (hk.2 (by simp))]
    refine congrArg _ (extL_filter n (k + 1) (lack - 1) P fun x h1 h2 => ?_)
    have := h x (by omega) (by omega)
    rw [if_neg hb,if_pos hl,List.mem_cons] at this
    rw [this]
    exact ⟨fun h => h.resolve_left (by omega),Or.inr⟩
   ·rename_i hl
    rw [if_neg hb,if_neg hl] at hk
    rw [List.filter_cons_of_neg (fun h => hno _ (hk.1 h))]
    refine extL_filter n (k + 1) lack P fun x h1 h2 => ?_
    have := h x (by omega) (by omega)
    rw [if_neg hb,if_neg hl] at this
    exact this
theorem extL_nodup (bad : List Int) (n : Nat) (k lack : Int) : (extL bad n k lack).Nodup := by
 rw [extL_filter n k lack (fun x => decide (x ∈ extL bad n k lack)) (fun x _ _ => by simp)]
 exact (runL_nodup n k).filter _
theorem extL_length {bad : List Int} : ∀ (n : Nat) (k lack : Int),0 ≤ lack → lack ≤ (honL bad n k).length → ((extL bad n k lack).length : Int) = (((runL n k).filter fun x => decide (x ∈ bad)).length : Int) + lack
 | 0,k,lack,h0,h1 => by simp [extL,runL,honL] at *;omega
 | n + 1,k,lack,h0,h1 => by
  rw [extL]
  unfold honL at h1
  rw [runL] at h1 ⊢
  by_cases hb : k ∈ bad
  ·rw [if_pos hb,List.filter_cons_of_pos (by simpa using hb),List.length_cons,List.length_cons]
   rw [List.filter_cons_of_neg (by simpa using hb)] at h1
   have := extL_length n (k + 1) lack h0 h1
   omega
  ·rw [if_neg hb,List.filter_cons_of_neg (by simpa using hb)]
   rw [List.filter_cons_of_pos (by simpa using hb),List.length_cons] at h1
   by_cases hl : lack > 0
   ·rw [if_pos hl,List.length_cons]
    have := extL_length (bad := bad) n (k + 1) (lack - 1) (by omega) (by unfold honL;omega)
    omega
   ·rw [if_neg hl]
    exact extL_length n (k + 1) lack h0 (by omega)
theorem filter_split (bad : List Int) : ∀ (l : List Int),(l.filter fun x => decide (x ∈ bad)).length + (l.filter fun x => decide (x ∉ bad)).length = l.length
 | [] => rfl
 | a :: l => by
  have ih := filter_split bad l
  by_cases h : a ∈ bad
  ·rw [List.filter_cons_of_pos (by simpa using h),List.filter_cons_of_neg (by simpa using h)];simp only [List.length_cons];omega
  ·rw [List.filter_cons_of_neg (by simpa using h),List.filter_cons_of_pos (by simpa using h)];simp only [List.length_cons];omega
theorem runL_count {bad : List Int} (hn : bad.Nodup) {n : Nat} {k : Int} (hr : ∀ x ∈ bad,k ≤ x ∧ x < k + n) : ((runL n k).filter fun x => decide (x ∈ bad)).length = bad.length := by
 refine Nat.le_antisymm (vsub_len _ _ ((runL_nodup n k).filter _) fun x hx => ?_) (vsub_len _ _ hn fun x hx => ?_)
 ·exact of_decide_eq_true (List.mem_filter.1 hx).2
 ·exact List.mem_filter.2 ⟨(runL_mem n k x).2 (hr x hx),decide_eq_true hx⟩
structure CoaB (N T : Int) (bad : List Int) : Prop where
 n0 : 4 ≤ N
 n1 : N ≤ 13
 t0 : 1 ≤ T
 t1 : 3 * T < N
 len : (bad.length : Int) ≤ T
 nd : bad.Nodup
 rng : ∀ x ∈ bad,1 ≤ x ∧ x ≤ N
def extB (N T : Int) (bad : List Int) : List Int := extL bad N.toNat 1 (T - bad.length)
section
variable {N T : Int} {bad : List Int} (h : CoaB N T bad)
include h
theorem CoaB.rng' : ∀ x ∈ bad,(1 : Int) ≤ x ∧ x < 1 + (N.toNat : Nat) := fun x hx => by have := h.rng x hx;omega
theorem CoaB.hon_len : ((honL bad N.toNat 1).length : Int) = N - bad.length := by
 have h1 := filter_split bad (runL N.toNat 1)
 rw [runL_count h.nd h.rng',runL_length] at h1
 have := h.n0
 unfold honL;omega
theorem extB_length : ((extB N T bad).length : Int) = T := by
 have h1 := h.hon_len
 have h2 := h.len
 have h3 := h.t1
 have h4 := h.t0
 unfold extB
 rw [extL_length N.toNat 1 (T - bad.length) (by omega) (by omega),runL_count h.nd h.rng'];omega
theorem extB_range : ∀ x ∈ extB N T bad,1 ≤ x ∧ x ≤ N := fun x hx => by
 have := extL_range _ _ _ _ hx
 have := h.n0
 omega
theorem extB_has : ∀ x ∈ bad,x ∈ extB N T bad := fun x hx => extL_has _ _ _ _ hx (h.rng' x hx).1 (h.rng' x hx).2
theorem extB_nodup : (extB N T bad).Nodup := by
 have _h := h.n0
 exact extL_nodup _ _ _ _
end
def vanP (l : List Int) : List S97 := ⟨0,1⟩ :: l.map fun k => ⟨k,0⟩
theorem vanP_xs (l : List Int) : xsOf (vanP l) = 0 :: l := by
 unfold xsOf vanP
 rw [List.map_cons,List.map_map]
 exact congrArg _ (List.map_id _)
theorem vanP_length (l : List Int) : (vanP l).length = l.length + 1 := by simp [vanP]
structure VanOk (p : Int) (l : List Int) : Prop where
 res : ∀ x ∈ l,Res p x
 nz : ∀ x ∈ l,x ≠ 0
 nd : l.Nodup
section
variable {p : Int} (hp : Supp p) {l : List Int} (h : VanOk p l)
include hp h
theorem vanP_ok : PtsOk p (vanP l) := by
 have hb := hp.bd
 intro y hy
 rcases List.mem_cons.1 hy with rfl|hy
 ·exact ⟨⟨Int.le_refl 0,by show (0 : Int) < p;omega⟩,⟨by show (0 : Int) ≤ 1;omega,by show (1 : Int) < p;omega⟩⟩
 ·obtain ⟨x,hx,rfl⟩ := List.mem_map.1 hy
  exact ⟨h.res x hx,⟨Int.le_refl 0,by show (0 : Int) < p;omega⟩⟩
theorem vanP_nd : (xsOf (vanP l)).Nodup := by
 have _h := hp.bd
 rw [vanP_xs]
 exact List.nodup_cons.2 ⟨fun hx => h.nz 0 hx rfl,h.nd⟩
theorem van_at (y : S97) (hy : y ∈ vanP l) : evI p y.f0 (polL p (vanP l)) = y.f1 := by
 obtain ⟨j,hj,rfl⟩ := List.getElem_of_mem hy
 have h1 := polL_at hp (vanP_ok hp h) (vanP_nd hp h) j hj
 rw [rdT_nat _ _ hj] at h1
 exact h1
theorem van_zero : evI p 0 (polL p (vanP l)) = 1 := van_at hp h ⟨0,1⟩ (by simp [vanP])
theorem van_root (x : Int) (hx : x ∈ l) : evI p x (polL p (vanP l)) = 0 := van_at hp h ⟨x,0⟩ (List.mem_cons_of_mem _ (List.mem_map.2 ⟨x,hx,rfl⟩))
theorem van_res : ∀ x ∈ polL p (vanP l),Res p x := polL_res hp (vanP_ok hp h)
theorem van_uniq {g : List Int} (hg : ∀ x ∈ g,Res p x) (lg : g.length ≤ l.length + 1) (h0 : evI p 0 g = 1) (h1 : ∀ x ∈ l,evI p x g = 0) : polL p (vanP l) = trimL g := by
 refine polL_char hp (vanP_ok hp h) (vanP_nd hp h) hg (by rw [vanP_length];exact lg) (fun j hj => ?_)
 rw [rdT_nat _ _ hj]
 have hm : (vanP l)[j] ∈ vanP l := List.getElem_mem _
 generalize (vanP l)[j] = y at hm
 rcases List.mem_cons.1 hm with rfl|hm
 ·exact h0
 ·obtain ⟨x,hx,rfl⟩ := List.mem_map.1 hm
  exact h1 x hx
theorem van_len : (polL p (vanP l)).length = l.length + 1 := by
 have h1 := polL_len hp (pts := vanP l)
 rw [vanP_length] at h1
 refine Nat.le_antisymm h1 (Nat.lt_of_not_le fun h2 => ?_)
 have h3 := uniq hp h.res h.nd (van_res hp h) (g := []) (fun x hx => by cases hx) h2 (Nat.zero_le _) (fun x hx => by rw [van_root hp h x hx];rfl)
 rw [polL_trim] at h3
 have h4 := van_zero hp h
 rw [h3] at h4
 have : trimL ([] : List Int) = [] := rfl
 rw [this] at h4
 simp [evI] at h4
theorem van_only {x : Int} (hx : Res p x) (h0 : x ≠ 0) (hz : evI p x (polL p (vanP l)) = 0) : x ∈ l := by
 refine Classical.byContradiction fun hn => ?_
 have hv : VanOk p (x :: l) := ⟨fun y hy => by
  rcases List.mem_cons.1 hy with rfl|hy
  ·exact hx
  ·exact h.res y hy,fun y hy => by
  rcases List.mem_cons.1 hy with rfl|hy
  ·exact h0
  ·exact h.nz y hy,List.nodup_cons.2 ⟨hn,h.nd⟩⟩
 have h1 := van_len hp hv
 have h2 := van_uniq hp hv (van_res hp h) (by rw [van_len hp h,List.length_cons];omega) (van_zero hp h) (fun y hy => by
  rcases List.mem_cons.1 hy with rfl|hy
  ·exact hz
  ·exact van_root hp h y hy)
 rw [polL_trim] at h2
 rw [h2,van_len hp h,List.length_cons] at h1
 omega
theorem van_last : (polL p (vanP l)).getD l.length 0 ≠ 0 := by
 have h1 := van_len hp h
 have h2 := trimL_last (polL p (vanP l)) (by rw [polL_trim];intro e;rw [e] at h1;simp at h1)
 rw [polL_trim,h1,Nat.add_sub_cancel] at h2
 exact h2
end
end Go.Proofs.Ytejeelpnmdfibaa.E
end
section
namespace Go.Proofs.Ytejeelpnmdfibaa.Hw
open Go.RowKit Go.Proofs.Ytejeelpnmdfibaa.Pr Go.Proofs.YtejeelpnmdfibaaW.PrintWords Go.Proofs.YtejeelpnmdfibaaW.PrintLast Go.Proofs.YtejeelpnmdfibaaW.PrintMore Go.Proofs.Ytejeelpnmdfibaa.E
section
variable {P : Program} {ops : Array Oper} {Q : Exit → Act → World → Prop}
theorem st_row {rest : List Oper} {op : Oper} {a : Act} {w : World} (hgd : op.guard = none) (ty : TypeId) (x y : Operand) (ho : op.op = .store ty x y) (g : Nat) (cells : Array Value) (hx : a.eval x = .pointer (some ⟨g,0,none⟩)) (hy : a.eval y = .agg cells)
  (t : TypeId) (old : Array Value) (hg : w.heap[g]? = some (.cells old t (0,0))) (hi : (P.info? ty).map (·.size) = some cells.size) (hold : old.size = cells.size) (h1 : cells.all (·.oneCell') = true)
  (h : ∀ w',w'.heap[g]? = some (.cells cells t (0,0)) → (∀ B w0,B ≤ g → Below B w0 w → Below B w0 w') → (∀ b o,b ≠ g → w.heap[b]? = some o → w'.heap[b]? = some o) → wpList P ops Q rest (a.put op.dst undef) w') : wpList P ops Q (op :: rest) a w :=
 wpList_plain hgd fun _ hK => wp_store_row ty x y ho g cells hx hy t old hg hi hold h1 (hK _ _ (h _ (setRow_heap _ g _ _ t _ hg) (fun B w0 hB hb => Go.below_setRow hb hB _) (fun b o hb h => (setRow_other w g b cells (by omega)).trans h)))
theorem ld_row {rest : List Oper} {op : Oper} {a : Act} {w : World} (hgd : op.guard = none) (ty : TypeId) (x : Operand) (ho : op.op = .load ty x) (g : Nat) (hx : a.eval x = .pointer (some ⟨g,0,none⟩)) (t : TypeId) (cs : Array Value) (fr : Nat × Nat) (d : TypeDesc)
  (hg : w.heap[g]? = some (.cells cs t fr)) (hu : P.underlying ty = some d) (hd : (match d with|.struct _|.array _ _ => true|_ => false) = true) (hi : (P.info? ty).map (·.size) = some cs.size)
  (h : wpList P ops Q rest (a.put op.dst (.agg cs)) w) : wpList P ops Q (op :: rest) a w :=
 wpList_plain hgd fun _ hK => wp_load_row ty x ho g hx t cs fr d hg hu hd hi (hK _ _ h)
theorem results_c {fn : Func} {p : Tmp} {ty : TypeId} (h : fn.results = #[.cell p ty]) (tmps : Array Value) (w : World) (g : Nat) (t : TypeId) (cs : Array Value) (fr : Nat × Nat) (d : TypeDesc)
  (hp : tmps.getD p undef = .pointer (some ⟨g,0,none⟩)) (hg : w.heap[g]? = some (.cells cs t fr))
  (hu : P.underlying ty = some d) (hd : (match d with|.struct _|.array _ _ => true|_ => false) = true) (hi : (P.info? ty).map (·.size) = some cs.size) :
  (results fn tmps).run P w = .ok (.agg cs) w := by
 have hp' : tmps[p]?.getD undef = .pointer (some ⟨g,0,none⟩) := by simpa using hp
 simp [results,h,hp',asAddr,run_loadVar_row w g t ty cs fr d hg hu hd hi]
end
def markL (l : List Int) : List Bool := (List.range 14).map fun (i : Nat) => decide ((i : Int) ∈ l)
def boolC (m : List Bool) : List Value := m.map Value.bool
theorem markL_length (l : List Int) : (markL l).length = 14 := by simp [markL]
theorem boolC_length (m : List Bool) : (boolC m).length = m.length := by simp [boolC]
theorem boolC_one (m : List Bool) : (boolC m).toArray.all (·.oneCell') = true := by
 simp only [boolC,List.all_toArray,List.all_map,List.all_eq_true]
 intro x _;rfl
theorem markL_get {l : List Int} {i : Nat} (h : i < 14) : (markL l)[i]? = some (decide ((i : Int) ∈ l)) := by unfold markL;rw [List.getElem?_map,List.getElem?_range h];rfl
theorem boolC_get {m : List Bool} {i : Nat} {b : Bool} (h : m[i]? = some b) : (boolC m)[i]? = some (.bool b) := by unfold boolC;rw [List.getElem?_map,h];rfl
theorem boolC_set (m : List Bool) (i : Nat) (b : Bool) : (boolC m).set i (.bool b) = boolC (m.set i b) := by unfold boolC;rw [List.map_set]
theorem markL_more (l : List Int) {x : Int} (h0 : 0 ≤ x) (h1 : x < 14) : (markL l).set x.toNat true = markL (l ++ [x]) := by
 refine List.ext_getElem? fun i => ?_
 by_cases hi : i < 14
 ·rw [markL_get hi]
  by_cases e : i = x.toNat
  ·subst e
   rw [List.getElem?_set_self (by rw [markL_length];exact hi),show ((x.toNat : Nat) : Int) = x from by omega]
   simp
  ·rw [List.getElem?_set_ne (Ne.symm e),markL_get hi]
   have : (i : Int) ≠ x := by omega
   simp [this]
 ·rw [List.getElem?_eq_none (by rw [List.length_set,markL_length];omega),List.getElem?_eq_none (by rw [markL_length];omega)]
theorem infoA : (Try.prog.info? 106).map (·.size) = some 14 := by kernel_rfl
set_option maxHeartbeats 2000000 in
set_option maxRecDepth 100000 in
theorem members_walk (A : Option Addr) (c : Nat) (l : List Int) (w : World) (hr : Kd.C (Kd.int .i64) w A l.length l) (hc : l.length ≤ c) (hl : l.length ≤ 1000) (hx : ∀ i : Nat,i < l.length → 0 ≤ rd l (i : Int) ∧ rd l (i : Int) < 14) :
  Calls Try.prog 108 #[.slice A l.length c] w fun e w' => e = .returned (.agg (boolC (markL l)).toArray) ∧ Below w.heap.size w w' := by
 have HR := am hr
 have HX := am hx
 have hz := (zero_of_info (P := Try.prog) (t := 106) (v := .agg (boolC (markL [])).toArray) (n := 14) (by kernel_rfl)).1
 have hu := Try.underlying106
 clear hr hx
 go_enter Try.func108,Try.ntmps108
 go_wp2
 obtain ⟨g,hg⟩ : ∃ y,y = w.heap.size := ⟨_,rfl⟩
 rw [← hg]
 have HG := am hg
 clear hg hz
 go_loopg [7] l.length (fun kq v7 w' => ∃ i : Nat,v7 = .int .i64 (i : Int) ∧ Aside0 (kq + i = l.length) ∧ Aside0 (w'.heap[g]? = some (.cells (boolC (markL (l.take i))).toArray 106 (0,0))) ∧ Aside0 (Below w.heap.size w w'))
 case atStart => exact ⟨0,rfl,⟨rfl⟩,⟨by rw [HG.out,List.take_zero];exact blk_new w _⟩,⟨below_alloc (Below.refl _ _) _⟩⟩
 case round =>
  obtain ⟨i,rfl,HK,HM,HB⟩ := hrel
  by_cases hlt : i < l.length
  ·have q1 : decide ((i : Int) < (l.length : Int)) = true := decide_eq_true (by omega)
   have q2 : decide (i < l.length) = true := decide_eq_true hlt
   obtain ⟨ad,e,hy⟩ := Kd.at_int (Kd.C_below HR.out HB.out) (i : Int) (by omega) (by omega)
   cases e
   rw [Int.toNat_natCast] at hy
   obtain ⟨x0,x1⟩ := HX.out i hlt
   have hsn : l.take (i + 1) = l.take i ++ [rd l (i : Int)] := by
    rw [List.take_add_one,List.getElem?_eq_getElem hlt]
    have : rd l (i : Int) = l[i] := by unfold rd;rw [Int.toNat_natCast,List.getD_eq_getElem?_getD,List.getElem?_eq_getElem hlt];rfl
    rw [this];rfl
   obtain ⟨x,hxe⟩ : ∃ y,y = rd l (i : Int) := ⟨_,rfl⟩
   rw [← hxe] at hy x0 x1 hsn
   have p1 : ((0 : Int) ≤ (i : Int)) = True := eq_true (by omega)
   have p2 : ((i : Int) < (l.length : Int)) = True := eq_true (by omega)
   have p3 : ((0 : Int) ≤ x) = True := eq_true x0
   have p4 : (x < 14) = True := eq_true x1
   have c1 := blk_cell HM.out x.toNat
   rw [List.getElem?_toArray,boolC_get (markL_get (by omega))] at c1
   have f1 := blk_frozen HM.out x.toNat
   have HSN := am hsn
   have HX0 := am (And.intro x0 x1)
   clear hsn hxe x0 x1
   go_wp2
   go_roundg (l.length - (i + 1))
   case measure => have := HK.out;omega
   case rel =>
    refine ⟨i + 1,by go_num,⟨by omega⟩,⟨blk_put HM.out x.toNat _ ?_⟩,⟨Below.setCell HB.out (p := ⟨g,x.toNat,none⟩) (by rw [HG.out];exact Nat.le_refl _) _⟩⟩
    rw [List.setIfInBounds_toArray,boolC_set,markL_more _ HX0.out.1 HX0.out.2,← HSN.out]
  ·have q1 : decide ((i : Int) < (l.length : Int)) = false := decide_eq_false (by omega)
   have q2 : decide (i < l.length) = false := decide_eq_false hlt
   have hil : l.take i = l := List.take_of_length_le (by omega)
   have hm := HM.out
   rw [hil] at hm
   have hsz : (Try.prog.info? 106).map (·.size) = some (boolC (markL l)).toArray.size := by rw [infoA,List.size_toArray,boolC_length,markL_length]
   have HM2 := am hm
   have HSZ := am hsz
   clear hm hil hsz
   go_wp2_with (first
    | ((with_reducible refine gate_dst (N := 14) rfl ?_);refine ld_row rfl 106 (.tmp 2) rfl g (by rfl) 106 (boolC (markL l)).toArray (0,0) _ HM2.out Try.underlying106 rfl HSZ.out ?_)
    | ((with_reducible refine gate_store (p := 2) rfl ?_);refine st_row rfl 106 (.tmp 2) (.tmp 14) rfl g (boolC (markL l)).toArray (by rfl) (by rfl) 106 (boolC (markL l)).toArray HM2.out HSZ.out rfl (boolC_one _) ?_;intro w6 hb6 hbw hbo;have HB6 := am (hbw _ _ (by rw [HG.out];exact Nat.le_refl _) HB.out);have HM6 := am hb6;clear hb6 hbw hbo))
   (try simp only [Exit.inBlock,Exit.then])
   refine bodyPost_ret (results_c rfl _ _ g 106 (boolC (markL l)).toArray (0,0) _ (by rfl) HM6.out Try.underlying106 rfl HSZ.out) rfl ?_
   exact ⟨rfl,HB6.out⟩
theorem ext_yes {bad : List Int} {n : Nat} {k lack : Int} (h : k ∈ bad) : extL bad (n + 1) k lack = k :: extL bad n (k + 1) lack := by rw [extL,if_pos h]
theorem ext_more {bad : List Int} {n : Nat} {k lack : Int} (h : k ∉ bad) (hl : lack > 0) : extL bad (n + 1) k lack = k :: extL bad n (k + 1) (lack - 1) := by rw [extL,if_neg h,if_pos hl]
theorem ext_skip {bad : List Int} {n : Nat} {k lack : Int} (h : k ∉ bad) (hl : ¬ lack > 0) : extL bad (n + 1) k lack = extL bad n (k + 1) lack := by rw [extL,if_neg h,if_neg hl]
set_option maxHeartbeats 4000000 in
set_option maxRecDepth 100000 in
theorem ext_walk (p : Int) (N : Nat) (T : Int) (A : Option Addr) (c : Nat) (l : List Int) (w : World) (hr : Kd.C (Kd.int .i64) w A l.length l) (hc : l.length ≤ c) (hl : l.length ≤ 1000) (hx : ∀ i : Nat,i < l.length → 0 ≤ rd l (i : Int) ∧ rd l (i : Int) < 14) (hN : N ≤ 13) :
  Calls Try.prog 98 #[.agg #[.int .u64 p,.int .i64 (N : Int),.int .i64 T],.slice A l.length c] w fun e w' => ∃ v0_ : Value,e = .returned (v0_) ∧ Kd.R (Kd.int .i64) 3 w' w.heap.size (fun _ => True) v0_ (extL l N 1 (T - l.length)) ∧ Below w.heap.size w w' := by
 have HR := am hr
 have HX := am hx
 have HC := am hc
 have HL := am hl
 have hz := (zero_of_info (P := Try.prog) (t := 106) (v := .agg (boolC (markL [])).toArray) (n := 14) (by kernel_rfl)).1
 have hu := Try.underlying106
 have hu2 := Try.underlying24
 have hsz : (Try.prog.info? 106).map (·.size) = some (boolC (markL l)).toArray.size := by rw [infoA,List.size_toArray,boolC_length,markL_length]
 have HSZ := am hsz
 clear hr hx hc hl hsz
 go_enter Try.func98,Try.ntmps98
 go_wp2_with (first
  | ((with_reducible refine gate_dst (N := 2) rfl ?_);refine box_event ?hg (N := 2) ?hd (cs := #[.int .u64 p,.int .i64 (N : Int),.int .i64 T]) (t := 24) ?hr ?_;(case hd => rfl);(case hg => rfl);(case hr => first|(go_simp;done)|(go_simp;rfl));intro gb hgb w4 hbox hb4;have GB := am hgb;have BK4 := am hbox;have HB4 := am hb4;clear hbox hb4 hgb)
  | (go_at_call 108;(refine (members_walk A c l _ (Kd.C_below HR.out HB4.out) HC.out HL.out HX.out).mono ?_);rintro e w5 ⟨rfl,hb5⟩;have BK5 := am (blk_below BK4.out hb5);have HB5 := am (below_step HB4.out hb5);clear hb5)
  | ((with_reducible refine gate_store (p := 5) rfl ?_);refine st_row rfl 106 (.tmp 5) (.tmp 10) rfl w5.heap.size (boolC (markL l)).toArray (by rfl) (by rfl) 106 (boolC (markL [])).toArray (blk_new w5 _) HSZ.out (by rw [List.size_toArray,List.size_toArray,boolC_length,boolC_length,markL_length,markL_length]) (boolC_one _) ?_;intro w6 hb6 hbw hbo;have BK6 := am (hbo gb _ (by have := blk_lt BK5.out;omega) (blk_alloc BK5.out _));have HB6 := am (hbw _ _ (below_size HB5.out) (below_alloc HB5.out _));have HM6 := am hb6;clear hb6 hbw hbo))
 obtain ⟨g,hg⟩ : ∃ y,y = w5.heap.size := ⟨_,rfl⟩
 rw [← hg] at HM6 ⊢
 have HG := am (show w.heap.size ≤ g by rw [hg];exact below_size HB5.out)
 have HGB := am (show w.heap.size ≤ gb by rw [GB.out];exact Nat.le_refl _)
 clear hg hz BK4 BK5 HB4 HB5 GB
 go_loopg [6,7,8] N (fun kq v6 v7 v8 w' => ∃ (k : Nat) (n : Int) (m : List Bool) (dn : List Int),v6 = .int .i64 n ∧ v8 = .int .i64 (k : Int) ∧ Aside0 (kq + k = N + 1 ∧ 1 ≤ k) ∧ Aside0 (0 ≤ n ∧ n + 1 ≤ l.length + k) ∧ Aside0 (m.length = 14 ∧ ∀ i : Nat,k ≤ i → i < 14 → m[i]? = some (decide ((i : Int) ∈ l))) ∧ Aside0 (dn ++ extL l (N + 1 - k) (k : Int) (T - n) = extL l N 1 (T - l.length)) ∧ Aside0 (dn.length + 1 ≤ k) ∧ Aside0 (Kd.R (Kd.int .i64) 3 w' w.heap.size (fun _ => True) v7 dn) ∧ Aside0 (w'.heap[g]? = some (.cells (boolC m).toArray 106 (0,0))) ∧ Aside0 (w'.heap[gb]? = some (.cells #[.int .u64 p,.int .i64 (N : Int),.int .i64 T] 24 (0,0))) ∧ Aside0 (Below w.heap.size w w'))
 case atStart => exact ⟨1,(l.length : Int),markL l,[],rfl,rfl,⟨rfl,Nat.le_refl _⟩,⟨by omega,by omega⟩,⟨markL_length l,fun i _ hi => markL_get hi⟩,⟨rfl⟩,⟨Nat.le_refl _⟩,⟨Kd.R_nil _ _ _ _ _⟩,HM6,BK6,HB6⟩
 case round =>
  clear HM6 BK6 HB6
  obtain ⟨k,n,m,dn,rfl,rfl,HK,HN,HM,HD,HDL,HO,HMB,BK,HB⟩ := hrel
  have cN := blk_cell BK.out 1
  have cT := blk_cell BK.out 2
  simp only [List.getElem?_toArray,List.getElem?_cons_zero,List.getElem?_cons_succ] at cN cT
  obtain ⟨hk0,hk1⟩ := HK.out
  obtain ⟨hn0,hn1⟩ := HN.out
  have hl := HL.out
  by_cases hlt : k ≤ N
  ·have q1 : decide ((k : Int) ≤ (N : Int)) = true := decide_eq_true (by omega)
   have q2 : decide (k ≤ N) = true := decide_eq_true hlt
   have p1 : ((0 : Int) ≤ (k : Int)) = True := eq_true (by omega)
   have p2 : ((k : Int) < 14) = True := eq_true (by omega)
   have p3 : (k < 14) = True := eq_true (by omega)
   have c1 := blk_cell HMB.out k
   rw [List.getElem?_toArray,boolC_get (HM.out.2 k (Nat.le_refl _) (by omega))] at c1
   have f1 := blk_frozen HMB.out k
   have hrun : N + 1 - k = (N + 1 - (k + 1)) + 1 := by omega
   by_cases hb : (k : Int) ∈ l
   ·have hd : decide ((k : Int) ∈ l) = true := decide_eq_true hb
    rw [hd] at c1
    have HE := am (show dn ++ [(k : Int)] ++ extL l (N + 1 - (k + 1)) ((k : Int) + 1) (T - n) = extL l N 1 (T - l.length) by rw [← HD.out,hrun,ext_yes hb,List.append_assoc];rfl)
    obtain ⟨m1,hm1⟩ : ∃ y : List Int,y = dn ++ [(k : Int)] := ⟨_,rfl⟩
    have NM := am hm1
    obtain ⟨A7,c7,rfl⟩ := Kd.R_slice HO.out
    clear hm1 hd hb hrun hk0 hn1
    go_wp2_with (first
     | ((with_reducible refine gate_builtin (b := .append) (xs := #[.tmp 36,.tmp 38]) rfl ?_);at_builtin;refine Kd.R_append (Kd.int .i64) (w0 := w) w.heap.size rfl (.tmp 36) (.tmp 38) 25 3 (.int .i64 0) 8 rfl Try.underlying25 info3 rfl (by decide) (by omega) (.slice A7 dn.length c7) dn (k : Int) [.int .i64 (k : Int)] (fun _ => True) (fun _ => False) rfl rfl rfl (fun _ hk => hk.elim) (fun _ _ => trivial) HO.out HB.out (below_size HB.out) (by have := HDL.out;omega) ?_;intro v1 w1 ho hb hg hat;rw [← NM.out] at ho;have HMB1 := am (blk_grown HMB.out hg (Kd.R_ne HO.out HMB.out (by decide)));have BK1 := am (blk_grown BK.out hg (Kd.R_ne HO.out BK.out (by decide)));have HO1 := am ho;have HB1 := am hb;clear ho hb hg hat))
    go_roundg (N - k)
    case measure => have := HK.out;omega
    case rel => exact ⟨k + 1,n,m,m1,rfl,by go_num,⟨by omega⟩,⟨by have := HN.out;omega⟩,⟨HM.out.1,fun i h1 h2 => HM.out.2 i (by omega) h2⟩,⟨by rw [NM.out];exact HE.out⟩,⟨by rw [NM.out,List.length_append];have := HDL.out;simp only [List.length_cons,List.length_nil];omega⟩,HO1,HMB1,BK1,HB1⟩
   ·have hd : decide ((k : Int) ∈ l) = false := decide_eq_false hb
    rw [hd] at c1
    by_cases hln : n < T
    ·have q3 : decide (n < T) = true := decide_eq_true hln
     have HE := am (show dn ++ [(k : Int)] ++ extL l (N + 1 - (k + 1)) ((k : Int) + 1) (T - (n + 1)) = extL l N 1 (T - l.length) by rw [← HD.out,hrun,ext_more hb (by omega),List.append_assoc,show T - (n + 1) = T - n - 1 from by omega];rfl)
     obtain ⟨m1,hm1⟩ : ∃ y : List Int,y = dn ++ [(k : Int)] := ⟨_,rfl⟩
     have NM := am hm1
     obtain ⟨A7,c7,rfl⟩ := Kd.R_slice HO.out
     have hb2 : (wr.setCell ⟨g,k,none⟩ (.bool true)).heap[g]? = some (.cells (boolC (m.set k true)).toArray 106 (0,0)) := blk_put HMB.out k _ (by rw [List.setIfInBounds_toArray,boolC_set])
     have hgg : gb ≠ g := blk_ne BK.out HMB.out (by decide)
     have hb3 : (wr.setCell ⟨g,k,none⟩ (.bool true)).heap[gb]? = some (.cells #[.int .u64 p,.int .i64 (N : Int),.int .i64 T] 24 (0,0)) := blk_far (p := ⟨g,k,none⟩) BK.out hgg _
     have hb4 := Kd.R_set HO.out HMB.out (by decide) k (.bool true)
     have hb5 := Below.setCell HB.out (p := ⟨g,k,none⟩) HG.out (.bool true)
     have c2 := blk_cell hb2 k
     rw [List.getElem?_toArray,boolC_get (b := true) (by rw [List.getElem?_set_self (by rw [HM.out.1];omega)])] at c2
     have HB2 := am hb2
     have HB3 := am hb3
     have HB4 := am hb4
     have HB5 := am hb5
     clear hm1 hd hb hrun hk0 hn1 hb2 hb3 hb4 hb5 hgg
     go_wp2_with (first
      | ((with_reducible refine gate_builtin (b := .append) (xs := #[.tmp 36,.tmp 38]) rfl ?_);at_builtin;refine Kd.R_append (Kd.int .i64) (w0 := w) w.heap.size rfl (.tmp 36) (.tmp 38) 25 3 (.int .i64 0) 8 rfl Try.underlying25 info3 rfl (by decide) (by omega) (.slice A7 dn.length c7) dn (k : Int) [.int .i64 (k : Int)] (fun _ => True) (fun _ => False) rfl (by rw [show (wr.setCell ⟨g,k,none⟩ (.bool true)).heap.size = wr.heap.size from by simp [World.setCell]];rfl) rfl (fun _ hk => hk.elim) (fun _ _ => trivial) HB4.out HB5.out (below_size HB5.out) (by have := HDL.out;omega) ?_;intro v1 w1 ho hb hg hat;rw [← NM.out] at ho;have HMB1 := am (blk_grown HB2.out hg (Kd.R_ne HB4.out HB2.out (by decide)));have BK1 := am (blk_grown HB3.out hg (Kd.R_ne HB4.out HB3.out (by decide)));have HO1 := am ho;have HB1 := am hb;clear ho hb hg hat))
     go_roundg (N - k)
     case measure => have := HK.out;omega
     case rel => exact ⟨k + 1,n + 1,m.set k true,m1,by rw [show wrap64 (n + 1) = n + 1 from w64' (by have := HN.out;have := HL.out;omega) (by have := HN.out;have := HL.out;omega)],by go_num,⟨by omega⟩,⟨by have := HN.out;omega⟩,⟨by rw [List.length_set];exact HM.out.1,fun i h1 h2 => by rw [List.getElem?_set_ne (by omega)];exact HM.out.2 i (by omega) h2⟩,⟨by rw [NM.out];exact HE.out⟩,⟨by rw [NM.out,List.length_append];have := HDL.out;simp only [List.length_cons,List.length_nil];omega⟩,HO1,HMB1,BK1,HB1⟩
    ·have q3 : decide (n < T) = false := decide_eq_false hln
     have HE := am (show dn ++ extL l (N + 1 - (k + 1)) ((k : Int) + 1) (T - n) = extL l N 1 (T - l.length) by rw [← HD.out,hrun,ext_skip hb (by omega)])
     clear hd hb hrun hk0 hn1
     go_wp2
     go_roundg (N - k)
     case measure => have := HK.out;omega
     case rel => exact ⟨k + 1,n,m,dn,rfl,by go_num,⟨by omega⟩,⟨by have := HN.out;omega⟩,⟨HM.out.1,fun i h1 h2 => HM.out.2 i (by omega) h2⟩,HE,⟨by have := HDL.out;omega⟩,HO,HMB,BK,HB⟩
  ·have q1 : decide ((k : Int) ≤ (N : Int)) = false := decide_eq_false (by omega)
   have q2 : decide (k ≤ N) = false := decide_eq_false hlt
   have hz : N + 1 - k = 0 := by omega
   have HE := am (show dn = extL l N 1 (T - l.length) by rw [← HD.out,hz];simp [extL])
   clear hz
   go_wp2
   first|go_ret|((try simp only [Exit.inBlock,Exit.then]);refine bodyPost_ret (results_tmp rfl _ _ rfl) rfl ?_)
   exact ⟨_,rfl,by rw [← HE.out];exact HO.out,HB.out⟩
def params_ExtendCoalition.f (a0 a1 a2 : Int) (l : List Int) : Option (List Int) :=
 if 0 ≤ a1 then (if a1 ≤ 13 then (if l.length ≤ 1000 then (if (l.all fun x => decide (0 ≤ x) && decide (x < 14)) = true then some (extL l a1.toNat 1 (a2 - l.length)) else none) else none) else none) else none
theorem params_ExtendCoalition.calls (a0 a1 a2 : Int) (A1 : Option Addr) (c1 : Nat) (l1 : List Int) (r : List Int) (w : World) (hr1 : Kd.C (Kd.int .i64) w A1 l1.length l1) (hc1 : l1.length ≤ c1) (h : params_ExtendCoalition.f a0 a1 a2 l1 = some r) :
  Calls Try.prog 98 #[.agg #[.int .u64 a0,.int .i64 a1,.int .i64 a2],.slice A1 l1.length c1] w fun e w' => ∃ v0_ : Value,e = .returned (v0_) ∧ Kd.R (Kd.int .i64) 3 w' w.heap.size (fun _ => True) v0_ r ∧ Below w.heap.size w w' := by
 unfold params_ExtendCoalition.f at h
 obtain ⟨h1,h⟩ := ifs h
 obtain ⟨h2,h⟩ := ifs h
 obtain ⟨h3,h⟩ := ifs h
 obtain ⟨h4,h⟩ := ifs h
 rw [← Option.some.inj h]
 have e : ((a1.toNat : Nat) : Int) = a1 := Int.toNat_of_nonneg h1
 have hg := ext_walk a0 a1.toNat a2 A1 c1 l1 w hr1 hc1 h3 (fun i hi => by
  have hm := List.all_eq_true.1 h4 (l1[i]) (List.getElem_mem _)
  rw [Bool.and_eq_true,decide_eq_true_eq,decide_eq_true_eq] at hm
  have : rd l1 (i : Int) = l1[i] := by unfold rd;rw [Int.toNat_natCast,List.getD_eq_getElem?_getD,List.getElem?_eq_getElem hi];rfl
  rw [this];exact hm) (by omega)
 rw [e] at hg
 exact hg
end Go.Proofs.Ytejeelpnmdfibaa.Hw
end
section
namespace Go.Proofs.Ytejeelpnmdfibaa.Pr
open Go.RowKit Go.Proofs.YtejeelpnmdfibaaW.PrintWords Go.Proofs.YtejeelpnmdfibaaW.PrintLast Go.Proofs.YtejeelpnmdfibaaW.PrintMore
attribute [local go_sem] max2_int min2_int max_two min_two max_three min_three max_four min_four
open Go.Proofs.Ytejeelpnmdfibaa.Hw
def params_VanishingPolynomial.l0 : Nat → List (S97) → List Int → Int → Int → Int → Int → Int → Option (List Int)
 | 0,_,_,_,_,_,_,_ => none
 | k + 1,x5,x14,x15,x16,x218000,x218001,x218002 => if x16 < x15 then (if 0 ≤ x16 then (if x16 < (x14.length : Int) then (if x5.length < 8796093022208 then (params_VanishingPolynomial.l0 k (x5 ++ [(⟨IntKind.u64.wrap (rd x14 x16),0⟩ : S97)]) x14 x15 (wrap64 (x16 + 1)) x218000 x218001 x218002) else (none)) else (none)) else (none)) else ((interpolate_Polynomial.f x218000 x5).bind fun bt228 => (some bt228.1))
def params_VanishingPolynomial.f (k : Nat) (a0_0 : Int) (a0_1 : Int) (a0_2 : Int) (l1 : List Int) : Option (List Int) := (params_ExtendCoalition.f a0_0 a0_1 a0_2 l1).bind fun t221 => (params_VanishingPolynomial.l0 k (([(⟨0,1⟩ : S97)] : List (S97))) t221 (t221.length : Int) 0 a0_0 a0_1 a0_2)
theorem params_VanishingPolynomial.mono_l : ∀ k,(∀ y0 y1 y2 y3 y4 y5 y6,LeO (params_VanishingPolynomial.l0 k y0 y1 y2 y3 y4 y5 y6) (params_VanishingPolynomial.l0 (k + 1) y0 y1 y2 y3 y4 y5 y6))
 | 0 => fun _ _ _ _ _ _ _ r h => by simp [params_VanishingPolynomial.l0] at h
 | k + 1 => by
  have ih0 := params_VanishingPolynomial.mono_l k
  ·intro y0 y1 y2 y3 y4 y5 y6
   unfold params_VanishingPolynomial.l0
   repeat' first
   | (with_reducible exact ih0 _ _ _ _ _ _ _)
   | (with_reducible exact LeO.refl _)
   | (with_reducible exact LeO.none _)
   | (with_reducible refine LeO.ite ?_ ?_)
   | (with_reducible refine LeO.bind ?_ (fun _ => ?_))
   | exact ih0 _ _ _ _ _ _ _
   | exact LeO.none _
   | refine LeO.ite ?_ ?_
   | refine LeO.bind ?_ (fun _ => ?_)
theorem params_VanishingPolynomial.mono : ∀ a0 a1 a2 a3 k,LeO (params_VanishingPolynomial.f k a0 a1 a2 a3) (params_VanishingPolynomial.f (k + 1) a0 a1 a2 a3) := by
 intro a0 a1 a2 a3 k
 have ih0 := params_VanishingPolynomial.mono_l k
 unfold params_VanishingPolynomial.f
 repeat' first
   | (with_reducible exact ih0 _ _ _ _ _ _ _)
   | (with_reducible exact LeO.refl _)
   | (with_reducible exact LeO.none _)
   | (with_reducible refine LeO.ite ?_ ?_)
   | (with_reducible refine LeO.bind ?_ (fun _ => ?_))
   | exact ih0 _ _ _ _ _ _ _
   | exact LeO.none _
   | refine LeO.ite ?_ ?_
   | refine LeO.bind ?_ (fun _ => ?_)
set_option maxHeartbeats 8000000 in
set_option maxRecDepth 100000 in
theorem params_VanishingPolynomial.calls (k : Nat) (a0_0 : Int) (a0_1 : Int) (a0_2 : Int) (A1 : Option Addr) (c1 : Nat) (l1 : List Int) (r : List Int) (w : World) (hr1 : Kd.C (Kd.int .i64) w A1 l1.length l1) (hc1 : l1.length ≤ c1) (h : params_VanishingPolynomial.f k a0_0 a0_1 a0_2 l1 = some r) :
  Calls Try.prog 72 #[.agg #[.int .u64 a0_0,.int .i64 a0_1,.int .i64 a0_2],.slice A1 l1.length c1] w fun e w' => ∃ v0_ : Value,e = .returned (v0_) ∧ Kd.R (Kd.int .u64) 22 w' w.heap.size (fun _ => True) v0_ r ∧ Below w.heap.size w w' := by
 have hu24 := Try.underlying24
 have hu97 := Try.underlying97
 have HR1 := am hr1
 have HC1 := am hc1
 clear hr1 hc1
 have HB := am (Below.refl w.heap.size w)
 have H : ((params_ExtendCoalition.f a0_0 a0_1 a0_2 l1).bind fun t221 => (params_VanishingPolynomial.l0 k (([(⟨0,1⟩ : S97)] : List (S97))) t221 (t221.length : Int) 0 a0_0 a0_1 a0_2)) = some r := h
 clear h
 obtain ⟨y218,hy218⟩ : ∃ y_ : List (S97),y_ = (([(⟨0,1⟩ : S97)] : List (S97))) := ⟨_,rfl⟩
 replace H : ((params_ExtendCoalition.f a0_0 a0_1 a0_2 l1).bind fun t221 => (params_VanishingPolynomial.l0 k y218 t221 (t221.length : Int) 0 a0_0 a0_1 a0_2)) = some r := by first|(rw [hy218];with_reducible exact H)|(have H2_ := (Option.bind_some _ _).symm.trans H;rw [hy218];with_reducible exact H2_)|(have H2_ := (Option.bind_some _ _).symm.trans H;with_reducible exact H2_)|with_reducible exact H|(rw [hy218];exact H)|exact H
 have Ny218 := am hy218
 clear hy218
 replace H := Option.bind_eq_some_iff.mp H
 obtain ⟨t221,A30,H⟩ := H
 try dsimp only at H
 have A3 := am A30
 clear A30
 have H' := am H
 clear H
 go_enter Try.func72,Try.ntmps72
 go_wp2_with (first|((with_reducible refine gate_dst (N := 2) rfl ?_);refine box_event ?hg (N := 2) ?hd (cs := #[.int .u64 a0_0,.int .i64 a0_1,.int .i64 a0_2]) (t := 24) ?hr ?_;(case hd => rfl);(case hg => rfl);(case hr => first|(go_simp;done)|(go_simp;rfl));intro gb217 hg w4 hbox hb;have n0_ := am (below_step (bb HB) hb);have n1_ := am (hbox);have n2_ := am ((by rw [hg];exact (below_size (bb HB)) : w.heap.size ≤ gb217));have n3_ := am ((by rw [hg];exact (below_size (bb HB)) : w.heap.size ≤ gb217));clear HB;have HB := n0_;have BK217 := n1_;have GW217 := n2_;have GE217 := n3_;clear n0_ n1_ n2_ n3_;clear hb hbox hg)|((with_reducible refine gate_dst (N := 11) rfl ?_);refine Kd.R_lit k97 _ 97 ?hg (N := 11) ?hd (xs := ([(⟨0,1⟩ : S97)] : List (S97))) (inner := [.int .u64 0,.int .u64 1]) (ok := fun _ => True) (okp := fun _ => True) ?hr ?hp (fun _ hk => hk) trivial (Below.refl _ _) (Nat.le_refl _) (by simp) ?_;(case hd => rfl);(case hg => rfl);(case hr => first|(go_simp;done)|(go_simp;rfl));(case hp => exact (Reps.c2 (show Kd.M k97 _ _ _ (⟨0,1⟩ : S97) [.int .u64 0,.int .u64 1] from (k97_mkM _ _ _ (⟨0,1⟩ : S97) )) (Reps.none _ _)));intro v219 w5 ho6 hb hg_ hnew_;clear hg_ hnew_;(first|rw [← Ny218.out] at ho6|(simp only [Int.reduceToNat] at ho6;rw [← Ny218.out] at ho6));have n0_ := am (Kd.R_lower ho6 (below_size (bg HB GE217)));have n1_ := am (kb BK217 hb);have n2_ := am (below_step (bg HB GE217) hb);clear BK217 HB;have HO220 := n0_;have BK217 := n1_;have HB := n2_;clear n0_ n1_ n2_;clear hb ho6;have hcz7_0 := bc BK217 0;have hcz7_1 := bc BK217 1;have hcz7_2 := bc BK217 2;have hfz7_0 := bf BK217 0;have hfz7_1 := bf BK217 1;have hfz7_2 := bf BK217 2)|((with_reducible refine gate_callee (f := 98) rfl ?_);refine goesL_ (some 14) rfl rfl Try.func98 (by kernel_rfl) rfl #[.agg #[.int .u64 a0_0,.int .i64 a0_1,.int .i64 a0_2],.slice A1 l1.length c1] rfl (by (try simp only [List.map_toArray,List.map_cons,List.map_nil]);first|done|rfl|(simp only [List.length_drop,List.length_take];rfl)) ?_;(with_reducible refine (params_ExtendCoalition.calls a0_0 a0_1 a0_2 _ _ l1 t221 _ ?side1 ?side2 A3.out).mono ?_);(case side1 => exact cb HR1 HB);(case side2 => exact HC1.out);rintro e w8 ⟨v222,rfl,ho0,hb⟩;refine ⟨_,rfl,?_⟩;have n0_ := am (Kd.R_below (rr HO220) hb);have n1_ := am (Kd.R_lower ho0 (below_size (bg HB GE217)));have n2_ := am (kb BK217 hb);have n3_ := am (below_step (bg HB GE217) hb);clear HO220 BK217 HB;have HO220 := n0_;have HO223 := n1_;have BK217 := n2_;have HB := n3_;clear n0_ n1_ n2_ n3_;(try clear hb);(try clear hb2);(try clear hk);(try clear hi);(try clear ho0);obtain ⟨Ao9,co9,eo9⟩ := Kd.R_slice HO223.out;subst eo9))
 go_loopg [5,16] k (fun kq v5 v16 w' => ∃ (x5_1 : List (S97)) (x16_1 : Int),v16 = .int .i64 x16_1 ∧ Aside0 (params_VanishingPolynomial.l0 kq x5_1 t221 (t221.length : Int) x16_1 a0_0 a0_1 a0_2 = some r) ∧ Aside0 (kq ≤ k) ∧ Aside0 (Kd.R k97 97 w' w.heap.size (fun _ => True) v5 x5_1) ∧ Aside0 (Kd.R (Kd.int .i64) 3 w' w.heap.size (fun _ => True) (.slice Ao9 t221.length co9) t221) ∧ Aside0 (w'.heap[gb217]? = some (.cells #[.int .u64 a0_0,.int .i64 a0_1,.int .i64 a0_2] 24 (0,0))) ∧ Aside0 (Below w.heap.size w w'))
 case atStart => exact ⟨(y218),(0),(by first|rfl|(simp;done)|(simp [*];done)),H',⟨Nat.le_refl _⟩,⟨by (with_reducible repeat (first|apply Kd.R_alloc|apply Kd.R_drewN|apply Kd.R_drew));exact HO220.out⟩,⟨by (with_reducible repeat (first|apply Kd.R_alloc|apply Kd.R_drewN|apply Kd.R_drew));exact HO223.out⟩,⟨kx BK217⟩,⟨bg HB GE217⟩⟩
 case round =>
  clear H'
  try clear c1
  try clear c2
  try clear p2
  try clear c7
  try clear c9
  try clear hcz7_0
  try clear hcz7_1
  try clear hcz7_2
  try clear hfz7_0
  try clear hfz7_1
  try clear hfz7_2
  obtain ⟨x5_1,x16_1,rfl,HA,HK1,HO_5,HO_14,BK217,HB⟩ := hrel
  cases gk with
  | zero => exact absurd HA.out (by simp [params_VanishingPolynomial.l0])
  | succ k1 =>
   have H := HA.out
   clear HA
   simp only [params_VanishingPolynomial.l0] at H
   by_cases c10 : x16_1 < (t221.length : Int)
   ·rw [if_pos c10] at H
    have c10b0 : decide (x16_1 < (t221.length : Int)) = true := decide_eq_true c10
    clear c10
    by_cases c11 : 0 ≤ x16_1
    ·rw [if_pos c11] at H
     have c11b0 : decide (0 ≤ x16_1) = true := decide_eq_true c11
     clear c11
     by_cases c12 : x16_1 < (t221.length : Int)
     ·rw [if_pos c12] at H
      have c12b0 : decide (x16_1 < (t221.length : Int)) = true := decide_eq_true c12
      clear c12
      by_cases c13 : x5_1.length < 8796093022208
      ·rw [if_pos c13] at H
       have LMc13 := am c13
       clear c13
       obtain ⟨y225,hy225⟩ : ∃ y_ : List (S97),y_ = (x5_1 ++ [(⟨IntKind.u64.wrap (rd t221 x16_1),0⟩ : S97)]) := ⟨_,rfl⟩
       replace H : (params_VanishingPolynomial.l0 k1 y225 t221 (t221.length : Int) (wrap64 (x16_1 + 1)) a0_0 a0_1 a0_2) = some r := by first|(rw [hy225];with_reducible exact H)|(have H2_ := (Option.bind_some _ _).symm.trans H;rw [hy225];with_reducible exact H2_)|(have H2_ := (Option.bind_some _ _).symm.trans H;with_reducible exact H2_)|with_reducible exact H|(rw [hy225];exact H)|exact H
       have Ny225 := am hy225
       clear hy225
       have H' := am H
       clear H
       have p224 : 0 ≤ (x16_1 : Int) := od
       have q224 : x16_1 < (t221.length : Int) := od
       obtain ⟨ad224,e224,hx224_0⟩ := Kd.at_int (Kd.R_reads' HO_14.out).2.2 x16_1 p224 q224
       cases e224
       replace p224 := eq_true p224
       replace q224 := eq_true q224
       go_wp2_with (first|((with_reducible refine gate_builtin (b := .append) (xs := #[.tmp 20,.tmp 24]) rfl ?_);at_builtin;refine Kd.R_append k97 (w0 := w) w.heap.size rfl (.tmp 20) (.tmp 24) 98 97 (.agg #[(.int .u64 0),(.int .u64 0)]) 16 rfl Try.underlying98 info97 rfl (by decide) (by omega) u5 x5_1 (⟨IntKind.u64.wrap (rd t221 x16_1),0⟩ : S97) [.int .u64 (IntKind.u64.wrap (rd t221 x16_1)),.int .u64 0] (fun _ => True) (fun _ => False) rfl rfl ?aP (fun _ hk => hk.elim) ?aF ?aO ?aB ?aS ?aL ?_;(case aP => exact k97_mkM _ _ _ (⟨IntKind.u64.wrap (rd t221 x16_1),0⟩ : S97));(case aB => exact (bg HB GE217));(case aF => exact (fun _ _ => trivial));(case aO => exact (rr HO_5));(case aS => exact (below_size (bg HB GE217)));(case aL => have := LMc13.out;omega);intro v226 w14 ho hb hg hat;rw [← Ny225.out] at ho;have n0_ := am (Kd.R_over' (rr HO_14) (Kd.R_typed (rr HO_5)) (by decide) hg);have n1_ := am (blk_grown (g := gb217) (o := .cells #[.int .u64 a0_0,.int .i64 a0_1,.int .i64 a0_2] 24 (0,0)) (by (with_reducible repeat (first|refine blk_drewN ?_ _|refine blk_drew ?_|refine blk_alloc ?_ _));exact BK217.out) hg (Kd.R_ne HO_5.out BK217.out (by decide)));have n2_ := am (hb);have n3_ := am (ho);clear HO_14 BK217 HB HO_5;have HO_14 := n0_;have BK217 := n1_;have HB := n2_;have HO227 := n3_;clear n0_ n1_ n2_ n3_;clear ho hb hg hat))
       go_roundg k1
       case measure => have := HK1.out;omega
       case rel => exact ⟨(y225),(wrap64 (x16_1 + 1)),(by first|rfl|(simp;done)|(simp [*];done)),H',⟨by have := HK1.out;omega⟩,⟨by (with_reducible repeat (first|apply Kd.R_alloc|apply Kd.R_drewN|apply Kd.R_drew));exact HO227.out⟩,⟨by (with_reducible repeat (first|apply Kd.R_alloc|apply Kd.R_drewN|apply Kd.R_drew));exact HO_14.out⟩,⟨kx BK217⟩,⟨bg HB GE217⟩⟩
      ·rw [if_neg c13] at H
       exact absurd H (by simp)
     ·rw [if_neg c12] at H
      exact absurd H (by simp)
    ·rw [if_neg c11] at H
     exact absurd H (by simp)
   ·rw [if_neg c10] at H
    have c10b0 : decide (x16_1 < (t221.length : Int)) = false := decide_eq_false c10
    clear c10
    replace H := Option.bind_eq_some_iff.mp H
    obtain ⟨⟨t228,t229⟩,A150,H⟩ := H
    try dsimp only at H
    have A15 := am A150
    clear A150
    obtain rfl := Option.some.inj H
    have hcz16_0 := bc BK217 0
    have hcz16_1 := bc BK217 1
    have hcz16_2 := bc BK217 2
    have hfz16_0 := bf BK217 0
    have hfz16_1 := bf BK217 1
    have hfz16_2 := bf BK217 2
    obtain ⟨Ao17,co17,eo17⟩ := Kd.R_slice HO_5.out
    subst eo17
    go_wp2_with (first|((with_reducible refine gate_callee (f := 99) rfl ?_);refine goesL_ (some 31) rfl rfl Try.func99 (by kernel_rfl) rfl #[.int .u64 a0_0,.slice Ao17 x5_1.length co17] rfl (by (try simp only [List.map_toArray,List.map_cons,List.map_nil]);first|done|rfl|(simp only [List.length_drop,List.length_take];rfl)) ?_;(with_reducible refine (interpolate_Polynomial.calls a0_0 _ _ x5_1 t228 t229 _ ?side1 ?side2 A15.out).mono ?_);(case side1 => exact cr HO_5);(case side2 => exact (Kd.R_reads' HO_5.out).2.1);rintro e w18 ⟨v230,rfl,ho0,hb⟩;refine ⟨_,rfl,?_⟩;have n0_ := am (Kd.R_below (rr HO_5) hb);have n1_ := am (Kd.R_below (rr HO_14) hb);have n2_ := am (Kd.R_lower ho0 (below_size (bg HB GE217)));have n3_ := am (kb BK217 hb);have n4_ := am (below_step (bg HB GE217) hb);clear HO_5 HO_14 BK217 HB;have HO_5 := n0_;have HO_14 := n1_;have HO231 := n2_;have BK217 := n3_;have HB := n4_;clear n0_ n1_ n2_ n3_ n4_;(try clear hb);(try clear hb2);(try clear hk);(try clear hi);(try clear ho0)))
    go_ret
    exact ⟨_,by first|rfl|(simp [errW_none,errW_some] <;> rfl)|(simp [*,errW_none,errW_some] <;> rfl),by (with_reducible repeat (first|apply Kd.R_alloc|apply Kd.R_drewN|apply Kd.R_drew));exact HO231.out,bg HB GE217⟩
def tapeshift_of.f (k : Nat) (a0_0 : Int) (a0_1 : Int) (a0_2 : Int) (l1 : List Int) : Option (Int × Int × List Int) := (params_VanishingPolynomial.f k a0_0 a0_1 a0_2 l1).bind fun t234 => (some (a0_0,a0_2,t234))
theorem tapeshift_of.mono : ∀ a0 a1 a2 a3 k,LeO (tapeshift_of.f k a0 a1 a2 a3) (tapeshift_of.f (k + 1) a0 a1 a2 a3) := by
 intro a0 a1 a2 a3 k
 unfold tapeshift_of.f
 repeat' first
   | (with_reducible exact params_VanishingPolynomial.mono _ _ _ _ _)
   | (with_reducible exact LeO.refl _)
   | (with_reducible exact LeO.none _)
   | (with_reducible refine LeO.ite ?_ ?_)
   | (with_reducible refine LeO.bind ?_ (fun _ => ?_))
   | exact params_VanishingPolynomial.mono _ _ _ _ _
   | exact LeO.none _
   | refine LeO.ite ?_ ?_
   | refine LeO.bind ?_ (fun _ => ?_)
def tapeshift_of.T1 : Bool × List (List Nat × List Nat) := (true,[([],[]),([0],[0]),([],[]),([2],[2]),([],[]),([],[]),([4,5],[4,5]),([1,3,6],[1,3,6]),([7,6,0,1,2,3,4,5,6,7],[7])])
def tapeshift_of.B1 : List Nat := [0,1,0,4,0,0,48,127,255]
theorem tapeshift_of.tab1 : rtab .any (opsOf Try.f43 1) = tapeshift_of.T1 := by kernel_rfl
theorem tapeshift_of.bits1 : waitsOk tapeshift_of.T1.2 tapeshift_of.B1 = true := by kernel_rfl
set_option maxHeartbeats 8000000 in
set_option maxRecDepth 100000 in
theorem tapeshift_of.calls (k : Nat) (a0_0 : Int) (a0_1 : Int) (a0_2 : Int) (A1 : Option Addr) (c1 : Nat) (l1 : List Int) (r1 : Int) (r2 : Int) (r3 : List Int) (w : World) (hr1 : Kd.C (Kd.int .i64) w A1 l1.length l1) (hc1 : l1.length ≤ c1) (h : tapeshift_of.f k a0_0 a0_1 a0_2 l1 = some (r1,r2,r3)) :
  Calls Try.prog 43 #[.agg #[.int .u64 a0_0,.int .i64 a0_1,.int .i64 a0_2],.slice A1 l1.length c1] w fun e w' => ∃ v2_ : Value,e = .returned (.agg #[.int .u64 r1,.int .i64 r2,v2_]) ∧ Kd.R (Kd.int .u64) 22 w' w.heap.size (fun _ => True) v2_ r3 ∧ Below w.heap.size w w' := by
 have hu24 := Try.underlying24
 have hu59 := Try.underlying59
 have HR1 := am hr1
 have HC1 := am hc1
 clear hr1 hc1
 have HB := am (Below.refl w.heap.size w)
 have H : ((params_VanishingPolynomial.f k a0_0 a0_1 a0_2 l1).bind fun t234 => (some (a0_0,a0_2,t234))) = some (r1,r2,r3) := h
 clear h
 replace H := Option.bind_eq_some_iff.mp H
 obtain ⟨t234,A30,H⟩ := H
 try dsimp only at H
 have A3 := am A30
 clear A30
 simp only [Option.some.injEq,Prod.mk.injEq] at H
 obtain ⟨rfl,rfl,rfl⟩ := H
 go_enter Try.func43,Try.ntmps43
 try go_wp2_with (first|((with_reducible refine gate_dst (N := 2) rfl ?_);refine box_event ?hg (N := 2) ?hd (cs := #[.int .u64 a0_0,.int .i64 a0_1,.int .i64 a0_2]) (t := 24) ?hr ?_;(case hd => rfl);(case hg => rfl);(case hr => first|(go_simp;done)|(go_simp;rfl));intro gb232 hg w4 hbox hb;have n0_ := am (below_step (bb HB) hb);have n1_ := am (hbox);have n2_ := am ((by rw [hg];exact (below_size (bb HB)) : w.heap.size ≤ gb232));have n3_ := am ((by rw [hg];exact (below_size (bb HB)) : w.heap.size ≤ gb232));clear HB;have HB := n0_;have BK232 := n1_;have GW232 := n2_;have GE232 := n3_;clear n0_ n1_ n2_ n3_;clear hb hbox hg)|((with_reducible refine gate_dst (N := 4) rfl ?_);refine box_event ?hg (N := 4) ?hd (cs := #[.int .u64 0,.int .i64 0,.slice none 0 0]) (t := 59) ?hr ?_;(case hd => rfl);(case hg => rfl);(case hr => first|(go_simp;done)|(go_simp;rfl));intro gb233 hg w5 hbox hb;have n0_ := am (kb BK232 hb);have n1_ := am (below_step (bg HB GE232) hb);have n2_ := am (hbox);have n3_ := am ((by rw [hg];exact (below_size (bg HB GE232)) : w.heap.size ≤ gb233));have n4_ := am ((by rw [hg];exact (below_size (bg HB GE232)) : w.heap.size ≤ gb233));have n5_ := am ((by rw [hg];exact Nat.ne_of_lt (blk_lt (g := gb232) (o := .cells #[.int .u64 a0_0,.int .i64 a0_1,.int .i64 a0_2] 24 (0,0)) (by (with_reducible repeat (first|refine blk_drewN ?_ _|refine blk_drew ?_|refine blk_alloc ?_ _));exact BK232.out)) : gb232 ≠ gb233));have n6_ := am ((by rw [hg];exact Nat.ne_of_gt (blk_lt (g := gb232) (o := .cells #[.int .u64 a0_0,.int .i64 a0_1,.int .i64 a0_2] 24 (0,0)) (by (with_reducible repeat (first|refine blk_drewN ?_ _|refine blk_drew ?_|refine blk_alloc ?_ _));exact BK232.out)) : gb233 ≠ gb232));clear BK232 HB;have BK232 := n0_;have HB := n1_;have BK233 := n2_;have GW233 := n3_;have GE233 := n4_;have NB232_233 := n5_;have NB233_232 := n6_;clear n0_ n1_ n2_ n3_ n4_ n5_ n6_;clear hb hbox hg))
 have n0_ := am (blk_drew BK232.out)
 have n1_ := am (blk_drew BK233.out)
 have n2_ := am (below_drew1 HB.out)
 clear BK232
 clear BK233
 clear HB
 have BK232 := n0_
 have BK233 := n1_
 have HB := n2_
 clear n0_ n1_ n2_
 refine start_ (n := 9) (S := fun w' => w'.cell? ⟨gb232,0,none⟩ = some (.int .u64 a0_0) ∧ w'.cell? ⟨gb232,1,none⟩ = some (.int .i64 a0_1) ∧ w'.cell? ⟨gb232,2,none⟩ = some (.int .i64 a0_2)) (ds := []) (bz 9 0) (by kernel_rfl) rfl rfl ⟨(blk_cell BK232.out 0).trans rfl,(blk_cell BK232.out 1).trans rfl,(blk_cell BK232.out 2).trans rfl⟩ (fun hHeld => ?_);refine with_tabW tapeshift_of.tab1 tapeshift_of.bits1 (fun HT_ HW_ => ?_)
 generalize w5.drew = w6 at BK232 BK233 HB hHeld ⊢
 refine pk 0 5 (bz 9 1) HT_ ?_
 refine pk 2 7 (bz 9 5) HT_ ?_
 refine pk 5 10 (bz 9 37) HT_ ?_
 refine tk 1 6 (bz 9 39) HT_ HW_ hHeld ?_
 refine tk 3 8 (bz 9 47) HT_ HW_ hHeld ?_
 refine tk 4 9 (bz 9 63) HT_ HW_ hHeld ?_
 refine on 6 11 (bz 9 127) HT_ (fun K hK => ?_)
 refine goes_ Try.func72 (by kernel_rfl) rfl #[.agg #[.int .u64 a0_0,.int .i64 a0_1,.int .i64 a0_2],.slice A1 l1.length c1] (by rfl) rfl rfl (by (try simp only [List.map_toArray,List.map_cons,List.map_nil]);first|done|rfl|(simp only [List.length_drop,List.length_take];rfl)) ?_
 with_reducible refine (params_VanishingPolynomial.calls k a0_0 a0_1 a0_2 _ _ l1 t234 _ ?side1 ?side2 A3.out).mono ?_
 (case side1 => exact cb HR1 HB)
 (case side2 => exact HC1.out)
 rintro e w7 ⟨v235,rfl,ho0,hb⟩
 refine ⟨_,rfl,?_⟩
 have n0_ := am (Kd.R_lower ho0 (below_size (by repeat (first|(with_reducible first|exact HB.out|apply below_alloc|apply pw_below_drewN|apply below_drew1|refine below_set ?_ GE232.out|refine below_set ?_ GE233.out)|exact HB.out))))
 have n1_ := am (kb BK232 hb)
 have n2_ := am (kb BK233 hb)
 have n3_ := am (below_step (by repeat (first|(with_reducible first|exact HB.out|apply below_alloc|apply pw_below_drewN|apply below_drew1|refine below_set ?_ GE232.out|refine below_set ?_ GE233.out)|exact HB.out)) hb)
 clear BK232
 clear BK233
 clear HB
 have HO236 := n0_
 have BK232 := n1_
 have BK233 := n2_
 have HB := n3_
 clear n0_ n1_ n2_ n3_
 (try clear hb)
 (try clear hb2)
 (try clear hk)
 (try clear hi)
 (try clear ho0)
 obtain ⟨Ao8,co8,eo8⟩ := Kd.R_slice HO236.out
 (first|subst eo8|(injection eo8 with f1_ f2_ f3_;have f4_ := f1_.symm;have f5_ := f3_.symm;clear f1_ f2_ f3_;subst f4_;subst f5_))
 refine hK.out _ _ ⟨(blk_cell BK232.out 0).trans rfl,(blk_cell BK232.out 1).trans rfl,(blk_cell BK232.out 2).trans rfl⟩ (fun hHeld => ?_)
 clear hK K
 refine nm 11 ?_
 refine pk 7 12 (bz 9 255) HT_ ?_
 refine one_ (i := 8) (N := none) (bz 9 511) rfl rfl (one_of HT_.out (by kernel_rfl)) (by decide) (fun K hK => ?_)
 have hs9 : w7.cell? ⟨gb233,0,none⟩ = some (.int .u64 0) := (blk_cell BK233.out 0).trans rfl
 have hfs9 := bf BK233 0
 have hns9_0 := NB232_233.out
 have hms9_0 := NB233_232.out
 have hs10 : w7.cell? ⟨gb233,1,none⟩ = some (.int .i64 0) := (blk_cell BK233.out 1).trans rfl
 have hfs10 := bf BK233 1
 have hns10_0 := NB232_233.out
 have hms10_0 := NB233_232.out
 have hs11 : w7.cell? ⟨gb233,2,none⟩ = some (.slice none 0 0) := (blk_cell BK233.out 2).trans rfl
 have hfs11 := bf BK233 2
 have hns11_0 := NB232_233.out
 have hms11_0 := NB233_232.out
 refine skip_ (w1 := ?_) (by rfl) rfl ?_ ?_
 rotate_left
 ·go_simp
  rfl
 refine hK.out _ _ ⟨((cell_far (p := ⟨gb233,_,none⟩) NB232_233.out _).trans (((cell_far (p := ⟨gb233,_,none⟩) NB232_233.out _).trans (((cell_far (p := ⟨gb233,_,none⟩) NB232_233.out _).trans (hHeld.1)))))),((cell_far (p := ⟨gb233,_,none⟩) NB232_233.out _).trans (((cell_far (p := ⟨gb233,_,none⟩) NB232_233.out _).trans (((cell_far (p := ⟨gb233,_,none⟩) NB232_233.out _).trans (hHeld.2.1)))))),((cell_far (p := ⟨gb233,_,none⟩) NB232_233.out _).trans (((cell_far (p := ⟨gb233,_,none⟩) NB232_233.out _).trans (((cell_far (p := ⟨gb233,_,none⟩) NB232_233.out _).trans (hHeld.2.2))))))⟩ (fun hHeld => ?_)
 clear hK K
 refine done_ (done_of HT_.out (by kernel_rfl)) ?_
 try go_wp2
 refine bodyPost_ret (results_cell_row rfl _ _ gb233 59 #[.int .u64 a0_0,.int .i64 a0_2,.slice Ao8 t234.length co8] (0,0) _ rfl (by (with_reducible repeat (first|refine blk_drewN ?_ _|refine blk_drew ?_|refine blk_alloc ?_ _));refine blk_put (cs := #[.int .u64 a0_0,.int .i64 a0_2,.slice none 0 0]) ?_ 2 _ rfl;(with_reducible repeat (first|refine blk_drewN ?_ _|refine blk_drew ?_|refine blk_alloc ?_ _));refine blk_put (cs := #[.int .u64 a0_0,.int .i64 0,.slice none 0 0]) ?_ 1 _ rfl;(with_reducible repeat (first|refine blk_drewN ?_ _|refine blk_drew ?_|refine blk_alloc ?_ _));refine blk_put (cs := #[.int .u64 0,.int .i64 0,.slice none 0 0]) ?_ 0 _ rfl;(with_reducible repeat (first|refine blk_drewN ?_ _|refine blk_drew ?_|refine blk_alloc ?_ _));exact BK233.out) Try.underlying59 rfl (by kernel_rfl)) rfl ?_
 exact ⟨_,by first|rfl|(simp [errW_none,errW_some] <;> rfl)|(simp [*,errW_none,errW_some] <;> rfl),by (with_reducible repeat (first|apply Kd.R_alloc|apply Kd.R_drewN|apply Kd.R_drew));exact Kd.R_mono (Kd.R_far (p := ⟨gb233,2,none⟩) (Kd.R_far (p := ⟨gb233,1,none⟩) (Kd.R_far (p := ⟨gb233,0,none⟩) (Kd.R_types HO236.out BK233.out (by decide)) (fun _ hk => hk.2) (.int .u64 a0_0)) (fun _ hk => hk.2) (.int .i64 a0_2)) (fun _ hk => hk.2) (.slice Ao8 t234.length co8)) (fun _ hk => trivial),by repeat (first|(with_reducible first|exact HB.out|apply below_alloc|apply pw_below_drewN|apply below_drew1|refine below_set ?_ GE232.out|refine below_set ?_ GE233.out)|exact HB.out)⟩
end Go.Proofs.Ytejeelpnmdfibaa.Pr
end
section
namespace Go.Proofs.Ytejeelpnmdfibaa.Hw
open Go.RowKit Go.Proofs.Ytejeelpnmdfibaa.Pr Go.Proofs.YtejeelpnmdfibaaW.PrintWords Go.Proofs.YtejeelpnmdfibaaW.PrintLast Go.Proofs.YtejeelpnmdfibaaW.PrintMore Go.Proofs.Ytejeelpnmdfibaa.E
def slices_Clone_uint64_uint64.f (l : List Int) : Option (List Int) := if l.length ≤ 1000000 then some l else none
theorem slices_Clone_uint64_uint64.calls (A : Option Addr) (c : Nat) (l r : List Int) (w : World) (hr : Kd.C (Kd.int .u64) w A l.length l) (hc : l.length ≤ c) (h : slices_Clone_uint64_uint64.f l = some r) :
  Calls Try.prog 73 #[.slice A l.length c] w fun e w' => ∃ v0_ : Value,e = .returned (v0_) ∧ Kd.R (Kd.int .u64) 22 w' w.heap.size (fun _ => True) v0_ r ∧ Below w.heap.size w w' := by
 unfold slices_Clone_uint64_uint64.f at h
 split at h
 ·rw [← Option.some.inj h];exact clone_u64 A c l w hr hc (by omega)
 ·cases h
end Go.Proofs.Ytejeelpnmdfibaa.Hw
end
section
namespace Go.Proofs.Ytejeelpnmdfibaa.Pr
open Go.RowKit Go.Proofs.YtejeelpnmdfibaaW.PrintWords Go.Proofs.YtejeelpnmdfibaaW.PrintLast Go.Proofs.YtejeelpnmdfibaaW.PrintMore
attribute [local go_sem] max2_int min2_int max_two min_two max_three min_three max_four min_four
open Go.Proofs.Ytejeelpnmdfibaa.Hw
def tapeshift_mover_by.l0 : Nat → Int → List Int → Int → Int → Int → Int → List Int → Option (List Int)
 | 0,_,_,_,_,_,_,_ => none
 | k + 1,x1,x7,x12,x13,x238000,x238001,x238002 => if x13 < x12 then (if 0 ≤ x13 then (if x13 < (x7.length : Int) then (if x13 < (x238002.length : Int) then ((field_Mul.f k x238000 x1 (rd x238002 x13)).bind fun t243 => ((field_Add.f k x238000 (rd x7 x13) t243).bind fun t244 => (tapeshift_mover_by.l0 k x1 (x7.set (x13 : Int).toNat t244) x12 (wrap64 (x13 + 1)) x238000 x238001 x238002))) else (none)) else (none)) else (none)) else (some x7)
def tapeshift_mover_by.f (k : Nat) (a0_0 : Int) (a0_1 : Int) (l0_2 : List Int) (a1 : Int) (l2 : List Int) : Option (List Int) := (slices_Clone_uint64_uint64.f l2).bind fun t238 => (tapeshift_mover_by.l0 k a1 t238 (t238.length : Int) 0 a0_0 a0_1 l0_2)
theorem tapeshift_mover_by.mono_l : ∀ k,(∀ y0 y1 y2 y3 y4 y5 y6,LeO (tapeshift_mover_by.l0 k y0 y1 y2 y3 y4 y5 y6) (tapeshift_mover_by.l0 (k + 1) y0 y1 y2 y3 y4 y5 y6))
 | 0 => fun _ _ _ _ _ _ _ r h => by simp [tapeshift_mover_by.l0] at h
 | k + 1 => by
  have ih0 := tapeshift_mover_by.mono_l k
  ·intro y0 y1 y2 y3 y4 y5 y6
   unfold tapeshift_mover_by.l0
   repeat' first
   | (with_reducible exact ih0 _ _ _ _ _ _ _)
   | (with_reducible exact field_Add.mono _ _ _ _)
   | (with_reducible exact field_Mul.mono _ _ _ _)
   | (with_reducible exact LeO.refl _)
   | (with_reducible exact LeO.none _)
   | (with_reducible refine LeO.ite ?_ ?_)
   | (with_reducible refine LeO.bind ?_ (fun _ => ?_))
   | exact ih0 _ _ _ _ _ _ _
   | exact field_Add.mono _ _ _ _
   | exact field_Mul.mono _ _ _ _
   | exact LeO.none _
   | refine LeO.ite ?_ ?_
   | refine LeO.bind ?_ (fun _ => ?_)
theorem tapeshift_mover_by.mono : ∀ a0 a1 a2 a3 a4 k,LeO (tapeshift_mover_by.f k a0 a1 a2 a3 a4) (tapeshift_mover_by.f (k + 1) a0 a1 a2 a3 a4) := by
 intro a0 a1 a2 a3 a4 k
 have ih0 := tapeshift_mover_by.mono_l k
 unfold tapeshift_mover_by.f
 repeat' first
   | (with_reducible exact ih0 _ _ _ _ _ _ _)
   | (with_reducible exact field_Add.mono _ _ _ _)
   | (with_reducible exact field_Mul.mono _ _ _ _)
   | (with_reducible exact LeO.refl _)
   | (with_reducible exact LeO.none _)
   | (with_reducible refine LeO.ite ?_ ?_)
   | (with_reducible refine LeO.bind ?_ (fun _ => ?_))
   | exact ih0 _ _ _ _ _ _ _
   | exact field_Add.mono _ _ _ _
   | exact field_Mul.mono _ _ _ _
   | exact LeO.none _
   | refine LeO.ite ?_ ?_
   | refine LeO.bind ?_ (fun _ => ?_)
def tapeshift_mover_by.T5 : Bool × List (List Nat × List Nat) := (true,[([],[]),([],[]),([],[]),([2],[2]),([],[]),([],[]),([4,5],[4,5]),([6],[6]),([],[]),([8],[8]),([],[]),([],[]),([11],[11]),([],[]),([12,13],[12,13]),([14],[14]),([9,10,15],[9,10,15]),([3,7,16,16],[3,7,16]),([0,1,0,1,2,3,4,5,6,7,8,9,10,11,12,13,14,15,16,17],[0,1]),([18,17,17,0,1,2,3,4,5,6,7,8,9,10,11,12,13,14,15,16,17],[17,18])])
def tapeshift_mover_by.B5 : List Nat := [0,0,0,4,0,0,48,112,0,256,0,0,2048,0,14336,30720,65280,131068,262143,524287]
theorem tapeshift_mover_by.tab5 : rtab .any (opsOf Try.f44 5) = tapeshift_mover_by.T5 := by kernel_rfl
theorem tapeshift_mover_by.bits5 : waitsOk tapeshift_mover_by.T5.2 tapeshift_mover_by.B5 = true := by kernel_rfl
set_option maxHeartbeats 8000000 in
set_option maxRecDepth 100000 in
theorem tapeshift_mover_by.calls (k : Nat) (a0_0 : Int) (a0_1 : Int) (A0_2 : Option Addr) (c0_2 : Nat) (l0_2 : List Int) (a1 : Int) (A2 : Option Addr) (c2 : Nat) (l2 : List Int) (r : List Int) (w : World) (hr0_2 : Kd.C (Kd.int .u64) w A0_2 l0_2.length l0_2) (hc0_2 : l0_2.length ≤ c0_2) (hr2 : Kd.C (Kd.int .u64) w A2 l2.length l2) (hc2 : l2.length ≤ c2) (h : tapeshift_mover_by.f k a0_0 a0_1 l0_2 a1 l2 = some r) :
  Calls Try.prog 44 #[.agg #[.int .u64 a0_0,.int .i64 a0_1,.slice A0_2 l0_2.length c0_2],.int .u64 a1,.slice A2 l2.length c2] w fun e w' => ∃ v0_ : Value,e = .returned (v0_) ∧ Kd.R (Kd.int .u64) 22 w' w.heap.size (fun _ => True) v0_ r ∧ Below w.heap.size w w' := by
 have hu59 := Try.underlying59
 have HR0_2 := am hr0_2
 have HC0_2 := am hc0_2
 clear hr0_2 hc0_2
 have HR2 := am hr2
 have HC2 := am hc2
 clear hr2 hc2
 have HB := am (Below.refl w.heap.size w)
 have H : ((slices_Clone_uint64_uint64.f l2).bind fun t238 => (tapeshift_mover_by.l0 k a1 t238 (t238.length : Int) 0 a0_0 a0_1 l0_2)) = some r := h
 clear h
 replace H := Option.bind_eq_some_iff.mp H
 obtain ⟨t238,A40,H⟩ := H
 try dsimp only at H
 have A4 := am A40
 clear A40
 have H' := am H
 clear H
 go_enter Try.func44,Try.ntmps44
 go_wp2_with (first|((with_reducible refine gate_dst (N := 3) rfl ?_);refine box_event ?hg (N := 3) ?hd (cs := #[.int .u64 a0_0,.int .i64 a0_1,.slice A0_2 l0_2.length c0_2]) (t := 59) ?hr ?_;(case hd => rfl);(case hg => rfl);(case hr => first|(go_simp;done)|(go_simp;rfl));intro gb237 hg w5 hbox hb;have n0_ := am (below_step (bb HB) hb);have n1_ := am (hbox);have n2_ := am ((by rw [hg];exact (below_size (bb HB)) : w.heap.size ≤ gb237));have n3_ := am ((by rw [hg];exact (below_size (bb HB)) : w.heap.size ≤ gb237));clear HB;have HB := n0_;have BK237 := n1_;have GW237 := n2_;have GE237 := n3_;clear n0_ n1_ n2_ n3_;clear hb hbox hg)|((with_reducible refine gate_callee (f := 73) rfl ?_);refine goesL_ (some 10) rfl rfl Try.func73 (by kernel_rfl) rfl #[.slice A2 l2.length c2] rfl (by (try simp only [List.map_toArray,List.map_cons,List.map_nil]);first|done|rfl|(simp only [List.length_drop,List.length_take];rfl)) ?_;(with_reducible refine (slices_Clone_uint64_uint64.calls _ _ l2 t238 _ ?side1 ?side2 A4.out).mono ?_);(case side1 => exact cb HR2 HB);(case side2 => exact HC2.out);rintro e w6 ⟨v239,rfl,ho0,hb⟩;refine ⟨_,rfl,?_⟩;have n0_ := am (Kd.R_lower ho0 (below_size (bg HB GE237)));have n1_ := am (kb BK237 hb);have n2_ := am (below_step (bg HB GE237) hb);clear BK237 HB;have HO240 := n0_;have BK237 := n1_;have HB := n2_;clear n0_ n1_ n2_;(try clear hb);(try clear hb2);(try clear hk);(try clear hi);(try clear ho0);obtain ⟨Ao7,co7,eo7⟩ := Kd.R_slice HO240.out;subst eo7))
 go_loopg [13] k (fun kq v13 w' => ∃ (x7_1 : List Int) (x13_1 : Int),v13 = .int .i64 x13_1 ∧ Aside0 (tapeshift_mover_by.l0 kq a1 x7_1 (t238.length : Int) x13_1 a0_0 a0_1 l0_2 = some r) ∧ Aside0 (kq ≤ k) ∧ Aside0 (Kd.R (Kd.int .u64) 22 w' w.heap.size (fun _ => True) (.slice Ao7 t238.length co7) x7_1) ∧ Aside0 (w'.heap[gb237]? = some (.cells #[.int .u64 a0_0,.int .i64 a0_1,(.slice A0_2 l0_2.length c0_2)] 59 (0,0))) ∧ Aside0 (Below w.heap.size w w'))
 case atStart => exact ⟨(t238),(0),(by first|rfl|(simp;done)|(simp [*];done)),H',⟨Nat.le_refl _⟩,⟨by (with_reducible repeat (first|apply Kd.R_alloc|apply Kd.R_drewN|apply Kd.R_drew));exact HO240.out⟩,⟨kx BK237⟩,⟨bg HB GE237⟩⟩
 case round =>
  clear H'
  try clear c2
  try clear p2
  try clear c4
  try clear c7
  obtain ⟨x7_1,x13_1,rfl,HA,HK1,HO_7,BK237,HB⟩ := hrel
  have hl7_1 := (Kd.R_reads' HO_7.out).1
  rw [hl7_1] at HO_7
  (try simp only [hl7_1])
  (try simp only [hl7_1] at BK237)
  cases gk with
  | zero => exact absurd HA.out (by simp [tapeshift_mover_by.l0])
  | succ k1 =>
   have H := HA.out
   clear HA
   simp only [tapeshift_mover_by.l0] at H
   by_cases c8 : x13_1 < (t238.length : Int)
   ·rw [if_pos c8] at H
    have c8b0 : decide (x13_1 < (t238.length : Int)) = true := decide_eq_true c8
    try have c8b0_ : decide (x13_1 < (x7_1.length : Int)) = true := by rw [← hl7_1];exact c8b0
    clear c8
    by_cases c9 : 0 ≤ x13_1
    ·rw [if_pos c9] at H
     have c9b0 : decide (0 ≤ x13_1) = true := decide_eq_true c9
     clear c9
     by_cases c10 : x13_1 < (x7_1.length : Int)
     ·rw [if_pos c10] at H
      have c10b0 : decide (x13_1 < (x7_1.length : Int)) = true := decide_eq_true c10
      clear c10
      by_cases c11 : x13_1 < (l0_2.length : Int)
      ·rw [if_pos c11] at H
       have c11b0 : decide (x13_1 < (l0_2.length : Int)) = true := decide_eq_true c11
       clear c11
       replace H := Option.bind_eq_some_iff.mp H
       obtain ⟨t243,A120,H⟩ := H
       try dsimp only at H
       have A12 := am A120
       clear A120
       replace H := Option.bind_eq_some_iff.mp H
       obtain ⟨t244,A130,H⟩ := H
       try dsimp only at H
       have A13 := am A130
       clear A130
       obtain ⟨y245,hy245⟩ : ∃ y_ : List Int,y_ = (x7_1.set (x13_1 : Int).toNat t244) := ⟨_,rfl⟩
       replace H : (tapeshift_mover_by.l0 k1 a1 y245 (t238.length : Int) (wrap64 (x13_1 + 1)) a0_0 a0_1 l0_2) = some r := by first|(rw [hy245];with_reducible exact H)|(have H2_ := (Option.bind_some _ _).symm.trans H;rw [hy245];with_reducible exact H2_)|(have H2_ := (Option.bind_some _ _).symm.trans H;with_reducible exact H2_)|with_reducible exact H|(rw [hy245];exact H)|exact H
       have Ny245 := am hy245
       clear hy245
       have H' := am H
       clear H
       try go_wp2
       have n0_ := am (Kd.R_drew HO_7.out)
       have n1_ := am (blk_drew BK237.out)
       have n2_ := am (below_drew1 HB.out)
       clear HO_7
       clear BK237
       clear HB
       have HO_7 := n0_
       have BK237 := n1_
       have HB := n2_
       clear n0_ n1_ n2_
       have p241 : 0 ≤ (x13_1 : Int) := od
       have q241 : x13_1 < (x7_1.length : Int) := od
       obtain ⟨ad241,e241,hx241_0⟩ := Kd.at_int (Kd.R_reads' HO_7.out).2.2 x13_1 p241 q241
       cases e241
       replace p241 := eq_true p241
       replace q241 := eq_true q241
       have p242 : 0 ≤ (x13_1 : Int) := od
       have q242 : x13_1 < (l0_2.length : Int) := od
       obtain ⟨ad242,e242,hx242_0⟩ := Kd.at_int HR0_2.out x13_1 p242 q242
       have hw242_0 := hx242_0
       cases e242
       replace hx242_0 := (HB.out.cell (World.block_lt_of_cell? w _ hx242_0)).trans hx242_0
       replace p242 := eq_true p242
       replace q242 := eq_true q242
       refine start_ (n := 20) (S := fun w' => w'.cell? ⟨gb237,0,none⟩ = some (.int .u64 a0_0) ∧ w'.cell? ⟨gb237,1,none⟩ = some (.int .i64 a0_1) ∧ w'.cell? ⟨gb237,2,none⟩ = some (.slice (some ad242) l0_2.length c0_2) ∧ w'.cell? (ad241.add (x13_1).toNat) = some (.int .u64 (rd x7_1 x13_1)) ∧ w'.cell? (ad242.add (x13_1).toNat) = some (.int .u64 (rd l0_2 x13_1))) (ds := [19]) (bz 20 0) (by kernel_rfl) rfl rfl ⟨(blk_cell BK237.out 0).trans rfl,(blk_cell BK237.out 1).trans rfl,(blk_cell BK237.out 2).trans rfl,hx241_0,((HB.out.cell (World.block_lt_of_cell? w _ hw242_0)).trans hw242_0)⟩ (fun hHeld => ?_);refine with_tabW tapeshift_mover_by.tab5 tapeshift_mover_by.bits5 (fun HT_ HW_ => ?_)
       generalize wr.drew = w15 at HO_7 BK237 HB hx241_0 hx242_0 hHeld ⊢
       refine pk 0 16 (bz 20 1) HT_ ?_
       refine pk 1 17 (bz 20 3) HT_ ?_
       refine pk 2 18 (bz 20 7) HT_ ?_
       refine pk 4 20 (bz 20 23) HT_ ?_
       refine pk 5 21 (bz 20 55) HT_ ?_
       refine pk 6 22 (bz 20 119) HT_ ?_
       refine pk 8 24 (bz 20 375) HT_ ?_
       refine pk 10 26 (bz 20 1399) HT_ ?_
       refine pk 11 27 (bz 20 3447) HT_ ?_
       refine pk 13 29 (bz 20 11639) HT_ ?_
       refine tk 3 19 (bz 20 11647) HT_ HW_ hHeld ?_
       refine tk 7 23 (bz 20 11775) HT_ HW_ hHeld ?_
       refine tk 9 25 (bz 20 12287) HT_ HW_ hHeld ?_
       refine tk 12 28 (bz 20 16383) HT_ HW_ hHeld ?_
       refine pk 14 30 (bz 20 32767) HT_ ?_
       refine tk 15 31 (bz 20 65535) HT_ HW_ hHeld ?_
       refine on 16 32 (bz 20 131071) HT_ (fun K hK => ?_)
       refine goes_ Try.func70 (by kernel_rfl) rfl #[.int .u64 a0_0,.int .u64 a1,.int .u64 (rd l0_2 x13_1)] (by rfl) rfl rfl (by (try simp only [List.map_toArray,List.map_cons,List.map_nil]);first|done|rfl|(simp only [List.length_drop,List.length_take];rfl)) ?_
       with_reducible refine (field_Mul.calls k1 a0_0 a1 (rd l0_2 x13_1) t243 _ A12.out).mono ?_
       rintro e w' ⟨rfl,⟨nd,rfl⟩⟩
       refine ⟨_,rfl,?_⟩
       refine hK.out _ _ ⟨(blk_cell BK237.out 0).trans rfl,(blk_cell BK237.out 1).trans rfl,(blk_cell BK237.out 2).trans rfl,hHeld.2.2.2.1,((HB.out.cell (World.block_lt_of_cell? w _ hw242_0)).trans hw242_0)⟩ (fun hHeld => ?_)
       clear hK K
       refine nm 32 ?_
       refine on 17 33 (bz 20 262143) HT_ (fun K hK => ?_)
       refine goes_ Try.func69 (by kernel_rfl) rfl #[.int .u64 a0_0,.int .u64 (rd x7_1 x13_1),.int .u64 t243] (by rfl) rfl rfl (by (try simp only [List.map_toArray,List.map_cons,List.map_nil]);first|done|rfl|(simp only [List.length_drop,List.length_take];rfl)) ?_
       with_reducible refine (field_Add.calls k1 a0_0 (rd x7_1 x13_1) t243 t244 _ A13.out).mono ?_
       rintro e w' ⟨rfl,⟨nd,rfl⟩⟩
       refine ⟨_,rfl,?_⟩
       have p14 : 0 ≤ (x13_1 : Int) := od
       have q14 : (x13_1 : Int) < ((x7_1.length : Int) : Int) := od
       obtain ⟨go14,co14,eo14,gb14,gl14,cl14,HG14⟩ := Kd.R_form HO_7.out (by omega)
       (first|cases eo14|(injection eo14 with ea_ en_ ec_;(first|subst ea_|(injection ea_ with ea_;subst ea_));subst ec_;clear en_))
       have GB14 := am gb14
       have GG14 := am HG14
       clear gb14 gl14 HG14
       (first|simp only [add_plain] at hx241_0|skip)
       obtain ⟨hx14_0,hf14_0⟩ := Kd.R_celln 0 HO_7.out (x13_1 : Int) p14 q14
       replace p14 := eq_true p14
       replace q14 := eq_true q14
       have HP16 := Kd.R_putn HO_7.out (x13_1 : Int) t244
       rw [← Ny245.out] at HP16
       have HQ16 := am HP16
       clear HP16
       refine hK.out _ _ ⟨(blk_cell BK237.out 0).trans rfl,(blk_cell BK237.out 1).trans rfl,(blk_cell BK237.out 2).trans rfl,hHeld.2.2.2.1,((HB.out.cell (World.block_lt_of_cell? w _ hw242_0)).trans hw242_0)⟩ (fun hHeld => ?_)
       clear hK K
       refine nm 33 ?_
       refine pk 18 34 (bz 20 524287) HT_ ?_
       refine last_ (i := 19) (N := none) (bz 20 1048575) rfl rfl (one_of HT_.out (by kernel_rfl)) (by decide) (fun K hK => ?_)
       refine skip_ (w1 := ?_) (by rfl) rfl ?_ ?_
       rotate_left
       ·go_simp
        rfl
       refine hK.out _ _ ?_
       clear hK K
       refine done_ (done_of HT_.out (by kernel_rfl)) ?_
       try go_wp2
       (try simp only [← hl7_1])
       go_roundg k1
       case measure => have := HK1.out;omega
       case rel => exact ⟨(y245),(wrap64 (x13_1 + 1)),(by first|rfl|(simp;done)|(simp [*];done)),H',⟨by have := HK1.out;omega⟩,⟨by (try simp only [hl7_1]);(with_reducible repeat (first|apply Kd.R_alloc|apply Kd.R_drewN|apply Kd.R_drew));exact HQ16.out⟩,⟨by (try simp only [hl7_1]);(with_reducible repeat (first|refine blk_drewN ?_ _|refine blk_drew ?_|refine blk_alloc ?_ _));refine blk_far ?_ (by have h_ := Kd.R_ne HO_7.out BK237.out (by decide);intro e_;exact h_ (by rw [e_];rfl)) _;(with_reducible repeat (first|refine blk_drewN ?_ _|refine blk_drew ?_|refine blk_alloc ?_ _));exact BK237.out⟩,⟨by repeat (first|(with_reducible first|exact HB.out|apply below_alloc|apply pw_below_drewN|apply below_drew1|refine below_set ?_ GB14.out|refine below_set ?_ GE237.out)|exact HB.out)⟩⟩
      ·rw [if_neg c11] at H
       exact absurd H (by simp)
     ·rw [if_neg c10] at H
      exact absurd H (by simp)
    ·rw [if_neg c9] at H
     exact absurd H (by simp)
   ·rw [if_neg c8] at H
    have c8b0 : decide (x13_1 < (t238.length : Int)) = false := decide_eq_false c8
    try have c8b0_ : decide (x13_1 < (x7_1.length : Int)) = false := by rw [← hl7_1];exact c8b0
    clear c8
    obtain rfl := Option.some.inj H
    go_wp2
    go_ret
    exact ⟨_,by first|rfl|(simp [errW_none,errW_some] <;> rfl)|(simp [*,errW_none,errW_some] <;> rfl),by (with_reducible repeat (first|apply Kd.R_alloc|apply Kd.R_drewN|apply Kd.R_drew));exact HO_7.out,bg HB GE237⟩
end Go.Proofs.Ytejeelpnmdfibaa.Pr
end
section
namespace Go.Proofs.Ytejeelpnmdfibaa.E
open Go.RowKit Go.Proofs.Ytejeelpnmdfibaa.Pr Go.Proofs.Ytejeelpnmdfibaa.Hw Go.Proofs.Ytejeelpnmdfibaa.Pl Go.Proofs.YtejeelpnmdfibaaW.PrintWords Go.Proofs.YtejeelpnmdfibaaW.PrintLast Go.Proofs.YtejeelpnmdfibaaW.PrintMore
theorem getD_out (l : List Int) (j : Nat) (h : l.length ≤ j) : l.getD j 0 = 0 := by rw [List.getD_eq_getElem?_getD,List.getElem?_eq_none h];rfl
theorem res_getD {p : Int} (hp : Supp p) {l : List Int} (hl : ∀ x ∈ l,Res p x) (i : Nat) : Res p (l.getD i 0) := by
 rw [List.getD_eq_getElem?_getD]
 by_cases hi : i < l.length
 ·rw [List.getElem?_eq_getElem hi];exact hl _ (List.getElem_mem hi)
 ·rw [List.getElem?_eq_none (by omega)];have := hp.bd;exact ⟨Int.le_refl 0,by show (0 : Int) < p;omega⟩
theorem list_ext_getD {a b : List Int} (hl : a.length = b.length) (h : ∀ i,a.getD i 0 = b.getD i 0) : a = b := by
 refine List.ext_getElem hl fun i h1 h2 => ?_
 have := h i
 rw [List.getD_eq_getElem?_getD,List.getD_eq_getElem?_getD,List.getElem?_eq_getElem h1,List.getElem?_eq_getElem h2] at this
 exact this
def tabL (n : Nat) (h : Nat → Int) : List Int := (List.range n).map h
theorem tabL_length (n : Nat) (h : Nat → Int) : (tabL n h).length = n := by simp [tabL]
theorem tabL_succ (n : Nat) (h : Nat → Int) : tabL (n + 1) h = tabL n h ++ [h n] := by simp [tabL,List.range_succ]
theorem tabL_getD (n : Nat) (h : Nat → Int) (i : Nat) : (tabL n h).getD i 0 = if i < n then h i else 0 := by
 unfold tabL
 rw [List.getD_eq_getElem?_getD]
 by_cases hi : i < n
 ·rw [if_pos hi,List.getElem?_map,List.getElem?_range hi];rfl
 ·rw [if_neg hi,List.getElem?_eq_none (by simpa using hi)];rfl
theorem tabL_res {p : Int} {n : Nat} {h : Nat → Int} (hr : ∀ i,i < n → Res p (h i)) : ∀ x ∈ tabL n h,Res p x := fun x hx => by
 obtain ⟨i,hi,rfl⟩ := List.mem_map.1 hx
 exact hr i (List.mem_range.1 hi)
theorem tabL_congr {n : Nat} {h g : Nat → Int} (e : ∀ i,i < n → h i = g i) : tabL n h = tabL n g := List.map_congr_left fun i hi => e i (List.mem_range.1 hi)
theorem tabL_of (l : List Int) : tabL l.length (fun i => l.getD i 0) = l := by
 refine list_ext_getD (tabL_length _ _) fun i => ?_
 rw [tabL_getD]
 split
 ·rfl
 ·exact (getD_out l i (by omega)).symm
def at2 (s : List (List Int)) (i j : Nat) : Int := (s.getD i []).getD j 0
def matP (n : Nat) (g : Nat → Nat → Int) (k : Nat) : List (List Int) := (List.range k).map fun i => tabL n (g i)
def matL (n : Nat) (g : Nat → Nat → Int) : List (List Int) := matP n g n
theorem matP_length (n : Nat) (g : Nat → Nat → Int) (k : Nat) : (matP n g k).length = k := by simp [matP]
theorem matP_getD (n : Nat) (g : Nat → Nat → Int) (k i : Nat) (hi : i < k) : (matP n g k).getD i [] = tabL n (g i) := by
 unfold matP
 rw [List.getD_eq_getElem?_getD,List.getElem?_map,List.getElem?_range hi];rfl
structure Sq (n : Nat) (s : List (List Int)) : Prop where
 len : s.length = n
 row : ∀ r ∈ s,r.length = n
theorem Sq.getD {n : Nat} {s : List (List Int)} (h : Sq n s) (i : Nat) (hi : i < n) : (s.getD i []).length = n := by
 have hl := h.len
 rw [List.getD_eq_getElem?_getD,List.getElem?_eq_getElem (by omega)]
 exact h.row _ (List.getElem_mem _)
theorem matL_sq (n : Nat) (g : Nat → Nat → Int) : Sq n (matL n g) := ⟨matP_length _ _ _,fun r hr => by
 obtain ⟨i,_,rfl⟩ := List.mem_map.1 hr
 exact tabL_length _ _⟩
theorem Sq.eq {n : Nat} {s : List (List Int)} (h : Sq n s) : s = matL n (at2 s) := by
 have hl := h.len
 refine List.ext_getElem (by rw [(matL_sq n (at2 s)).len,hl]) fun i h1 h2 => ?_
 have e1 : s[i] = s.getD i [] := by rw [List.getD_eq_getElem?_getD,List.getElem?_eq_getElem h1];rfl
 have e2 : (matL n (at2 s))[i] = (matL n (at2 s)).getD i [] := by rw [List.getD_eq_getElem?_getD,List.getElem?_eq_getElem h2];rfl
 rw [e1,e2]
 unfold matL
 rw [matP_getD _ _ _ _ (by omega)]
 have := h.getD i (by omega)
 exact (tabL_of (s.getD i [])).symm.trans (by rw [this];rfl)
def ResM (p : Int) (s : List (List Int)) : Prop := ∀ r ∈ s,∀ x ∈ r,Res p x
theorem ResM.at2 {p : Int} (hp : Supp p) {s : List (List Int)} (h : ResM p s) (i j : Nat) : Res p (at2 s i j) := by
 unfold E.at2
 refine res_getD hp (fun x hx => ?_) j
 rw [List.getD_eq_getElem?_getD] at hx
 by_cases hi : i < s.length
 ·rw [List.getElem?_eq_getElem hi] at hx;exact h _ (List.getElem_mem hi) x hx
 ·rw [List.getElem?_eq_none (by omega)] at hx;cases hx
def rowX (p : Int) (n : Nat) (g : Nat → Nat → Int) (x : Int) : List Int := tabL n fun j => evI p x (tabL n fun i => g i j)
theorem rowX_length (p : Int) (n : Nat) (g : Nat → Nat → Int) (x : Int) : (rowX p n g x).length = n := tabL_length _ _
theorem rowX_congr {p : Int} {n : Nat} {g h : Nat → Nat → Int} (e : ∀ i,i < n → ∀ j,j < n → g i j = h i j) (x : Int) : rowX p n g x = rowX p n h x :=
 tabL_congr fun j hj => by rw [tabL_congr (h := fun i => g i j) (g := fun i => h i j) fun i hi => e i hi j hj]
def trG (p d : Int) (z : Nat → Int) (g : Nat → Nat → Int) (i j : Nat) : Int := (g i j + d * (z i * z j % p) % p) % p
theorem evI_zero' {p : Int} (hp : Supp p) {l : List Int} (hl : ∀ x ∈ l,Res p x) : evI p 0 l = l.getD 0 0 := by
 cases l with
 | nil => rfl
 | cons c l => show (evI p 0 l * 0 % p + c) % p = c;rw [Int.mul_zero,Int.zero_emod,Int.zero_add];exact (hl c (by simp)).eq
section
variable {p : Int} (hp : Supp p) [NeZero p.toNat]
theorem sumF_add (f g : Nat → Fin p.toNat) : ∀ n,sumF (fun i => f i + g i) n = sumF f n + sumF g n
 | 0 => by simp only [sumF];grind
 | n + 1 => by simp only [sumF];rw [sumF_add f g n];grind
theorem sumF_mul (c : Fin p.toNat) (f : Nat → Fin p.toNat) : ∀ n,sumF (fun i => c * f i) n = c * sumF f n
 | 0 => by simp only [sumF];grind
 | n + 1 => by simp only [sumF];rw [sumF_mul c f n];grind
theorem ev_tab (x : Fin p.toNat) (h : Nat → Int) : ∀ n,ev x (M p (tabL n h)) = sumF (fun i => T p (h i) * mono x i) n
 | 0 => rfl
 | n + 1 => by
  rw [tabL_succ]
  have e : M p (tabL n h ++ [h n]) = M p (tabL n h) ++ [T p (h n)] := by unfold M;rw [List.map_append];rfl
  rw [e,ev_append,M_length,tabL_length,ev_tab x h n]
  simp only [ev,sumF]
  grind
include hp in
theorem T_tab (x : Int) (n : Nat) (h : Nat → Int) : T p (evI p x (tabL n h)) = sumF (fun i => T p (h i) * mono (T p x) i) n := by rw [ev_evI hp,ev_tab]
end
theorem row_tr {p : Int} (hp : Supp p) (n : Nat) (d : Int) (z : Nat → Int) (g : Nat → Nat → Int) (x : Int) (j : Nat) :
  evI p x (tabL n fun i => trG p d z g i j) = (evI p x (tabL n fun i => g i j) + d * z j * evI p x (tabL n z)) % p := by
 haveI := nz hp
 refine T_inj hp (evI_res hp _ _) (Res.mod hp _) ?_
 rw [T_tab hp,T_mod hp,T_add,T_mul,T_mul,T_tab hp,T_tab hp,← sumF_mul,← sumF_add]
 refine sumF_congr _ fun i hi => ?_
 unfold trG
 rw [T_mod hp,T_add,T_mod hp,T_mul,T_mod hp,T_mul]
 grind
theorem rowX_tr {p : Int} (hp : Supp p) (n : Nat) (d : Int) (z : Nat → Int) {g : Nat → Nat → Int} (x : Int) (hz : evI p x (tabL n z) = 0) : rowX p n (trG p d z g) x = rowX p n g x :=
 tabL_congr fun j hj => by rw [row_tr hp,hz,Int.mul_zero,Int.add_zero];exact (evI_res hp _ _).eq
end Go.Proofs.Ytejeelpnmdfibaa.E
end
section
namespace Go.Proofs.Ytejeelpnmdfibaa.Hw
open Go.RowKit Go.Proofs.Ytejeelpnmdfibaa.Pr Go.Proofs.YtejeelpnmdfibaaW.PrintWords Go.Proofs.YtejeelpnmdfibaaW.PrintLast Go.Proofs.YtejeelpnmdfibaaW.PrintMore Go.Proofs.Ytejeelpnmdfibaa.E
def slR (bo n i : Nat) : Value := .slice (some ⟨bo + 1 + i,0,none⟩) n n
def outC (bo n k : Nat) : List Value := (List.range n).map fun i => if i < k then slR bo n i else .slice none 0 0
def rowC (n : Nat) (h : Nat → Int) : List Value := (List.range n).map fun j => .int .u64 (h j)
theorem outC_get {bo n k i : Nat} (hi : i < n) : (outC bo n k)[i]? = some (if i < k then slR bo n i else .slice none 0 0) := by
 unfold outC;rw [List.getElem?_map,List.getElem?_range hi];rfl
theorem rowC_get {n j : Nat} {h : Nat → Int} (hj : j < n) : (rowC n h)[j]? = some (.int .u64 (h j)) := by
 unfold rowC;rw [List.getElem?_map,List.getElem?_range hj];rfl
theorem outC_length (bo n k : Nat) : (outC bo n k).length = n := by simp [outC]
theorem rowC_length (n : Nat) (h : Nat → Int) : (rowC n h).length = n := by simp [rowC]
structure Mx (w : World) (bo n k : Nat) (g : Nat → Nat → Int) : Prop where
 out : w.heap[bo]? = some (.cells (outC bo n k).toArray 26 (0,0))
 row : ∀ i,i < k → w.heap[bo + 1 + i]? = some (.cells (rowC n (g i)).toArray 22 (0,0))
def upd (g : Nat → Nat → Int) (i j : Nat) (x : Int) (a b : Nat) : Int := if a = i ∧ b = j then x else g a b
section
variable {w : World} {bo n k : Nat} {g : Nat → Nat → Int}
theorem Mx.cellO (h : Mx w bo n k g) {i : Nat} (hi : i < k) (hn : i < n) : w.cell? ⟨bo,i,none⟩ = some (slR bo n i) := by
 rw [blk_cell h.out,List.getElem?_toArray,outC_get hn,if_pos hi]
theorem Mx.cellR (h : Mx w bo n k g) {i j : Nat} (hi : i < k) (hj : j < n) : w.cell? ⟨bo + 1 + i,j,none⟩ = some (.int .u64 (g i j)) := by
 rw [blk_cell (h.row i hi),List.getElem?_toArray,rowC_get hj]
theorem Mx.frozR (h : Mx w bo n k g) {i : Nat} (hi : i < k) (j : Nat) : w.frozen? ⟨bo + 1 + i,j,none⟩ = false := blk_frozen (h.row i hi) j
theorem Mx.drew (h : Mx w bo n k g) : Mx w.drew bo n k g := ⟨h.out,h.row⟩
theorem Mx.drewN (h : Mx w bo n k g) (m : Nat) : Mx (w.drewN m) bo n k g := ⟨h.out,h.row⟩
theorem Mx.congr (h : Mx w bo n k g) {g' : Nat → Nat → Int} (e : ∀ i,i < k → ∀ j,j < n → g i j = g' i j) : Mx w bo n k g' :=
 ⟨h.out,fun i hi => by
  rw [h.row i hi]
  have : rowC n (g i) = rowC n (g' i) := List.map_congr_left fun j hj => by rw [e i hi j (List.mem_range.1 hj)]
  rw [this]⟩
theorem Mx.put (h : Mx w bo n k g) {i j : Nat} (hi : i < k) (hj : j < n) (x : Int) : Mx (w.setCell ⟨bo + 1 + i,j,none⟩ (.int .u64 x)) bo n k (upd g i j x) := by
 refine ⟨blk_far (p := ⟨bo + 1 + i,j,none⟩) h.out (by show bo ≠ bo + 1 + i;omega) _,fun a ha => ?_⟩
 by_cases e : a = i
 ·subst e
  refine blk_put (h.row a ha) j _ ?_
  rw [List.setIfInBounds_toArray]
  congr 1
  refine List.ext_getElem? fun b => ?_
  by_cases hb : b < n
  ·rw [rowC_get hb]
   by_cases e2 : b = j
   ·subst e2
    rw [List.getElem?_set_self (by rw [rowC_length];exact hb)]
    simp [upd]
   ·rw [List.getElem?_set_ne (Ne.symm e2),rowC_get hb]
    simp [upd,e2]
  ·rw [List.getElem?_eq_none (by rw [List.length_set,rowC_length];omega),List.getElem?_eq_none (by rw [rowC_length];omega)]
 ·have h1 := blk_far (p := ⟨bo + 1 + i,j,none⟩) (h.row a ha) (by show bo + 1 + a ≠ bo + 1 + i;omega) (.int .u64 x)
  rw [h1]
  have : upd g i j x a = g a := by funext b;simp [upd,e]
  rw [this]
theorem Mx.more (h : Mx w bo n k g) (hk : k < n) (hs : w.heap.size = bo + 1 + k) (hz : ∀ j,g k j = 0) :
  Mx ((w.alloc (.cells (rowC n fun _ => 0).toArray 22)).setCell ⟨bo,k,none⟩ (slR bo n k)) bo n (k + 1) g := by
 refine ⟨?_,fun i hi => ?_⟩
 ·refine blk_put (blk_alloc h.out _) k _ ?_
  rw [List.setIfInBounds_toArray]
  congr 1
  refine List.ext_getElem? fun b => ?_
  by_cases hb : b < n
  ·rw [outC_get hb]
   by_cases e2 : b = k
   ·subst e2
    rw [List.getElem?_set_self (by rw [outC_length];exact hb),if_pos (by omega)]
   ·rw [List.getElem?_set_ne (Ne.symm e2),outC_get hb]
    by_cases h3 : b < k
    ·rw [if_pos h3,if_pos (by omega)]
    ·rw [if_neg h3,if_neg (by omega)]
  ·rw [List.getElem?_eq_none (by rw [List.length_set,outC_length];omega),List.getElem?_eq_none (by rw [outC_length];omega)]
 ·by_cases e : i = k
  ·subst e
   have h1 := blk_new w (Obj.cells (rowC n fun _ => 0).toArray 22)
   rw [hs] at h1
   have h2 : g i = fun _ => 0 := funext hz
   rw [h2]
   exact blk_far (p := ⟨bo,i,none⟩) h1 (by show bo + 1 + i ≠ bo;omega) _
  ·exact blk_far (p := ⟨bo,k,none⟩) (blk_alloc (h.row i (by omega)) _) (by show bo + 1 + i ≠ bo;omega) _
theorem Mx.own (h : Mx w bo n n g) {base : Nat} (hb : base ≤ bo) (hn : n ≤ 1000000) : Kd.S (Kd.slice 22 (Kd.int .u64)) 26 w base (fun _ => True) (.slice (some ⟨bo,0,none⟩) n n) (matL n g) := by
 have hl : (matL n g).length = n := (matL_sq n g).len
 refine ⟨fun b => b - (bo + 1),fun _ _ => trivial,outC bo n n,?_,?_,fun j p hj => ?_⟩
 ·rw [List.length_zipIdx,hl]
  refine ⟨by show (outC bo n n).length = n * 1;rw [outC_length];omega,.inr ⟨bo,n,(outC bo n n).toArray,rfl,hb,h.out,Nat.le_refl _,by simp only [maxLen];omega,by show (outC bo n n).toArray.size = n * 1;rw [List.size_toArray,outC_length];omega,?_⟩⟩
  show ((outC bo n n).take (n * 1)) = outC bo n n
  exact List.take_of_length_le (by rw [outC_length];omega)
 ·rw [List.length_zipIdx,hl];show (outC bo n n).length = n * 1;rw [outC_length];omega
 ·rw [List.getElem?_zipIdx,Nat.zero_add] at hj
  obtain ⟨r,hr,rfl⟩ := Option.map_eq_some_iff.1 hj
  have hjn : j < n := by have := (List.getElem?_eq_some_iff.1 hr).1;omega
  have hrow : r = tabL n (g j) := by
   unfold matL matP at hr
   rw [List.getElem?_map,List.getElem?_range hjn] at hr
   exact (Option.some.inj hr).symm
  have hcs : ((outC bo n n).drop (j * 1)).take 1 = [slR bo n j] := by
   refine List.ext_getElem? fun i => ?_
   rw [List.getElem?_take]
   cases i with
   | zero => rw [if_pos (by omega),List.getElem?_drop,Nat.add_zero,Nat.mul_one,outC_get hjn,if_pos hjn];rfl
   | succ i => rw [if_neg (by omega)];rfl
  show ∃ v,((outC bo n n).drop (j * 1)).take 1 = [v] ∧ _
  refine ⟨slR bo n j,hcs,?_⟩
  have hlen : (tabL n (g j)).length = n := tabL_length _ _
  show Kd.R (Kd.int .u64) 22 w base _ (slR bo n j) r
  rw [hrow]
  refine R_made ?_ (fun b hbk => ?_)
  ·rw [hlen]
   have hnm : nums .u64 (tabL n (g j)) = rowC n (g j) := by simp [nums,tabL,rowC]
   rw [hnm]
   refine ⟨by rw [rowC_length];omega,.inr ⟨bo + 1 + j,n,(rowC n (g j)).toArray,rfl,by omega,h.row j hjn,Nat.le_refl _,by simp only [maxLen];omega,by rw [List.size_toArray,rowC_length];omega,?_⟩⟩
   show (rowC n (g j)).take (n * 1) = _
   exact List.take_of_length_le (by rw [rowC_length];omega)
  ·have e : b = bo + 1 + j := by
    have : (slR bo n j).ownBlock = some (bo + 1 + j) := rfl
    rw [this] at hbk;exact (Option.some.inj hbk).symm
   subst e
   refine ⟨⟨trivial,fun e => ?_⟩,by show bo + 1 + j - (bo + 1) = j;omega⟩
   have e2 : some (bo + 1 + j) = some bo := e
   injection e2 with e2;omega
end
def offs (n : Nat) : Nat → Nat
 | 0 => 0
 | 1 => 0
 | i + 2 => offs n (i + 1) + (n - (i + 1))
theorem offs_next (n i : Nat) (h : 1 ≤ i) : offs n (i + 1) = offs n i + (n - i) := by
 obtain ⟨m,rfl⟩ : ∃ m,i = m + 1 := ⟨i - 1,by omega⟩
 rfl
theorem offs_twice (n : Nat) : ∀ i : Nat,i + 1 ≤ n → (2 * offs n (i + 1) : Int) = i * (2 * n - i - 1)
 | 0,_ => by simp [offs]
 | i + 1,h => by
  have ih := offs_twice n i (by omega)
  rw [offs_next n (i + 1) (by omega)]
  have e : ((n - (i + 1) : Nat) : Int) = (n : Int) - i - 1 := by omega
  rw [Int.natCast_add,e]
  push_cast
  grind
theorem offs_last {n : Nat} (h : 1 ≤ n) : (2 * offs n n : Int) = n * (n - 1) := by
 obtain ⟨m,rfl⟩ : ∃ m,n = m + 1 := ⟨n - 1,by omega⟩
 have := offs_twice (m + 1) m (Nat.le_refl _)
 rw [this];push_cast;grind
theorem offs_mono {n : Nat} : ∀ (d i : Nat),1 ≤ i → offs n i ≤ offs n (i + d)
 | 0,i,_ => Nat.le_refl _
 | d + 1,i,h => by
  have := offs_mono (n := n) d i h
  rw [← Nat.add_assoc,offs_next n (i + d) (by omega)];omega
def newG (n : Nat) (first rest : List Int) (i j : Nat) : Int :=
 if min i j = 0 then first.getD (max i j) 0 else rest.getD (offs n (min i j) + (max i j - min i j)) 0
theorem infoSl : (Try.prog.info? 26).map (fun i => (i.zero,i.size,i.bytes)) = some (some (.slice none 0 0),1,24) := by kernel_rfl
theorem mk_run {t e : TypeId} {z : Value} {b : Nat} (ht : Try.prog.underlying t = some (.slice e)) (hinfo : (Try.prog.info? e).map (fun i => (i.zero,i.size,i.bytes)) = some (some z,1,b)) (hz : z.cells = #[z]) (n : Nat) (hn : n ≤ 1000000) (hb : b ≤ 100) (w : World) :
  (Instr.makeSlice t (.int .i64 (n : Int)) (.int .i64 (n : Int))).run Try.prog w = .ok (.slice (some ⟨w.heap.size,0,none⟩) n n) (w.alloc (.cells (List.replicate n z).toArray e)) := by
 obtain ⟨i0,hi,hzz⟩ := Option.map_eq_some_iff.1 hinfo
 simp only [Prod.mk.injEq] at hzz
 obtain ⟨hz0,hz1,hz2⟩ := hzz
 have hr := run_make (P := Try.prog) w t e i0 z ht hi hz0 .i64 .i64 (n : Int) (n : Int) (by omega) (by omega)
  (by
   have h3 : ((i0.bytes * n : Nat) : Int) ≤ 281474976710656 := by
    have : i0.bytes * n ≤ 100 * 1000000 := Nat.mul_le_mul (by omega) hn
    omega
   rwa [Int.natCast_mul] at h3) (by omega)
 simp only [Int.toNat_natCast] at hr
 rw [hz1,Nat.mul_one,hz] at hr
 rw [hr]
 have e : madeCells #[z] n = (List.replicate n z).toArray := by
  apply Array.ext'
  rw [toList_madeCells_one]
 rw [e]
theorem outC_zero (bo n : Nat) : List.replicate n (Value.slice none 0 0) = outC bo n 0 := by
 refine List.ext_getElem? fun i => ?_
 by_cases hi : i < n
 ·rw [outC_get hi,List.getElem?_replicate,if_pos hi,if_neg (by omega)]
 ·rw [List.getElem?_eq_none (by rw [List.length_replicate];omega),List.getElem?_eq_none (by rw [outC_length];omega)]
theorem rowC_zero (n : Nat) : List.replicate n (Value.int .u64 0) = rowC n fun _ => 0 := by
 refine List.ext_getElem? fun i => ?_
 by_cases hi : i < n
 ·rw [rowC_get hi,List.getElem?_replicate,if_pos hi]
 ·rw [List.getElem?_eq_none (by rw [List.length_replicate];omega),List.getElem?_eq_none (by rw [rowC_length];omega)]
theorem Mx.start (w : World) (n : Nat) : Mx (w.alloc (.cells (outC w.heap.size n 0).toArray 26)) w.heap.size n 0 (fun _ _ => 0) :=
 ⟨blk_new w _,fun i hi => by omega⟩
theorem alloc_size' (w : World) (o : Obj) : (w.alloc o).heap.size = w.heap.size + 1 := Array.size_push _
theorem size_setCell' (w : World) (a : Addr) (v : Value) : (w.setCell a v).heap.size = w.heap.size := by simp [World.setCell]
theorem below_alloc_set {w0 w : World} (h : Below w0.heap.size w0 w) (o : Obj) {b : Nat} (hb : w0.heap.size ≤ b) (i : Nat) (v : Value) : Below w0.heap.size w0 ((w.alloc o).setCell ⟨b,i,none⟩ v) := Below.setCell (below_alloc h o) (p := ⟨b,i,none⟩) hb v
def newBad (first rest : List Int) : Bool := decide (first.length = 0) || decide (rest.length ≠ offs first.length first.length)
theorem newBad_iff {first rest : List Int} : newBad first rest = true ↔ (first.length = 0 ∨ rest.length ≠ offs first.length first.length) := by simp [newBad]
def movJ (p k : Int) (z l : List Int) : Nat → Nat → Nat → List Int
 | 0,_,_ => []
 | n + 1,j,q => ((rd l (q : Int) + k * rd z (j : Int) % p) % p) :: movJ p k z l n (j + 1) (q + 1)
def movI (p d : Int) (t : Nat) (z l : List Int) : Nat → Nat → Nat → List Int
 | 0,_,_ => []
 | n + 1,i,q => movJ p (d * rd z (i : Int) % p) z l (t + 1 - i) i q ++ movI p d t z l n (i + 1) (q + (t + 1 - i))
theorem movJ_length (p k : Int) (z l : List Int) : ∀ n j q,(movJ p k z l n j q).length = n
 | 0,_,_ => rfl
 | n + 1,j,q => by rw [movJ,List.length_cons,movJ_length p k z l n]
theorem mk_run0 {t e : TypeId} {z : Value} {b : Nat} (ht : Try.prog.underlying t = some (.slice e)) (hinfo : (Try.prog.info? e).map (fun i => (i.zero,i.size,i.bytes)) = some (some z,1,b)) (hz : z.cells = #[z]) (n : Nat) (hn : n ≤ 1000000) (hb : b ≤ 100) (w : World) :
  (Instr.makeSlice t (.int .i64 0) (.int .i64 (n : Int))).run Try.prog w = .ok (.slice (some ⟨w.heap.size,0,none⟩) 0 n) (w.alloc (.cells (List.replicate n z).toArray e)) := by
 obtain ⟨i0,hi,hzz⟩ := Option.map_eq_some_iff.1 hinfo
 simp only [Prod.mk.injEq] at hzz
 obtain ⟨hz0,hz1,hz2⟩ := hzz
 have hr := run_make (P := Try.prog) w t e i0 z ht hi hz0 .i64 .i64 (0 : Int) (n : Int) (by omega) (by omega)
  (by
   have h3 : ((i0.bytes * n : Nat) : Int) ≤ 281474976710656 := by
    have : i0.bytes * n ≤ 100 * 1000000 := Nat.mul_le_mul (by omega) hn
    omega
   rwa [Int.natCast_mul] at h3) (by omega)
 simp only [Int.toNat_natCast] at hr
 rw [hz1,Nat.mul_one,hz] at hr
 rw [show Int.toNat 0 = 0 from rfl] at hr
 rw [hr]
 have e : madeCells #[z] n = (List.replicate n z).toArray := by
  apply Array.ext'
  rw [toList_madeCells_one]
 rw [e]
theorem room_own (w : World) (n : Nat) (hn : n ≤ 1000000) (base : Nat) (hb : base ≤ w.heap.size) : Kd.R (Kd.int .u64) 22 (w.alloc (.cells (List.replicate n (Value.int .u64 0)).toArray 22)) base (fun _ => True) (.slice (some ⟨w.heap.size,0,none⟩) 0 n) ([] : List Int) := by
 refine R_made ?_ (fun _ _ => trivial)
 refine ⟨rfl,.inr ⟨w.heap.size,n,(List.replicate n (Value.int .u64 0)).toArray,rfl,hb,blk_new w _,Nat.zero_le _,by simp only [maxLen];omega,by rw [List.size_toArray,List.length_replicate];omega,?_⟩⟩
 simp [nums]
set_option maxHeartbeats 4000000 in
set_option maxRecDepth 100000 in
theorem rest_walk {p : Int} (hp : Supp p) (t : Nat) (ht : t ≤ 20) {d : Int} (hd : Res p d) (A0 : Option Addr) (c0 : Nat) (z : List Int) (A2 : Option Addr) (c2 : Nat) (l : List Int) (w : World)
  (hr0 : Kd.C (Kd.int .u64) w A0 z.length z) (hc0 : z.length ≤ c0) (hr2 : Kd.C (Kd.int .u64) w A2 l.length l) (hc2 : l.length ≤ c2)
  (hz : ∀ i : Nat,i ≤ t → Res p (rd z (i : Int))) (hzl : t < z.length) (hlr : ∀ i : Nat,i < l.length → Res p (rd l (i : Int))) (hll : (movI p d t z l t 1 0).length ≤ l.length) (hl2 : l.length ≤ 1000) :
  Calls Try.prog 45 #[.agg #[.int .u64 p,.int .i64 (t : Int),.slice A0 z.length c0],.int .u64 d,.slice A2 l.length c2] w fun e w' => ∃ v0_ : Value,e = .returned (v0_) ∧ Kd.R (Kd.int .u64) 22 w' w.heap.size (fun _ => True) v0_ (movI p d t z l t 1 0) ∧ Below w.heap.size w w' := by
 have HR0 := am hr0
 have HR2 := am hr2
 have HZ := am hz
 have HLR := am hlr
 have HLL := am hll
 have hu := Try.underlying59
 obtain ⟨ad,e0,_⟩ := Kd.at_int hr0 (0 : Int) (by omega) (by omega)
 subst e0
 clear hr0 hr2 hz hlr hll
 go_enter Try.func45,Try.ntmps45
 go_wp2_with (first
  | ((with_reducible refine gate_dst (N := 3) rfl ?_);refine box_event ?hg (N := 3) ?hd (cs := #[.int .u64 p,.int .i64 (t : Int),.slice (some ad) z.length c0]) (t := 59) ?hr ?_;(case hd => rfl);(case hg => rfl);(case hr => first|(go_simp;done)|(go_simp;rfl));intro gb hgb w4 hbox hb4;have GB := am hgb;have BK4 := am hbox;have HB4 := am hb4;have hmk := mk_run0 (t := 26) (e := 22) (z := .int .u64 0) Try.underlying26 info22 rfl l.length (by omega) (by decide) w4;clear hbox hb4 hgb))
 have HB5 := am (below_alloc HB4.out (.cells (List.replicate l.length (Value.int .u64 0)).toArray 22))
 have BK5 := am (blk_alloc BK4.out (.cells (List.replicate l.length (Value.int .u64 0)).toArray 22))
 have HO5 := am (room_own w4 l.length (by omega) w.heap.size (below_size HB4.out))
 have HGB := am (show w.heap.size ≤ gb by rw [GB.out];exact Nat.le_refl _)
 clear hmk BK4 HB4 GB
 go_loopg [7,8,9,10] t (fun kq v7 v8 v9 v10 w' => ∃ (i : Nat) (dn : List Int),v8 = .int .i64 (i : Int) ∧ Aside0 (kq + i = t + 1 ∧ 1 ≤ i) ∧ Aside0 (dn ++ movI p d t z l (t + 1 - i) i dn.length = movI p d t z l t 1 0) ∧ Aside0 (Kd.R (Kd.int .u64) 22 w' w.heap.size (fun _ => True) v7 dn) ∧ Aside0 (w'.heap[gb]? = some (.cells #[.int .u64 p,.int .i64 (t : Int),.slice (some ad) z.length c0] 59 (0,0))) ∧ Aside0 (Below w.heap.size w w'))
 case atStart => exact ⟨1,[],rfl,⟨rfl,Nat.le_refl _⟩,⟨rfl⟩,HO5,BK5,HB5⟩
 case round =>
  clear HO5 BK5 HB5
  obtain ⟨i,dn,rfl,HK,HD,HO,BK,HB⟩ := hrel
  have c0' := blk_cell BK.out 0
  have c1' := blk_cell BK.out 1
  have c2' := blk_cell BK.out 2
  simp only [List.getElem?_toArray,List.getElem?_cons_zero,List.getElem?_cons_succ] at c0' c1' c2'
  obtain ⟨hk0,hk1⟩ := HK.out
  by_cases hlt : i ≤ t
  ·have q1 : decide ((i : Int) ≤ (t : Int)) = true := decide_eq_true (by omega)
   have q2 : decide (i ≤ t) = true := decide_eq_true hlt
   have p1 : ((0 : Int) ≤ (i : Int)) = True := eq_true (by omega)
   have p2 : ((i : Int) < (z.length : Int)) = True := eq_true (by omega)
   obtain ⟨ad',e,hy⟩ := Kd.at_int (Kd.C_below HR0.out HB.out) (i : Int) (by omega) (by omega)
   obtain rfl := Option.some.inj e
   rw [Int.toNat_natCast] at hy
   obtain ⟨kk,hkk⟩ := (mul_ev hp hd (HZ.out i hlt)).rounds
   have HKK := am hkk
   obtain ⟨k,hke⟩ : ∃ y,y = d * rd z (i : Int) % p := ⟨_,rfl⟩
   rw [← hke] at HKK
   have HKR := am (show Res p k by rw [hke];exact Res.mod hp _)
   have hrun : t + 1 - i = (t + 1 - (i + 1)) + 1 := by omega
   have HE := am (show dn ++ (movJ p k z l (t + 1 - i) i dn.length ++ movI p d t z l (t + 1 - (i + 1)) (i + 1) (dn.length + (t + 1 - i))) = movI p d t z l t 1 0 by rw [← HD.out];conv => rhs;rw [hrun,movI,← hke])
   clear hkk hke hrun
   go_wp2
   refine wp_region_quiet_tail_drawn 9 (by kernel_rfl) (by kernel_rfl) ?_
   simp only [List.take_succ_cons,List.take_zero,List.drop_succ_cons,List.drop_zero]
   repeat (quiet_step ((refine Calls.quiet_of ((field_Mul.calls kk _ _ _ k _ HKK.out).mono fun e w' h => ⟨h.1,h.2.out⟩))))
   refine wpQuiet_nil ?_
   rintro _ ⟨nq,rfl⟩
   go_wp2
   have HD2 := am (show dn ++ (movJ p k z l (t + 1 - i) i dn.length ++ movI p d t z l (t + 1 - (i + 1)) (i + 1) (dn.length + (t + 1 - i))) = movI p d t z l t 1 0 from HE.out)
   have HO6 := am (Kd.R_drewN HO.out nq)
   have BK6 := am (blk_drewN BK.out nq)
   have HB6 := am (pw_below_drewN HB.out nq)
   have HI := am (And.intro hk1 hlt)
   clear HD HE HO BK HB hk0 hk1 hlt hy c0' c1' c2' p1 p2 q1 q2
   go_loopg [7,10] (t + 1 - i) (fun kq v7 v10 w' => ∃ (j : Nat) (dm : List Int),v10 = .int .i64 (j : Int) ∧ Aside0 (kq + j = t + 1 ∧ i ≤ j) ∧ Aside0 (dm ++ (movJ p k z l (t + 1 - j) j dm.length ++ movI p d t z l (t + 1 - (i + 1)) (i + 1) (dm.length + (t + 1 - j))) = movI p d t z l t 1 0) ∧ Aside0 (Kd.R (Kd.int .u64) 22 w' w.heap.size (fun _ => True) v7 dm) ∧ Aside0 (w'.heap[gb]? = some (.cells #[.int .u64 p,.int .i64 (t : Int),.slice (some ad) z.length c0] 59 (0,0))) ∧ Aside0 (Below w.heap.size w w'))
   case atStart => exact ⟨i,dn,rfl,⟨by have := HI.out;omega,Nat.le_refl _⟩,HD2,HO6,BK6,HB6⟩
   case round =>
    clear HD2 HO6 BK6 HB6
    obtain ⟨j,dm,rfl,HK2,HD,HO,BK,HB⟩ := hrel
    have c0' := blk_cell BK.out 0
    have c1' := blk_cell BK.out 1
    have c2' := blk_cell BK.out 2
    simp only [List.getElem?_toArray,List.getElem?_cons_zero,List.getElem?_cons_succ] at c0' c1' c2'
    obtain ⟨hk0,hk1⟩ := HK2.out
    obtain ⟨hi1,hi2⟩ := HI.out
    by_cases hlt : j ≤ t
    ·have q1 : decide ((j : Int) ≤ (t : Int)) = true := decide_eq_true (by omega)
     have q2 : decide (j ≤ t) = true := decide_eq_true hlt
     have hrun : t + 1 - j = (t + 1 - (j + 1)) + 1 := by omega
     have hD := HD.out
     have hdl : dm.length < l.length := by
      have h1 := congrArg List.length hD
      rw [List.length_append,List.length_append,movJ_length] at h1
      have := HLL.out
      omega
     have p1 : ((0 : Int) ≤ (j : Int)) = True := eq_true (by omega)
     have p2 : ((j : Int) < (z.length : Int)) = True := eq_true (by omega)
     have p3 : ((0 : Int) ≤ (dm.length : Int)) = True := eq_true (by omega)
     have p4 : ((dm.length : Int) < (l.length : Int)) = True := eq_true (by omega)
     obtain ⟨ad',e,hy⟩ := Kd.at_int (Kd.C_below HR0.out HB.out) (j : Int) (by omega) (by omega)
     obtain rfl := Option.some.inj e
     obtain ⟨ad2,e2,hy2⟩ := Kd.at_int (Kd.C_below HR2.out HB.out) (dm.length : Int) (by omega) (by omega)
     cases e2
     rw [Int.toNat_natCast] at hy hy2
     obtain ⟨k1,hk1'⟩ := (mul_ev hp HKR.out (HZ.out j hlt)).rounds
     obtain ⟨k2,hk2'⟩ := (add_ev hp (HLR.out dm.length hdl) (Res.mod hp (k * rd z (j : Int)))).rounds
     have HE := am (show (dm ++ [(rd l (dm.length : Int) + k * rd z (j : Int) % p) % p]) ++ (movJ p k z l (t + 1 - (j + 1)) (j + 1) (dm.length + 1) ++ movI p d t z l (t + 1 - (i + 1)) (i + 1) (dm.length + 1 + (t + 1 - (j + 1)))) = movI p d t z l t 1 0 by
      rw [← hD]
      conv => rhs;rw [hrun,movJ]
      rw [show dm.length + 1 + (t + 1 - (j + 1)) = dm.length + (t + 1 - (j + 1) + 1) from by omega]
      simp)
     obtain ⟨zk,hzk⟩ : ∃ y,y = k * rd z (j : Int) % p := ⟨_,rfl⟩
     rw [← hzk] at hk1' hk2' HE
     obtain ⟨x,hx⟩ : ∃ y,y = (rd l (dm.length : Int) + zk) % p := ⟨_,rfl⟩
     rw [← hx] at hk2' HE
     have HK1 := am hk1'
     have HK2' := am hk2'
     obtain ⟨m1,hm1⟩ : ∃ y : List Int,y = dm ++ [x] := ⟨_,rfl⟩
     rw [← hm1] at HE
     have NM := am hm1
     have HDL := am hdl
     obtain ⟨A7,c7,rfl⟩ := Kd.R_slice HO.out
     clear hrun hD hzk hx hk1' hk2' hm1 hdl HD
     go_wp2
     refine start_ (n := 21) (S := (fun w' => w'.cell? ⟨gb,0,none⟩ = some (.int .u64 p) ∧ w'.cell? ⟨gb,2,none⟩ = some (.slice (some ad) z.length c0) ∧ w'.cell? (ad2.add dm.length) = some (.int .u64 (rd l (dm.length : Int))) ∧ w'.cell? (ad.add j) = some (.int .u64 (rd z (j : Int))))) (ds := []) (bz 21 0) (by kernel_rfl) rfl rfl ⟨c0',c2',hy2,hy⟩ (fun hHeld => ?_)
     refine pu 0 36 (bz 21 1) ?_
     refine pu 1 37 (bz 21 3) ?_
     refine tu 2 38 (bz 21 7) hHeld ?_
     refine pu 3 39 (bz 21 15) ?_
     refine pu 4 40 (bz 21 31) ?_
     refine pu 5 41 (bz 21 63) ?_
     refine pu 6 42 (bz 21 127) ?_
     refine tu 7 43 (bz 21 255) hHeld ?_
     refine pu 8 44 (bz 21 511) ?_
     refine tu 9 45 (bz 21 1023) hHeld ?_
     refine pu 10 46 (bz 21 2047) ?_
     refine pu 11 47 (bz 21 4095) ?_
     refine tu 12 48 (bz 21 8191) hHeld ?_
     refine pu 13 49 (bz 21 16383) ?_
     refine pu 14 50 (bz 21 32767) ?_
     refine tu 15 51 (bz 21 65535) hHeld ?_
     refine one_ (i := 16) (N := some 52) (bz 21 131071) rfl rfl (by kernel_rfl) (by decide) (fun K hK => ?_)
     refine goes_ Try.func70 (by kernel_rfl) rfl #[.int .u64 p,.int .u64 k,.int .u64 (rd z (j : Int))] (by rfl) rfl rfl (by (try simp only [List.map_toArray,List.map_cons,List.map_nil]);first|done|rfl|(simp only [List.length_drop,List.length_take];rfl)) ?_
     with_reducible refine (field_Mul.calls k1 _ _ _ zk _ HK1.out).mono ?_
     rintro e w' ⟨rfl,⟨nd,rfl⟩⟩
     refine ⟨_,rfl,?_⟩
     refine hK.out _ _ ⟨c0',c2',hy2,hy⟩ (fun hHeld => ?_)
     clear hK K
     refine nm 52 ?_
     refine one_ (i := 17) (N := some 53) (bz 21 262143) rfl rfl (by kernel_rfl) (by decide) (fun K hK => ?_)
     refine goes_ Try.func69 (by kernel_rfl) rfl #[.int .u64 p,.int .u64 (rd l (dm.length : Int)),.int .u64 zk] (by rfl) rfl rfl (by (try simp only [List.map_toArray,List.map_cons,List.map_nil]);first|done|rfl|(simp only [List.length_drop,List.length_take];rfl)) ?_
     with_reducible refine (field_Add.calls k2 _ _ _ x _ HK2'.out).mono ?_
     rintro e w' ⟨rfl,⟨ne,rfl⟩⟩
     refine ⟨_,rfl,?_⟩
     refine hK.out _ _ ⟨c0',c2',hy2,hy⟩ (fun hHeld => ?_)
     clear hK K
     refine nm 53 ?_
     refine one_ (i := 18) (N := some 54) (bz 21 524287) rfl rfl (by kernel_rfl) (by decide) (fun K hK => ?_)
     refine value_ (w1 := ?_) (v := ?_) (by rfl) rfl ?_ ?_
     rotate_left 2
     ·go_simp
      constructor
      ·rfl
      ·rfl
     refine hK.out _ _ ⟨cell_alloc_of (n := 1) c0' _,cell_alloc_of (n := 1) c2' _,cell_alloc_of (n := 1) hy2 _,cell_alloc_of (n := 1) hy _⟩ (fun hHeld => ?_)
     clear hK K
     refine nm 54 ?_
     refine one_ (i := 19) (N := some 55) (bz 21 1048575) rfl rfl (by kernel_rfl) (by decide) (fun K hK => ?_)
     refine Kd.R_append_step (Kd.int .u64) (w0 := w) w.heap.size (by rfl) (.tmp 36) (.tmp 54) 26 22 (.int .u64 0) 8 rfl Try.underlying26 info22 rfl (by decide) (by omega) (.slice A7 dm.length c7) dm x [.int .u64 x] (fun _ => True) (fun _ => False) rfl rfl ?aP (fun _ hk => hk.elim) ?aF ?aO ?aB ?aS ?aL ?_
     (case aP => exact rfl)
     (case aB => exact (bb HB))
     (case aF => exact (fun _ _ => trivial))
     (case aO => exact (by (with_reducible repeat (first|apply Kd.R_alloc|apply Kd.R_drewN|apply Kd.R_drew));exact HO.out))
     (case aS => exact (below_size (bb HB)))
     (case aL => have := HDL.out;omega)
     intro v2 w2 ho hb hg hat
     have hbk : w2.heap[gb]? = some (.cells #[.int .u64 p,.int .i64 (t : Int),.slice (some ad) z.length c0] 59 (0,0)) := blk_grown (by first|exact BK.out|exact blk_drewN BK.out _) hg (Kd.R_ne HO.out BK.out (by decide))
     rw [← NM.out] at ho
     have hcz : w2.cell? (ad.add j) = some (.int .u64 (rd z (j : Int))) := by
      obtain ⟨_,e3,h3⟩ := Kd.at_int (Kd.C_below HR0.out hb) (j : Int) (by omega) (by omega)
      cases e3
      rw [Int.toNat_natCast] at h3
      exact h3
     have hcl : w2.cell? (ad2.add dm.length) = some (.int .u64 (rd l (dm.length : Int))) := by
      obtain ⟨_,e3,h3⟩ := Kd.at_int (Kd.C_below HR2.out hb) (dm.length : Int) (by omega) (by have := HDL.out;omega)
      cases e3
      rw [Int.toNat_natCast] at h3
      exact h3
     have hc0 := blk_cell hbk 0
     have hc2 := blk_cell hbk 2
     simp only [List.getElem?_toArray,List.getElem?_cons_zero,List.getElem?_cons_succ] at hc0 hc2
     refine hK.out _ _ ⟨hc0,hc2,hcl,hcz⟩ (fun hHeld => ?_)
     clear hK K
     refine nm 55 ?_
     refine pu 20 7 (bz 21 2097151) ?_
     refine done_ (by kernel_rfl) ?_
     have HO2 := am ho
     have HB2 := am hb
     have BK2 := am hbk
     clear ho hb hg hat hbk hcz hcl hc0 hc2
     go_wp2
     go_roundg (t - j)
     case measure => omega
     case rel => exact ⟨j + 1,m1,by go_num,⟨by omega⟩,⟨by
      have h1 := HE.out
      rw [show m1.length = dm.length + 1 from by rw [NM.out];simp]
      exact h1⟩,HO2,BK2,HB2⟩
    ·have q1 : decide ((j : Int) ≤ (t : Int)) = false := decide_eq_false (by omega)
     have q2 : decide (j ≤ t) = false := decide_eq_false hlt
     have HE := am (show dm ++ movI p d t z l (t + 1 - (i + 1)) (i + 1) dm.length = movI p d t z l t 1 0 by
      rw [← HD.out,show t + 1 - j = 0 from by omega]
      simp [movJ])
     clear HD
     go_wp2
     go_roundg (t - i)
     case measure => have := HK.out;omega
     case rel => exact ⟨i + 1,dm,by go_num,⟨by have := HK.out;omega⟩,HE,HO,BK,HB⟩
  ·have q1 : decide ((i : Int) ≤ (t : Int)) = false := decide_eq_false (by omega)
   have q2 : decide (i ≤ t) = false := decide_eq_false hlt
   have hz0 : t + 1 - i = 0 := by omega
   have HE := am (show dn = movI p d t z l t 1 0 by rw [← HD.out,hz0];simp [movI])
   clear hz0
   go_wp2
   first|go_ret|((try simp only [Exit.inBlock,Exit.then]);refine bodyPost_ret (results_tmp rfl _ _ rfl) rfl ?_)
   exact ⟨_,rfl,by rw [← HE.out];exact HO.out,HB.out⟩
def tapeshift_mover_rest.f (a0 a1 : Int) (z : List Int) (d : Int) (l : List Int) : Option (List Int) :=
 if supB a0 = true then (if 0 ≤ a1 then (if a1 ≤ 20 then (if resB a0 d = true then (if ressB a0 z = true then (if a1 < z.length then (if ressB a0 l = true then (if (movI a0 d a1.toNat z l a1.toNat 1 0).length ≤ l.length then (if l.length ≤ 1000 then some (movI a0 d a1.toNat z l a1.toNat 1 0) else none) else none) else none) else none) else none) else none) else none) else none) else none
theorem tapeshift_mover_rest.calls (a0 a1 : Int) (A0 : Option Addr) (c0 : Nat) (z : List Int) (d : Int) (A2 : Option Addr) (c2 : Nat) (l r : List Int) (w : World) (hr0 : Kd.C (Kd.int .u64) w A0 z.length z) (hc0 : z.length ≤ c0) (hr2 : Kd.C (Kd.int .u64) w A2 l.length l) (hc2 : l.length ≤ c2) (h : tapeshift_mover_rest.f a0 a1 z d l = some r) :
  Calls Try.prog 45 #[.agg #[.int .u64 a0,.int .i64 a1,.slice A0 z.length c0],.int .u64 d,.slice A2 l.length c2] w fun e w' => ∃ v0_ : Value,e = .returned (v0_) ∧ Kd.R (Kd.int .u64) 22 w' w.heap.size (fun _ => True) v0_ r ∧ Below w.heap.size w w' := by
 unfold tapeshift_mover_rest.f at h
 obtain ⟨h1,h⟩ := ifs h
 obtain ⟨h2,h⟩ := ifs h
 obtain ⟨h3,h⟩ := ifs h
 obtain ⟨h4,h⟩ := ifs h
 obtain ⟨h5,h⟩ := ifs h
 obtain ⟨h6,h⟩ := ifs h
 obtain ⟨h7,h⟩ := ifs h
 obtain ⟨h8,h⟩ := ifs h
 obtain ⟨h9,h⟩ := ifs h
 rw [← Option.some.inj h]
 have e : ((a1.toNat : Nat) : Int) = a1 := Int.toNat_of_nonneg h2
 have hg := rest_walk (supB_of h1) a1.toNat (by omega) (resB_iff.1 h4) A0 c0 z A2 c2 l w hr0 hc0 hr2 hc2 (fun i hi => rd_res (ressB_iff.1 h5) i (by omega)) (by omega) (fun i hi => rd_res (ressB_iff.1 h7) i hi) h8 h9
 rw [e] at hg
 exact hg
end Go.Proofs.Ytejeelpnmdfibaa.Hw
end
section
namespace Go.Proofs.Ytejeelpnmdfibaa.Pr
open Go.RowKit Go.Proofs.YtejeelpnmdfibaaW.PrintWords Go.Proofs.YtejeelpnmdfibaaW.PrintLast Go.Proofs.YtejeelpnmdfibaaW.PrintMore
attribute [local go_sem] max2_int min2_int max_two min_two max_three min_three max_four min_four
open Go.Proofs.Ytejeelpnmdfibaa.Hw
def tapeshift_Sharing.f (k : Nat) (a0_0 : Int) (a0_1 : Int) (a0_2 : Int) (l1 : List Int) (a2 : Int) (l3 : List Int) (l4 : List Int) : Option (List Int × List Int) := (tapeshift_of.f k a0_0 a0_1 a0_2 l1).bind fun bt247 => ((tapeshift_mover_by.f k bt247.1 bt247.2.1 bt247.2.2 a2 l3).bind fun t253 => ((tapeshift_mover_rest.f bt247.1 bt247.2.1 bt247.2.2 a2 l4).bind fun t256 => (some (t253,t256))))
theorem tapeshift_Sharing.mono : ∀ a0 a1 a2 a3 a4 a5 a6 k,LeO (tapeshift_Sharing.f k a0 a1 a2 a3 a4 a5 a6) (tapeshift_Sharing.f (k + 1) a0 a1 a2 a3 a4 a5 a6) := by
 intro a0 a1 a2 a3 a4 a5 a6 k
 unfold tapeshift_Sharing.f
 repeat' first
   | (with_reducible exact tapeshift_mover_by.mono _ _ _ _ _ _)
   | (with_reducible exact tapeshift_of.mono _ _ _ _ _)
   | (with_reducible exact LeO.refl _)
   | (with_reducible exact LeO.none _)
   | (with_reducible refine LeO.ite ?_ ?_)
   | (with_reducible refine LeO.bind ?_ (fun _ => ?_))
   | exact tapeshift_mover_by.mono _ _ _ _ _ _
   | exact tapeshift_of.mono _ _ _ _ _
   | exact LeO.none _
   | refine LeO.ite ?_ ?_
   | refine LeO.bind ?_ (fun _ => ?_)
def tapeshift_Sharing.T2 : Bool × List (List Nat × List Nat) := (true,[([],[]),([],[]),([],[]),([0,1,2],[0,1,2]),([],[]),([],[]),([],[]),([4,5,6,3],[4,5,6]),([3,7,0,1,2,3],[3]),([7,8,0,1,2,3,4,5,6,7,8],[7])])
def tapeshift_Sharing.B2 : List Nat := [0,0,0,7,0,0,0,127,255,511]
theorem tapeshift_Sharing.tab2 : rtab .any (opsOf Try.f15 2) = tapeshift_Sharing.T2 := by kernel_rfl
theorem tapeshift_Sharing.bits2 : waitsOk tapeshift_Sharing.T2.2 tapeshift_Sharing.B2 = true := by kernel_rfl
set_option maxHeartbeats 8000000 in
set_option maxRecDepth 100000 in
theorem tapeshift_Sharing.calls (k : Nat) (a0_0 : Int) (a0_1 : Int) (a0_2 : Int) (A1 : Option Addr) (c1 : Nat) (l1 : List Int) (a2 : Int) (A3 : Option Addr) (c3 : Nat) (l3 : List Int) (A4 : Option Addr) (c4 : Nat) (l4 : List Int) (r1 : List Int) (r2 : List Int) (w : World) (hr1 : Kd.C (Kd.int .i64) w A1 l1.length l1) (hc1 : l1.length ≤ c1) (hr3 : Kd.C (Kd.int .u64) w A3 l3.length l3) (hc3 : l3.length ≤ c3) (hr4 : Kd.C (Kd.int .u64) w A4 l4.length l4) (hc4 : l4.length ≤ c4) (h : tapeshift_Sharing.f k a0_0 a0_1 a0_2 l1 a2 l3 l4 = some (r1,r2)) :
  Calls Try.prog 15 #[.agg #[.int .u64 a0_0,.int .i64 a0_1,.int .i64 a0_2],.slice A1 l1.length c1,.int .u64 a2,.slice A3 l3.length c3,.slice A4 l4.length c4] w fun e w' => ∃ v0_ v1_ : Value,e = .returned (.tuple #[v0_,v1_]) ∧ Kd.R (Kd.int .u64) 22 w' w.heap.size (fun k_ => some k_ ≠ (v1_ : Value).ownBlock) v0_ r1 ∧ Kd.R (Kd.int .u64) 22 w' w.heap.size (fun k_ => some k_ ≠ (v0_ : Value).ownBlock) v1_ r2 ∧ Below w.heap.size w w' := by
 have hu24 := Try.underlying24
 have hu59 := Try.underlying59
 have HR1 := am hr1
 have HC1 := am hc1
 clear hr1 hc1
 have HR3 := am hr3
 have HC3 := am hc3
 clear hr3 hc3
 have HR4 := am hr4
 have HC4 := am hc4
 clear hr4 hc4
 have HB := am (Below.refl w.heap.size w)
 have H : ((tapeshift_of.f k a0_0 a0_1 a0_2 l1).bind fun bt247 => ((tapeshift_mover_by.f k bt247.1 bt247.2.1 bt247.2.2 a2 l3).bind fun t253 => ((tapeshift_mover_rest.f bt247.1 bt247.2.1 bt247.2.2 a2 l4).bind fun t256 => (some (t253,t256))))) = some (r1,r2) := h
 clear h
 replace H := Option.bind_eq_some_iff.mp H
 obtain ⟨⟨t247,t248,t249⟩,A60,H⟩ := H
 try dsimp only at H
 have A6 := am A60
 clear A60
 replace H := Option.bind_eq_some_iff.mp H
 obtain ⟨t253,A70,H⟩ := H
 try dsimp only at H
 have A7 := am A70
 clear A70
 replace H := Option.bind_eq_some_iff.mp H
 obtain ⟨t256,A80,H⟩ := H
 try dsimp only at H
 have A8 := am A80
 clear A80
 simp only [Option.some.injEq,Prod.mk.injEq] at H
 obtain ⟨rfl,rfl⟩ := H
 go_enter Try.func15,Try.ntmps15
 try go_wp2_with (first|((with_reducible refine gate_dst (N := 5) rfl ?_);refine box_event ?hg (N := 5) ?hd (cs := #[.int .u64 a0_0,.int .i64 a0_1,.int .i64 a0_2]) (t := 24) ?hr ?_;(case hd => rfl);(case hg => rfl);(case hr => first|(go_simp;done)|(go_simp;rfl));intro gb246 hg w9 hbox hb;have n0_ := am (below_step (bb HB) hb);have n1_ := am (hbox);have n2_ := am ((by rw [hg];exact (below_size (bb HB)) : w.heap.size ≤ gb246));have n3_ := am ((by rw [hg];exact (below_size (bb HB)) : w.heap.size ≤ gb246));clear HB;have HB := n0_;have BK246 := n1_;have GW246 := n2_;have GE246 := n3_;clear n0_ n1_ n2_ n3_;clear hb hbox hg;have hcz10_0 := bc BK246 0;have hcz10_1 := bc BK246 1;have hcz10_2 := bc BK246 2;have hfz10_0 := bf BK246 0;have hfz10_1 := bf BK246 1;have hfz10_2 := bf BK246 2)|((with_reducible refine gate_callee (f := 43) rfl ?_);refine goesL_ (some 15) rfl rfl Try.func43 (by kernel_rfl) rfl #[.agg #[.int .u64 a0_0,.int .i64 a0_1,.int .i64 a0_2],.slice A1 l1.length c1] rfl (by (try simp only [List.map_toArray,List.map_cons,List.map_nil]);first|done|rfl|(simp only [List.length_drop,List.length_take];rfl)) ?_;(with_reducible refine (tapeshift_of.calls k a0_0 a0_1 a0_2 _ _ l1 t247 t248 t249 _ ?side1 ?side2 A6.out).mono ?_);(case side1 => exact cb HR1 HB);(case side2 => exact HC1.out);rintro e w11 ⟨v250,rfl,ho0,hb⟩;refine ⟨_,rfl,?_⟩;have n0_ := am (Kd.R_lower ho0 (below_size (bg HB GE246)));have n1_ := am (kb BK246 hb);have n2_ := am (below_step (bg HB GE246) hb);clear BK246 HB;have HO251 := n0_;have BK246 := n1_;have HB := n2_;clear n0_ n1_ n2_;(try clear hb);(try clear hb2);(try clear hk);(try clear hi);(try clear ho0))|((with_reducible refine gate_dst (N := 12) rfl ?_);refine box_event ?hg (N := 12) ?hd (cs := #[.int .u64 0,.int .i64 0,.slice none 0 0]) (t := 59) ?hr ?_;(case hd => rfl);(case hg => rfl);(case hr => first|(go_simp;done)|(go_simp;rfl));intro gb252 hg w12 hbox hb;have n0_ := am (Kd.R_below (rr HO251) hb);have n1_ := am (kb BK246 hb);have n2_ := am (below_step (bg HB GE246) hb);have n3_ := am (hbox);have n4_ := am ((by rw [hg];exact (below_size (bg HB GE246)) : w.heap.size ≤ gb252));have n5_ := am ((by rw [hg];exact (below_size (bg HB GE246)) : w.heap.size ≤ gb252));have n6_ := am ((by rw [hg];exact Nat.ne_of_lt (blk_lt (g := gb246) (o := .cells #[.int .u64 a0_0,.int .i64 a0_1,.int .i64 a0_2] 24 (0,0)) (by (with_reducible repeat (first|refine blk_drewN ?_ _|refine blk_drew ?_|refine blk_alloc ?_ _));exact BK246.out)) : gb246 ≠ gb252));have n7_ := am ((by rw [hg];exact Nat.ne_of_gt (blk_lt (g := gb246) (o := .cells #[.int .u64 a0_0,.int .i64 a0_1,.int .i64 a0_2] 24 (0,0)) (by (with_reducible repeat (first|refine blk_drewN ?_ _|refine blk_drew ?_|refine blk_alloc ?_ _));exact BK246.out)) : gb252 ≠ gb246));clear HO251 BK246 HB;have HO251 := n0_;have BK246 := n1_;have HB := n2_;have BK252 := n3_;have GW252 := n4_;have GE252 := n5_;have NB246_252 := n6_;have NB252_246 := n7_;clear n0_ n1_ n2_ n3_ n4_ n5_ n6_ n7_;clear hb hbox hg;have hnb13 := NB252_246.out;have hnc13 := NB246_252.out;have hcz14_0 := bc BK252 0;have hcz14_1 := bc BK252 1;have hcz14_2 := bc BK252 2;have hfz14_0 := bf BK252 0;have hfz14_1 := bf BK252 1;have hfz14_2 := bf BK252 2;obtain ⟨Ao15,co15,eo15⟩ := Kd.R_slice HO251.out;subst eo15))
 have n0_ : Aside0 (Kd.R (Kd.int .u64) 22 (((w12.setCell ⟨gb252,0,none⟩ (.int .u64 t247)).setCell ⟨gb252,1,none⟩ (.int .i64 t248)).setCell ⟨gb252,2,none⟩ (.slice Ao15 t249.length co15)) w.heap.size (fun _ => True) (.slice Ao15 t249.length co15) t249) := ⟨by (with_reducible repeat (first|apply Kd.R_alloc|apply Kd.R_drewN|apply Kd.R_drew));exact Kd.R_mono (Kd.R_far (p := ⟨gb252,2,none⟩) (Kd.R_far (p := ⟨gb252,1,none⟩) (Kd.R_far (p := ⟨gb252,0,none⟩) (Kd.R_types HO251.out BK252.out (by decide)) (fun _ hk => hk.2) (.int .u64 t247)) (fun _ hk => hk.2) (.int .i64 t248)) (fun _ hk => hk.2) (.slice Ao15 t249.length co15)) (fun _ hk => trivial)⟩
 have n1_ : Aside0 ((((w12.setCell ⟨gb252,0,none⟩ (.int .u64 t247)).setCell ⟨gb252,1,none⟩ (.int .i64 t248)).setCell ⟨gb252,2,none⟩ (.slice Ao15 t249.length co15)).heap[gb246]? = some (.cells #[.int .u64 a0_0,.int .i64 a0_1,.int .i64 a0_2] 24 (0,0))) := ⟨by (with_reducible repeat (first|refine blk_drewN ?_ _|refine blk_drew ?_|refine blk_alloc ?_ _));refine blk_far ?_ NB246_252.out _;(with_reducible repeat (first|refine blk_drewN ?_ _|refine blk_drew ?_|refine blk_alloc ?_ _));refine blk_far ?_ NB246_252.out _;(with_reducible repeat (first|refine blk_drewN ?_ _|refine blk_drew ?_|refine blk_alloc ?_ _));refine blk_far ?_ NB246_252.out _;(with_reducible repeat (first|refine blk_drewN ?_ _|refine blk_drew ?_|refine blk_alloc ?_ _));exact BK246.out⟩
 have n2_ : Aside0 ((((w12.setCell ⟨gb252,0,none⟩ (.int .u64 t247)).setCell ⟨gb252,1,none⟩ (.int .i64 t248)).setCell ⟨gb252,2,none⟩ (.slice Ao15 t249.length co15)).heap[gb252]? = some (.cells #[.int .u64 t247,.int .i64 t248,.slice Ao15 t249.length co15] 59 (0,0))) := ⟨by (with_reducible repeat (first|refine blk_drewN ?_ _|refine blk_drew ?_|refine blk_alloc ?_ _));refine blk_put (cs := #[.int .u64 t247,.int .i64 t248,.slice none 0 0]) ?_ 2 _ rfl;(with_reducible repeat (first|refine blk_drewN ?_ _|refine blk_drew ?_|refine blk_alloc ?_ _));refine blk_put (cs := #[.int .u64 t247,.int .i64 0,.slice none 0 0]) ?_ 1 _ rfl;(with_reducible repeat (first|refine blk_drewN ?_ _|refine blk_drew ?_|refine blk_alloc ?_ _));refine blk_put (cs := #[.int .u64 0,.int .i64 0,.slice none 0 0]) ?_ 0 _ rfl;(with_reducible repeat (first|refine blk_drewN ?_ _|refine blk_drew ?_|refine blk_alloc ?_ _));exact BK252.out⟩
 have n3_ : Aside0 (Below w.heap.size w (((w12.setCell ⟨gb252,0,none⟩ (.int .u64 t247)).setCell ⟨gb252,1,none⟩ (.int .i64 t248)).setCell ⟨gb252,2,none⟩ (.slice Ao15 t249.length co15))) := ⟨by repeat (first|(with_reducible first|exact HB.out|apply below_alloc|apply pw_below_drewN|apply below_drew1|refine below_set ?_ GE246.out|refine below_set ?_ GE252.out)|exact HB.out)⟩
 (try clear HO251)
 (try clear BK246)
 (try clear BK252)
 (try clear HB)
 generalize (((w12.setCell ⟨gb252,0,none⟩ (.int .u64 t247)).setCell ⟨gb252,1,none⟩ (.int .i64 t248)).setCell ⟨gb252,2,none⟩ (.slice Ao15 t249.length co15)) = w16 at n0_ n1_ n2_ n3_ ⊢
 have HO251 := n0_
 have BK246 := n1_
 have BK252 := n2_
 have HB := n3_
 clear n0_ n1_ n2_ n3_
 have n0_ := am (Kd.R_drew HO251.out)
 have n1_ := am (blk_drew BK246.out)
 have n2_ := am (blk_drew BK252.out)
 have n3_ := am (below_drew1 HB.out)
 clear HO251
 clear BK246
 clear BK252
 clear HB
 have HO251 := n0_
 have BK246 := n1_
 have BK252 := n2_
 have HB := n3_
 clear n0_ n1_ n2_ n3_
 refine start_ (n := 10) (S := fun w' => w'.cell? ⟨gb252,0,none⟩ = some (.int .u64 t247) ∧ w'.cell? ⟨gb252,1,none⟩ = some (.int .i64 t248) ∧ w'.cell? ⟨gb252,2,none⟩ = some (.slice Ao15 t249.length co15)) (ds := []) (bz 10 0) (by kernel_rfl) rfl rfl ⟨(blk_cell BK252.out 0).trans rfl,(blk_cell BK252.out 1).trans rfl,(blk_cell BK252.out 2).trans rfl⟩ (fun hHeld => ?_);refine with_tabW tapeshift_Sharing.tab2 tapeshift_Sharing.bits2 (fun HT_ HW_ => ?_)
 generalize w16.drew = w17 at HO251 BK246 BK252 HB hHeld ⊢
 refine pk 1 17 (bz 10 2) HT_ ?_
 refine pk 2 18 (bz 10 6) HT_ ?_
 refine pk 5 21 (bz 10 38) HT_ ?_
 refine pk 6 22 (bz 10 102) HT_ ?_
 refine tk 0 16 (bz 10 103) HT_ HW_ hHeld ?_
 refine tk 4 20 (bz 10 119) HT_ HW_ hHeld ?_
 refine on 3 19 (bz 10 127) HT_ (fun K hK => ?_)
 refine goes_ Try.func44 (by kernel_rfl) rfl #[.agg #[.int .u64 t247,.int .i64 t248,.slice Ao15 t249.length co15],.int .u64 a2,.slice A3 l3.length c3] (by rfl) rfl rfl (by (try simp only [List.map_toArray,List.map_cons,List.map_nil]);first|done|rfl|(simp only [List.length_drop,List.length_take];rfl)) ?_
 with_reducible refine (tapeshift_mover_by.calls k t247 t248 _ _ t249 a2 _ _ l3 t253 _ ?side1 ?side2 ?side3 ?side4 A7.out).mono ?_
 (case side1 => exact cr HO251)
 (case side2 => exact (Kd.R_reads' HO251.out).2.1)
 (case side3 => exact cb HR3 HB)
 (case side4 => exact HC3.out)
 rintro e w18 ⟨v254,rfl,ho0,hb⟩
 refine ⟨_,rfl,?_⟩
 have n0_ := am (Kd.R_elder' (rr HO251) (Kd.R_base ho0) hb)
 have n1_ := am (Kd.R_lower (Kd.R_new' ho0 (Kd.R_lt (rr HO251))) (below_size (by repeat (first|(with_reducible first|exact HB.out|apply below_alloc|apply pw_below_drewN|apply below_drew1|refine below_set ?_ GE246.out|refine below_set ?_ GE252.out)|exact HB.out))))
 have n2_ := am (kb BK246 hb)
 have n3_ := am (kb BK252 hb)
 have n4_ := am (below_step (by repeat (first|(with_reducible first|exact HB.out|apply below_alloc|apply pw_below_drewN|apply below_drew1|refine below_set ?_ GE246.out|refine below_set ?_ GE252.out)|exact HB.out)) hb)
 clear HO251
 clear BK246
 clear BK252
 clear HB
 have HO251 := n0_
 have HO255 := n1_
 have BK246 := n2_
 have BK252 := n3_
 have HB := n4_
 clear n0_ n1_ n2_ n3_ n4_
 (try clear hb)
 (try clear hb2)
 (try clear hk)
 (try clear hi)
 (try clear ho0)
 refine hK.out _ _ ⟨(blk_cell BK252.out 0).trans rfl,(blk_cell BK252.out 1).trans rfl,(blk_cell BK252.out 2).trans rfl⟩ (fun hHeld => ?_)
 clear hK K
 refine nm 19 ?_
 refine on 7 23 (bz 10 255) HT_ (fun K hK => ?_)
 refine goes_ Try.func45 (by kernel_rfl) rfl #[.agg #[.int .u64 t247,.int .i64 t248,.slice Ao15 t249.length co15],.int .u64 a2,.slice A4 l4.length c4] (by rfl) rfl rfl (by (try simp only [List.map_toArray,List.map_cons,List.map_nil]);first|done|rfl|(simp only [List.length_drop,List.length_take];rfl)) ?_
 with_reducible refine (tapeshift_mover_rest.calls t247 t248 _ _ t249 a2 _ _ l4 t256 _ ?side1 ?side2 ?side3 ?side4 A8.out).mono ?_
 (case side1 => exact cr HO251)
 (case side2 => exact (Kd.R_reads' HO251.out).2.1)
 (case side3 => exact cb HR4 HB)
 (case side4 => exact HC4.out)
 rintro e w19 ⟨v257,rfl,ho0,hb⟩
 refine ⟨_,rfl,?_⟩
 have n0_ := am (Kd.R_elder' (rr HO251) (Kd.R_base ho0) hb)
 have n1_ := am (Kd.R_elder' (rr HO255) (Kd.R_base ho0) hb)
 have n2_ := am (Kd.R_lower (Kd.R_new' (Kd.R_new' ho0 (Kd.R_lt (rr HO251))) (Kd.R_lt (rr HO255))) (below_size (by repeat (first|(with_reducible first|exact HB.out|apply below_alloc|apply pw_below_drewN|apply below_drew1|refine below_set ?_ GE246.out|refine below_set ?_ GE252.out)|exact HB.out))))
 have n3_ := am (kb BK246 hb)
 have n4_ := am (kb BK252 hb)
 have n5_ := am (below_step (by repeat (first|(with_reducible first|exact HB.out|apply below_alloc|apply pw_below_drewN|apply below_drew1|refine below_set ?_ GE246.out|refine below_set ?_ GE252.out)|exact HB.out)) hb)
 clear HO251
 clear HO255
 clear BK246
 clear BK252
 clear HB
 have HO251 := n0_
 have HO255 := n1_
 have HO258 := n2_
 have BK246 := n3_
 have BK252 := n4_
 have HB := n5_
 clear n0_ n1_ n2_ n3_ n4_ n5_
 (try clear hb)
 (try clear hb2)
 (try clear hk)
 (try clear hi)
 (try clear ho0)
 refine hK.out _ _ ⟨(blk_cell BK252.out 0).trans rfl,(blk_cell BK252.out 1).trans rfl,(blk_cell BK252.out 2).trans rfl⟩ (fun hHeld => ?_)
 clear hK K
 refine nm 23 ?_
 refine pk 8 10 (bz 10 511) HT_ ?_
 refine pk 9 11 (bz 10 1023) HT_ ?_
 refine done_ (done_of HT_.out (by kernel_rfl)) ?_
 try go_wp2
 go_ret2
 exact ⟨_,_,by first|rfl|(simp [errW_none,errW_some] <;> rfl)|(simp [*,errW_none,errW_some] <;> rfl),by (with_reducible repeat (first|apply Kd.R_alloc|apply Kd.R_drewN|apply Kd.R_drew));exact Kd.R_mono HO255.out (fun _ hk => hk.2),by (with_reducible repeat (first|apply Kd.R_alloc|apply Kd.R_drewN|apply Kd.R_drew));exact Kd.R_mono HO258.out (fun _ hk => hk.2),by repeat (first|(with_reducible first|exact HB.out|apply below_alloc|apply pw_below_drewN|apply below_drew1|refine below_set ?_ GE246.out|refine below_set ?_ GE252.out)|exact HB.out)⟩
def privitylaw43_awake.f (k : Nat)  : Option (Bool) := (privitylaw43_four.f).bind fun bt262 => ((tapeshift_Sharing.f k bt262.1 bt262.2.1 bt262.2.2 (([3] : List Int)) 2 (([5,2] : List Int)) (([3] : List Int))).bind fun bt274 => ((privitylaw43_four.f).bind fun bt280 => ((tapeshift_Sharing.f k bt280.1 bt280.2.1 bt280.2.2 (([3] : List Int)) 29 (([7,22] : List Int)) (([17] : List Int))).bind fun bt292 => ((privityref14_Words.f k bt274.1 (([7,22] : List Int))).bind fun t301 => (if t301 = true then ((privityref14_Words.f k bt274.2 (([17] : List Int))).bind fun t305 => (if t305 = true then ((privityref14_Words.f k bt292.1 (([5,2] : List Int))).bind fun t309 => (if t309 = true then ((privityref14_Words.f k bt292.2 (([3] : List Int))).bind fun t313 => (some t313)) else (some false))) else (some false))) else (some false))))))
theorem privitylaw43_awake.mono : ∀ k,LeO (privitylaw43_awake.f k ) (privitylaw43_awake.f (k + 1) ) := by
 intro  k
 unfold privitylaw43_awake.f
 repeat' first
   | (with_reducible exact privityref14_Words.mono _ _ _)
   | (with_reducible exact tapeshift_Sharing.mono _ _ _ _ _ _ _ _)
   | (with_reducible exact LeO.refl _)
   | (with_reducible exact LeO.none _)
   | (with_reducible refine LeO.ite ?_ ?_)
   | (with_reducible refine LeO.bind ?_ (fun _ => ?_))
   | exact privityref14_Words.mono _ _ _
   | exact tapeshift_Sharing.mono _ _ _ _ _ _ _ _
   | exact LeO.none _
   | refine LeO.ite ?_ ?_
   | refine LeO.bind ?_ (fun _ => ?_)
theorem privitylaw43_awake.more (k : Nat) : ∀ d,LeO (privitylaw43_awake.f k) (privitylaw43_awake.f (k + d))
 | 0 => fun r h => h
 | d + 1 => fun r h => privitylaw43_awake.mono (k + d) r (privitylaw43_awake.more k d r h)
theorem privitylaw43_awake.is : privitylaw43_awake.f 60 = some true := by kernel_rfl
theorem privitylaw43_awake.one (k : Nat) (r : Bool) (h : privitylaw43_awake.f k = some r) : r = true := by
 have h1 := privitylaw43_awake.more k 60 r h
 have h2 := privitylaw43_awake.more 60 k true privitylaw43_awake.is
 rw [Nat.add_comm,h1] at h2
 exact Option.some.inj h2
set_option maxHeartbeats 8000000 in
set_option maxRecDepth 100000 in
theorem privitylaw43_awake.calls (k : Nat)  (r : Bool) (w : World) (h : privitylaw43_awake.f k  = some r) :
  Calls Try.prog 13 #[] w fun e w' => e = .returned (.bool r) ∧ Below w.heap.size w w' := by
 have HR1 := am (privitylaw43_awake.one k r h)
 have HB := am (Below.refl w.heap.size w)
 have H : ((privitylaw43_four.f).bind fun bt262 => ((tapeshift_Sharing.f k bt262.1 bt262.2.1 bt262.2.2 (([3] : List Int)) 2 (([5,2] : List Int)) (([3] : List Int))).bind fun bt274 => ((privitylaw43_four.f).bind fun bt280 => ((tapeshift_Sharing.f k bt280.1 bt280.2.1 bt280.2.2 (([3] : List Int)) 29 (([7,22] : List Int)) (([17] : List Int))).bind fun bt292 => ((privityref14_Words.f k bt274.1 (([7,22] : List Int))).bind fun t301 => (if t301 = true then ((privityref14_Words.f k bt274.2 (([17] : List Int))).bind fun t305 => (if t305 = true then ((privityref14_Words.f k bt292.1 (([5,2] : List Int))).bind fun t309 => (if t309 = true then ((privityref14_Words.f k bt292.2 (([3] : List Int))).bind fun t313 => (some t313)) else (some false))) else (some false))) else (some false))))))) = some r := h
 clear h
 replace H := Option.bind_eq_some_iff.mp H
 obtain ⟨⟨t262,t263,t264⟩,A10,H⟩ := H
 try dsimp only at H
 have A1 := am A10
 clear A10
 obtain ⟨y265,hy265⟩ : ∃ y_ : List Int,y_ = (([3] : List Int)) := ⟨_,rfl⟩
 replace H : ((tapeshift_Sharing.f k t262 t263 t264 y265 2 (([5,2] : List Int)) (([3] : List Int))).bind fun bt274 => ((privitylaw43_four.f).bind fun bt280 => ((tapeshift_Sharing.f k bt280.1 bt280.2.1 bt280.2.2 (([3] : List Int)) 29 (([7,22] : List Int)) (([17] : List Int))).bind fun bt292 => ((privityref14_Words.f k bt274.1 (([7,22] : List Int))).bind fun t301 => (if t301 = true then ((privityref14_Words.f k bt274.2 (([17] : List Int))).bind fun t305 => (if t305 = true then ((privityref14_Words.f k bt292.1 (([5,2] : List Int))).bind fun t309 => (if t309 = true then ((privityref14_Words.f k bt292.2 (([3] : List Int))).bind fun t313 => (some t313)) else (some false))) else (some false))) else (some false)))))) = some r := by first|(rw [hy265];with_reducible exact H)|(have H2_ := (Option.bind_some _ _).symm.trans H;rw [hy265];with_reducible exact H2_)|(have H2_ := (Option.bind_some _ _).symm.trans H;with_reducible exact H2_)|with_reducible exact H|(rw [hy265];exact H)|exact H
 have Ny265 := am hy265
 clear hy265
 obtain ⟨y268,hy268⟩ : ∃ y_ : List Int,y_ = (([5,2] : List Int)) := ⟨_,rfl⟩
 replace H : ((tapeshift_Sharing.f k t262 t263 t264 y265 2 y268 (([3] : List Int))).bind fun bt274 => ((privitylaw43_four.f).bind fun bt280 => ((tapeshift_Sharing.f k bt280.1 bt280.2.1 bt280.2.2 (([3] : List Int)) 29 (([7,22] : List Int)) (([17] : List Int))).bind fun bt292 => ((privityref14_Words.f k bt274.1 (([7,22] : List Int))).bind fun t301 => (if t301 = true then ((privityref14_Words.f k bt274.2 (([17] : List Int))).bind fun t305 => (if t305 = true then ((privityref14_Words.f k bt292.1 (([5,2] : List Int))).bind fun t309 => (if t309 = true then ((privityref14_Words.f k bt292.2 (([3] : List Int))).bind fun t313 => (some t313)) else (some false))) else (some false))) else (some false)))))) = some r := by first|(rw [hy268];with_reducible exact H)|(have H2_ := (Option.bind_some _ _).symm.trans H;rw [hy268];with_reducible exact H2_)|(have H2_ := (Option.bind_some _ _).symm.trans H;with_reducible exact H2_)|with_reducible exact H|(rw [hy268];exact H)|exact H
 have Ny268 := am hy268
 clear hy268
 obtain ⟨y271,hy271⟩ : ∃ y_ : List Int,y_ = (([3] : List Int)) := ⟨_,rfl⟩
 replace H : ((tapeshift_Sharing.f k t262 t263 t264 y265 2 y268 y271).bind fun bt274 => ((privitylaw43_four.f).bind fun bt280 => ((tapeshift_Sharing.f k bt280.1 bt280.2.1 bt280.2.2 (([3] : List Int)) 29 (([7,22] : List Int)) (([17] : List Int))).bind fun bt292 => ((privityref14_Words.f k bt274.1 (([7,22] : List Int))).bind fun t301 => (if t301 = true then ((privityref14_Words.f k bt274.2 (([17] : List Int))).bind fun t305 => (if t305 = true then ((privityref14_Words.f k bt292.1 (([5,2] : List Int))).bind fun t309 => (if t309 = true then ((privityref14_Words.f k bt292.2 (([3] : List Int))).bind fun t313 => (some t313)) else (some false))) else (some false))) else (some false)))))) = some r := by first|(rw [hy271];with_reducible exact H)|(have H2_ := (Option.bind_some _ _).symm.trans H;rw [hy271];with_reducible exact H2_)|(have H2_ := (Option.bind_some _ _).symm.trans H;with_reducible exact H2_)|with_reducible exact H|(rw [hy271];exact H)|exact H
 have Ny271 := am hy271
 clear hy271
 replace H := Option.bind_eq_some_iff.mp H
 obtain ⟨⟨t274,t277⟩,A20,H⟩ := H
 try dsimp only at H
 have A2 := am A20
 clear A20
 replace H := Option.bind_eq_some_iff.mp H
 obtain ⟨⟨t280,t281,t282⟩,A30,H⟩ := H
 try dsimp only at H
 have A3 := am A30
 clear A30
 obtain ⟨y283,hy283⟩ : ∃ y_ : List Int,y_ = (([3] : List Int)) := ⟨_,rfl⟩
 replace H : ((tapeshift_Sharing.f k t280 t281 t282 y283 29 (([7,22] : List Int)) (([17] : List Int))).bind fun bt292 => ((privityref14_Words.f k t274 (([7,22] : List Int))).bind fun t301 => (if t301 = true then ((privityref14_Words.f k t277 (([17] : List Int))).bind fun t305 => (if t305 = true then ((privityref14_Words.f k bt292.1 (([5,2] : List Int))).bind fun t309 => (if t309 = true then ((privityref14_Words.f k bt292.2 (([3] : List Int))).bind fun t313 => (some t313)) else (some false))) else (some false))) else (some false)))) = some r := by first|(rw [hy283];with_reducible exact H)|(have H2_ := (Option.bind_some _ _).symm.trans H;rw [hy283];with_reducible exact H2_)|(have H2_ := (Option.bind_some _ _).symm.trans H;with_reducible exact H2_)|with_reducible exact H|(rw [hy283];exact H)|exact H
 have Ny283 := am hy283
 clear hy283
 obtain ⟨y286,hy286⟩ : ∃ y_ : List Int,y_ = (([7,22] : List Int)) := ⟨_,rfl⟩
 replace H : ((tapeshift_Sharing.f k t280 t281 t282 y283 29 y286 (([17] : List Int))).bind fun bt292 => ((privityref14_Words.f k t274 (([7,22] : List Int))).bind fun t301 => (if t301 = true then ((privityref14_Words.f k t277 (([17] : List Int))).bind fun t305 => (if t305 = true then ((privityref14_Words.f k bt292.1 (([5,2] : List Int))).bind fun t309 => (if t309 = true then ((privityref14_Words.f k bt292.2 (([3] : List Int))).bind fun t313 => (some t313)) else (some false))) else (some false))) else (some false)))) = some r := by first|(rw [hy286];with_reducible exact H)|(have H2_ := (Option.bind_some _ _).symm.trans H;rw [hy286];with_reducible exact H2_)|(have H2_ := (Option.bind_some _ _).symm.trans H;with_reducible exact H2_)|with_reducible exact H|(rw [hy286];exact H)|exact H
 have Ny286 := am hy286
 clear hy286
 obtain ⟨y289,hy289⟩ : ∃ y_ : List Int,y_ = (([17] : List Int)) := ⟨_,rfl⟩
 replace H : ((tapeshift_Sharing.f k t280 t281 t282 y283 29 y286 y289).bind fun bt292 => ((privityref14_Words.f k t274 (([7,22] : List Int))).bind fun t301 => (if t301 = true then ((privityref14_Words.f k t277 (([17] : List Int))).bind fun t305 => (if t305 = true then ((privityref14_Words.f k bt292.1 (([5,2] : List Int))).bind fun t309 => (if t309 = true then ((privityref14_Words.f k bt292.2 (([3] : List Int))).bind fun t313 => (some t313)) else (some false))) else (some false))) else (some false)))) = some r := by first|(rw [hy289];with_reducible exact H)|(have H2_ := (Option.bind_some _ _).symm.trans H;rw [hy289];with_reducible exact H2_)|(have H2_ := (Option.bind_some _ _).symm.trans H;with_reducible exact H2_)|with_reducible exact H|(rw [hy289];exact H)|exact H
 have Ny289 := am hy289
 clear hy289
 replace H := Option.bind_eq_some_iff.mp H
 obtain ⟨⟨t292,t295⟩,A40,H⟩ := H
 try dsimp only at H
 have A4 := am A40
 clear A40
 obtain ⟨y298,hy298⟩ : ∃ y_ : List Int,y_ = (([7,22] : List Int)) := ⟨_,rfl⟩
 replace H : ((privityref14_Words.f k t274 y298).bind fun t301 => (if t301 = true then ((privityref14_Words.f k t277 (([17] : List Int))).bind fun t305 => (if t305 = true then ((privityref14_Words.f k t292 (([5,2] : List Int))).bind fun t309 => (if t309 = true then ((privityref14_Words.f k t295 (([3] : List Int))).bind fun t313 => (some t313)) else (some false))) else (some false))) else (some false))) = some r := by first|(rw [hy298];with_reducible exact H)|(have H2_ := (Option.bind_some _ _).symm.trans H;rw [hy298];with_reducible exact H2_)|(have H2_ := (Option.bind_some _ _).symm.trans H;with_reducible exact H2_)|with_reducible exact H|(rw [hy298];exact H)|exact H
 have Ny298 := am hy298
 clear hy298
 replace H := Option.bind_eq_some_iff.mp H
 obtain ⟨t301,A50,H⟩ := H
 try dsimp only at H
 have A5 := am A50
 clear A50
 by_cases c6 : t301 = true
 ·subst c6
  rw [if_pos rfl] at H
  obtain ⟨y302,hy302⟩ : ∃ y_ : List Int,y_ = (([17] : List Int)) := ⟨_,rfl⟩
  replace H : ((privityref14_Words.f k t277 y302).bind fun t305 => (if t305 = true then ((privityref14_Words.f k t292 (([5,2] : List Int))).bind fun t309 => (if t309 = true then ((privityref14_Words.f k t295 (([3] : List Int))).bind fun t313 => (some t313)) else (some false))) else (some false))) = some r := by first|(rw [hy302];with_reducible exact H)|(have H2_ := (Option.bind_some _ _).symm.trans H;rw [hy302];with_reducible exact H2_)|(have H2_ := (Option.bind_some _ _).symm.trans H;with_reducible exact H2_)|with_reducible exact H|(rw [hy302];exact H)|exact H
  have Ny302 := am hy302
  clear hy302
  replace H := Option.bind_eq_some_iff.mp H
  obtain ⟨t305,A70,H⟩ := H
  try dsimp only at H
  have A7 := am A70
  clear A70
  by_cases c8 : t305 = true
  ·subst c8
   rw [if_pos rfl] at H
   obtain ⟨y306,hy306⟩ : ∃ y_ : List Int,y_ = (([5,2] : List Int)) := ⟨_,rfl⟩
   replace H : ((privityref14_Words.f k t292 y306).bind fun t309 => (if t309 = true then ((privityref14_Words.f k t295 (([3] : List Int))).bind fun t313 => (some t313)) else (some false))) = some r := by first|(rw [hy306];with_reducible exact H)|(have H2_ := (Option.bind_some _ _).symm.trans H;rw [hy306];with_reducible exact H2_)|(have H2_ := (Option.bind_some _ _).symm.trans H;with_reducible exact H2_)|with_reducible exact H|(rw [hy306];exact H)|exact H
   have Ny306 := am hy306
   clear hy306
   replace H := Option.bind_eq_some_iff.mp H
   obtain ⟨t309,A90,H⟩ := H
   try dsimp only at H
   have A9 := am A90
   clear A90
   by_cases c10 : t309 = true
   ·subst c10
    rw [if_pos rfl] at H
    obtain ⟨y310,hy310⟩ : ∃ y_ : List Int,y_ = (([3] : List Int)) := ⟨_,rfl⟩
    replace H : ((privityref14_Words.f k t295 y310).bind fun t313 => (some t313)) = some r := by first|(rw [hy310];with_reducible exact H)|(have H2_ := (Option.bind_some _ _).symm.trans H;rw [hy310];with_reducible exact H2_)|(have H2_ := (Option.bind_some _ _).symm.trans H;with_reducible exact H2_)|with_reducible exact H|(rw [hy310];exact H)|exact H
    have Ny310 := am hy310
    clear hy310
    replace H := Option.bind_eq_some_iff.mp H
    obtain ⟨t313,A110,H⟩ := H
    try dsimp only at H
    have A11 := am A110
    clear A110
    obtain rfl := Option.some.inj H
    go_enter Try.func13,Try.ntmps13
    go_wp2_with (first|((with_reducible refine gate_callee (f := 41) rfl ?_);refine goesL_ (some 6) rfl rfl Try.func41 (by kernel_rfl) rfl #[] rfl (by (try simp only [List.map_toArray,List.map_cons,List.map_nil]);first|done|rfl|(simp only [List.length_drop,List.length_take];rfl)) ?_;(with_reducible refine (privitylaw43_four.calls  t262 t263 t264 _ A1.out).mono ?_);rintro e w12 ⟨rfl,hb⟩;refine ⟨_,rfl,?_⟩;have n0_ := am (below_step (bb HB) hb);clear HB;have HB := n0_;clear n0_;(try clear hb);(try clear hb2);(try clear hk);(try clear hi))|((with_reducible refine gate_dst (N := 7) rfl ?_);(try (refine gate_guard (by rfl) ?_;dsimp only));refine Kd.R_lit (Kd.int .i64) _ 3 ?hg (N := 7) ?hd (xs := ([3] : List Int)) (inner := [.int .i64 3]) (ok := fun _ => True) (okp := fun _ => True) ?hr ?hp (fun _ hk => hk) trivial (Below.refl _ _) (Nat.le_refl _) (by simp) ?_;(case hd => rfl);(case hg => rfl);(case hr => first|(go_simp;done)|(go_simp;rfl));(case hp => exact (Reps.one (show Kd.M (Kd.int .i64) _ _ _ 3 [.int .i64 3] from rfl) (Reps.none _ _)));intro v266 w13 ho14 hb hg_ hnew_;clear hg_ hnew_;(first|rw [← Ny265.out] at ho14|(simp only [Int.reduceToNat] at ho14;rw [← Ny265.out] at ho14));have n0_ := am (Kd.R_lower ho14 (below_size (bb HB)));have n1_ := am (below_step (bb HB) hb);clear HB;have HO267 := n0_;have HB := n1_;clear n0_ n1_;clear hb ho14)|((with_reducible refine gate_dst (N := 8) rfl ?_);(try (refine gate_guard (by rfl) ?_;dsimp only));refine Kd.R_lit (Kd.int .u64) _ 22 ?hg (N := 8) ?hd (xs := ([5,2] : List Int)) (inner := [.int .u64 5,.int .u64 2]) (ok := fun _ => True) (okp := fun _ => True) ?hr ?hp (fun _ hk => hk) trivial (Below.refl _ _) (Nat.le_refl _) (by simp) ?_;(case hd => rfl);(case hg => rfl);(case hr => first|(go_simp;done)|(go_simp;rfl));(case hp => exact (Reps.one (show Kd.M (Kd.int .u64) _ _ _ 5 [.int .u64 5] from rfl) (Reps.one (show Kd.M (Kd.int .u64) _ _ _ 2 [.int .u64 2] from rfl) (Reps.none _ _))));intro v269 w15 ho16 hb hg_ hnew_;clear hg_ hnew_;(first|rw [← Ny268.out] at ho16|(simp only [Int.reduceToNat] at ho16;rw [← Ny268.out] at ho16));have n0_ := am (Kd.R_below (rr HO267) hb);have n1_ := am (Kd.R_lower ho16 (below_size (bb HB)));have n2_ := am (below_step (bb HB) hb);clear HO267 HB;have HO267 := n0_;have HO270 := n1_;have HB := n2_;clear n0_ n1_ n2_;clear hb ho16)|((with_reducible refine gate_dst (N := 9) rfl ?_);(try (refine gate_guard (by rfl) ?_;dsimp only));refine Kd.R_lit (Kd.int .u64) _ 22 ?hg (N := 9) ?hd (xs := ([3] : List Int)) (inner := [.int .u64 3]) (ok := fun _ => True) (okp := fun _ => True) ?hr ?hp (fun _ hk => hk) trivial (Below.refl _ _) (Nat.le_refl _) (by simp) ?_;(case hd => rfl);(case hg => rfl);(case hr => first|(go_simp;done)|(go_simp;rfl));(case hp => exact (Reps.one (show Kd.M (Kd.int .u64) _ _ _ 3 [.int .u64 3] from rfl) (Reps.none _ _)));intro v272 w17 ho18 hb hg_ hnew_;clear hg_ hnew_;(first|rw [← Ny271.out] at ho18|(simp only [Int.reduceToNat] at ho18;rw [← Ny271.out] at ho18));have n0_ := am (Kd.R_below (rr HO267) hb);have n1_ := am (Kd.R_elder' (rr HO270) (Kd.R_base ho18) hb);have n2_ := am (Kd.R_lower (Kd.R_new' ho18 (Kd.R_lt (rr HO270))) (below_size (bb HB)));have n3_ := am (below_step (bb HB) hb);clear HO267 HO270 HB;have HO267 := n0_;have HO270 := n1_;have HO273 := n2_;have HB := n3_;clear n0_ n1_ n2_ n3_;clear hb ho18;obtain ⟨Ao19,co19,eo19⟩ := Kd.R_slice HO267.out;subst eo19;obtain ⟨Ao20,co20,eo20⟩ := Kd.R_slice HO270.out;subst eo20;obtain ⟨Ao21,co21,eo21⟩ := Kd.R_slice HO273.out;subst eo21)|((with_reducible refine gate_callee (f := 15) rfl ?_);refine goesL_ (some 10) rfl rfl Try.func15 (by kernel_rfl) rfl #[.agg #[.int .u64 t262,.int .i64 t263,.int .i64 t264],.slice Ao19 y265.length co19,.int .u64 2,.slice Ao20 y268.length co20,.slice Ao21 y271.length co21] rfl (by (try simp only [List.map_toArray,List.map_cons,List.map_nil]);first|done|rfl|(simp only [List.length_drop,List.length_take];rfl)) ?_;(with_reducible refine (tapeshift_Sharing.calls k t262 t263 t264 _ _ y265 2 _ _ y268 _ _ y271 t274 t277 _ ?side1 ?side2 ?side3 ?side4 ?side5 ?side6 A2.out).mono ?_);(case side1 => exact cr HO267);(case side2 => exact (Kd.R_reads' HO267.out).2.1);(case side3 => exact cr HO270);(case side4 => exact (Kd.R_reads' HO270.out).2.1);(case side5 => exact cr HO273);(case side6 => exact (Kd.R_reads' HO273.out).2.1);rintro e w22 ⟨v275,v278,rfl,ho0,ho1,hb⟩;refine ⟨_,rfl,?_⟩;have n0_ := am (Kd.R_below (rr HO267) hb);have n1_ := am (Kd.R_mono (Kd.R_told (Kd.R_told (Kd.R_old (rr HO270) hb) (Kd.R_base ho0)) (Kd.R_base ho1)) (fun _ h_ => h_.1));have n2_ := am (Kd.R_mono (Kd.R_told (Kd.R_told (Kd.R_old (rr HO273) hb) (Kd.R_base ho0)) (Kd.R_base ho1)) (fun _ h_ => h_.1));have n3_ := am (Kd.R_lower (Kd.R_new' (Kd.R_new' ho0 (Kd.R_lt (rr HO270))) (Kd.R_lt (rr HO273))) (below_size (bb HB)));have n4_ := am (Kd.R_lower (Kd.R_new' (Kd.R_new' ho1 (Kd.R_lt (rr HO270))) (Kd.R_lt (rr HO273))) (below_size (bb HB)));have n5_ := am (below_step (bb HB) hb);clear HO267 HO270 HO273 HB;have HO267 := n0_;have HO270 := n1_;have HO273 := n2_;have HO276 := n3_;have HO279 := n4_;have HB := n5_;clear n0_ n1_ n2_ n3_ n4_ n5_;(try clear hb);(try clear hb2);(try clear hk);(try clear hi);(try clear ho0);(try clear ho1))|((with_reducible refine gate_callee (f := 41) rfl ?_);refine goesL_ (some 14) rfl rfl Try.func41 (by kernel_rfl) rfl #[] rfl (by (try simp only [List.map_toArray,List.map_cons,List.map_nil]);first|done|rfl|(simp only [List.length_drop,List.length_take];rfl)) ?_;(with_reducible refine (privitylaw43_four.calls  t280 t281 t282 _ A3.out).mono ?_);rintro e w23 ⟨rfl,hb⟩;refine ⟨_,rfl,?_⟩;have n0_ := am (Kd.R_below (rr HO267) hb);have n1_ := am (Kd.R_below (rr HO270) hb);have n2_ := am (Kd.R_below (rr HO273) hb);have n3_ := am (Kd.R_below (rr HO276) hb);have n4_ := am (Kd.R_below (rr HO279) hb);have n5_ := am (below_step (bb HB) hb);clear HO267 HO270 HO273 HO276 HO279 HB;have HO267 := n0_;have HO270 := n1_;have HO273 := n2_;have HO276 := n3_;have HO279 := n4_;have HB := n5_;clear n0_ n1_ n2_ n3_ n4_ n5_;(try clear hb);(try clear hb2);(try clear hk);(try clear hi))|((with_reducible refine gate_dst (N := 15) rfl ?_);(try (refine gate_guard (by rfl) ?_;dsimp only));refine Kd.R_lit (Kd.int .i64) _ 3 ?hg (N := 15) ?hd (xs := ([3] : List Int)) (inner := [.int .i64 3]) (ok := fun _ => True) (okp := fun _ => True) ?hr ?hp (fun _ hk => hk) trivial (Below.refl _ _) (Nat.le_refl _) (by simp) ?_;(case hd => rfl);(case hg => rfl);(case hr => first|(go_simp;done)|(go_simp;rfl));(case hp => exact (Reps.one (show Kd.M (Kd.int .i64) _ _ _ 3 [.int .i64 3] from rfl) (Reps.none _ _)));intro v284 w24 ho25 hb hg_ hnew_;clear hg_ hnew_;(first|rw [← Ny283.out] at ho25|(simp only [Int.reduceToNat] at ho25;rw [← Ny283.out] at ho25));have n0_ := am (Kd.R_elder' (rr HO267) (Kd.R_base ho25) hb);have n1_ := am (Kd.R_below (rr HO270) hb);have n2_ := am (Kd.R_below (rr HO273) hb);have n3_ := am (Kd.R_below (rr HO276) hb);have n4_ := am (Kd.R_below (rr HO279) hb);have n5_ := am (Kd.R_lower (Kd.R_new' ho25 (Kd.R_lt (rr HO267))) (below_size (bb HB)));have n6_ := am (below_step (bb HB) hb);clear HO267 HO270 HO273 HO276 HO279 HB;have HO267 := n0_;have HO270 := n1_;have HO273 := n2_;have HO276 := n3_;have HO279 := n4_;have HO285 := n5_;have HB := n6_;clear n0_ n1_ n2_ n3_ n4_ n5_ n6_;clear hb ho25)|((with_reducible refine gate_dst (N := 16) rfl ?_);(try (refine gate_guard (by rfl) ?_;dsimp only));refine Kd.R_lit (Kd.int .u64) _ 22 ?hg (N := 16) ?hd (xs := ([7,22] : List Int)) (inner := [.int .u64 7,.int .u64 22]) (ok := fun _ => True) (okp := fun _ => True) ?hr ?hp (fun _ hk => hk) trivial (Below.refl _ _) (Nat.le_refl _) (by simp) ?_;(case hd => rfl);(case hg => rfl);(case hr => first|(go_simp;done)|(go_simp;rfl));(case hp => exact (Reps.one (show Kd.M (Kd.int .u64) _ _ _ 7 [.int .u64 7] from rfl) (Reps.one (show Kd.M (Kd.int .u64) _ _ _ 22 [.int .u64 22] from rfl) (Reps.none _ _))));intro v287 w26 ho27 hb hg_ hnew_;clear hg_ hnew_;(first|rw [← Ny286.out] at ho27|(simp only [Int.reduceToNat] at ho27;rw [← Ny286.out] at ho27));have n0_ := am (Kd.R_below (rr HO267) hb);have n1_ := am (Kd.R_elder' (rr HO270) (Kd.R_base ho27) hb);have n2_ := am (Kd.R_elder' (rr HO273) (Kd.R_base ho27) hb);have n3_ := am (Kd.R_elder' (rr HO276) (Kd.R_base ho27) hb);have n4_ := am (Kd.R_elder' (rr HO279) (Kd.R_base ho27) hb);have n5_ := am (Kd.R_below (rr HO285) hb);have n6_ := am (Kd.R_lower (Kd.R_new' (Kd.R_new' (Kd.R_new' (Kd.R_new' ho27 (Kd.R_lt (rr HO270))) (Kd.R_lt (rr HO273))) (Kd.R_lt (rr HO276))) (Kd.R_lt (rr HO279))) (below_size (bb HB)));have n7_ := am (below_step (bb HB) hb);clear HO267 HO270 HO273 HO276 HO279 HO285 HB;have HO267 := n0_;have HO270 := n1_;have HO273 := n2_;have HO276 := n3_;have HO279 := n4_;have HO285 := n5_;have HO288 := n6_;have HB := n7_;clear n0_ n1_ n2_ n3_ n4_ n5_ n6_ n7_;clear hb ho27)|((with_reducible refine gate_dst (N := 17) rfl ?_);(try (refine gate_guard (by rfl) ?_;dsimp only));refine Kd.R_lit (Kd.int .u64) _ 22 ?hg (N := 17) ?hd (xs := ([17] : List Int)) (inner := [.int .u64 17]) (ok := fun _ => True) (okp := fun _ => True) ?hr ?hp (fun _ hk => hk) trivial (Below.refl _ _) (Nat.le_refl _) (by simp) ?_;(case hd => rfl);(case hg => rfl);(case hr => first|(go_simp;done)|(go_simp;rfl));(case hp => exact (Reps.one (show Kd.M (Kd.int .u64) _ _ _ 17 [.int .u64 17] from rfl) (Reps.none _ _)));intro v290 w28 ho29 hb hg_ hnew_;clear hg_ hnew_;(first|rw [← Ny289.out] at ho29|(simp only [Int.reduceToNat] at ho29;rw [← Ny289.out] at ho29));have n0_ := am (Kd.R_below (rr HO267) hb);have n1_ := am (Kd.R_elder' (rr HO270) (Kd.R_base ho29) hb);have n2_ := am (Kd.R_elder' (rr HO273) (Kd.R_base ho29) hb);have n3_ := am (Kd.R_elder' (rr HO276) (Kd.R_base ho29) hb);have n4_ := am (Kd.R_elder' (rr HO279) (Kd.R_base ho29) hb);have n5_ := am (Kd.R_below (rr HO285) hb);have n6_ := am (Kd.R_elder' (rr HO288) (Kd.R_base ho29) hb);have n7_ := am (Kd.R_lower (Kd.R_new' (Kd.R_new' (Kd.R_new' (Kd.R_new' (Kd.R_new' ho29 (Kd.R_lt (rr HO270))) (Kd.R_lt (rr HO273))) (Kd.R_lt (rr HO276))) (Kd.R_lt (rr HO279))) (Kd.R_lt (rr HO288))) (below_size (bb HB)));have n8_ := am (below_step (bb HB) hb);clear HO267 HO270 HO273 HO276 HO279 HO285 HO288 HB;have HO267 := n0_;have HO270 := n1_;have HO273 := n2_;have HO276 := n3_;have HO279 := n4_;have HO285 := n5_;have HO288 := n6_;have HO291 := n7_;have HB := n8_;clear n0_ n1_ n2_ n3_ n4_ n5_ n6_ n7_ n8_;clear hb ho29;obtain ⟨Ao30,co30,eo30⟩ := Kd.R_slice HO285.out;subst eo30;obtain ⟨Ao31,co31,eo31⟩ := Kd.R_slice HO288.out;subst eo31;obtain ⟨Ao32,co32,eo32⟩ := Kd.R_slice HO291.out;subst eo32)|((with_reducible refine gate_callee (f := 15) rfl ?_);refine goesL_ (some 18) rfl rfl Try.func15 (by kernel_rfl) rfl #[.agg #[.int .u64 t280,.int .i64 t281,.int .i64 t282],.slice Ao30 y283.length co30,.int .u64 29,.slice Ao31 y286.length co31,.slice Ao32 y289.length co32] rfl (by (try simp only [List.map_toArray,List.map_cons,List.map_nil]);first|done|rfl|(simp only [List.length_drop,List.length_take];rfl)) ?_;(with_reducible refine (tapeshift_Sharing.calls k t280 t281 t282 _ _ y283 29 _ _ y286 _ _ y289 t292 t295 _ ?side1 ?side2 ?side3 ?side4 ?side5 ?side6 A4.out).mono ?_);(case side1 => exact cr HO285);(case side2 => exact (Kd.R_reads' HO285.out).2.1);(case side3 => exact cr HO288);(case side4 => exact (Kd.R_reads' HO288.out).2.1);(case side5 => exact cr HO291);(case side6 => exact (Kd.R_reads' HO291.out).2.1);rintro e w33 ⟨v293,v296,rfl,ho0,ho1,hb⟩;refine ⟨_,rfl,?_⟩;have n0_ := am (Kd.R_below (rr HO267) hb);have n1_ := am (Kd.R_mono (Kd.R_told (Kd.R_told (Kd.R_old (rr HO270) hb) (Kd.R_base ho0)) (Kd.R_base ho1)) (fun _ h_ => h_.1));have n2_ := am (Kd.R_mono (Kd.R_told (Kd.R_told (Kd.R_old (rr HO273) hb) (Kd.R_base ho0)) (Kd.R_base ho1)) (fun _ h_ => h_.1));have n3_ := am (Kd.R_mono (Kd.R_told (Kd.R_told (Kd.R_old (rr HO276) hb) (Kd.R_base ho0)) (Kd.R_base ho1)) (fun _ h_ => h_.1));have n4_ := am (Kd.R_mono (Kd.R_told (Kd.R_told (Kd.R_old (rr HO279) hb) (Kd.R_base ho0)) (Kd.R_base ho1)) (fun _ h_ => h_.1));have n5_ := am (Kd.R_below (rr HO285) hb);have n6_ := am (Kd.R_mono (Kd.R_told (Kd.R_told (Kd.R_old (rr HO288) hb) (Kd.R_base ho0)) (Kd.R_base ho1)) (fun _ h_ => h_.1));have n7_ := am (Kd.R_mono (Kd.R_told (Kd.R_told (Kd.R_old (rr HO291) hb) (Kd.R_base ho0)) (Kd.R_base ho1)) (fun _ h_ => h_.1));have n8_ := am (Kd.R_lower (Kd.R_new' (Kd.R_new' (Kd.R_new' (Kd.R_new' (Kd.R_new' (Kd.R_new' ho0 (Kd.R_lt (rr HO270))) (Kd.R_lt (rr HO273))) (Kd.R_lt (rr HO276))) (Kd.R_lt (rr HO279))) (Kd.R_lt (rr HO288))) (Kd.R_lt (rr HO291))) (below_size (bb HB)));have n9_ := am (Kd.R_lower (Kd.R_new' (Kd.R_new' (Kd.R_new' (Kd.R_new' (Kd.R_new' (Kd.R_new' ho1 (Kd.R_lt (rr HO270))) (Kd.R_lt (rr HO273))) (Kd.R_lt (rr HO276))) (Kd.R_lt (rr HO279))) (Kd.R_lt (rr HO288))) (Kd.R_lt (rr HO291))) (below_size (bb HB)));have n10_ := am (below_step (bb HB) hb);clear HO267 HO270 HO273 HO276 HO279 HO285 HO288 HO291 HB;have HO267 := n0_;have HO270 := n1_;have HO273 := n2_;have HO276 := n3_;have HO279 := n4_;have HO285 := n5_;have HO288 := n6_;have HO291 := n7_;have HO294 := n8_;have HO297 := n9_;have HB := n10_;clear n0_ n1_ n2_ n3_ n4_ n5_ n6_ n7_ n8_ n9_ n10_;(try clear hb);(try clear hb2);(try clear hk);(try clear hi);(try clear ho0);(try clear ho1))|((with_reducible refine gate_dst (N := 22) rfl ?_);(try (refine gate_guard (by rfl) ?_;dsimp only));refine Kd.R_lit (Kd.int .u64) _ 22 ?hg (N := 22) ?hd (xs := ([7,22] : List Int)) (inner := [.int .u64 7,.int .u64 22]) (ok := fun _ => True) (okp := fun _ => True) ?hr ?hp (fun _ hk => hk) trivial (Below.refl _ _) (Nat.le_refl _) (by simp) ?_;(case hd => rfl);(case hg => rfl);(case hr => first|(go_simp;done)|(go_simp;rfl));(case hp => exact (Reps.one (show Kd.M (Kd.int .u64) _ _ _ 7 [.int .u64 7] from rfl) (Reps.one (show Kd.M (Kd.int .u64) _ _ _ 22 [.int .u64 22] from rfl) (Reps.none _ _))));intro v299 w34 ho35 hb hg_ hnew_;clear hg_ hnew_;(first|rw [← Ny298.out] at ho35|(simp only [Int.reduceToNat] at ho35;rw [← Ny298.out] at ho35));have n0_ := am (Kd.R_below (rr HO267) hb);have n1_ := am (Kd.R_elder' (rr HO270) (Kd.R_base ho35) hb);have n2_ := am (Kd.R_elder' (rr HO273) (Kd.R_base ho35) hb);have n3_ := am (Kd.R_elder' (rr HO276) (Kd.R_base ho35) hb);have n4_ := am (Kd.R_elder' (rr HO279) (Kd.R_base ho35) hb);have n5_ := am (Kd.R_below (rr HO285) hb);have n6_ := am (Kd.R_elder' (rr HO288) (Kd.R_base ho35) hb);have n7_ := am (Kd.R_elder' (rr HO291) (Kd.R_base ho35) hb);have n8_ := am (Kd.R_elder' (rr HO294) (Kd.R_base ho35) hb);have n9_ := am (Kd.R_elder' (rr HO297) (Kd.R_base ho35) hb);have n10_ := am (Kd.R_lower (Kd.R_new' (Kd.R_new' (Kd.R_new' (Kd.R_new' (Kd.R_new' (Kd.R_new' (Kd.R_new' (Kd.R_new' ho35 (Kd.R_lt (rr HO270))) (Kd.R_lt (rr HO273))) (Kd.R_lt (rr HO276))) (Kd.R_lt (rr HO279))) (Kd.R_lt (rr HO288))) (Kd.R_lt (rr HO291))) (Kd.R_lt (rr HO294))) (Kd.R_lt (rr HO297))) (below_size (bb HB)));have n11_ := am (below_step (bb HB) hb);clear HO267 HO270 HO273 HO276 HO279 HO285 HO288 HO291 HO294 HO297 HB;have HO267 := n0_;have HO270 := n1_;have HO273 := n2_;have HO276 := n3_;have HO279 := n4_;have HO285 := n5_;have HO288 := n6_;have HO291 := n7_;have HO294 := n8_;have HO297 := n9_;have HO300 := n10_;have HB := n11_;clear n0_ n1_ n2_ n3_ n4_ n5_ n6_ n7_ n8_ n9_ n10_ n11_;clear hb ho35;obtain ⟨Ao36,co36,eo36⟩ := Kd.R_slice HO276.out;subst eo36;obtain ⟨Ao37,co37,eo37⟩ := Kd.R_slice HO300.out;subst eo37)|((with_reducible refine gate_callee (f := 18) rfl ?_);refine goesL_ (some 23) rfl rfl Try.func18 (by kernel_rfl) rfl #[.slice Ao36 t274.length co36,.slice Ao37 y298.length co37] rfl (by (try simp only [List.map_toArray,List.map_cons,List.map_nil]);first|done|rfl|(simp only [List.length_drop,List.length_take];rfl)) ?_;(with_reducible refine (privityref14_Words.calls k _ _ t274 _ _ y298 true _ ?side1 ?side2 ?side3 ?side4 A5.out).mono ?_);(case side1 => exact cr HO276);(case side2 => exact (Kd.R_reads' HO276.out).2.1);(case side3 => exact cr HO300);(case side4 => exact (Kd.R_reads' HO300.out).2.1);rintro e w' ⟨rfl,⟨nd,rfl⟩⟩;refine ⟨_,rfl,?_⟩)|((with_reducible refine gate_dst (N := 26) rfl ?_);(try (refine gate_guard (by rfl) ?_;dsimp only));refine Kd.R_lit (Kd.int .u64) _ 22 ?hg (N := 26) ?hd (xs := ([17] : List Int)) (inner := [.int .u64 17]) (ok := fun _ => True) (okp := fun _ => True) ?hr ?hp (fun _ hk => hk) trivial (Below.refl _ _) (Nat.le_refl _) (by simp) ?_;(case hd => rfl);(case hg => rfl);(case hr => first|(go_simp;done)|(go_simp;rfl));(case hp => exact (Reps.one (show Kd.M (Kd.int .u64) _ _ _ 17 [.int .u64 17] from rfl) (Reps.none _ _)));intro v303 w38 ho39 hb hg_ hnew_;clear hg_ hnew_;(first|rw [← Ny302.out] at ho39|(simp only [Int.reduceToNat] at ho39;rw [← Ny302.out] at ho39));have n0_ := am (Kd.R_below (rr HO267) hb);have n1_ := am (Kd.R_elder' (rr HO270) (Kd.R_base ho39) hb);have n2_ := am (Kd.R_elder' (rr HO273) (Kd.R_base ho39) hb);have n3_ := am (Kd.R_elder' (rr HO276) (Kd.R_base ho39) hb);have n4_ := am (Kd.R_elder' (rr HO279) (Kd.R_base ho39) hb);have n5_ := am (Kd.R_below (rr HO285) hb);have n6_ := am (Kd.R_elder' (rr HO288) (Kd.R_base ho39) hb);have n7_ := am (Kd.R_elder' (rr HO291) (Kd.R_base ho39) hb);have n8_ := am (Kd.R_elder' (rr HO294) (Kd.R_base ho39) hb);have n9_ := am (Kd.R_elder' (rr HO297) (Kd.R_base ho39) hb);have n10_ := am (Kd.R_elder' (rr HO300) (Kd.R_base ho39) hb);have n11_ := am (Kd.R_lower (Kd.R_new' (Kd.R_new' (Kd.R_new' (Kd.R_new' (Kd.R_new' (Kd.R_new' (Kd.R_new' (Kd.R_new' (Kd.R_new' ho39 (Kd.R_lt (rr HO270))) (Kd.R_lt (rr HO273))) (Kd.R_lt (rr HO276))) (Kd.R_lt (rr HO279))) (Kd.R_lt (rr HO288))) (Kd.R_lt (rr HO291))) (Kd.R_lt (rr HO294))) (Kd.R_lt (rr HO297))) (Kd.R_lt (rr HO300))) (below_size (bb HB)));have n12_ := am (below_step (bb HB) hb);clear HO267 HO270 HO273 HO276 HO279 HO285 HO288 HO291 HO294 HO297 HO300 HB;have HO267 := n0_;have HO270 := n1_;have HO273 := n2_;have HO276 := n3_;have HO279 := n4_;have HO285 := n5_;have HO288 := n6_;have HO291 := n7_;have HO294 := n8_;have HO297 := n9_;have HO300 := n10_;have HO304 := n11_;have HB := n12_;clear n0_ n1_ n2_ n3_ n4_ n5_ n6_ n7_ n8_ n9_ n10_ n11_ n12_;clear hb ho39;obtain ⟨Ao40,co40,eo40⟩ := Kd.R_slice HO279.out;subst eo40;obtain ⟨Ao41,co41,eo41⟩ := Kd.R_slice HO304.out;subst eo41)|(go_at_call 18;(with_reducible refine (privityref14_Words.calls k _ _ t277 _ _ y302 true _ ?side1 ?side2 ?side3 ?side4 A7.out).mono ?_);(case side1 => exact cr HO279);(case side2 => exact (Kd.R_reads' HO279.out).2.1);(case side3 => exact cr HO304);(case side4 => exact (Kd.R_reads' HO304.out).2.1);rintro e w' ⟨rfl,⟨nd,rfl⟩⟩)|((with_reducible refine gate_dst (N := 31) rfl ?_);(try (refine gate_guard (by rfl) ?_;dsimp only));refine Kd.R_lit (Kd.int .u64) _ 22 ?hg (N := 31) ?hd (xs := ([5,2] : List Int)) (inner := [.int .u64 5,.int .u64 2]) (ok := fun _ => True) (okp := fun _ => True) ?hr ?hp (fun _ hk => hk) trivial (Below.refl _ _) (Nat.le_refl _) (by simp) ?_;(case hd => rfl);(case hg => rfl);(case hr => first|(go_simp;done)|(go_simp;rfl));(case hp => exact (Reps.one (show Kd.M (Kd.int .u64) _ _ _ 5 [.int .u64 5] from rfl) (Reps.one (show Kd.M (Kd.int .u64) _ _ _ 2 [.int .u64 2] from rfl) (Reps.none _ _))));intro v307 w42 ho43 hb hg_ hnew_;clear hg_ hnew_;(first|rw [← Ny306.out] at ho43|(simp only [Int.reduceToNat] at ho43;rw [← Ny306.out] at ho43));have n0_ := am (Kd.R_below (rr HO267) hb);have n1_ := am (Kd.R_elder' (rr HO270) (Kd.R_base ho43) hb);have n2_ := am (Kd.R_elder' (rr HO273) (Kd.R_base ho43) hb);have n3_ := am (Kd.R_elder' (rr HO276) (Kd.R_base ho43) hb);have n4_ := am (Kd.R_elder' (rr HO279) (Kd.R_base ho43) hb);have n5_ := am (Kd.R_below (rr HO285) hb);have n6_ := am (Kd.R_elder' (rr HO288) (Kd.R_base ho43) hb);have n7_ := am (Kd.R_elder' (rr HO291) (Kd.R_base ho43) hb);have n8_ := am (Kd.R_elder' (rr HO294) (Kd.R_base ho43) hb);have n9_ := am (Kd.R_elder' (rr HO297) (Kd.R_base ho43) hb);have n10_ := am (Kd.R_elder' (rr HO300) (Kd.R_base ho43) hb);have n11_ := am (Kd.R_elder' (rr HO304) (Kd.R_base ho43) hb);have n12_ := am (Kd.R_lower (Kd.R_new' (Kd.R_new' (Kd.R_new' (Kd.R_new' (Kd.R_new' (Kd.R_new' (Kd.R_new' (Kd.R_new' (Kd.R_new' (Kd.R_new' ho43 (Kd.R_lt (rr HO270))) (Kd.R_lt (rr HO273))) (Kd.R_lt (rr HO276))) (Kd.R_lt (rr HO279))) (Kd.R_lt (rr HO288))) (Kd.R_lt (rr HO291))) (Kd.R_lt (rr HO294))) (Kd.R_lt (rr HO297))) (Kd.R_lt (rr HO300))) (Kd.R_lt (rr HO304))) (below_size (bb HB)));have n13_ := am (below_step (bb HB) hb);clear HO267 HO270 HO273 HO276 HO279 HO285 HO288 HO291 HO294 HO297 HO300 HO304 HB;have HO267 := n0_;have HO270 := n1_;have HO273 := n2_;have HO276 := n3_;have HO279 := n4_;have HO285 := n5_;have HO288 := n6_;have HO291 := n7_;have HO294 := n8_;have HO297 := n9_;have HO300 := n10_;have HO304 := n11_;have HO308 := n12_;have HB := n13_;clear n0_ n1_ n2_ n3_ n4_ n5_ n6_ n7_ n8_ n9_ n10_ n11_ n12_ n13_;clear hb ho43;obtain ⟨Ao44,co44,eo44⟩ := Kd.R_slice HO294.out;subst eo44;obtain ⟨Ao45,co45,eo45⟩ := Kd.R_slice HO308.out;subst eo45)|(go_at_call 18;(with_reducible refine (privityref14_Words.calls k _ _ t292 _ _ y306 true _ ?side1 ?side2 ?side3 ?side4 A9.out).mono ?_);(case side1 => exact cr HO294);(case side2 => exact (Kd.R_reads' HO294.out).2.1);(case side3 => exact cr HO308);(case side4 => exact (Kd.R_reads' HO308.out).2.1);rintro e w' ⟨rfl,⟨nd,rfl⟩⟩)|((with_reducible refine gate_dst (N := 36) rfl ?_);(try (refine gate_guard (by rfl) ?_;dsimp only));refine Kd.R_lit (Kd.int .u64) _ 22 ?hg (N := 36) ?hd (xs := ([3] : List Int)) (inner := [.int .u64 3]) (ok := fun _ => True) (okp := fun _ => True) ?hr ?hp (fun _ hk => hk) trivial (Below.refl _ _) (Nat.le_refl _) (by simp) ?_;(case hd => rfl);(case hg => rfl);(case hr => first|(go_simp;done)|(go_simp;rfl));(case hp => exact (Reps.one (show Kd.M (Kd.int .u64) _ _ _ 3 [.int .u64 3] from rfl) (Reps.none _ _)));intro v311 w46 ho47 hb hg_ hnew_;clear hg_ hnew_;(first|rw [← Ny310.out] at ho47|(simp only [Int.reduceToNat] at ho47;rw [← Ny310.out] at ho47));have n0_ := am (Kd.R_below (rr HO267) hb);have n1_ := am (Kd.R_elder' (rr HO270) (Kd.R_base ho47) hb);have n2_ := am (Kd.R_elder' (rr HO273) (Kd.R_base ho47) hb);have n3_ := am (Kd.R_elder' (rr HO276) (Kd.R_base ho47) hb);have n4_ := am (Kd.R_elder' (rr HO279) (Kd.R_base ho47) hb);have n5_ := am (Kd.R_below (rr HO285) hb);have n6_ := am (Kd.R_elder' (rr HO288) (Kd.R_base ho47) hb);have n7_ := am (Kd.R_elder' (rr HO291) (Kd.R_base ho47) hb);have n8_ := am (Kd.R_elder' (rr HO294) (Kd.R_base ho47) hb);have n9_ := am (Kd.R_elder' (rr HO297) (Kd.R_base ho47) hb);have n10_ := am (Kd.R_elder' (rr HO300) (Kd.R_base ho47) hb);have n11_ := am (Kd.R_elder' (rr HO304) (Kd.R_base ho47) hb);have n12_ := am (Kd.R_elder' (rr HO308) (Kd.R_base ho47) hb);have n13_ := am (Kd.R_lower (Kd.R_new' (Kd.R_new' (Kd.R_new' (Kd.R_new' (Kd.R_new' (Kd.R_new' (Kd.R_new' (Kd.R_new' (Kd.R_new' (Kd.R_new' (Kd.R_new' ho47 (Kd.R_lt (rr HO270))) (Kd.R_lt (rr HO273))) (Kd.R_lt (rr HO276))) (Kd.R_lt (rr HO279))) (Kd.R_lt (rr HO288))) (Kd.R_lt (rr HO291))) (Kd.R_lt (rr HO294))) (Kd.R_lt (rr HO297))) (Kd.R_lt (rr HO300))) (Kd.R_lt (rr HO304))) (Kd.R_lt (rr HO308))) (below_size (bb HB)));have n14_ := am (below_step (bb HB) hb);clear HO267 HO270 HO273 HO276 HO279 HO285 HO288 HO291 HO294 HO297 HO300 HO304 HO308 HB;have HO267 := n0_;have HO270 := n1_;have HO273 := n2_;have HO276 := n3_;have HO279 := n4_;have HO285 := n5_;have HO288 := n6_;have HO291 := n7_;have HO294 := n8_;have HO297 := n9_;have HO300 := n10_;have HO304 := n11_;have HO308 := n12_;have HO312 := n13_;have HB := n14_;clear n0_ n1_ n2_ n3_ n4_ n5_ n6_ n7_ n8_ n9_ n10_ n11_ n12_ n13_ n14_;clear hb ho47;obtain ⟨Ao48,co48,eo48⟩ := Kd.R_slice HO297.out;subst eo48;obtain ⟨Ao49,co49,eo49⟩ := Kd.R_slice HO312.out;subst eo49)|(go_at_call 18;(with_reducible refine (privityref14_Words.calls k _ _ t295 _ _ y310 t313 _ ?side1 ?side2 ?side3 ?side4 A11.out).mono ?_);(case side1 => exact cr HO297);(case side2 => exact (Kd.R_reads' HO297.out).2.1);(case side3 => exact cr HO312);(case side4 => exact (Kd.R_reads' HO312.out).2.1);rintro e w' ⟨rfl,⟨nd,rfl⟩⟩))
    go_ret
    exact ⟨by first|rfl|(simp [errW_none,errW_some] <;> rfl)|(simp [*,errW_none,errW_some] <;> rfl),bb HB⟩
   ·replace c10 := Bool.eq_false_iff.mpr c10
    subst c10
    rw [if_neg (show ¬ (false = true) by decide)] at H
    exact absurd (Option.some.inj H) (by rw [HR1.out];simp)
  ·replace c8 := Bool.eq_false_iff.mpr c8
   subst c8
   rw [if_neg (show ¬ (false = true) by decide)] at H
   exact absurd (Option.some.inj H) (by rw [HR1.out];simp)
 ·replace c6 := Bool.eq_false_iff.mpr c6
  subst c6
  rw [if_neg (show ¬ (false = true) by decide)] at H
  exact absurd (Option.some.inj H) (by rw [HR1.out];simp)
def privitylaw43_cut.l0 : Nat → Int → Int → List Int → Int → Int → Int → Int → List Int → Int → Int → List Int → Option (List Int)
 | 0,_,_,_,_,_,_,_,_,_,_,_ => none
 | k + 1,x1,x2,x7,x8,x327000,x327001,x327002,x327003,x327004,x327005,x327006 => if x8 < (wrap64 (x1 + x2)) then (if x8 < (x327006.length : Int) then (if 0 ≤ x8 then (if x327000 = 0 then (none) else (if x7.length < 17592186044416 then (privitylaw43_cut.l0 k x1 x2 (x7 ++ [Int.tmod (rd x327006 x8) x327000]) (wrap64 (x8 + 1)) x327000 x327001 x327002 x327003 x327004 x327005 x327006) else (none))) else (none)) else (if x7.length < 17592186044416 then (privitylaw43_cut.l0 k x1 x2 (x7 ++ [0]) (wrap64 (x8 + 1)) x327000 x327001 x327002 x327003 x327004 x327005 x327006) else (none))) else (some x7)
def privitylaw43_cut.f (k : Nat) (a0_0 : Int) (a0_1 : Int) (a0_2 : Int) (l0_3 : List Int) (a0_4 : Int) (a0_5 : Int) (l0_6 : List Int) (a1 : Int) (a2 : Int) : Option (List Int) := privitylaw43_cut.l0 k a1 a2 ([] : List Int) a1 a0_0 a0_1 a0_2 l0_3 a0_4 a0_5 l0_6
set_option maxHeartbeats 8000000 in
set_option maxRecDepth 100000 in
theorem privitylaw43_cut.calls (k : Nat) (a0_0 : Int) (a0_1 : Int) (a0_2 : Int) (A0_3 : Option Addr) (c0_3 : Nat) (l0_3 : List Int) (a0_4 : Int) (a0_5 : Int) (A0_6 : Option Addr) (c0_6 : Nat) (l0_6 : List Int) (a1 : Int) (a2 : Int) (r : List Int) (w : World) (hr0_3 : Kd.C (Kd.int .i64) w A0_3 l0_3.length l0_3) (hc0_3 : l0_3.length ≤ c0_3) (hr0_6 : Kd.C (Kd.int .u64) w A0_6 l0_6.length l0_6) (hc0_6 : l0_6.length ≤ c0_6) (h : privitylaw43_cut.f k a0_0 a0_1 a0_2 l0_3 a0_4 a0_5 l0_6 a1 a2 = some r) :
  Calls Try.prog 42 #[.agg #[.int .u64 a0_0,.int .i64 a0_1,.int .i64 a0_2,.slice A0_3 l0_3.length c0_3,.int .u64 a0_4,.int .u64 a0_5,.slice A0_6 l0_6.length c0_6],.int .i64 a1,.int .i64 a2] w fun e w' => ∃ v0_ : Value,e = .returned (v0_) ∧ Kd.R (Kd.int .u64) 22 w' w.heap.size (fun _ => True) v0_ r ∧ Below w.heap.size w w' := by
 have hu28 := Try.underlying28
 have HR0_3 := am hr0_3
 have HC0_3 := am hc0_3
 clear hr0_3 hc0_3
 have HR0_6 := am hr0_6
 have HC0_6 := am hc0_6
 clear hr0_6 hc0_6
 have HB := am (Below.refl w.heap.size w)
 have H : (privitylaw43_cut.l0 k a1 a2 ([] : List Int) a1 a0_0 a0_1 a0_2 l0_3 a0_4 a0_5 l0_6) = some r := h
 clear h
 have H' := am H
 clear H
 go_enter Try.func42,Try.ntmps42
 go_wp2_with (first|((with_reducible refine gate_dst (N := 3) rfl ?_);refine box_event ?hg (N := 3) ?hd (cs := #[.int .u64 a0_0,.int .i64 a0_1,.int .i64 a0_2,.slice A0_3 l0_3.length c0_3,.int .u64 a0_4,.int .u64 a0_5,.slice A0_6 l0_6.length c0_6]) (t := 28) ?hr ?_;(case hd => rfl);(case hg => rfl);(case hr => first|(go_simp;done)|(go_simp;rfl));intro gb326 hg w4 hbox hb;have n0_ := am (below_step (bb HB) hb);have n1_ := am (hbox);have n2_ := am ((by rw [hg];exact (below_size (bb HB)) : w.heap.size ≤ gb326));have n3_ := am ((by rw [hg];exact (below_size (bb HB)) : w.heap.size ≤ gb326));clear HB;have HB := n0_;have BK326 := n1_;have GW326 := n2_;have GE326 := n3_;clear n0_ n1_ n2_ n3_;clear hb hbox hg))
 repeat (go_quiet (first|((with_reducible refine gate_dst (N := 3) rfl ?_);refine box_event ?hg (N := 3) ?hd (cs := #[.int .u64 a0_0,.int .i64 a0_1,.int .i64 a0_2,.slice A0_3 l0_3.length c0_3,.int .u64 a0_4,.int .u64 a0_5,.slice A0_6 l0_6.length c0_6]) (t := 28) ?hr ?_;(case hd => rfl);(case hg => rfl);(case hr => first|(go_simp;done)|(go_simp;rfl));intro gb326 hg w4 hbox hb;have n0_ := am (below_step (bb HB) hb);have n1_ := am (hbox);have n2_ := am ((by rw [hg];exact (below_size (bb HB)) : w.heap.size ≤ gb326));have n3_ := am ((by rw [hg];exact (below_size (bb HB)) : w.heap.size ≤ gb326));clear HB;have HB := n0_;have BK326 := n1_;have GW326 := n2_;have GE326 := n3_;clear n0_ n1_ n2_ n3_;clear hb hbox hg));try go_wp2_with (first|((with_reducible refine gate_dst (N := 3) rfl ?_);refine box_event ?hg (N := 3) ?hd (cs := #[.int .u64 a0_0,.int .i64 a0_1,.int .i64 a0_2,.slice A0_3 l0_3.length c0_3,.int .u64 a0_4,.int .u64 a0_5,.slice A0_6 l0_6.length c0_6]) (t := 28) ?hr ?_;(case hd => rfl);(case hg => rfl);(case hr => first|(go_simp;done)|(go_simp;rfl));intro gb326 hg w4 hbox hb;have n0_ := am (below_step (bb HB) hb);have n1_ := am (hbox);have n2_ := am ((by rw [hg];exact (below_size (bb HB)) : w.heap.size ≤ gb326));have n3_ := am ((by rw [hg];exact (below_size (bb HB)) : w.heap.size ≤ gb326));clear HB;have HB := n0_;have BK326 := n1_;have GW326 := n2_;have GE326 := n3_;clear n0_ n1_ n2_ n3_;clear hb hbox hg)))
 go_loopg [7,8] k (fun kq v7 v8 w' => ∃ (x7_1 : List Int) (x8_1 : Int),v8 = .int .i64 x8_1 ∧ Aside0 (privitylaw43_cut.l0 kq a1 a2 x7_1 x8_1 a0_0 a0_1 a0_2 l0_3 a0_4 a0_5 l0_6 = some r) ∧ Aside0 (kq ≤ k) ∧ Aside0 (Kd.R (Kd.int .u64) 22 w' w.heap.size (fun _ => True) v7 x7_1) ∧ Aside0 (w'.heap[gb326]? = some (.cells #[.int .u64 a0_0,.int .i64 a0_1,.int .i64 a0_2,(.slice A0_3 l0_3.length c0_3),.int .u64 a0_4,.int .u64 a0_5,(.slice A0_6 l0_6.length c0_6)] 28 (0,0))) ∧ Aside0 (Below w.heap.size w w'))
 case atStart => exact ⟨(([] : List Int)),(a1),(by first|rfl|(simp;done)|(simp [*];done)),H',⟨Nat.le_refl _⟩,⟨by first|exact Kd.R_nil _ _ _ _ _|exact Kd.N_nil _ _ _ _ _|exact Kd.V_nil _ _ _ _ _|exact Kd.Q_nil _ _ _ _ _|exact Kd.S_nil _ _ _ _ _⟩,⟨kx BK326⟩,⟨bg HB GE326⟩⟩
 case round =>
  clear H'
  try clear p2
  try clear c4
  obtain ⟨x7_1,x8_1,rfl,HA,HK1,HO_7,BK326,HB⟩ := hrel
  cases gk with
  | zero => exact absurd HA.out (by simp [privitylaw43_cut.l0])
  | succ k1 =>
   have H := HA.out
   clear HA
   simp only [privitylaw43_cut.l0] at H
   by_cases c5 : x8_1 < (wrap64 (a1 + a2))
   ·rw [if_pos c5] at H
    have c5b0 : decide (x8_1 < (wrap64 (a1 + a2))) = true := decide_eq_true c5
    clear c5
    by_cases c6 : x8_1 < (l0_6.length : Int)
    ·rw [if_pos c6] at H
     have c6b0 : decide (x8_1 < (l0_6.length : Int)) = true := decide_eq_true c6
     clear c6
     by_cases c7 : 0 ≤ x8_1
     ·rw [if_pos c7] at H
      have c7b0 : decide (0 ≤ x8_1) = true := decide_eq_true c7
      clear c7
      by_cases c8 : a0_0 = 0
      ·rw [if_pos c8] at H
       exact absurd H (by simp)
      ·rw [if_neg c8] at H
       have c8b0 : (a0_0 == 0) = false := beq_eq_false_iff_ne.mpr c8
       have c8b1 : (a0_0 != 0) = true := bne_iff_ne.mpr c8
       by_cases c9 : x7_1.length < 17592186044416
       ·rw [if_pos c9] at H
        have LMc9 := am c9
        clear c9
        obtain ⟨y328,hy328⟩ : ∃ y_ : List Int,y_ = (x7_1 ++ [Int.tmod (rd l0_6 x8_1) a0_0]) := ⟨_,rfl⟩
        replace H : (privitylaw43_cut.l0 k1 a1 a2 y328 (wrap64 (x8_1 + 1)) a0_0 a0_1 a0_2 l0_3 a0_4 a0_5 l0_6) = some r := by first|(rw [hy328];with_reducible exact H)|(have H2_ := (Option.bind_some _ _).symm.trans H;rw [hy328];with_reducible exact H2_)|(have H2_ := (Option.bind_some _ _).symm.trans H;with_reducible exact H2_)|with_reducible exact H|(rw [hy328];exact H)|exact H
        have Ny328 := am hy328
        clear hy328
        have H' := am H
        clear H
        have hcz10_0 := bc BK326 0
        have hcz10_1 := bc BK326 1
        have hcz10_2 := bc BK326 2
        have hcz10_3 := bc BK326 3
        have hcz10_4 := bc BK326 4
        have hcz10_5 := bc BK326 5
        have hcz10_6 := bc BK326 6
        have hfz10_0 := bf BK326 0
        have hfz10_1 := bf BK326 1
        have hfz10_2 := bf BK326 2
        have hfz10_3 := bf BK326 3
        have hfz10_4 := bf BK326 4
        have hfz10_5 := bf BK326 5
        have hfz10_6 := bf BK326 6
        have p327 : 0 ≤ (x8_1 : Int) := od
        have q327 : x8_1 < (l0_6.length : Int) := od
        obtain ⟨ad327,e327,hx327_0⟩ := Kd.at_int HR0_6.out x8_1 p327 q327
        cases e327
        replace hx327_0 := (HB.out.cell (World.block_lt_of_cell? w _ hx327_0)).trans hx327_0
        replace p327 := eq_true p327
        replace q327 := eq_true q327
        go_wp2_with (first|((with_reducible refine gate_builtin (b := .append) (xs := #[.tmp 32,.tmp 34]) rfl ?_);at_builtin;refine Kd.R_append (Kd.int .u64) (w0 := w) w.heap.size rfl (.tmp 32) (.tmp 34) 26 22 (.int .u64 0) 8 rfl Try.underlying26 info22 rfl (by decide) (by omega) u7 x7_1 (Int.tmod (rd l0_6 x8_1) a0_0) [.int .u64 (Int.tmod (rd l0_6 x8_1) a0_0)] (fun _ => True) (fun _ => False) rfl rfl ?aP (fun _ hk => hk.elim) ?aF ?aO ?aB ?aS ?aL ?_;(case aP => exact rfl);(case aB => exact (bg HB GE326));(case aF => exact (fun _ _ => trivial));(case aO => exact (rr HO_7));(case aS => exact (below_size (bg HB GE326)));(case aL => have := LMc9.out;omega);intro v329 w11 ho hb hg hat;rw [← Ny328.out] at ho;have n0_ := am (blk_grown (g := gb326) (o := .cells #[.int .u64 a0_0,.int .i64 a0_1,.int .i64 a0_2,.slice A0_3 l0_3.length c0_3,.int .u64 a0_4,.int .u64 a0_5,.slice (some ad327) l0_6.length c0_6] 28 (0,0)) (by (with_reducible repeat (first|refine blk_drewN ?_ _|refine blk_drew ?_|refine blk_alloc ?_ _));exact BK326.out) hg (Kd.R_ne HO_7.out BK326.out (by decide)));have n1_ := am (hb);have n2_ := am (ho);clear BK326 HB HO_7;have BK326 := n0_;have HB := n1_;have HO330 := n2_;clear n0_ n1_ n2_;clear ho hb hg hat))
        repeat (go_quiet (first|((with_reducible refine gate_builtin (b := .append) (xs := #[.tmp 32,.tmp 34]) rfl ?_);at_builtin;refine Kd.R_append (Kd.int .u64) (w0 := w) w.heap.size rfl (.tmp 32) (.tmp 34) 26 22 (.int .u64 0) 8 rfl Try.underlying26 info22 rfl (by decide) (by omega) u7 x7_1 (Int.tmod (rd l0_6 x8_1) a0_0) [.int .u64 (Int.tmod (rd l0_6 x8_1) a0_0)] (fun _ => True) (fun _ => False) rfl rfl ?aP (fun _ hk => hk.elim) ?aF ?aO ?aB ?aS ?aL ?_;(case aP => exact rfl);(case aB => exact (bg HB GE326));(case aF => exact (fun _ _ => trivial));(case aO => exact (rr HO_7));(case aS => exact (below_size (bg HB GE326)));(case aL => have := LMc9.out;omega);intro v329 w11 ho hb hg hat;rw [← Ny328.out] at ho;have n0_ := am (blk_grown (g := gb326) (o := .cells #[.int .u64 a0_0,.int .i64 a0_1,.int .i64 a0_2,.slice A0_3 l0_3.length c0_3,.int .u64 a0_4,.int .u64 a0_5,.slice (some ad327) l0_6.length c0_6] 28 (0,0)) (by (with_reducible repeat (first|refine blk_drewN ?_ _|refine blk_drew ?_|refine blk_alloc ?_ _));exact BK326.out) hg (Kd.R_ne HO_7.out BK326.out (by decide)));have n1_ := am (hb);have n2_ := am (ho);clear BK326 HB HO_7;have BK326 := n0_;have HB := n1_;have HO330 := n2_;clear n0_ n1_ n2_;clear ho hb hg hat));try go_wp2_with (first|((with_reducible refine gate_builtin (b := .append) (xs := #[.tmp 32,.tmp 34]) rfl ?_);at_builtin;refine Kd.R_append (Kd.int .u64) (w0 := w) w.heap.size rfl (.tmp 32) (.tmp 34) 26 22 (.int .u64 0) 8 rfl Try.underlying26 info22 rfl (by decide) (by omega) u7 x7_1 (Int.tmod (rd l0_6 x8_1) a0_0) [.int .u64 (Int.tmod (rd l0_6 x8_1) a0_0)] (fun _ => True) (fun _ => False) rfl rfl ?aP (fun _ hk => hk.elim) ?aF ?aO ?aB ?aS ?aL ?_;(case aP => exact rfl);(case aB => exact (bg HB GE326));(case aF => exact (fun _ _ => trivial));(case aO => exact (rr HO_7));(case aS => exact (below_size (bg HB GE326)));(case aL => have := LMc9.out;omega);intro v329 w11 ho hb hg hat;rw [← Ny328.out] at ho;have n0_ := am (blk_grown (g := gb326) (o := .cells #[.int .u64 a0_0,.int .i64 a0_1,.int .i64 a0_2,.slice A0_3 l0_3.length c0_3,.int .u64 a0_4,.int .u64 a0_5,.slice (some ad327) l0_6.length c0_6] 28 (0,0)) (by (with_reducible repeat (first|refine blk_drewN ?_ _|refine blk_drew ?_|refine blk_alloc ?_ _));exact BK326.out) hg (Kd.R_ne HO_7.out BK326.out (by decide)));have n1_ := am (hb);have n2_ := am (ho);clear BK326 HB HO_7;have BK326 := n0_;have HB := n1_;have HO330 := n2_;clear n0_ n1_ n2_;clear ho hb hg hat)))
        go_roundg k1
        case measure => have := HK1.out;omega
        case rel => exact ⟨(y328),(wrap64 (x8_1 + 1)),(by first|rfl|(simp;done)|(simp [*];done)),H',⟨by have := HK1.out;omega⟩,⟨by (with_reducible repeat (first|apply Kd.R_alloc|apply Kd.R_drewN|apply Kd.R_drew));exact HO330.out⟩,⟨kx BK326⟩,⟨bg HB GE326⟩⟩
       ·rw [if_neg c9] at H
        exact absurd H (by simp)
     ·rw [if_neg c7] at H
      exact absurd H (by simp)
    ·rw [if_neg c6] at H
     have c6b0 : decide (x8_1 < (l0_6.length : Int)) = false := decide_eq_false c6
     clear c6
     by_cases c12 : x7_1.length < 17592186044416
     ·rw [if_pos c12] at H
      have LMc12 := am c12
      clear c12
      obtain ⟨y331,hy331⟩ : ∃ y_ : List Int,y_ = (x7_1 ++ [0]) := ⟨_,rfl⟩
      replace H : (privitylaw43_cut.l0 k1 a1 a2 y331 (wrap64 (x8_1 + 1)) a0_0 a0_1 a0_2 l0_3 a0_4 a0_5 l0_6) = some r := by first|(rw [hy331];with_reducible exact H)|(have H2_ := (Option.bind_some _ _).symm.trans H;rw [hy331];with_reducible exact H2_)|(have H2_ := (Option.bind_some _ _).symm.trans H;with_reducible exact H2_)|with_reducible exact H|(rw [hy331];exact H)|exact H
      have Ny331 := am hy331
      clear hy331
      have H' := am H
      clear H
      have hcz13_0 := bc BK326 0
      have hcz13_1 := bc BK326 1
      have hcz13_2 := bc BK326 2
      have hcz13_3 := bc BK326 3
      have hcz13_4 := bc BK326 4
      have hcz13_5 := bc BK326 5
      have hcz13_6 := bc BK326 6
      have hfz13_0 := bf BK326 0
      have hfz13_1 := bf BK326 1
      have hfz13_2 := bf BK326 2
      have hfz13_3 := bf BK326 3
      have hfz13_4 := bf BK326 4
      have hfz13_5 := bf BK326 5
      have hfz13_6 := bf BK326 6
      go_wp2_with (first|((with_reducible refine gate_builtin (b := .append) (xs := #[.tmp 32,.tmp 34]) rfl ?_);at_builtin;refine Kd.R_append (Kd.int .u64) (w0 := w) w.heap.size rfl (.tmp 32) (.tmp 34) 26 22 (.int .u64 0) 8 rfl Try.underlying26 info22 rfl (by decide) (by omega) u7 x7_1 0 [.int .u64 0] (fun _ => True) (fun _ => False) rfl rfl ?aP (fun _ hk => hk.elim) ?aF ?aO ?aB ?aS ?aL ?_;(case aP => exact rfl);(case aB => exact (bg HB GE326));(case aF => exact (fun _ _ => trivial));(case aO => exact (rr HO_7));(case aS => exact (below_size (bg HB GE326)));(case aL => have := LMc12.out;omega);intro v332 w14 ho hb hg hat;rw [← Ny331.out] at ho;have n0_ := am (blk_grown (g := gb326) (o := .cells #[.int .u64 a0_0,.int .i64 a0_1,.int .i64 a0_2,.slice A0_3 l0_3.length c0_3,.int .u64 a0_4,.int .u64 a0_5,.slice A0_6 l0_6.length c0_6] 28 (0,0)) (by (with_reducible repeat (first|refine blk_drewN ?_ _|refine blk_drew ?_|refine blk_alloc ?_ _));exact BK326.out) hg (Kd.R_ne HO_7.out BK326.out (by decide)));have n1_ := am (hb);have n2_ := am (ho);clear BK326 HB HO_7;have BK326 := n0_;have HB := n1_;have HO333 := n2_;clear n0_ n1_ n2_;clear ho hb hg hat))
      repeat (go_quiet (first|((with_reducible refine gate_builtin (b := .append) (xs := #[.tmp 32,.tmp 34]) rfl ?_);at_builtin;refine Kd.R_append (Kd.int .u64) (w0 := w) w.heap.size rfl (.tmp 32) (.tmp 34) 26 22 (.int .u64 0) 8 rfl Try.underlying26 info22 rfl (by decide) (by omega) u7 x7_1 0 [.int .u64 0] (fun _ => True) (fun _ => False) rfl rfl ?aP (fun _ hk => hk.elim) ?aF ?aO ?aB ?aS ?aL ?_;(case aP => exact rfl);(case aB => exact (bg HB GE326));(case aF => exact (fun _ _ => trivial));(case aO => exact (rr HO_7));(case aS => exact (below_size (bg HB GE326)));(case aL => have := LMc12.out;omega);intro v332 w14 ho hb hg hat;rw [← Ny331.out] at ho;have n0_ := am (blk_grown (g := gb326) (o := .cells #[.int .u64 a0_0,.int .i64 a0_1,.int .i64 a0_2,.slice A0_3 l0_3.length c0_3,.int .u64 a0_4,.int .u64 a0_5,.slice A0_6 l0_6.length c0_6] 28 (0,0)) (by (with_reducible repeat (first|refine blk_drewN ?_ _|refine blk_drew ?_|refine blk_alloc ?_ _));exact BK326.out) hg (Kd.R_ne HO_7.out BK326.out (by decide)));have n1_ := am (hb);have n2_ := am (ho);clear BK326 HB HO_7;have BK326 := n0_;have HB := n1_;have HO333 := n2_;clear n0_ n1_ n2_;clear ho hb hg hat));try go_wp2_with (first|((with_reducible refine gate_builtin (b := .append) (xs := #[.tmp 32,.tmp 34]) rfl ?_);at_builtin;refine Kd.R_append (Kd.int .u64) (w0 := w) w.heap.size rfl (.tmp 32) (.tmp 34) 26 22 (.int .u64 0) 8 rfl Try.underlying26 info22 rfl (by decide) (by omega) u7 x7_1 0 [.int .u64 0] (fun _ => True) (fun _ => False) rfl rfl ?aP (fun _ hk => hk.elim) ?aF ?aO ?aB ?aS ?aL ?_;(case aP => exact rfl);(case aB => exact (bg HB GE326));(case aF => exact (fun _ _ => trivial));(case aO => exact (rr HO_7));(case aS => exact (below_size (bg HB GE326)));(case aL => have := LMc12.out;omega);intro v332 w14 ho hb hg hat;rw [← Ny331.out] at ho;have n0_ := am (blk_grown (g := gb326) (o := .cells #[.int .u64 a0_0,.int .i64 a0_1,.int .i64 a0_2,.slice A0_3 l0_3.length c0_3,.int .u64 a0_4,.int .u64 a0_5,.slice A0_6 l0_6.length c0_6] 28 (0,0)) (by (with_reducible repeat (first|refine blk_drewN ?_ _|refine blk_drew ?_|refine blk_alloc ?_ _));exact BK326.out) hg (Kd.R_ne HO_7.out BK326.out (by decide)));have n1_ := am (hb);have n2_ := am (ho);clear BK326 HB HO_7;have BK326 := n0_;have HB := n1_;have HO333 := n2_;clear n0_ n1_ n2_;clear ho hb hg hat)))
      go_roundg k1
      case measure => have := HK1.out;omega
      case rel => exact ⟨(y331),(wrap64 (x8_1 + 1)),(by first|rfl|(simp;done)|(simp [*];done)),H',⟨by have := HK1.out;omega⟩,⟨by (with_reducible repeat (first|apply Kd.R_alloc|apply Kd.R_drewN|apply Kd.R_drew));exact HO333.out⟩,⟨kx BK326⟩,⟨bg HB GE326⟩⟩
     ·rw [if_neg c12] at H
      exact absurd H (by simp)
   ·rw [if_neg c5] at H
    have c5b0 : decide (x8_1 < (wrap64 (a1 + a2))) = false := decide_eq_false c5
    clear c5
    obtain rfl := Option.some.inj H
    go_wp2
    repeat (go_quiet (fail);try go_wp2)
    go_ret
    exact ⟨_,by first|rfl|(simp [errW_none,errW_some] <;> rfl)|(simp [*,errW_none,errW_some] <;> rfl),by (with_reducible repeat (first|apply Kd.R_alloc|apply Kd.R_drewN|apply Kd.R_drew));exact HO_7.out,bg HB GE326⟩
def privitylaw43_triple.f (k : Nat) (a0_0 : Int) (a0_1 : Int) (a0_2 : Int) (l0_3 : List Int) (a0_4 : Int) (a0_5 : Int) (l0_6 : List Int) : Option (List Int × List Int) := (privitylaw43_cut.f k a0_0 a0_1 a0_2 l0_3 a0_4 a0_5 l0_6 0 (wrap64 ((wrap64 (2 * (wrap64 (a0_2 + 1)))) + (wrap64 (a0_2 * a0_2))))).bind fun t335 => ((privitylaw43_cut.f k a0_0 a0_1 a0_2 l0_3 a0_4 a0_5 l0_6 (wrap64 ((wrap64 (2 * (wrap64 (a0_2 + 1)))) + (wrap64 (a0_2 * a0_2)))) (wrap64 (Int.tdiv (wrap64 ((wrap64 ((wrap64 (a0_2 + 3)) * a0_2)) * (wrap64 (a0_2 + 1)))) 2))).bind fun t338 => (some (t335,t338)))
def privitylaw43_triple.T3 : Bool × List (List Nat × List Nat) := (true,[([],[]),([],[]),([0,1],[0,1]),([],[]),([],[]),([],[]),([5],[5]),([],[]),([6,7],[6,7]),([],[]),([9],[9]),([8,10],[8,10]),([11],[11]),([3,4,12,2],[3,4,12]),([2,13,0,1,2],[2]),([13,14,0,1,2,3,4,5,6,7,8,9,10,11,12,13,14],[13])])
def privitylaw43_triple.B3 : List Nat := [0,0,3,0,0,0,32,0,224,0,512,2016,4064,8191,16383,32767]
theorem privitylaw43_triple.tab3 : rtab .any (opsOf Try.f24 3) = privitylaw43_triple.T3 := by kernel_rfl
theorem privitylaw43_triple.bits3 : waitsOk privitylaw43_triple.T3.2 privitylaw43_triple.B3 = true := by kernel_rfl
set_option maxHeartbeats 8000000 in
set_option maxRecDepth 100000 in
theorem privitylaw43_triple.calls (k : Nat) (a0_0 : Int) (a0_1 : Int) (a0_2 : Int) (A0_3 : Option Addr) (c0_3 : Nat) (l0_3 : List Int) (a0_4 : Int) (a0_5 : Int) (A0_6 : Option Addr) (c0_6 : Nat) (l0_6 : List Int) (r1 : List Int) (r2 : List Int) (w : World) (hr0_3 : Kd.C (Kd.int .i64) w A0_3 l0_3.length l0_3) (hc0_3 : l0_3.length ≤ c0_3) (hr0_6 : Kd.C (Kd.int .u64) w A0_6 l0_6.length l0_6) (hc0_6 : l0_6.length ≤ c0_6) (h : privitylaw43_triple.f k a0_0 a0_1 a0_2 l0_3 a0_4 a0_5 l0_6 = some (r1,r2)) :
  Calls Try.prog 24 #[.agg #[.int .u64 a0_0,.int .i64 a0_1,.int .i64 a0_2,.slice A0_3 l0_3.length c0_3,.int .u64 a0_4,.int .u64 a0_5,.slice A0_6 l0_6.length c0_6]] w fun e w' => ∃ v0_ v1_ : Value,e = .returned (.tuple #[v0_,v1_]) ∧ Kd.R (Kd.int .u64) 22 w' w.heap.size (fun k_ => some k_ ≠ (v1_ : Value).ownBlock) v0_ r1 ∧ Kd.R (Kd.int .u64) 22 w' w.heap.size (fun k_ => some k_ ≠ (v0_ : Value).ownBlock) v1_ r2 ∧ Below w.heap.size w w' := by
 have hu28 := Try.underlying28
 have HR0_3 := am hr0_3
 have HC0_3 := am hc0_3
 clear hr0_3 hc0_3
 have HR0_6 := am hr0_6
 have HC0_6 := am hc0_6
 clear hr0_6 hc0_6
 have HB := am (Below.refl w.heap.size w)
 have H : ((privitylaw43_cut.f k a0_0 a0_1 a0_2 l0_3 a0_4 a0_5 l0_6 0 (wrap64 ((wrap64 (2 * (wrap64 (a0_2 + 1)))) + (wrap64 (a0_2 * a0_2))))).bind fun t335 => ((privitylaw43_cut.f k a0_0 a0_1 a0_2 l0_3 a0_4 a0_5 l0_6 (wrap64 ((wrap64 (2 * (wrap64 (a0_2 + 1)))) + (wrap64 (a0_2 * a0_2)))) (wrap64 (Int.tdiv (wrap64 ((wrap64 ((wrap64 (a0_2 + 3)) * a0_2)) * (wrap64 (a0_2 + 1)))) 2))).bind fun t338 => (some (t335,t338)))) = some (r1,r2) := h
 clear h
 replace H := Option.bind_eq_some_iff.mp H
 obtain ⟨t335,A20,H⟩ := H
 try dsimp only at H
 have A2 := am A20
 clear A20
 replace H := Option.bind_eq_some_iff.mp H
 obtain ⟨t338,A30,H⟩ := H
 try dsimp only at H
 have A3 := am A30
 clear A30
 simp only [Option.some.injEq,Prod.mk.injEq] at H
 obtain ⟨rfl,rfl⟩ := H
 go_enter Try.func24,Try.ntmps24
 try go_wp2_with (first|((with_reducible refine gate_dst (N := 1) rfl ?_);refine box_event ?hg (N := 1) ?hd (cs := #[.int .u64 a0_0,.int .i64 a0_1,.int .i64 a0_2,.slice A0_3 l0_3.length c0_3,.int .u64 a0_4,.int .u64 a0_5,.slice A0_6 l0_6.length c0_6]) (t := 28) ?hr ?_;(case hd => rfl);(case hg => rfl);(case hr => first|(go_simp;done)|(go_simp;rfl));intro gb334 hg w4 hbox hb;have n0_ := am (below_step (bb HB) hb);have n1_ := am (hbox);have n2_ := am ((by rw [hg];exact (below_size (bb HB)) : w.heap.size ≤ gb334));have n3_ := am ((by rw [hg];exact (below_size (bb HB)) : w.heap.size ≤ gb334));clear HB;have HB := n0_;have BK334 := n1_;have GW334 := n2_;have GE334 := n3_;clear n0_ n1_ n2_ n3_;clear hb hbox hg;have hcz5_0 := bc BK334 0;have hcz5_1 := bc BK334 1;have hcz5_2 := bc BK334 2;have hcz5_3 := bc BK334 3;have hcz5_4 := bc BK334 4;have hcz5_5 := bc BK334 5;have hcz5_6 := bc BK334 6;have hfz5_0 := bf BK334 0;have hfz5_1 := bf BK334 1;have hfz5_2 := bf BK334 2;have hfz5_3 := bf BK334 3;have hfz5_4 := bf BK334 4;have hfz5_5 := bf BK334 5;have hfz5_6 := bf BK334 6))
 have n0_ := am (blk_drew BK334.out)
 have n1_ := am (below_drew1 HB.out)
 clear BK334
 clear HB
 have BK334 := n0_
 have HB := n1_
 clear n0_ n1_
 refine start_ (n := 16) (S := fun w' => w'.cell? ⟨gb334,0,none⟩ = some (.int .u64 a0_0) ∧ w'.cell? ⟨gb334,1,none⟩ = some (.int .i64 a0_1) ∧ w'.cell? ⟨gb334,2,none⟩ = some (.int .i64 a0_2) ∧ w'.cell? ⟨gb334,3,none⟩ = some (.slice A0_3 l0_3.length c0_3) ∧ w'.cell? ⟨gb334,4,none⟩ = some (.int .u64 a0_4) ∧ w'.cell? ⟨gb334,5,none⟩ = some (.int .u64 a0_5) ∧ w'.cell? ⟨gb334,6,none⟩ = some (.slice A0_6 l0_6.length c0_6)) (ds := []) (bz 16 0) (by kernel_rfl) rfl rfl ⟨(blk_cell BK334.out 0).trans rfl,(blk_cell BK334.out 1).trans rfl,(blk_cell BK334.out 2).trans rfl,(blk_cell BK334.out 3).trans rfl,(blk_cell BK334.out 4).trans rfl,(blk_cell BK334.out 5).trans rfl,(blk_cell BK334.out 6).trans rfl⟩ (fun hHeld => ?_);refine with_tabW privitylaw43_triple.tab3 privitylaw43_triple.bits3 (fun HT_ HW_ => ?_)
 generalize w4.drew = w6 at BK334 HB hHeld ⊢
 refine pk 1 17 (bz 16 2) HT_ ?_
 refine pk 4 20 (bz 16 18) HT_ ?_
 refine pk 5 21 (bz 16 50) HT_ ?_
 refine pk 6 22 (bz 16 114) HT_ ?_
 refine pk 7 23 (bz 16 242) HT_ ?_
 refine pk 8 24 (bz 16 498) HT_ ?_
 refine pk 9 25 (bz 16 1010) HT_ ?_
 refine pk 10 26 (bz 16 2034) HT_ ?_
 refine pk 11 27 (bz 16 4082) HT_ ?_
 refine pk 12 28 (bz 16 8178) HT_ ?_
 refine tk 0 16 (bz 16 8179) HT_ HW_ hHeld ?_
 refine tk 3 19 (bz 16 8187) HT_ HW_ hHeld ?_
 refine on 2 18 (bz 16 8191) HT_ (fun K hK => ?_)
 refine goes_ Try.func42 (by kernel_rfl) rfl #[.agg #[.int .u64 a0_0,.int .i64 a0_1,.int .i64 a0_2,.slice A0_3 l0_3.length c0_3,.int .u64 a0_4,.int .u64 a0_5,.slice A0_6 l0_6.length c0_6],.int .i64 0,.int .i64 (wrap64 ((wrap64 (2 * (wrap64 (a0_2 + 1)))) + (wrap64 (a0_2 * a0_2))))] (by rfl) rfl rfl (by (try simp only [List.map_toArray,List.map_cons,List.map_nil]);first|done|rfl|(simp only [List.length_drop,List.length_take];rfl)) ?_
 with_reducible refine (privitylaw43_cut.calls k a0_0 a0_1 a0_2 _ _ l0_3 a0_4 a0_5 _ _ l0_6 0 (wrap64 ((wrap64 (2 * (wrap64 (a0_2 + 1)))) + (wrap64 (a0_2 * a0_2)))) t335 _ ?side1 ?side2 ?side3 ?side4 A2.out).mono ?_
 (case side1 => exact cb HR0_3 HB)
 (case side2 => exact HC0_3.out)
 (case side3 => exact cb HR0_6 HB)
 (case side4 => exact HC0_6.out)
 rintro e w7 ⟨v336,rfl,ho0,hb⟩
 refine ⟨_,rfl,?_⟩
 have n0_ := am (Kd.R_lower ho0 (below_size (bg HB GE334)))
 have n1_ := am (kb BK334 hb)
 have n2_ := am (below_step (bg HB GE334) hb)
 clear BK334
 clear HB
 have HO337 := n0_
 have BK334 := n1_
 have HB := n2_
 clear n0_ n1_ n2_
 (try clear hb)
 (try clear hb2)
 (try clear hk)
 (try clear hi)
 (try clear ho0)
 refine hK.out _ _ ⟨(blk_cell BK334.out 0).trans rfl,(blk_cell BK334.out 1).trans rfl,(blk_cell BK334.out 2).trans rfl,(blk_cell BK334.out 3).trans rfl,(blk_cell BK334.out 4).trans rfl,(blk_cell BK334.out 5).trans rfl,(blk_cell BK334.out 6).trans rfl⟩ (fun hHeld => ?_)
 clear hK K
 refine nm 18 ?_
 refine on 13 29 (bz 16 16383) HT_ (fun K hK => ?_)
 refine goes_ Try.func42 (by kernel_rfl) rfl #[.agg #[.int .u64 a0_0,.int .i64 a0_1,.int .i64 a0_2,.slice A0_3 l0_3.length c0_3,.int .u64 a0_4,.int .u64 a0_5,.slice A0_6 l0_6.length c0_6],.int .i64 (wrap64 ((wrap64 (2 * (wrap64 (a0_2 + 1)))) + (wrap64 (a0_2 * a0_2)))),.int .i64 (wrap64 (Int.tdiv (wrap64 ((wrap64 ((wrap64 (a0_2 + 3)) * a0_2)) * (wrap64 (a0_2 + 1)))) 2))] (by rfl) rfl rfl (by (try simp only [List.map_toArray,List.map_cons,List.map_nil]);first|done|rfl|(simp only [List.length_drop,List.length_take];rfl)) ?_
 with_reducible refine (privitylaw43_cut.calls k a0_0 a0_1 a0_2 _ _ l0_3 a0_4 a0_5 _ _ l0_6 (wrap64 ((wrap64 (2 * (wrap64 (a0_2 + 1)))) + (wrap64 (a0_2 * a0_2)))) (wrap64 (Int.tdiv (wrap64 ((wrap64 ((wrap64 (a0_2 + 3)) * a0_2)) * (wrap64 (a0_2 + 1)))) 2)) t338 _ ?side1 ?side2 ?side3 ?side4 A3.out).mono ?_
 (case side1 => exact cb HR0_3 HB)
 (case side2 => exact HC0_3.out)
 (case side3 => exact cb HR0_6 HB)
 (case side4 => exact HC0_6.out)
 rintro e w8 ⟨v339,rfl,ho0,hb⟩
 refine ⟨_,rfl,?_⟩
 have n0_ := am (Kd.R_elder' (rr HO337) (Kd.R_base ho0) hb)
 have n1_ := am (Kd.R_lower (Kd.R_new' ho0 (Kd.R_lt (rr HO337))) (below_size (bg HB GE334)))
 have n2_ := am (kb BK334 hb)
 have n3_ := am (below_step (bg HB GE334) hb)
 clear HO337
 clear BK334
 clear HB
 have HO337 := n0_
 have HO340 := n1_
 have BK334 := n2_
 have HB := n3_
 clear n0_ n1_ n2_ n3_
 (try clear hb)
 (try clear hb2)
 (try clear hk)
 (try clear hi)
 (try clear ho0)
 refine hK.out _ _ ⟨(blk_cell BK334.out 0).trans rfl,(blk_cell BK334.out 1).trans rfl,(blk_cell BK334.out 2).trans rfl,(blk_cell BK334.out 3).trans rfl,(blk_cell BK334.out 4).trans rfl,(blk_cell BK334.out 5).trans rfl,(blk_cell BK334.out 6).trans rfl⟩ (fun hHeld => ?_)
 clear hK K
 refine nm 29 ?_
 refine pk 14 2 (bz 16 32767) HT_ ?_
 refine pk 15 3 (bz 16 65535) HT_ ?_
 refine done_ (done_of HT_.out (by kernel_rfl)) ?_
 try go_wp2
 go_ret2
 exact ⟨_,_,by first|rfl|(simp [errW_none,errW_some] <;> rfl)|(simp [*,errW_none,errW_some] <;> rfl),by (with_reducible repeat (first|apply Kd.R_alloc|apply Kd.R_drewN|apply Kd.R_drew));exact Kd.R_mono HO337.out (fun _ hk => hk.2),by (with_reducible repeat (first|apply Kd.R_alloc|apply Kd.R_drewN|apply Kd.R_drew));exact Kd.R_mono HO340.out (fun _ hk => hk.2),bg HB GE334⟩
end Go.Proofs.Ytejeelpnmdfibaa.Pr
end
