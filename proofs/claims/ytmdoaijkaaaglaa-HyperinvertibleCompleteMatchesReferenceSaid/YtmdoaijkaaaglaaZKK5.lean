/- Part 5 of the proof's texts, joined in build order. -/
import Derived.Test.YtmdoaijkaaaglaaZKK1
import Derived.Test.YtmdoaijkaaaglaaZKK3
import Derived.Test.YtmdoaijkaaaglaaZKK4
import Derived.Test.YtmdoaijkaaaglaaZKK2
import Derived.Maps.RangeRun
set_option linter.unusedVariables false
set_option linter.unusedSimpArgs false
section
namespace Go.Proofs.Ytmdoaijkaaaglaa.Pr
open Go.RowKit Go.Proofs.YtmdoaijkaaaglaaW.PrintWords Go.Proofs.YtmdoaijkaaaglaaW.PrintLast Go.Proofs.YtmdoaijkaaaglaaW.PrintMore
attribute [local go_sem] max2_int min2_int max_two min_two max_three min_three max_four min_four
open Go.Proofs.Ytmdoaijkaaaglaa.Hw
def matrix_cols.f (l0 : List (List Int)) : Option (Int) := if (l0.length : Int) = 0 then (some 0) else (if 0 < (l0.length : Int) then (some ((rd_L2 l0 0).length : Int)) else (none))
set_option maxHeartbeats 8000000 in
set_option maxRecDepth 100000 in
theorem matrix_cols.calls (A0 : Option Addr) (c0 : Nat) (l0 : List (List Int)) (r : Int) (w : World) (hr0 : Kd.C (Kd.slice 22 (Kd.int .u64)) w A0 l0.length l0) (hc0 : l0.length ≤ c0) (h : matrix_cols.f l0 = some r) :
  Calls Try.prog 56 #[.slice A0 l0.length c0] w fun e w' => e = .returned (.int .i64 r) ∧ Drawn0 w w' := by
 have HR0 := am hr0
 have HC0 := am hc0
 clear hr0 hc0
 have H : (if (l0.length : Int) = 0 then (some 0) else (if 0 < (l0.length : Int) then (some ((rd_L2 l0 0).length : Int)) else (none))) = some r := h
 clear h
 by_cases c2 : (l0.length : Int) = 0
 ·rw [if_pos c2] at H
  have c2b0 : ((l0.length : Int) == 0) = true := beq_iff_eq.mpr c2
  have c2b1 : ((l0.length : Int) != 0) = false := bne_eq_false_iff_eq.mpr c2
  clear c2
  obtain rfl := Option.some.inj H
  go_enter Try.func56,Try.ntmps56
  go_wp2
  go_ret
  exact ⟨by first|rfl|(simp;done)|(simp [*];done),by repeat (first|exact Drawn0.refl _|apply Drawn0.step)⟩
 ·rw [if_neg c2] at H
  have c2b0 : ((l0.length : Int) == 0) = false := beq_eq_false_iff_ne.mpr c2
  have c2b1 : ((l0.length : Int) != 0) = true := bne_iff_ne.mpr c2
  have c2b2 : ¬ (l0 = []) := fun h_ => c2 (by rw [h_];rfl)
  by_cases c3 : 0 < (l0.length : Int)
  ·rw [if_pos c3] at H
   have c3b0 : decide (0 < (l0.length : Int)) = true := decide_eq_true c3
   have c3b1 : decide (0 < l0.length) = true := decide_eq_true (by omega)
   clear c3
   obtain rfl := Option.some.inj H
   have p405 : 0 ≤ (0 : Int) := (by omega)
   have q405 : 0 < (l0.length : Int) := od
   obtain ⟨ad405,A405_0,c405_0,e405,hx405_0,hl405_0,hi405_0⟩ := at_L2 HR0.out 0 p405 q405
   cases e405
   have qi405 : (0 < l0.length) = True := eq_true (by omega)
   (try rw [show ((0 : Int)).toNat = 0 from rfl] at hx405_0)
   (try rw [Addr.add_zero'] at hx405_0)
   have HR405_0 := am hi405_0
   have HC405_0 := am hl405_0
   clear hi405_0 hl405_0
   replace p405 := eq_true p405
   replace q405 := eq_true q405
   go_enter Try.func56,Try.ntmps56
   go_wp2
   go_ret
   exact ⟨by first|rfl|(simp;done)|(simp [*];done),by repeat (first|exact Drawn0.refl _|apply Drawn0.step)⟩
  ·rw [if_neg c3] at H
   exact absurd H (by simp)
def matrix_square.f (l0 : List (List Int)) : Option (Bool) := if (l0.length : Int) > 0 then ((matrix_rect.f l0).bind fun t406 => (if t406 = true then ((matrix_cols.f l0).bind fun t407 => (some ((l0.length : Int) == t407))) else (some false))) else (some false)
set_option maxHeartbeats 8000000 in
set_option maxRecDepth 100000 in
theorem matrix_square.calls (A0 : Option Addr) (c0 : Nat) (l0 : List (List Int)) (r : Bool) (w : World) (hr0 : Kd.C (Kd.slice 22 (Kd.int .u64)) w A0 l0.length l0) (hc0 : l0.length ≤ c0) (h : matrix_square.f l0 = some r) :
  Calls Try.prog 53 #[.slice A0 l0.length c0] w fun e w' => e = .returned (.bool r) ∧ Below w.heap.size w w' := by
 have HR0 := am hr0
 have HC0 := am hc0
 clear hr0 hc0
 have HB := am (Below.refl w.heap.size w)
 have H : (if (l0.length : Int) > 0 then ((matrix_rect.f l0).bind fun t406 => (if t406 = true then ((matrix_cols.f l0).bind fun t407 => (some ((l0.length : Int) == t407))) else (some false))) else (some false)) = some r := h
 clear h
 by_cases c2 : (l0.length : Int) > 0
 ·rw [if_pos c2] at H
  have c2b0 : decide (0 < (l0.length : Int)) = true := decide_eq_true c2
  have c2b1 : decide (0 < l0.length) = true := decide_eq_true (by omega)
  clear c2
  replace H := Option.bind_eq_some_iff.mp H
  obtain ⟨t406,A30,H⟩ := H
  try dsimp only at H
  have A3 := am A30
  clear A30
  by_cases c4 : t406 = true
  ·subst c4
   rw [if_pos rfl] at H
   replace H := Option.bind_eq_some_iff.mp H
   obtain ⟨t407,A50,H⟩ := H
   try dsimp only at H
   have A5 := am A50
   clear A50
   obtain rfl := Option.some.inj H
   go_enter Try.func53,Try.ntmps53
   go_wp2_with (first|(go_at_call 55;(with_reducible refine (matrix_rect.calls _ _ l0 true _ ?side1 ?side2 A3.out).mono ?_);(case side1 => repeat (first|exact HR0.out|(with_reducible refine Kd.C_alloc ?_ _)|(with_reducible refine Kd.C_drewN ?_ _)|(with_reducible refine Kd.C_drew ?_)));(case side2 => exact HC0.out);rintro e w6 ⟨rfl,hb⟩;have n0_ := am (below_step (bb HB) hb);clear HB;have HB := n0_;clear n0_;(try clear hb);(try clear hb2);(try clear hk);(try clear hi))|(go_at_call 56;(with_reducible refine (matrix_cols.calls _ _ l0 t407 _ ?side1 ?side2 A5.out).mono ?_);(case side1 => exact cb HR0 HB);(case side2 => exact HC0.out);rintro e w' ⟨rfl,⟨nd,rfl⟩⟩))
   go_ret
   exact ⟨by first|rfl|(simp [errW_none,errW_some] <;> rfl)|(simp [*,errW_none,errW_some] <;> rfl),bb HB⟩
  ·replace c4 := Bool.eq_false_iff.mpr c4
   subst c4
   rw [if_neg (show ¬ (false = true) by decide)] at H
   obtain rfl := Option.some.inj H
   go_enter Try.func53,Try.ntmps53
   go_wp2_with (first|(go_at_call 55;(with_reducible refine (matrix_rect.calls _ _ l0 false _ ?side1 ?side2 A3.out).mono ?_);(case side1 => repeat (first|exact HR0.out|(with_reducible refine Kd.C_alloc ?_ _)|(with_reducible refine Kd.C_drewN ?_ _)|(with_reducible refine Kd.C_drew ?_)));(case side2 => exact HC0.out);rintro e w7 ⟨rfl,hb⟩;have n0_ := am (below_step (bb HB) hb);clear HB;have HB := n0_;clear n0_;(try clear hb);(try clear hb2);(try clear hk);(try clear hi)))
   go_ret
   exact ⟨by first|rfl|(simp [errW_none,errW_some] <;> rfl)|(simp [*,errW_none,errW_some] <;> rfl),bb HB⟩
 ·rw [if_neg c2] at H
  have c2b0 : decide (0 < (l0.length : Int)) = false := decide_eq_false c2
  have c2b1 : decide (0 < l0.length) = false := decide_eq_false (by omega)
  clear c2
  obtain rfl := Option.some.inj H
  go_enter Try.func53,Try.ntmps53
  go_wp2
  go_ret
  exact ⟨by first|rfl|(simp [errW_none,errW_some] <;> rfl)|(simp [*,errW_none,errW_some] <;> rfl),bb HB⟩
end Go.Proofs.Ytmdoaijkaaaglaa.Pr
end
section
namespace Go.Proofs.Ytmdoaijkaaaglaa.Hw
open Go.RowKit Go.Proofs.Ytmdoaijkaaaglaa.Pr Go.Proofs.YtmdoaijkaaaglaaW.PrintWords Go.Proofs.YtmdoaijkaaaglaaW.PrintLast Go.Proofs.YtmdoaijkaaaglaaW.PrintMore Go.Proofs.Ytmdoaijkaaaglaa.E
theorem info64W : (Try.prog.info? 22).map (fun i => (i.zero,i.size,i.bytes)) = some (some (.int .u64 0),1,8) := by kernel_rfl
theorem mk_words (n : Nat) (hn : n ≤ 1000000) (w : World) :
  ∃ bu w1,(Instr.makeSlice 40 (.int .i64 (n : Int)) (.int .i64 (n : Int))).run Try.prog w = .ok (.slice (some ⟨bu,0,none⟩) n n) w1 ∧ w1.ownsRow w.heap.size 22 1 (.slice (some ⟨bu,0,none⟩) n n) n (nums .u64 (List.replicate n 0)) ∧ Below w.heap.size w w1 := by
 obtain ⟨i0,hi,hzz⟩ := Option.map_eq_some_iff.1 info64W
 simp only [Prod.mk.injEq] at hzz
 obtain ⟨hz0,hz1,hz2⟩ := hzz
 obtain ⟨w1,hr,ho,hg⟩ := run_make_full (P := Try.prog) w w.heap.size 40 22 i0 (.int .u64 0) 1 Try.underlying40 hi hz0 hz1 .i64 .i64 n (by rw [hz2];omega) (by unfold maxLen;omega) (Nat.le_refl _)
 refine ⟨_,w1,hr,?_,⟨hg.os,hg.tape,hg.output,hg.size,fun k hk => hg.block k hk (by simp)⟩⟩
 have e : (madeCells (Value.int .u64 0).cells (n * 1)).toList = nums .u64 (List.replicate n 0) := by
  rw [Nat.mul_one,show (Value.int .u64 0).cells = #[Value.int .u64 0] from rfl,toList_madeCells_one]
  simp [nums]
 rw [e] at ho
 exact ho
structure Rw (w : World) (base : Nat) (mv : Value) (vs : List Value) (rs : List (List Int)) : Prop where
 arr : (Kd.raw 1).R 40 w base (fun _ => True) mv (vs.map fun v => [v])
 len : rs.length = vs.length
 row : ∀ (j : Nat) v r,vs[j]? = some v → rs[j]? = some r → w.ownsRow base 22 1 v r.length (nums .u64 r)
theorem Rw.nil (w : World) (base : Nat) : Rw w base (.slice none 0 0) [] [] := ⟨Kd.R_nil _ _ _ _ _,rfl,fun j v r h => by simp at h⟩
theorem Rw.below {w w1 : World} {base : Nat} {mv : Value} {vs : List Value} {rs : List (List Int)} (h : Rw w base mv vs rs) (hb : Below w.heap.size w w1) : Rw w1 base mv vs rs :=
 ⟨Kd.R_below h.arr hb,h.len,fun j v r hv hr => own_below0 (h.row j v r hv hr) hb⟩
theorem Rw.add {w w1 : World} {base : Nat} {mv mv1 v : Value} {vs : List Value} {rs : List (List Int)} {r : List Int} (h : Rw w base mv vs rs) (hv : w.ownsRow base 22 1 v r.length (nums .u64 r)) (hg : w.grownBy w1 mv.ownBlock) (hn : (Kd.raw 1).R 40 w1 base (fun _ => True) mv1 ((vs.map fun v => [v]) ++ [[v]])) : Rw w1 base mv1 (vs ++ [v]) (rs ++ [r]) := by
 have ho := raw_own h.arr
 have far : ∀ {n : Nat} {v' : Value} {xs : List Value},w.ownsRow base 22 1 v' n xs → w1.ownsRow base 22 1 v' n xs := by
  intro n v' xs hx
  refine own_grown0 hx hg ?_
  intro k hk e
  obtain ⟨cs,hc⟩ := own_typed2 ho e.symm
  exact own_ne0 hx hc (by decide) k hk rfl
 refine ⟨by rw [List.map_append];exact hn,by simp [h.len],?_⟩
 intro j u r' hu hr'
 rcases Nat.lt_or_ge j vs.length with hj|hj
 ·rw [List.getElem?_append_left hj] at hu
  rw [List.getElem?_append_left (by rw [h.len];exact hj)] at hr'
  exact far (h.row j u r' hu hr')
 ·have hj2 : j = vs.length := by have := (List.getElem?_eq_some_iff.1 hu).1;simp at this;omega
  subst hj2
  rw [List.getElem?_append_right (Nat.le_refl _),Nat.sub_self] at hu
  rw [List.getElem?_append_right (by rw [h.len];exact Nat.le_refl _),h.len,Nat.sub_self] at hr'
  obtain rfl := Option.some.inj hu
  obtain rfl := Option.some.inj hr'
  exact far hv
theorem hdr_reads {w : World} {base : Nat} {mv : Value} {vs : List Value} {rs : List (List Int)} (ha : w.ownsRow base 40 1 mv vs.length vs) (hl : rs.length = vs.length) (hn : rs.length ≤ 1000000)
  (hr : ∀ (j : Nat) v r,vs[j]? = some v → rs[j]? = some r → ∃ A c,v = .slice A r.length c ∧ r.length ≤ c ∧ Kd.C (Kd.int .u64) w A r.length r) : ∃ A c,mv = .slice A rs.length c ∧ rs.length ≤ c ∧ Kd.C (Kd.slice 22 (Kd.int .u64)) w A rs.length rs := by
 rcases ha.2 with ⟨h1,h2⟩|⟨g,cap,cur,h1,hb,hg,hc,hcm,hcs,ht⟩
 ·have : rs.length = 0 := by omega
  rw [this]
  exact ⟨none,0,h1,Nat.le_refl _,by rw [List.length_eq_zero_iff.1 this];exact ⟨rfl,by simp,fun h => by simp at h⟩⟩
 ·refine ⟨some ⟨g,0,none⟩,cap,by rw [hl];exact h1,by omega,⟨rfl,by omega,fun _ => ⟨_,rfl,?_⟩⟩⟩
  intro j r hj
  have hjl := (List.getElem?_eq_some_iff.1 hj).1
  have hv : vs[j]? = some (vs[j]'(by omega)) := List.getElem?_eq_getElem _
  obtain ⟨A,c,e,h3,h4⟩ := hr j _ r hv hj
  refine ⟨[vs[j]'(by omega)],rfl,⟨A,c,by rw [e],h3,h4⟩,?_⟩
  intro i u hu
  rcases i with _|i
  ·simp only [List.getElem?_cons_zero,Option.some.injEq] at hu
   rw [← hu,show (Kd.slice 22 (Kd.int .u64)).sz = 1 from rfl,Nat.mul_one,Nat.add_zero]
   subst h1
   exact ha.cells (g := g) rfl j _ hv
  ·simp at hu
theorem Rw.reads {w : World} {base : Nat} {mv : Value} {vs : List Value} {rs : List (List Int)} (h : Rw w base mv vs rs) (hn : rs.length ≤ 1000000) : ∃ A c,mv = .slice A rs.length c ∧ rs.length ≤ c ∧ Kd.C (Kd.slice 22 (Kd.int .u64)) w A rs.length rs := by
 refine hdr_reads (raw_own h.arr) h.len hn ?_
 intro j v r hv hr
 have := h.row j v r hv hr
 exact Kd.R_reads (Kd.R_of_own (ok := fun _ => True) this (fun _ _ => trivial))
def unitR (m i : Nat) : List Int := (List.replicate m 0).set i 1
def wideM (l : List (List Int)) : List (List Int) := l.mapIdx fun i r => r ++ unitR l.length i
theorem wideM_len (l : List (List Int)) : (wideM l).length = l.length := by simp [wideM]
theorem wideM_at {l : List (List Int)} {i : Nat} (h : i < l.length) : (wideM l)[i]? = some (l[i] ++ unitR l.length i) := by
 unfold wideM
 rw [List.getElem?_mapIdx,List.getElem?_eq_getElem h];rfl
theorem unitR_len (m i : Nat) : (unitR m i).length = m := by simp [unitR]
theorem unitR_res {p : Int} (hp : Supp p) (m i : Nat) : ∀ x ∈ unitR m i,Res p x := by
 intro x hx
 have hb := hp.bd
 rcases List.mem_or_eq_of_mem_set hx with h|rfl
 ·rw [(List.mem_replicate.1 h).2];exact ⟨Int.le_refl _,by omega⟩
 ·exact ⟨by omega,by omega⟩
theorem wideM_ok {p : Int} (hp : Supp p) {l : List (List Int)} (h : RowsOk p l.length l) : RowsOk p (l.length + l.length) (wideM l) := by
 intro x hx
 obtain ⟨i,hi,rfl⟩ := List.getElem_of_mem hx
 have hi2 : i < l.length := by rw [wideM_len] at hi;exact hi
 have e : (wideM l)[i] = l[i] ++ unitR l.length i := by
  have := wideM_at hi2
  rw [List.getElem?_eq_getElem hi] at this
  exact Option.some.inj this
 rw [e]
 refine ⟨by rw [List.length_append,unitR_len,(h.at hi2).1],fun y hy => ?_⟩
 rcases List.mem_append.1 hy with h1|h1
 ·exact (h.at hi2).2 y h1
 ·exact unitR_res hp _ _ y h1
theorem square_yes {p : Int} {l : List (List Int)} (h0 : 0 < l.length) (hl : l.length ≤ 1000) (h : RowsOk p l.length l) : matrix_square.f l = some true := by
 have hf : (rd_L2 l 0) = l[0] := by unfold rd_L2;rw [show ((0 : Int)).toNat = 0 from rfl,List.getD_eq_getElem?_getD,List.getElem?_eq_getElem h0];rfl
 have hrect : matrix_rect.f l = some true := by
  unfold matrix_rect.f
  rw [if_pos (by omega)]
  congr 1
  rw [Bool.not_eq_true',List.any_eq_false]
  intro x hx
  unfold oddRow
  rw [hf,(h x hx).1,(h.at h0).1]
  simp
 unfold matrix_square.f
 rw [if_pos (by omega),hrect]
 simp only [Option.bind_some,if_true]
 unfold matrix_cols.f
 rw [if_neg (by omega),if_pos (by omega),hf,(h.at h0).1]
 simp
theorem own_slice {w : World} {base : Nat} {e : TypeId} {size n : Nat} {v : Value} {xs : List Value} (h : w.ownsRow base e size v n xs) : ∃ A c,v = .slice A n c := by
 rcases h.2 with ⟨h1,h2⟩|⟨g,cap,cur,h1,_⟩
 ·exact ⟨none,0,by rw [h1,h2]⟩
 ·exact ⟨_,_,h1⟩
def CutAt (vs : List Value) (m j : Nat) (v : Value) : Prop := ∃ b c,vs[j]? = some (.slice (some ⟨b,0,none⟩) (m + m) c) ∧ m + m ≤ c ∧ v = .slice (some ⟨b,m,none⟩) m (c - m)
theorem own_cell0 {w : World} {base b n c : Nat} {r : List Int} (h : w.ownsRow base 22 1 (.slice (some ⟨b,0,none⟩) n c) r.length (nums .u64 r)) {j : Nat} (hj : j < r.length) : w.cell? ⟨b,j,none⟩ = some (.int .u64 r[j]) := by
 have := h.cells (g := b) rfl j (.int .u64 r[j]) (by unfold nums;rw [List.getElem?_map,List.getElem?_eq_getElem hj];rfl)
 rwa [Addr.add_lit,Nat.zero_add] at this
theorem C_cut {w : World} {b m : Nat} {r : List Int} (h : ∀ j (hj : j < r.length),w.cell? ⟨b,j,none⟩ = some (.int .u64 r[j])) (hn : r.length ≤ 1000000) : Kd.C (Kd.int .u64) w (some ⟨b,m,none⟩) (r.drop m).length (r.drop m) := by
 refine ⟨rfl,by rw [List.length_drop];omega,fun _ => ⟨_,rfl,fun j x hj => ⟨[.int .u64 x],rfl,rfl,fun i u hu => ?_⟩⟩⟩
 rcases i with _|i
 ·simp only [List.getElem?_cons_zero,Option.some.injEq] at hu
  rw [List.getElem?_drop] at hj
  have hl := (List.getElem?_eq_some_iff.1 hj).1
  rw [List.getElem?_eq_getElem hl] at hj
  rw [← hu,← Option.some.inj hj,← h _ hl,show (Kd.int .u64).sz = 1 from rfl,Nat.mul_one,Nat.add_zero,Addr.add_lit]
 ·simp at hu
def InvR (p : Int) (l : List (List Int)) (base : Nat) (w' : World) (e : Ending) : Prop :=
 if (red p (wideM l) l.length).2.1.length < l.length then e = .returned (.tuple #[.slice none 0 0,.int .i64 8])
 else ∃ A' c',e = .returned (.tuple #[.slice A' l.length c',.int .i64 0]) ∧ l.length ≤ c' ∧ ∀ W : World,(∀ k,base ≤ k → k < w'.heap.size → W.heap[k]? = w'.heap[k]?) → Kd.C (Kd.slice 22 (Kd.int .u64)) W A' l.length ((red p (wideM l) l.length).1.map (·.drop l.length))
set_option maxHeartbeats 8000000 in
set_option maxRecDepth 100000 in
theorem inverse_walk (p : Int) (hp : Supp p) (A : Option Addr) (c : Nat) (l : List (List Int)) (w : World) (hr : Kd.C (Kd.slice 22 (Kd.int .u64)) w A l.length l) (hc : l.length ≤ c) (h0 : 0 < l.length) (hl : l.length ≤ 100) (hok : RowsOk p l.length l) :
  Calls Try.prog 43 #[.int .u64 p,.slice A l.length c] w fun e w' => InvR p l w.heap.size w' e ∧ Below w.heap.size w w' := by
 have HR := Aside0.mk hr
 have HOK := Aside0.mk hok
 have HP := Aside0.mk hp
 have HSQ := Aside0.mk (square_yes h0 (by omega) hok)
 clear hr hok hp
 go_enter Try.func43,Try.ntmps43
 go_wp2_with (first
  | (go_at_call 53;(with_reducible refine (matrix_square.calls _ _ _ true _ HR.out hc HSQ.out).mono ?_);rintro e w1 ⟨rfl,hb1⟩;have HB1 := Aside0.mk hb1;clear hb1))
 go_loopg [7,22] l.length (fun kq v7 v22 w' => ∃ (i : Nat) (vs : List Value),v22 = .int .i64 (i : Int) ∧ Aside0 (kq + i = l.length) ∧ Aside0 (Rw w' w.heap.size v7 vs ((wideM l).take i)) ∧ Aside0 (Below w.heap.size w w'))
 case atStart => exact ⟨0,[],rfl,⟨rfl⟩,⟨Rw.nil _ _⟩,HB1⟩
 case round =>
  clear HB1
  obtain ⟨i,vs,rfl,HK,HW,HB⟩ := hrel
  by_cases hlt : i < l.length
  ·
   have q1 : ((i : Int) < (l.length : Int)) = True := eq_true (by omega)
   have q2 : decide (i < l.length) = true := decide_eq_true hlt
   have q3 : ((0 : Int) ≤ (i : Int)) = True := eq_true (by omega)
   obtain ⟨ad,A4,c4,e1,hy1,hc4,hC4⟩ := at_L2 (Kd.C_below HR.out HB.out) (i : Int) (by omega) (by omega)
   cases e1
   rw [Int.toNat_natCast] at hy1
   have hrd : rd_L2 l (i : Int) = l[i] := by unfold rd_L2;rw [Int.toNat_natCast,List.getD_eq_getElem?_getD,List.getElem?_eq_getElem hlt];rfl
   have HNX := Aside0.mk (show (wideM l).take i ++ [l[i] ++ unitR l.length i] = (wideM l).take (i + 1) from by
    have hw := wideM_at hlt
    have hwl : i < (wideM l).length := by rw [wideM_len];exact hlt
    rw [List.take_succ_eq_append_getElem hwl]
    rw [List.getElem?_eq_getElem hwl] at hw
    rw [Option.some.inj hw])
   have hrl := (HOK.out.at hlt).1
   obtain ⟨r,her⟩ : ∃ r,r = l[i] := ⟨_,rfl⟩
   rw [← her] at hrd HNX hrl
   rw [hrd] at hy1 hc4 hC4
   obtain ⟨bu,w3,hmk,hu3,hb3⟩ := mk_words l.length (by omega) wr
   have hbu := own_base hu3 bu rfl
   have HU4 := Aside0.mk (show (w3.setCell ⟨bu,i,none⟩ (.int .u64 1)).ownsRow wr.heap.size 22 1 (.slice (some ⟨bu,0,none⟩) l.length l.length) (unitR l.length i).length (nums .u64 (unitR l.length i)) from by
    have h1 := (hu3.stored i (.int .u64 1)).1
    rw [unitR_len]
    unfold unitR
    rw [show nums .u64 ((List.replicate l.length 0).set i 1) = (nums .u64 (List.replicate l.length 0)).set i (.int .u64 1) from by simp [nums,List.map_set]]
    exact h1)
   have hx3 : w3.cell? ⟨bu,i,none⟩ = some (.int .u64 0) := by
    have := hu3.cells (g := bu) rfl i (.int .u64 0) (by unfold nums;rw [List.getElem?_map,List.getElem?_replicate,if_pos hlt];rfl)
    rwa [Addr.add_lit,Nat.zero_add] at this
   have hf3 : w3.frozen? ⟨bu,i,none⟩ = false := by
    obtain ⟨cs,hcs⟩ := own_typed2 (g := bu) hu3 rfl
    exact blk_frozen hcs i
   have HB4 := Aside0.mk (show Below wr.heap.size wr (w3.setCell ⟨bu,i,none⟩ (.int .u64 1)) from hb3.setCell (p := ⟨bu,i,none⟩) hbu _)
   have HUR : Kd.R (Kd.int .u64) 22 (w3.setCell ⟨bu,i,none⟩ (.int .u64 1)) wr.heap.size (fun _ => True) (.slice (some ⟨bu,0,none⟩) l.length l.length) (unitR l.length i) := Kd.R_of_own HU4.out (fun _ _ => trivial)
   have HCU := Aside0.mk (Kd.R_reads' HUR).2.2
   clear HUR
   have HUL := Aside0.mk (unitR_len l.length i)
   obtain ⟨un,hun⟩ : ∃ x,x = unitR l.length i := ⟨_,rfl⟩
   rw [← hun] at HU4 HCU HUL HNX
   have HCC := Aside0.mk (fun W (hW : Below wr.heap.size wr W) => clone_u64 A4 c4 r W (Kd.C_below hC4 hW) hc4 (by omega))
   have HRL := Aside0.mk hrl
   clear her hrd hC4 hu3 hb3 hun hrl
   go_wp2_with (first
    | (go_at_call 76;(with_reducible refine (HCC.out _ HB4.out).mono ?_);rintro e w5 ⟨v5,rfl,ho5,hb5⟩;have HO5 := Aside0.mk (Kd.R_lower ho5 (below_size HB4.out));have HB5 := Aside0.mk (below_step HB4.out hb5);have HU5 := Aside0.mk (own_below0 HU4.out hb5);have HC5 := Aside0.mk (Kd.C_below HCU.out hb5);clear ho5 hb5)
    | ((with_reducible refine gate_builtin (b := .append) (xs := #[.tmp 34,.tmp 35]) rfl ?_);at_builtin;refine Kd.R_append_rows (Kd.int .u64) (w0 := wr) wr.heap.size rfl (.tmp 34) (.tmp 35) 40 22 (.int .u64 0) 8 rfl Try.underlying40 info22 rfl (by decide) (by omega) v5 r un (some ⟨bu,0,none⟩) un.length l.length (fun _ => True) (fun _ => False) rfl (by rw [HUL.out];rfl) HO5.out HC5.out (fun _ _ h => h) (fun _ h => h.elim) (fun _ _ => trivial) HB5.out (below_size HB5.out) (by rw [HRL.out,HUL.out];omega) ?_;intro v6 w6 ho6 hb6 hg6 ha6;obtain ⟨A6,c6,ev6⟩ := Kd.R_slice ho6;subst ev6;have HB6 := Aside0.mk (below_step HB.out hb6);have HW6 := Aside0.mk (HW.out.below hb6);have HO6 := Aside0.mk (show w6.ownsRow w.heap.size 22 1 (.slice A6 (r.length + un.length) c6) (r ++ un).length (nums .u64 (r ++ un)) from by have h9 := own_weaken (Kd.own_of_R ho6) (below_size HB.out);rw [List.length_append] at h9 ⊢;exact h9);clear ho6 hb6 hg6 ha6)
    | ((with_reducible refine gate_builtin (b := .append) (xs := #[.tmp 32,.tmp 37]) rfl ?_);at_builtin;refine Kd.R_append (Kd.raw 1) (w0 := w) w.heap.size rfl (.tmp 32) (.tmp 37) 25 40 (.slice none 0 0) 24 rfl Try.underlying25 info40 rfl (by decide) (by omega) u7 (vs.map fun v => [v]) [.slice A6 (r.length + un.length) c6] [.slice A6 (r.length + un.length) c6] (fun _ => True) (fun _ => False) rfl rfl ?aP (fun _ hk => hk.elim) ?aF ?aO ?aB ?aS ?aL ?_;(case aP => exact ⟨rfl,rfl,by intro u9 hu9;rw [List.mem_singleton.1 hu9];rfl⟩);(case aB => exact HB6.out);(case aF => exact (fun _ _ => trivial));(case aO => exact HW6.out.arr);(case aS => exact (below_size HB6.out));(case aL => have h9 := HW6.out.len;rw [List.length_map];rw [List.length_take] at h9;omega);intro v7 w7 ho7 hb7 hg7 ha7;have HW7 := Aside0.mk (HW6.out.add HO6.out hg7 ho7);have HB7 := Aside0.mk hb7;clear ho7 hb7 hg7 ha7))
   go_roundg (l.length - (i + 1))
   case measure => have := HK.out;omega
   case rel => exact ⟨i + 1,vs ++ [.slice A6 (r.length + un.length) c6],by go_num,⟨by omega⟩,⟨by rw [← HNX.out];exact HW7.out⟩,HB7⟩
  ·have q1 : ((i : Int) < (l.length : Int)) = False := eq_false (by omega)
   have q2 : decide (i < l.length) = false := decide_eq_false hlt
   have HF := Aside0.mk (show (wideM l).take i = wideM l from List.take_of_length_le (by rw [wideM_len];omega))
   rw [HF.out] at HW
   obtain ⟨Aw,cw,ew,hcw,hCw⟩ := HW.out.reads (by rw [wideM_len];omega)
   rw [wideM_len] at ew hcw
   subst ew
   have HRW := Aside0.mk (reduce_walk p HP.out Aw cw (wideM l) (l.length + l.length) l.length wr hCw (by rw [wideM_len];exact hcw) (by rw [wideM_len];exact h0) (by rw [wideM_len];omega) (by omega) (by omega) (wideM_ok HP.out HOK.out) (by omega))
   rw [wideM_len] at HRW
   have HRO := Aside0.mk (red_ok HP.out (wideM_ok HP.out HOK.out) l.length)
   rw [wideM_len] at HRO
   obtain ⟨S,hS⟩ : ∃ S,S = red p (wideM l) l.length := ⟨_,rfl⟩
   rw [← hS] at HRW HRO
   have HSS := Aside0.mk hS
   clear hS HF HW HK HSQ hCw
   obtain ⟨rs,ps,det⟩ := S
   have HRL := Aside0.mk (show rs.length = l.length from HRO.out.len)
   have HRR := Aside0.mk (show RowsOk p (l.length + l.length) rs from HRO.out.rows)
   have hpl : ps.length ≤ l.length := HRO.out.piv
   by_cases hps : ps.length < l.length
   ·have z1 : ((ps.length : Int) < (l.length : Int)) = True := eq_true (by omega)
    have z2 : decide (ps.length < l.length) = true := decide_eq_true hps
    go_wp2_with (first
     | (go_at_call 54;(with_reducible refine HRW.out.mono ?_);rintro e w2 ⟨⟨⟨bw,mv,vs2,pv,rfl,hwk⟩⟩,hb2⟩;have HWK := Aside0.mk hwk;have HB2 := Aside0.mk (below_step HB.out hb2);obtain ⟨Ap,cp,epv⟩ := own_slice hwk.piv;subst epv;have hc2 := hwk.c2;clear hb2 hwk))
    first|go_ret2|((try simp only [Exit.inBlock,Exit.then]);refine bodyPost_ret (results_tmp2 rfl _ _ _) rfl ?_)
    refine ⟨?_,HB2.out⟩
    unfold InvR
    rw [← HSS.out,if_pos hps]
    rfl
   ·have z1 : ((ps.length : Int) < (l.length : Int)) = False := eq_false (by omega)
    have z2 : decide (ps.length < l.length) = false := decide_eq_false hps
    go_wp2_with (first
     | (go_at_call 54;(with_reducible refine HRW.out.mono ?_);rintro e w2 ⟨⟨⟨bw,mv,vs2,pv,rfl,hwk⟩⟩,hb2⟩;obtain ⟨bo,co,emv,_,hbo⟩ := hwk.mform (by rw [HRL.out];exact h0);rw [HRL.out] at emv;subst emv;have HWK := Aside0.mk hwk;have HB2 := Aside0.mk (below_step HB.out hb2);obtain ⟨Ap,cp,epv⟩ := own_slice hwk.piv;subst epv;have hc2 := hwk.c2;have hc1 := hwk.c1;clear hb2 hwk))
    go_loopg [12,56] l.length (fun kq v12 v56 w' => ∃ (a : Nat) (hs : List Value),v56 = .int .i64 (a : Int) ∧ Aside0 (kq + a = l.length) ∧ Aside0 (hs.length = a ∧ ∀ (j : Nat) v,hs[j]? = some v → CutAt vs2 l.length j v) ∧ Aside0 ((Kd.raw 1).R 40 w' w2.heap.size (fun _ => True) v12 (hs.map fun v => [v])) ∧ Aside0 (Below w2.heap.size w2 w'))
    case atStart => exact ⟨0,[],rfl,⟨rfl⟩,⟨rfl,fun j v h => by simp at h⟩,⟨Kd.R_nil _ _ _ _ _⟩,⟨Below.refl _ _⟩⟩
    case round =>
     clear hc1 hc2
     obtain ⟨a,hs,rfl,HKa,HH,HO,HBa⟩ := hrel
     by_cases hla : a < l.length
     ·have q1 : ((a : Int) < (l.length : Int)) = True := eq_true (by omega)
      have q2 : decide (a < l.length) = true := decide_eq_true hla
      have q3 : ((0 : Int) ≤ (a : Int)) = True := eq_true (by omega)
      have ha2 : a < rs.length := by rw [HRL.out];exact hla
      obtain ⟨b,cb,hv,hcb,_⟩ := HWK.out.rform a ha2 (by rw [(HRR.out.at ha2).1];omega)
      rw [(HRR.out.at ha2).1] at hv hcb
      have hx := pw_cell_below HBa.out (HWK.out.ahead hv)
      have HCA := Aside0.mk (show CutAt vs2 l.length a (.slice (some ⟨b,l.length,none⟩) l.length (cb - l.length)) from ⟨b,cb,hv,hcb,rfl⟩)
      clear hv ha2
      go_wp2_with (first|((with_reducible refine gate_builtin (b := .append) (xs := #[.tmp 60,.tmp 64]) rfl ?_);at_builtin;refine Kd.R_append (Kd.raw 1) (w0 := w2) w2.heap.size rfl (.tmp 60) (.tmp 64) 25 40 (.slice none 0 0) 24 rfl Try.underlying25 info40 rfl (by decide) (by omega) u12 (hs.map fun v => [v]) [.slice (some ⟨b,l.length,none⟩) l.length (cb - l.length)] [.slice (some ⟨b,l.length,none⟩) l.length (cb - l.length)] (fun _ => True) (fun _ => False) rfl rfl ?aP (fun _ hk => hk.elim) ?aF ?aO ?aB ?aS ?aL ?_;(case aP => exact ⟨rfl,rfl,by intro u9 hu9;rw [List.mem_singleton.1 hu9];rfl⟩);(case aB => exact HBa.out);(case aF => exact (fun _ _ => trivial));(case aO => exact HO.out);(case aS => exact (below_size HBa.out));(case aL => have h9 := HH.out.1;rw [List.length_map];omega);intro v7 w7 ho7 hb7 hg7 ha7;have HO7 := Aside0.mk ho7;have HB7 := Aside0.mk hb7;clear ho7 hb7 hg7 ha7))
      go_roundg (l.length - (a + 1))
      case measure => have := HKa.out;omega
      case rel =>
       refine ⟨a + 1,hs ++ [.slice (some ⟨b,l.length,none⟩) l.length (cb - l.length)],by go_num,⟨by omega⟩,⟨by rw [List.length_append,HH.out.1];rfl,?_⟩,⟨by rw [List.map_append];exact HO7.out⟩,HB7⟩
       intro j v hj
       rcases Nat.lt_or_ge j hs.length with h9|h9
       ·rw [List.getElem?_append_left h9] at hj
        exact HH.out.2 j v hj
       ·have h8 := (List.getElem?_eq_some_iff.1 hj).1
        rw [List.length_append] at h8
        have h7 : j = hs.length := by have : [(Value.slice (some ⟨b,l.length,none⟩) l.length (cb - l.length))].length = 1 := rfl;omega
        subst h7
        rw [List.getElem?_append_right (Nat.le_refl _),Nat.sub_self] at hj
        rw [← Option.some.inj hj,HH.out.1]
        exact HCA.out
     ·have q1 : ((a : Int) < (l.length : Int)) = False := eq_false (by omega)
      have q2 : decide (a < l.length) = false := decide_eq_false hla
      have HA := Aside0.mk (show a = l.length from by have := HKa.out;omega)
      go_wp2
      first|go_ret2|((try simp only [Exit.inBlock,Exit.then]);refine bodyPost_ret (results_tmp2 rfl _ _ _) rfl ?_)
      refine ⟨?_,below_step HB2.out HBa.out⟩
      have hml : (rs.map (·.drop l.length)).length = l.length := by rw [List.length_map];exact HRL.out
      have hsz := below_size HB.out
      have hgo : ∀ W : World,(∀ k,w.heap.size ≤ k → k < wr.heap.size → W.heap[k]? = wr.heap[k]?) → ∃ A' c',u12 = .slice A' (rs.map (·.drop l.length)).length c' ∧ (rs.map (·.drop l.length)).length ≤ c' ∧ Kd.C (Kd.slice 22 (Kd.int .u64)) W A' (rs.map (·.drop l.length)).length (rs.map (·.drop l.length)) := by
       intro W hW
       have hmv : ∀ {e : TypeId} {n : Nat} {v : Value} {xs : List Value} {B : Nat},w.heap.size ≤ B → wr.ownsRow B e 1 v n xs → W.ownsRow B e 1 v n xs := fun hB h => own_move h fun k hk => hW k (Nat.le_trans hB (own_base h k hk)) (own_lt h k hk)
       refine hdr_reads (rs := rs.map (·.drop l.length)) (hmv (below_size HB2.out) (raw_own HO.out)) (by rw [hml,HH.out.1];exact HA.out.symm) (by rw [hml];omega) ?_
       intro j v r hv hr
       obtain ⟨b,cb,h1,h2,rfl⟩ := HH.out.2 j v hv
       rw [List.getElem?_map] at hr
       obtain ⟨r0,hr0,rfl⟩ := Option.map_eq_some_iff.1 hr
       have hrl := (HRR.out r0 (List.mem_of_getElem? hr0)).1
       have hro := hmv hsz (own_below0 (HWK.out.row j _ r0 h1 hr0) HBa.out)
       exact ⟨some ⟨b,l.length,none⟩,cb - l.length,by rw [List.length_drop,hrl];congr 1;omega,by rw [List.length_drop,hrl];omega,C_cut (fun j2 hj2 => own_cell0 hro hj2) (by rw [hrl];omega)⟩
      obtain ⟨A',c',e,hc',hC⟩ := hgo wr (fun k _ _ => rfl)
      rw [hml] at e hc' hC
      unfold InvR
      rw [← HSS.out,if_neg hps]
      refine ⟨A',c',?_,hc',fun W hW => ?_⟩
      ·show Ending.returned (.tuple #[u12,.int .i64 0]) = _
       rw [e]
      ·obtain ⟨A2,c2,e2,_,hC2⟩ := hgo W hW
       rw [hml] at e2 hC2
       rw [e] at e2
       injection e2 with e3 _ _
       rw [e3]
       exact hC2
def selN (keys : List Int) (b : Bool) (n : Nat) : List Nat := (List.range n).filter fun (i : Nat) => decide ((i : Int) ∈ keys) == b
def selR (keys : List Int) (b : Bool) (n : Nat) : List Int := (selN keys b n).map fun (i : Nat) => (i : Int)
theorem selN_next (keys : List Int) (b : Bool) (n : Nat) : selN keys b (n + 1) = if (decide ((n : Int) ∈ keys) == b) = true then selN keys b n ++ [n] else selN keys b n := by
 unfold selN
 rw [List.range_succ,List.filter_append]
 by_cases h : (decide ((n : Int) ∈ keys) == b) = true
 ·rw [if_pos h]
  congr 1
  exact List.filter_cons_of_pos (p := fun (i : Nat) => decide ((i : Int) ∈ keys) == b) h
 ·rw [if_neg h]
  have e : List.filter (fun (i : Nat) => decide ((i : Int) ∈ keys) == b) [n] = [] := List.filter_cons_of_neg (p := fun (i : Nat) => decide ((i : Int) ∈ keys) == b) h
  rw [e,List.append_nil]
theorem selR_next (keys : List Int) (b : Bool) (n : Nat) : selR keys b (n + 1) = if (decide ((n : Int) ∈ keys) == b) = true then selR keys b n ++ [(n : Int)] else selR keys b n := by
 unfold selR
 rw [selN_next]
 split
 ·rw [List.map_append];rfl
 ·rfl
theorem selR_mem {keys : List Int} {b : Bool} {n : Nat} {x : Int} : x ∈ selR keys b n ↔ (0 ≤ x ∧ x < n ∧ (x ∈ keys ↔ b = true)) := by
 unfold selR selN
 simp only [List.mem_map,List.mem_filter,List.mem_range,beq_iff_eq]
 constructor
 ·rintro ⟨i,⟨h1,h2⟩,rfl⟩
  refine ⟨by omega,by omega,?_⟩
  rw [← h2];simp
 ·rintro ⟨h1,h2,h3⟩
  refine ⟨x.toNat,⟨by omega,?_⟩,by omega⟩
  rw [show ((x.toNat : Nat) : Int) = x from by omega]
  cases b with
  | true => exact decide_eq_true (h3.2 rfl)
  | false => exact decide_eq_false fun h => by have := h3.1 h;cases this
theorem selR_nodup (keys : List Int) (b : Bool) (n : Nat) : (selR keys b n).Nodup := by
 unfold selR selN
 have h1 : (List.filter (fun (i : Nat) => decide ((i : Int) ∈ keys) == b) (List.range n)).Nodup := (List.nodup_range (n := n)).sublist List.filter_sublist
 exact List.Pairwise.map (R := fun a c => a ≠ c) (fun (i : Nat) => (i : Int)) (fun a c (h : a ≠ c) => fun e => h (by omega)) h1
theorem selR_len_le (keys : List Int) (b : Bool) (n : Nat) : (selR keys b n).length ≤ n := by
 unfold selR selN
 rw [List.length_map]
 exact Nat.le_trans (List.length_filter_le _ _) (by simp)
theorem selR_yes {keys : List Int} {n : Nat} (hn : keys.Nodup) (h : ∀ x ∈ keys,0 ≤ x ∧ x < n) : (selR keys true n).length = keys.length := by
 refine List.Perm.length_eq ((List.perm_ext_iff_of_nodup (selR_nodup _ _ _) hn).2 fun a => ?_)
 rw [selR_mem]
 exact ⟨fun h2 => h2.2.2.2 rfl,fun h2 => ⟨(h a h2).1,(h a h2).2,⟨fun _ => rfl,fun _ => h2⟩⟩⟩
theorem selN_sum (keys : List Int) : ∀ n,(selN keys true n).length + (selN keys false n).length = n
 | 0 => rfl
 | n + 1 => by
  have ih := selN_sum keys n
  rw [selN_next,selN_next]
  cases h : decide ((n : Int) ∈ keys)
  ·rw [if_neg (by decide),if_pos (by decide),List.length_append,List.length_singleton];omega
  ·rw [if_pos (by decide),if_neg (by decide),List.length_append,List.length_singleton];omega
theorem selR_no {keys : List Int} {n : Nat} (hn : keys.Nodup) (h : ∀ x ∈ keys,0 ≤ x ∧ x < n) : (selR keys false n).length + keys.length = n := by
 have h1 := selR_yes hn h
 have h2 := selN_sum keys n
 unfold selR at h1 ⊢
 rw [List.length_map] at h1 ⊢
 omega
def fillN (cols vals : List Int) (all : List Int) : Nat → List Int
 | 0 => all
 | j + 1 => (fillN cols vals all j).set (rd cols (j : Int)).toNat (vals.getD j 0)
theorem fillN_len (cols vals all : List Int) : ∀ j,(fillN cols vals all j).length = all.length
 | 0 => rfl
 | j + 1 => by unfold fillN;rw [List.length_set,fillN_len cols vals all j]
theorem fillN_res {p : Int} (hp : Supp p) {cols vals all : List Int} (hv : ∀ x ∈ vals,Res p x) (ha : ∀ x ∈ all,Res p x) : ∀ j,∀ x ∈ fillN cols vals all j,Res p x
 | 0 => ha
 | j + 1 => fun x hx => by
  rcases List.mem_or_eq_of_mem_set hx with h|rfl
  ·exact fillN_res hp hv ha j x h
  ·by_cases hj : j < vals.length
   ·exact res_at hv hj
   ·rw [List.getD_eq_getElem?_getD,List.getElem?_eq_none (by omega)];have := hp.bd;exact ⟨Int.le_refl 0,by show (0 : Int) < p;omega⟩
def cpN (m : List (List Int)) : Nat := (m.getD 0 []).length
def cpRows (m : List (List Int)) (outs : List S56) : List Int := selR (keys7 (ptsM outs)) true m.length
def cpCols (m : List (List Int)) (ins : List S56) : List Int := selR (keys7 (ptsM ins)) false (cpN m)
def cpAll0 (m : List (List Int)) (ins : List S56) : List Int := (List.range (cpN m)).map fun (k : Nat) => val7 (ptsM ins) (k : Int)
def cpRed (p : Int) (m : List (List Int)) (ins outs : List S56) : List (List Int) × List Int × Int := red p (wideM (subM m (cpRows m outs) (cpCols m ins))) (cpRows m outs).length
def cpInv (p : Int) (m : List (List Int)) (ins outs : List S56) : List (List Int) := (cpRed p m ins outs).1.map (·.drop (cpRows m outs).length)
def cpLeft (p : Int) (m : List (List Int)) (ins outs : List S56) : List Int := (cpRows m outs).map fun i => (val7 (ptsM outs) i - dotP p (rd_L2 m i) (cpAll0 m ins) (cpN m)) % p
def cpVals (p : Int) (m : List (List Int)) (ins outs : List S56) : List Int := (cpInv p m ins outs).map fun r => dotP p r (cpLeft p m ins outs) (cpRows m outs).length
def cpAll1 (p : Int) (m : List (List Int)) (ins outs : List S56) : List Int := fillN (cpCols m ins) (cpVals p m ins outs) (cpAll0 m ins) (cpRows m outs).length
def cpOut (p : Int) (m : List (List Int)) (all : List Int) : List Int := m.map fun r => dotP p r all (cpN m)
def cpGo (m : List (List Int)) (ins outs : List S56) : Bool := flatB m && (plcB ins (cpN m : Int) && (plcB outs (m.length : Int) && decide ((ins.length : Int) + (outs.length : Int) = (cpN m : Int))))
def cpR (p : Int) (m : List (List Int)) (ins outs : List S56) : List Int × List Int × Int :=
 if cpGo m ins outs = true then
  if (cpRows m outs).length = 0 then (cpAll0 m ins,cpOut p m (cpAll0 m ins),0)
  else if (cpRed p m ins outs).2.1.length < (cpRows m outs).length then ([],[],8)
  else (cpAll1 p m ins outs,cpOut p m (cpAll1 p m ins outs),0)
 else ([],[],1)
structure CpOk (p : Int) (m : List (List Int)) (ins outs : List S56) : Prop where
 hp : Supp p
 lm : m.length ≤ 60
 rows : ∀ r ∈ m,r.length ≤ 60 ∧ ∀ x ∈ r,Res p x
 li : ins.length ≤ 60
 lo : outs.length ≤ 60
 pi : ∀ x ∈ ins,(0 ≤ x.f0 ∧ x.f0 < 18446744073709551616) ∧ Res p x.f1
 po : ∀ x ∈ outs,(0 ≤ x.f0 ∧ x.f0 < 18446744073709551616) ∧ Res p x.f1
theorem flatB_iff {m : List (List Int)} : flatB m = true ↔ 0 < m.length ∧ 0 < cpN m ∧ ∀ r ∈ m,r.length = cpN m := by
 unfold flatB cpN;simp only [Bool.and_eq_true,decide_eq_true_eq,List.all_eq_true]
theorem ptsM_keys {pts : List S56} {x : Int} (h : x ∈ keys7 (ptsM pts)) : ∃ y ∈ pts,x = y.f0 := by
 unfold keys7 ptsM at h
 simp only [List.map_map,List.mem_map] at h
 obtain ⟨y,hy,rfl⟩ := h
 exact ⟨y,hy,rfl⟩
theorem ptsM_len (pts : List S56) : (keys7 (ptsM pts)).length = pts.length := by simp [keys7,ptsM]
theorem keys_in {pts : List S56} {n : Nat} (h : plcB pts (n : Int) = true) (h0 : ∀ x ∈ pts,0 ≤ x.f0) : ∀ x ∈ keys7 (ptsM pts),0 ≤ x ∧ x < n := by
 intro x hx
 obtain ⟨y,hy,rfl⟩ := ptsM_keys hx
 exact ⟨h0 y hy,(plcB_iff.1 h).1 y hy⟩
theorem val7_res {p : Int} (hp : Supp p) {pts : List S56} (hnd : (keys7 (ptsM pts)).Nodup) (h : ∀ x ∈ pts,Res p x.f1) (x : Int) : Res p (val7 (ptsM pts) x) := by
 by_cases hx : x ∈ keys7 (ptsM pts)
 ·obtain ⟨q,hq,rfl⟩ := List.mem_map.1 hx
  rw [val7_in hnd hq]
  obtain ⟨y,hy,rfl⟩ := List.mem_map.1 hq
  exact h y hy
 ·rw [val7_out hx];have := hp.bd;exact ⟨Int.le_refl 0,by show (0 : Int) < p;omega⟩
theorem cpAll0_len (m : List (List Int)) (ins : List S56) : (cpAll0 m ins).length = cpN m := by simp [cpAll0]
section
variable {p : Int} {m : List (List Int)} {ins outs : List S56}
theorem cpGo_iff : cpGo m ins outs = true ↔ flatB m = true ∧ plcB ins (cpN m : Int) = true ∧ plcB outs (m.length : Int) = true ∧ (ins.length : Int) + (outs.length : Int) = (cpN m : Int) := by
 unfold cpGo;simp only [Bool.and_eq_true,decide_eq_true_eq]
theorem cp_lens (h : CpOk p m ins outs) (hg : cpGo m ins outs = true) : (cpRows m outs).length = outs.length ∧ (cpCols m ins).length = outs.length := by
 obtain ⟨h1,h2,h3,h4⟩ := cpGo_iff.1 hg
 have k1 := selR_yes (plcB_iff.1 h3).2 (keys_in h3 fun x hx => (h.po x hx).1.1)
 have k2 := selR_no (plcB_iff.1 h2).2 (keys_in h2 fun x hx => (h.pi x hx).1.1)
 rw [ptsM_len] at k1 k2
 unfold cpRows cpCols
 exact ⟨k1,by omega⟩
theorem cp_part (h : CpOk p m ins outs) (hg : cpGo m ins outs = true) : (subM m (cpRows m outs) (cpCols m ins)).length = (cpRows m outs).length ∧ RowsOk p (cpRows m outs).length (subM m (cpRows m outs) (cpCols m ins)) ∧ subOk m (cpRows m outs) (cpCols m ins) = true := by
 obtain ⟨h1,h2,h3,h4⟩ := cpGo_iff.1 hg
 obtain ⟨l1,l2⟩ := cp_lens h hg
 obtain ⟨_,_,hf⟩ := flatB_iff.1 h1
 have hrow : ∀ i ∈ cpRows m outs,(0 ≤ i ∧ i < (m.length : Int)) ∧ (rd_L2 m i) ∈ m := fun i hi => by
  have := selR_mem.1 hi
  refine ⟨⟨this.1,this.2.1⟩,?_⟩
  unfold rd_L2
  rw [List.getD_eq_getElem?_getD,List.getElem?_eq_getElem (by omega)]
  exact List.getElem_mem _
 have hcol : ∀ c ∈ cpCols m ins,0 ≤ c ∧ c < (cpN m : Int) := fun c hc => by have := selR_mem.1 hc;exact ⟨this.1,this.2.1⟩
 refine ⟨by simp [subM],?_,?_⟩
 ·intro r hr
  obtain ⟨i,hi,rfl⟩ := List.mem_map.1 hr
  refine ⟨by rw [List.length_map,l2,l1],fun x hx => ?_⟩
  obtain ⟨c,hc,rfl⟩ := List.mem_map.1 hx
  have hm := (hrow i hi).2
  have hl := hf _ hm
  have hc2 := hcol c hc
  have : rd (rd_L2 m i) c ∈ rd_L2 m i := by
   rw [show c = ((c.toNat : Nat) : Int) from by omega]
   exact rd_mem (by omega)
  exact (h.rows _ hm).2 _ this
 ·refine subOk_iff.2 fun i hi => ⟨(hrow i hi).1.1,(hrow i hi).1.2,fun c hc => ⟨(hcol c hc).1,?_⟩⟩
  rw [hf _ (hrow i hi).2]
  exact (hcol c hc).2
theorem cpAll0_res (h : CpOk p m ins outs) (hg : cpGo m ins outs = true) : ∀ x ∈ cpAll0 m ins,Res p x := by
 obtain ⟨h1,h2,h3,h4⟩ := cpGo_iff.1 hg
 intro x hx
 obtain ⟨k,_,rfl⟩ := List.mem_map.1 hx
 exact val7_res h.hp (plcB_iff.1 h2).2 (fun y hy => (h.pi y hy).2) _
theorem cpLeft_res (h : CpOk p m ins outs) : ∀ x ∈ cpLeft p m ins outs,Res p x := by
 intro x hx
 obtain ⟨k,_,rfl⟩ := List.mem_map.1 hx
 exact Res.mod h.hp _
theorem cpLeft_len : (cpLeft p m ins outs).length = (cpRows m outs).length := by simp [cpLeft]
theorem cpLeft_next {i : Nat} (h : i < (cpRows m outs).length) : (cpLeft p m ins outs).take i ++ [(val7 (ptsM outs) (rd (cpRows m outs) (i : Int)) - dotP p (rd_L2 m (rd (cpRows m outs) (i : Int))) (cpAll0 m ins) (cpN m)) % p] = (cpLeft p m ins outs).take (i + 1) := by
 unfold cpLeft
 rw [← List.map_take,← List.map_take]
 exact map_next (fun i => (val7 (ptsM outs) i - dotP p (rd_L2 m i) (cpAll0 m ins) (cpN m)) % p) (cpRows m outs) i h
theorem cpInv_ok (h : CpOk p m ins outs) (hg : cpGo m ins outs = true) : (cpInv p m ins outs).length = (cpRows m outs).length ∧ RowsOk p (cpRows m outs).length (cpInv p m ins outs) := by
 obtain ⟨e1,e2,e3⟩ := cp_part h hg
 have h2 := e2
 rw [← e1] at e2
 have hw := wideM_ok h.hp e2
 have hr := red_ok h.hp hw (cpRows m outs).length
 unfold cpInv cpRed
 refine ⟨by rw [List.length_map,hr.len,wideM_len,e1],?_⟩
 intro r hr2
 obtain ⟨r0,h0,rfl⟩ := List.mem_map.1 hr2
 obtain ⟨k1,k2⟩ := hr.rows r0 h0
 rw [e1] at k1
 exact ⟨by rw [List.length_drop];omega,fun x hx => k2 x (List.mem_of_mem_drop hx)⟩
theorem cpVals_res (h : CpOk p m ins outs) : ∀ x ∈ cpVals p m ins outs,Res p x := by
 intro x hx
 obtain ⟨r,_,rfl⟩ := List.mem_map.1 hx
 exact dotP_res h.hp _ _ _
end
theorem below_drawn7 {w w1 : World} (h : Drawn0 w w1) : Below w.heap.size w w1 := by
 obtain ⟨nd,rfl⟩ := h
 exact pw_below_drewN (Below.refl _ _) nd
open Go.ChangeMaps (setBlock) in
theorem sb_other {w : World} {r k : Nat} {o : Obj} (h : k ≠ r) : (setBlock w r o).heap[k]? = w.heap[k]? := by
 unfold setBlock
 exact Array.getElem?_setIfInBounds_ne (by omega)
open Go.ChangeMaps (setBlock) in
theorem sb_same {w : World} {r : Nat} {o : Obj} (h : r < w.heap.size) : (setBlock w r o).heap[r]? = some o := by
 unfold setBlock
 simp [h]
open Go.ChangeMaps (setBlock) in
theorem sb_below {w0 w : World} {B r : Nat} {o : Obj} (h : Below B w0 w) (hr : B ≤ r) : Below B w0 (setBlock w r o) :=
 ⟨h.os,h.tape,h.output,by show _ ≤ (Array.setIfInBounds _ _ _).size;rw [Array.size_setIfInBounds];exact h.size,fun k hk => (sb_other (by omega)).trans (h.block k hk)⟩
def seenL (L : List (Int × Int)) (seen : Array Nat) : List (Int × Int) := (L.zipIdx.filter fun e => seen.contains e.2).map Prod.fst
def allS (L : List (Int × Int)) (seen : Array Nat) (n : Nat) : List Int := (List.range n).map fun (k : Nat) => val7 (seenL L seen) (k : Int)
theorem seenL_mem {L : List (Int × Int)} {seen : Array Nat} {q : Int × Int} : q ∈ seenL L seen ↔ ∃ j,L[j]? = some q ∧ seen.contains j = true := by
 unfold seenL
 simp only [List.mem_map,List.mem_filter]
 constructor
 ·rintro ⟨⟨x,j⟩,⟨h1,h2⟩,rfl⟩
  exact ⟨j,by rw [List.mem_zipIdx_iff_getElem?] at h1;exact h1,h2⟩
 ·rintro ⟨j,h1,h2⟩
  exact ⟨(q,j),⟨by rw [List.mem_zipIdx_iff_getElem?];exact h1,h2⟩,rfl⟩
theorem seenL_nodup {L : List (Int × Int)} (h : (keys7 L).Nodup) (seen : Array Nat) : (keys7 (seenL L seen)).Nodup := by
 refine List.Nodup.sublist ?_ h
 unfold keys7 seenL
 refine List.Sublist.map _ ?_
 have : List.Sublist ((L.zipIdx.filter fun e => seen.contains e.2).map Prod.fst) (L.zipIdx.map Prod.fst) := List.Sublist.map _ List.filter_sublist
 rwa [List.zipIdx_map_fst] at this
theorem seenL_none (L : List (Int × Int)) : seenL L #[] = [] := by
 unfold seenL
 rw [List.filter_eq_nil_iff.2 (fun e _ => by simp)]
 rfl
theorem seenL_all {L : List (Int × Int)} {seen : Array Nat} (h : ∀ j,j < L.length → seen.contains j = true) : seenL L seen = L := by
 unfold seenL
 rw [List.filter_eq_self.2 (fun e he => h _ (by have h2 := (List.mem_zipIdx_iff_getElem?).1 he;exact (List.getElem?_eq_some_iff.1 h2).1)),List.zipIdx_map_fst]
theorem allS_len (L : List (Int × Int)) (seen : Array Nat) (n : Nat) : (allS L seen n).length = n := by simp [allS]
theorem allS_none (L : List (Int × Int)) (n : Nat) : allS L #[] n = List.replicate n 0 := by
 unfold allS
 rw [seenL_none]
 apply List.ext_getElem
 ·simp
 ·intro i h1 h2
  simp [val7]
theorem allS_push {L : List (Int × Int)} (hn : (keys7 L).Nodup) {seen : Array Nat} {j n : Nat} {q : Int × Int} (hj : L[j]? = some q) (h0 : 0 ≤ q.1) (hlt : q.1 < n) : (allS L seen n).set q.1.toNat q.2 = allS L (seen.push j) n := by
 have hn2 := seenL_nodup hn (seen.push j)
 have hn1 := seenL_nodup hn seen
 have hin : q ∈ seenL L (seen.push j) := seenL_mem.2 ⟨j,hj,by rw [contains_push];simp⟩
 apply List.ext_getElem
 ·simp [allS]
 ·intro i h1 h2
  rw [List.getElem_set]
  by_cases e : q.1.toNat = i
  ·rw [if_pos e]
   have : (allS L (seen.push j) n)[i] = val7 (seenL L (seen.push j)) (i : Int) := by simp [allS]
   rw [this,show (i : Int) = q.1 from by omega,val7_in hn2 hin]
  ·rw [if_neg e]
   have e1 : (allS L seen n)[i]'(by rw [List.length_set] at h1;exact h1) = val7 (seenL L seen) (i : Int) := by simp [allS]
   have e2 : (allS L (seen.push j) n)[i] = val7 (seenL L (seen.push j)) (i : Int) := by simp [allS]
   rw [e1,e2]
   by_cases hk : (i : Int) ∈ keys7 (seenL L seen)
   ·obtain ⟨r,hr,hri⟩ := List.mem_map.1 hk
    rw [← hri,val7_in hn1 hr]
    obtain ⟨j2,h3,h4⟩ := seenL_mem.1 hr
    exact (val7_in hn2 (seenL_mem.2 ⟨j2,h3,by rw [contains_push,h4];rfl⟩)).symm
   ·rw [val7_out hk,val7_out]
    intro hk2
    obtain ⟨r,hr,hri⟩ := List.mem_map.1 hk2
    obtain ⟨j2,h3,h4⟩ := seenL_mem.1 hr
    rw [contains_push] at h4
    rcases Bool.or_eq_true _ _ |>.mp h4 with h5|h5
    ·exact hk (List.mem_map.2 ⟨r,seenL_mem.2 ⟨j2,h3,h5⟩,hri⟩)
    ·have h6 : j2 = j := by simpa using h5
     rw [h6,hj] at h3
     rw [← Option.some.inj h3] at hri
     omega
theorem ents7_at {L : List (Int × Int)} {e : MapEntry} (h : e ∈ (ents7 L).toList) : ∃ j q,L[j]? = some q ∧ e = ⟨.int .i64 q.1,.int .u64 q.2,j⟩ := by
 unfold ents7 at h
 simp only [List.mem_mapIdx] at h
 obtain ⟨j,hj,rfl⟩ := h
 exact ⟨j,L[j],List.getElem?_eq_getElem hj,rfl⟩
theorem ents7_born (L : List (Int × Int)) : ((ents7 L).toList.map (·.born)) = List.range L.length := by
 unfold ents7
 apply List.ext_getElem
 ·simp
 ·intro i h1 h2
  simp
theorem ents7_all {L : List (Int × Int)} {j : Nat} (h : j < L.length) : ∃ e ∈ (ents7 L).toList,e.born = j := by
 unfold ents7
 simp only [List.mem_mapIdx]
 exact ⟨_,⟨j,h,rfl⟩,rfl⟩
def CpRet (r : List Int × List Int × Int) (w : World) (e : Ending) (w' : World) : Prop :=
 ∃ v0 v1,e = .returned (.tuple #[v0,v1,.int .i64 r.2.2]) ∧ Kd.R (Kd.int .u64) 22 w' w.heap.size (fun _ => True) v0 r.1 ∧ Kd.R (Kd.int .u64) 22 w' w.heap.size (fun _ => True) v1 r.2.1
theorem cpRet_err {c : Int} {w w' : World} {e : Ending} (h : e = .returned (.tuple #[.slice none 0 0,.slice none 0 0,.int .i64 c])) : CpRet ([],[],c) w e w' := ⟨_,_,h,Kd.R_nil _ _ _ _ _,Kd.R_nil _ _ _ _ _⟩
set_option maxHeartbeats 16000000 in
set_option maxRecDepth 100000 in
theorem complete_err {p : Int} {m : List (List Int)} {ins outs : List S56} (h : CpOk p m ins outs) (A1 : Option Addr) (c1 : Nat) (A2 : Option Addr) (c2 : Nat) (A3 : Option Addr) (c3 : Nat) (w : World) (hr1 : Kd.C (Kd.slice 22 (Kd.int .u64)) w A1 m.length m) (hc1 : m.length ≤ c1) (hr2 : Kd.C k56 w A2 ins.length ins) (hc2 : ins.length ≤ c2) (hr3 : Kd.C k56 w A3 outs.length outs) (hc3 : outs.length ≤ c3) (hg : cpGo m ins outs = false) :
  Calls Try.prog 22 #[.int .u64 p,.slice A1 m.length c1,.slice A2 ins.length c2,.slice A3 outs.length c3] w fun e w' => CpRet ([],[],1) w e w' ∧ Below w.heap.size w w' := by
 have HH := Aside0.mk h
 have HR1 := Aside0.mk hr1
 have HR2 := Aside0.mk hr2
 have HR3 := Aside0.mk hr3
 have hli := h.li
 have hlo := h.lo
 obtain ⟨kf,hkf⟩ := (flat_ev m (by have := h.lm;omega)).rounds
 have HF := Aside0.mk hkf
 have HG := Aside0.mk hg
 clear h hr1 hr2 hr3 hkf hg
 by_cases hfl : flatB m = true
 case neg =>
  rw [Bool.eq_false_iff.2 hfl] at HF
  clear hfl
  go_enter Try.func22,Try.ntmps22
  go_wp2_with (first
   | (go_at_call 40;(with_reducible refine (hyperinvertible_flat.calls kf _ _ _ false _ HR1.out hc1 HF.out).mono ?_);rintro e w1 ⟨rfl,hd1⟩;have HB1 := Aside0.mk (below_drawn7 hd1);clear hd1))
  first|go_ret|((try simp only [Exit.inBlock,Exit.then]);refine bodyPost_ret (results_tmp3 rfl _ _ _) rfl ?_)
  exact ⟨cpRet_err rfl,HB1.out⟩
 rw [hfl] at HF
 obtain ⟨h0,hn0,hrect⟩ := flatB_iff.1 hfl
 have hn60 : cpN m ≤ 60 := by
  have h1 : m.getD 0 [] ∈ m := by rw [List.getD_eq_getElem?_getD,List.getElem?_eq_getElem h0];exact List.getElem_mem h0
  exact (HH.out.rows _ h1).1
 have hm60 := HH.out.lm
 obtain ⟨ad,A0,c0,e1,hx0,hc0,_⟩ := at_L2 HR1.out (0 : Int) (by omega) (by omega)
 cases e1
 rw [show ((0 : Int)).toNat = 0 from rfl,Addr.add_zero',show (rd_L2 m 0).length = cpN m from by rw [show (0 : Int) = ((0 : Nat) : Int) from rfl,rdM_nat];rfl] at hx0
 have HX0 := Aside0.mk hx0
 have HNG := Aside0.mk (show ¬ (plcB ins (cpN m : Int) = true ∧ plcB outs (m.length : Int) = true ∧ (ins.length : Int) + (outs.length : Int) = (cpN m : Int)) from fun hh => by
  have := cpGo_iff.2 ⟨hfl,hh⟩
  rw [HG.out] at this;cases this)
 have HKA := Aside0.mk (fun W (hW : Below w.heap.size w W) => known_any A2 c2 ins (cpN m : Int) (by omega) W (Kd.C_below HR2.out hW) hc2 (by omega) (by omega) (fun x hx => (HH.out.pi x hx).1))
 have HKB := Aside0.mk (fun W (hW : Below w.heap.size w W) => known_any A3 c3 outs (m.length : Int) (by omega) W (Kd.C_below HR3.out hW) hc3 (by omega) (by omega) (fun x hx => (HH.out.po x hx).1))
 obtain ⟨n,hn⟩ : ∃ n,n = cpN m := ⟨_,rfl⟩
 rw [← hn] at hn0 hn60 hx0 HX0 HNG HKA
 obtain ⟨ba,hba⟩ : ∃ b,b = plcB ins (n : Int) := ⟨_,rfl⟩
 obtain ⟨bb,hbb⟩ : ∃ b,b = plcB outs (m.length : Int) := ⟨_,rfl⟩
 unfold KnwR at HKA HKB
 rw [← hba] at HKA HNG
 rw [← hbb] at HKB HNG
 have q1 : ((0 : Int) < (m.length : Int)) = True := eq_true (by omega)
 have q2 : (0 < m.length) = True := eq_true h0
 clear hfl hrect hn hba hbb hx0
 cases ba with
 | false =>
  clear HNG
  go_enter Try.func22,Try.ntmps22
  go_wp2_with (first
   | (go_at_call 40;(with_reducible refine (hyperinvertible_flat.calls kf _ _ _ true _ HR1.out hc1 HF.out).mono ?_);rintro e w1 ⟨rfl,hd1⟩;have HB1 := Aside0.mk (below_drawn7 hd1);have hx1 := pw_cell_below HB1.out HX0.out;clear hd1)
   | (go_at_call 41;(with_reducible refine (HKA.out _ HB1.out).mono ?_);rintro e w2 ⟨⟨a2,rfl,_⟩,hb2⟩;have HB2 := Aside0.mk (below_step HB1.out hb2);have hx2 := pw_cell_below HB2.out HX0.out;clear hb2)
   | (go_at_call 41;(with_reducible refine (HKB.out _ HB2.out).mono ?_);rintro e w3 ⟨⟨a3,rfl,_⟩,hb3⟩;have HB3 := Aside0.mk (below_step HB2.out hb3);have hx3 := pw_cell_below HB3.out HX0.out;clear hb3))
  first|go_ret|((try simp only [Exit.inBlock,Exit.then]);refine bodyPost_ret (results_tmp3 rfl _ _ _) rfl ?_)
  exact ⟨cpRet_err rfl,HB3.out⟩
 | true =>
 cases bb with
 | false =>
  clear HNG
  go_enter Try.func22,Try.ntmps22
  go_wp2_with (first
   | (go_at_call 40;(with_reducible refine (hyperinvertible_flat.calls kf _ _ _ true _ HR1.out hc1 HF.out).mono ?_);rintro e w1 ⟨rfl,hd1⟩;have HB1 := Aside0.mk (below_drawn7 hd1);have hx1 := pw_cell_below HB1.out HX0.out;clear hd1)
   | (go_at_call 41;(with_reducible refine (HKA.out _ HB1.out).mono ?_);rintro e w2 ⟨⟨a2,rfl,_⟩,hb2⟩;have HB2 := Aside0.mk (below_step HB1.out hb2);have hx2 := pw_cell_below HB2.out HX0.out;clear hb2)
   | (go_at_call 41;(with_reducible refine (HKB.out _ HB2.out).mono ?_);rintro e w3 ⟨⟨a3,rfl,_⟩,hb3⟩;have HB3 := Aside0.mk (below_step HB2.out hb3);have hx3 := pw_cell_below HB3.out HX0.out;clear hb3))
  first|go_ret|((try simp only [Exit.inBlock,Exit.then]);refine bodyPost_ret (results_tmp3 rfl _ _ _) rfl ?_)
  exact ⟨cpRet_err rfl,HB3.out⟩
 | true =>
  have hs : ¬ (ins.length : Int) + (outs.length : Int) = (n : Int) := fun hh => HNG.out ⟨rfl,rfl,hh⟩
  have z1 : ((ins.length : Int) + (outs.length : Int) != (n : Int)) = true := by simpa using hs
  clear HNG hs
  go_enter Try.func22,Try.ntmps22
  go_wp2_with (first
   | (go_at_call 40;(with_reducible refine (hyperinvertible_flat.calls kf _ _ _ true _ HR1.out hc1 HF.out).mono ?_);rintro e w1 ⟨rfl,hd1⟩;have HB1 := Aside0.mk (below_drawn7 hd1);have hx1 := pw_cell_below HB1.out HX0.out;clear hd1)
   | (go_at_call 41;(with_reducible refine (HKA.out _ HB1.out).mono ?_);rintro e w2 ⟨⟨a2,rfl,_⟩,hb2⟩;have HB2 := Aside0.mk (below_step HB1.out hb2);have hx2 := pw_cell_below HB2.out HX0.out;clear hb2)
   | (go_at_call 41;(with_reducible refine (HKB.out _ HB2.out).mono ?_);rintro e w3 ⟨⟨a3,rfl,_⟩,hb3⟩;have HB3 := Aside0.mk (below_step HB2.out hb3);have hx3 := pw_cell_below HB3.out HX0.out;clear hb3))
  first|go_ret|((try simp only [Exit.inBlock,Exit.then]);refine bodyPost_ret (results_tmp3 rfl _ _ _) rfl ?_)
  exact ⟨cpRet_err rfl,HB3.out⟩
end Go.Proofs.Ytmdoaijkaaaglaa.Hw
end
