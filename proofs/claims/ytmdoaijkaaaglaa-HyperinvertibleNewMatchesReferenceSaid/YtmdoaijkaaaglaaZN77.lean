/- Part 7 of the proof's texts, joined in build order. -/
import Derived.Test.YtmdoaijkaaaglaaZN71
import Derived.Test.YtmdoaijkaaaglaaZN76
import Derived.Maps.RangeRun
import Derived.Test.YtmdoaijkaaaglaaZN75
set_option linter.unusedVariables false
set_option linter.unusedSimpArgs false
section
namespace Go.Proofs.Ytmdoaijkaaaglaa.Pr
open Go.RowKit Go.Proofs.YtmdoaijkaaaglaaW.PrintWords Go.Proofs.YtmdoaijkaaaglaaW.PrintLast Go.Proofs.YtmdoaijkaaaglaaW.PrintMore
attribute [local go_sem] max2_int min2_int max_two min_two max_three min_three max_four min_four
open Go.Proofs.Ytmdoaijkaaaglaa.Hw
def matrix_square.f (l0 : List (List Int)) : Option (Bool) := if (l0.length : Int) > 0 then ((matrix_rect.f l0).bind fun t406 => (if t406 = true then ((matrix_cols.f l0).bind fun t407 => (some ((l0.length : Int) == t407))) else (some false))) else (some false)
set_option maxHeartbeats 8000000 in
set_option maxRecDepth 100000 in
theorem matrix_square.calls (A0 : Option Addr) (c0 : Nat) (l0 : List (List Int)) (r : Bool) (w : World) (hr0 : Kd.C (Kd.slice 22 (Kd.int .u64)) w A0 l0.length l0) (hc0 : l0.length ≤ c0) (h : matrix_square.f l0 = some r) :
  Calls Try.prog 53 #[.slice A0 l0.length c0] w fun e w' => e = .returned (.bool r) ∧ Below w.heap.size w w' := by
 have HR0 := am hr0
 have HC0 := am hc0
 clear hr0 hc0
 have HB := am (Below.refl w.heap.size w)
 have H : (if (l0.length : Int) > 0 then ((matrix_rect.f l0).bind fun t406 => (if t406 = true then ((matrix_cols.f l0).bind fun t407 => (some ((l0.length : Int) == t407))) else (some false))) else (some false)) = some r := h
 clear h
 by_cases c2 : (l0.length : Int) > 0
 ·rw [if_pos c2] at H
  have c2b0 : decide (0 < (l0.length : Int)) = true := decide_eq_true c2
  have c2b1 : decide (0 < l0.length) = true := decide_eq_true (by omega)
  clear c2
  replace H := Option.bind_eq_some_iff.mp H
  obtain ⟨t406,A30,H⟩ := H
  try dsimp only at H
  have A3 := am A30
  clear A30
  by_cases c4 : t406 = true
  ·subst c4
   rw [if_pos rfl] at H
   replace H := Option.bind_eq_some_iff.mp H
   obtain ⟨t407,A50,H⟩ := H
   try dsimp only at H
   have A5 := am A50
   clear A50
   obtain rfl := Option.some.inj H
   go_enter Try.func53,Try.ntmps53
   go_wp2_with (first|(go_at_call 55;(with_reducible refine (matrix_rect.calls _ _ l0 true _ ?side1 ?side2 A3.out).mono ?_);(case side1 => repeat (first|exact HR0.out|(with_reducible refine Kd.C_alloc ?_ _)|(with_reducible refine Kd.C_drewN ?_ _)|(with_reducible refine Kd.C_drew ?_)));(case side2 => exact HC0.out);rintro e w6 ⟨rfl,hb⟩;have n0_ := am (below_step (bb HB) hb);clear HB;have HB := n0_;clear n0_;(try clear hb);(try clear hb2);(try clear hk);(try clear hi))|(go_at_call 56;(with_reducible refine (matrix_cols.calls _ _ l0 t407 _ ?side1 ?side2 A5.out).mono ?_);(case side1 => exact cb HR0 HB);(case side2 => exact HC0.out);rintro e w' ⟨rfl,⟨nd,rfl⟩⟩))
   go_ret
   exact ⟨by first|rfl|(simp [errW_none,errW_some] <;> rfl)|(simp [*,errW_none,errW_some] <;> rfl),bb HB⟩
  ·replace c4 := Bool.eq_false_iff.mpr c4
   subst c4
   rw [if_neg (show ¬ (false = true) by decide)] at H
   obtain rfl := Option.some.inj H
   go_enter Try.func53,Try.ntmps53
   go_wp2_with (first|(go_at_call 55;(with_reducible refine (matrix_rect.calls _ _ l0 false _ ?side1 ?side2 A3.out).mono ?_);(case side1 => repeat (first|exact HR0.out|(with_reducible refine Kd.C_alloc ?_ _)|(with_reducible refine Kd.C_drewN ?_ _)|(with_reducible refine Kd.C_drew ?_)));(case side2 => exact HC0.out);rintro e w7 ⟨rfl,hb⟩;have n0_ := am (below_step (bb HB) hb);clear HB;have HB := n0_;clear n0_;(try clear hb);(try clear hb2);(try clear hk);(try clear hi)))
   go_ret
   exact ⟨by first|rfl|(simp [errW_none,errW_some] <;> rfl)|(simp [*,errW_none,errW_some] <;> rfl),bb HB⟩
 ·rw [if_neg c2] at H
  have c2b0 : decide (0 < (l0.length : Int)) = false := decide_eq_false c2
  have c2b1 : decide (0 < l0.length) = false := decide_eq_false (by omega)
  clear c2
  obtain rfl := Option.some.inj H
  go_enter Try.func53,Try.ntmps53
  go_wp2
  go_ret
  exact ⟨by first|rfl|(simp [errW_none,errW_some] <;> rfl)|(simp [*,errW_none,errW_some] <;> rfl),bb HB⟩
end Go.Proofs.Ytmdoaijkaaaglaa.Pr
end
section
namespace Go.Proofs.Ytmdoaijkaaaglaa.Hw
open Go.RowKit Go.Proofs.Ytmdoaijkaaaglaa.Pr Go.Proofs.YtmdoaijkaaaglaaW.PrintWords Go.Proofs.YtmdoaijkaaaglaaW.PrintLast Go.Proofs.YtmdoaijkaaaglaaW.PrintMore Go.Proofs.Ytmdoaijkaaaglaa.E
theorem info64W : (Try.prog.info? 22).map (fun i => (i.zero,i.size,i.bytes)) = some (some (.int .u64 0),1,8) := by kernel_rfl
theorem mk_words (n : Nat) (hn : n ≤ 1000000) (w : World) :
  ∃ bu w1,(Instr.makeSlice 40 (.int .i64 (n : Int)) (.int .i64 (n : Int))).run Try.prog w = .ok (.slice (some ⟨bu,0,none⟩) n n) w1 ∧ w1.ownsRow w.heap.size 22 1 (.slice (some ⟨bu,0,none⟩) n n) n (nums .u64 (List.replicate n 0)) ∧ Below w.heap.size w w1 := by
 obtain ⟨i0,hi,hzz⟩ := Option.map_eq_some_iff.1 info64W
 simp only [Prod.mk.injEq] at hzz
 obtain ⟨hz0,hz1,hz2⟩ := hzz
 obtain ⟨w1,hr,ho,hg⟩ := run_make_full (P := Try.prog) w w.heap.size 40 22 i0 (.int .u64 0) 1 Try.underlying40 hi hz0 hz1 .i64 .i64 n (by rw [hz2];omega) (by unfold maxLen;omega) (Nat.le_refl _)
 refine ⟨_,w1,hr,?_,⟨hg.os,hg.tape,hg.output,hg.size,fun k hk => hg.block k hk (by simp)⟩⟩
 have e : (madeCells (Value.int .u64 0).cells (n * 1)).toList = nums .u64 (List.replicate n 0) := by
  rw [Nat.mul_one,show (Value.int .u64 0).cells = #[Value.int .u64 0] from rfl,toList_madeCells_one]
  simp [nums]
 rw [e] at ho
 exact ho
structure Rw (w : World) (base : Nat) (mv : Value) (vs : List Value) (rs : List (List Int)) : Prop where
 arr : (Kd.raw 1).R 40 w base (fun _ => True) mv (vs.map fun v => [v])
 len : rs.length = vs.length
 row : ∀ (j : Nat) v r,vs[j]? = some v → rs[j]? = some r → w.ownsRow base 22 1 v r.length (nums .u64 r)
theorem Rw.nil (w : World) (base : Nat) : Rw w base (.slice none 0 0) [] [] := ⟨Kd.R_nil _ _ _ _ _,rfl,fun j v r h => by simp at h⟩
theorem Rw.below {w w1 : World} {base : Nat} {mv : Value} {vs : List Value} {rs : List (List Int)} (h : Rw w base mv vs rs) (hb : Below w.heap.size w w1) : Rw w1 base mv vs rs :=
 ⟨Kd.R_below h.arr hb,h.len,fun j v r hv hr => own_below0 (h.row j v r hv hr) hb⟩
theorem Rw.add {w w1 : World} {base : Nat} {mv mv1 v : Value} {vs : List Value} {rs : List (List Int)} {r : List Int} (h : Rw w base mv vs rs) (hv : w.ownsRow base 22 1 v r.length (nums .u64 r)) (hg : w.grownBy w1 mv.ownBlock) (hn : (Kd.raw 1).R 40 w1 base (fun _ => True) mv1 ((vs.map fun v => [v]) ++ [[v]])) : Rw w1 base mv1 (vs ++ [v]) (rs ++ [r]) := by
 have ho := raw_own h.arr
 have far : ∀ {n : Nat} {v' : Value} {xs : List Value},w.ownsRow base 22 1 v' n xs → w1.ownsRow base 22 1 v' n xs := by
  intro n v' xs hx
  refine own_grown0 hx hg ?_
  intro k hk e
  obtain ⟨cs,hc⟩ := own_typed2 ho e.symm
  exact own_ne0 hx hc (by decide) k hk rfl
 refine ⟨by rw [List.map_append];exact hn,by simp [h.len],?_⟩
 intro j u r' hu hr'
 rcases Nat.lt_or_ge j vs.length with hj|hj
 ·rw [List.getElem?_append_left hj] at hu
  rw [List.getElem?_append_left (by rw [h.len];exact hj)] at hr'
  exact far (h.row j u r' hu hr')
 ·have hj2 : j = vs.length := by have := (List.getElem?_eq_some_iff.1 hu).1;simp at this;omega
  subst hj2
  rw [List.getElem?_append_right (Nat.le_refl _),Nat.sub_self] at hu
  rw [List.getElem?_append_right (by rw [h.len];exact Nat.le_refl _),h.len,Nat.sub_self] at hr'
  obtain rfl := Option.some.inj hu
  obtain rfl := Option.some.inj hr'
  exact far hv
theorem hdr_reads {w : World} {base : Nat} {mv : Value} {vs : List Value} {rs : List (List Int)} (ha : w.ownsRow base 40 1 mv vs.length vs) (hl : rs.length = vs.length) (hn : rs.length ≤ 1000000)
  (hr : ∀ (j : Nat) v r,vs[j]? = some v → rs[j]? = some r → ∃ A c,v = .slice A r.length c ∧ r.length ≤ c ∧ Kd.C (Kd.int .u64) w A r.length r) : ∃ A c,mv = .slice A rs.length c ∧ rs.length ≤ c ∧ Kd.C (Kd.slice 22 (Kd.int .u64)) w A rs.length rs := by
 rcases ha.2 with ⟨h1,h2⟩|⟨g,cap,cur,h1,hb,hg,hc,hcm,hcs,ht⟩
 ·have : rs.length = 0 := by omega
  rw [this]
  exact ⟨none,0,h1,Nat.le_refl _,by rw [List.length_eq_zero_iff.1 this];exact ⟨rfl,by simp,fun h => by simp at h⟩⟩
 ·refine ⟨some ⟨g,0,none⟩,cap,by rw [hl];exact h1,by omega,⟨rfl,by omega,fun _ => ⟨_,rfl,?_⟩⟩⟩
  intro j r hj
  have hjl := (List.getElem?_eq_some_iff.1 hj).1
  have hv : vs[j]? = some (vs[j]'(by omega)) := List.getElem?_eq_getElem _
  obtain ⟨A,c,e,h3,h4⟩ := hr j _ r hv hj
  refine ⟨[vs[j]'(by omega)],rfl,⟨A,c,by rw [e],h3,h4⟩,?_⟩
  intro i u hu
  rcases i with _|i
  ·simp only [List.getElem?_cons_zero,Option.some.injEq] at hu
   rw [← hu,show (Kd.slice 22 (Kd.int .u64)).sz = 1 from rfl,Nat.mul_one,Nat.add_zero]
   subst h1
   exact ha.cells (g := g) rfl j _ hv
  ·simp at hu
theorem Rw.reads {w : World} {base : Nat} {mv : Value} {vs : List Value} {rs : List (List Int)} (h : Rw w base mv vs rs) (hn : rs.length ≤ 1000000) : ∃ A c,mv = .slice A rs.length c ∧ rs.length ≤ c ∧ Kd.C (Kd.slice 22 (Kd.int .u64)) w A rs.length rs := by
 refine hdr_reads (raw_own h.arr) h.len hn ?_
 intro j v r hv hr
 have := h.row j v r hv hr
 exact Kd.R_reads (Kd.R_of_own (ok := fun _ => True) this (fun _ _ => trivial))
def unitR (m i : Nat) : List Int := (List.replicate m 0).set i 1
def wideM (l : List (List Int)) : List (List Int) := l.mapIdx fun i r => r ++ unitR l.length i
theorem wideM_len (l : List (List Int)) : (wideM l).length = l.length := by simp [wideM]
theorem wideM_at {l : List (List Int)} {i : Nat} (h : i < l.length) : (wideM l)[i]? = some (l[i] ++ unitR l.length i) := by
 unfold wideM
 rw [List.getElem?_mapIdx,List.getElem?_eq_getElem h];rfl
theorem unitR_len (m i : Nat) : (unitR m i).length = m := by simp [unitR]
theorem unitR_res {p : Int} (hp : Supp p) (m i : Nat) : ∀ x ∈ unitR m i,Res p x := by
 intro x hx
 have hb := hp.bd
 rcases List.mem_or_eq_of_mem_set hx with h|rfl
 ·rw [(List.mem_replicate.1 h).2];exact ⟨Int.le_refl _,by omega⟩
 ·exact ⟨by omega,by omega⟩
theorem wideM_ok {p : Int} (hp : Supp p) {l : List (List Int)} (h : RowsOk p l.length l) : RowsOk p (l.length + l.length) (wideM l) := by
 intro x hx
 obtain ⟨i,hi,rfl⟩ := List.getElem_of_mem hx
 have hi2 : i < l.length := by rw [wideM_len] at hi;exact hi
 have e : (wideM l)[i] = l[i] ++ unitR l.length i := by
  have := wideM_at hi2
  rw [List.getElem?_eq_getElem hi] at this
  exact Option.some.inj this
 rw [e]
 refine ⟨by rw [List.length_append,unitR_len,(h.at hi2).1],fun y hy => ?_⟩
 rcases List.mem_append.1 hy with h1|h1
 ·exact (h.at hi2).2 y h1
 ·exact unitR_res hp _ _ y h1
theorem square_yes {p : Int} {l : List (List Int)} (h0 : 0 < l.length) (hl : l.length ≤ 1000) (h : RowsOk p l.length l) : matrix_square.f l = some true := by
 have hf : (rd_L2 l 0) = l[0] := by unfold rd_L2;rw [show ((0 : Int)).toNat = 0 from rfl,List.getD_eq_getElem?_getD,List.getElem?_eq_getElem h0];rfl
 have hrect : matrix_rect.f l = some true := by
  unfold matrix_rect.f
  rw [if_pos (by omega)]
  congr 1
  rw [Bool.not_eq_true',List.any_eq_false]
  intro x hx
  unfold oddRow
  rw [hf,(h x hx).1,(h.at h0).1]
  simp
 unfold matrix_square.f
 rw [if_pos (by omega),hrect]
 simp only [Option.bind_some,if_true]
 unfold matrix_cols.f
 rw [if_neg (by omega),if_pos (by omega),hf,(h.at h0).1]
 simp
theorem own_slice {w : World} {base : Nat} {e : TypeId} {size n : Nat} {v : Value} {xs : List Value} (h : w.ownsRow base e size v n xs) : ∃ A c,v = .slice A n c := by
 rcases h.2 with ⟨h1,h2⟩|⟨g,cap,cur,h1,_⟩
 ·exact ⟨none,0,by rw [h1,h2]⟩
 ·exact ⟨_,_,h1⟩
def CutAt (vs : List Value) (m j : Nat) (v : Value) : Prop := ∃ b c,vs[j]? = some (.slice (some ⟨b,0,none⟩) (m + m) c) ∧ m + m ≤ c ∧ v = .slice (some ⟨b,m,none⟩) m (c - m)
theorem own_cell0 {w : World} {base b n c : Nat} {r : List Int} (h : w.ownsRow base 22 1 (.slice (some ⟨b,0,none⟩) n c) r.length (nums .u64 r)) {j : Nat} (hj : j < r.length) : w.cell? ⟨b,j,none⟩ = some (.int .u64 r[j]) := by
 have := h.cells (g := b) rfl j (.int .u64 r[j]) (by unfold nums;rw [List.getElem?_map,List.getElem?_eq_getElem hj];rfl)
 rwa [Addr.add_lit,Nat.zero_add] at this
theorem C_cut {w : World} {b m : Nat} {r : List Int} (h : ∀ j (hj : j < r.length),w.cell? ⟨b,j,none⟩ = some (.int .u64 r[j])) (hn : r.length ≤ 1000000) : Kd.C (Kd.int .u64) w (some ⟨b,m,none⟩) (r.drop m).length (r.drop m) := by
 refine ⟨rfl,by rw [List.length_drop];omega,fun _ => ⟨_,rfl,fun j x hj => ⟨[.int .u64 x],rfl,rfl,fun i u hu => ?_⟩⟩⟩
 rcases i with _|i
 ·simp only [List.getElem?_cons_zero,Option.some.injEq] at hu
  rw [List.getElem?_drop] at hj
  have hl := (List.getElem?_eq_some_iff.1 hj).1
  rw [List.getElem?_eq_getElem hl] at hj
  rw [← hu,← Option.some.inj hj,← h _ hl,show (Kd.int .u64).sz = 1 from rfl,Nat.mul_one,Nat.add_zero,Addr.add_lit]
 ·simp at hu
def InvR (p : Int) (l : List (List Int)) (base : Nat) (w' : World) (e : Ending) : Prop :=
 if (red p (wideM l) l.length).2.1.length < l.length then e = .returned (.tuple #[.slice none 0 0,.int .i64 8])
 else ∃ A' c',e = .returned (.tuple #[.slice A' l.length c',.int .i64 0]) ∧ l.length ≤ c' ∧ ∀ W : World,(∀ k,base ≤ k → k < w'.heap.size → W.heap[k]? = w'.heap[k]?) → Kd.C (Kd.slice 22 (Kd.int .u64)) W A' l.length ((red p (wideM l) l.length).1.map (·.drop l.length))
set_option maxHeartbeats 8000000 in
set_option maxRecDepth 100000 in
theorem inverse_walk (p : Int) (hp : Supp p) (A : Option Addr) (c : Nat) (l : List (List Int)) (w : World) (hr : Kd.C (Kd.slice 22 (Kd.int .u64)) w A l.length l) (hc : l.length ≤ c) (h0 : 0 < l.length) (hl : l.length ≤ 100) (hok : RowsOk p l.length l) :
  Calls Try.prog 43 #[.int .u64 p,.slice A l.length c] w fun e w' => InvR p l w.heap.size w' e ∧ Below w.heap.size w w' := by
 have HR := Aside0.mk hr
 have HOK := Aside0.mk hok
 have HP := Aside0.mk hp
 have HSQ := Aside0.mk (square_yes h0 (by omega) hok)
 clear hr hok hp
 go_enter Try.func43,Try.ntmps43
 go_wp2_with (first
  | (go_at_call 53;(with_reducible refine (matrix_square.calls _ _ _ true _ HR.out hc HSQ.out).mono ?_);rintro e w1 ⟨rfl,hb1⟩;have HB1 := Aside0.mk hb1;clear hb1))
 go_loopg [7,22] l.length (fun kq v7 v22 w' => ∃ (i : Nat) (vs : List Value),v22 = .int .i64 (i : Int) ∧ Aside0 (kq + i = l.length) ∧ Aside0 (Rw w' w.heap.size v7 vs ((wideM l).take i)) ∧ Aside0 (Below w.heap.size w w'))
 case atStart => exact ⟨0,[],rfl,⟨rfl⟩,⟨Rw.nil _ _⟩,HB1⟩
 case round =>
  clear HB1
  obtain ⟨i,vs,rfl,HK,HW,HB⟩ := hrel
  by_cases hlt : i < l.length
  ·
   have q1 : ((i : Int) < (l.length : Int)) = True := eq_true (by omega)
   have q2 : decide (i < l.length) = true := decide_eq_true hlt
   have q3 : ((0 : Int) ≤ (i : Int)) = True := eq_true (by omega)
   obtain ⟨ad,A4,c4,e1,hy1,hc4,hC4⟩ := at_L2 (Kd.C_below HR.out HB.out) (i : Int) (by omega) (by omega)
   cases e1
   rw [Int.toNat_natCast] at hy1
   have hrd : rd_L2 l (i : Int) = l[i] := by unfold rd_L2;rw [Int.toNat_natCast,List.getD_eq_getElem?_getD,List.getElem?_eq_getElem hlt];rfl
   have HNX := Aside0.mk (show (wideM l).take i ++ [l[i] ++ unitR l.length i] = (wideM l).take (i + 1) from by
    have hw := wideM_at hlt
    have hwl : i < (wideM l).length := by rw [wideM_len];exact hlt
    rw [List.take_succ_eq_append_getElem hwl]
    rw [List.getElem?_eq_getElem hwl] at hw
    rw [Option.some.inj hw])
   have hrl := (HOK.out.at hlt).1
   obtain ⟨r,her⟩ : ∃ r,r = l[i] := ⟨_,rfl⟩
   rw [← her] at hrd HNX hrl
   rw [hrd] at hy1 hc4 hC4
   obtain ⟨bu,w3,hmk,hu3,hb3⟩ := mk_words l.length (by omega) wr
   have hbu := own_base hu3 bu rfl
   have HU4 := Aside0.mk (show (w3.setCell ⟨bu,i,none⟩ (.int .u64 1)).ownsRow wr.heap.size 22 1 (.slice (some ⟨bu,0,none⟩) l.length l.length) (unitR l.length i).length (nums .u64 (unitR l.length i)) from by
    have h1 := (hu3.stored i (.int .u64 1)).1
    rw [unitR_len]
    unfold unitR
    rw [show nums .u64 ((List.replicate l.length 0).set i 1) = (nums .u64 (List.replicate l.length 0)).set i (.int .u64 1) from by simp [nums,List.map_set]]
    exact h1)
   have hx3 : w3.cell? ⟨bu,i,none⟩ = some (.int .u64 0) := by
    have := hu3.cells (g := bu) rfl i (.int .u64 0) (by unfold nums;rw [List.getElem?_map,List.getElem?_replicate,if_pos hlt];rfl)
    rwa [Addr.add_lit,Nat.zero_add] at this
   have hf3 : w3.frozen? ⟨bu,i,none⟩ = false := by
    obtain ⟨cs,hcs⟩ := own_typed2 (g := bu) hu3 rfl
    exact blk_frozen hcs i
   have HB4 := Aside0.mk (show Below wr.heap.size wr (w3.setCell ⟨bu,i,none⟩ (.int .u64 1)) from hb3.setCell (p := ⟨bu,i,none⟩) hbu _)
   have HUR : Kd.R (Kd.int .u64) 22 (w3.setCell ⟨bu,i,none⟩ (.int .u64 1)) wr.heap.size (fun _ => True) (.slice (some ⟨bu,0,none⟩) l.length l.length) (unitR l.length i) := Kd.R_of_own HU4.out (fun _ _ => trivial)
   have HCU := Aside0.mk (Kd.R_reads' HUR).2.2
   clear HUR
   have HUL := Aside0.mk (unitR_len l.length i)
   obtain ⟨un,hun⟩ : ∃ x,x = unitR l.length i := ⟨_,rfl⟩
   rw [← hun] at HU4 HCU HUL HNX
   have HCC := Aside0.mk (fun W (hW : Below wr.heap.size wr W) => clone_u64 A4 c4 r W (Kd.C_below hC4 hW) hc4 (by omega))
   have HRL := Aside0.mk hrl
   clear her hrd hC4 hu3 hb3 hun hrl
   go_wp2_with (first
    | (go_at_call 76;(with_reducible refine (HCC.out _ HB4.out).mono ?_);rintro e w5 ⟨v5,rfl,ho5,hb5⟩;have HO5 := Aside0.mk (Kd.R_lower ho5 (below_size HB4.out));have HB5 := Aside0.mk (below_step HB4.out hb5);have HU5 := Aside0.mk (own_below0 HU4.out hb5);have HC5 := Aside0.mk (Kd.C_below HCU.out hb5);clear ho5 hb5)
    | ((with_reducible refine gate_builtin (b := .append) (xs := #[.tmp 34,.tmp 35]) rfl ?_);at_builtin;refine Kd.R_append_rows (Kd.int .u64) (w0 := wr) wr.heap.size rfl (.tmp 34) (.tmp 35) 40 22 (.int .u64 0) 8 rfl Try.underlying40 info22 rfl (by decide) (by omega) v5 r un (some ⟨bu,0,none⟩) un.length l.length (fun _ => True) (fun _ => False) rfl (by rw [HUL.out];rfl) HO5.out HC5.out (fun _ _ h => h) (fun _ h => h.elim) (fun _ _ => trivial) HB5.out (below_size HB5.out) (by rw [HRL.out,HUL.out];omega) ?_;intro v6 w6 ho6 hb6 hg6 ha6;obtain ⟨A6,c6,ev6⟩ := Kd.R_slice ho6;subst ev6;have HB6 := Aside0.mk (below_step HB.out hb6);have HW6 := Aside0.mk (HW.out.below hb6);have HO6 := Aside0.mk (show w6.ownsRow w.heap.size 22 1 (.slice A6 (r.length + un.length) c6) (r ++ un).length (nums .u64 (r ++ un)) from by have h9 := own_weaken (Kd.own_of_R ho6) (below_size HB.out);rw [List.length_append] at h9 ⊢;exact h9);clear ho6 hb6 hg6 ha6)
    | ((with_reducible refine gate_builtin (b := .append) (xs := #[.tmp 32,.tmp 37]) rfl ?_);at_builtin;refine Kd.R_append (Kd.raw 1) (w0 := w) w.heap.size rfl (.tmp 32) (.tmp 37) 25 40 (.slice none 0 0) 24 rfl Try.underlying25 info40 rfl (by decide) (by omega) u7 (vs.map fun v => [v]) [.slice A6 (r.length + un.length) c6] [.slice A6 (r.length + un.length) c6] (fun _ => True) (fun _ => False) rfl rfl ?aP (fun _ hk => hk.elim) ?aF ?aO ?aB ?aS ?aL ?_;(case aP => exact ⟨rfl,rfl,by intro u9 hu9;rw [List.mem_singleton.1 hu9];rfl⟩);(case aB => exact HB6.out);(case aF => exact (fun _ _ => trivial));(case aO => exact HW6.out.arr);(case aS => exact (below_size HB6.out));(case aL => have h9 := HW6.out.len;rw [List.length_map];rw [List.length_take] at h9;omega);intro v7 w7 ho7 hb7 hg7 ha7;have HW7 := Aside0.mk (HW6.out.add HO6.out hg7 ho7);have HB7 := Aside0.mk hb7;clear ho7 hb7 hg7 ha7))
   go_roundg (l.length - (i + 1))
   case measure => have := HK.out;omega
   case rel => exact ⟨i + 1,vs ++ [.slice A6 (r.length + un.length) c6],by go_num,⟨by omega⟩,⟨by rw [← HNX.out];exact HW7.out⟩,HB7⟩
  ·have q1 : ((i : Int) < (l.length : Int)) = False := eq_false (by omega)
   have q2 : decide (i < l.length) = false := decide_eq_false hlt
   have HF := Aside0.mk (show (wideM l).take i = wideM l from List.take_of_length_le (by rw [wideM_len];omega))
   rw [HF.out] at HW
   obtain ⟨Aw,cw,ew,hcw,hCw⟩ := HW.out.reads (by rw [wideM_len];omega)
   rw [wideM_len] at ew hcw
   subst ew
   have HRW := Aside0.mk (reduce_walk p HP.out Aw cw (wideM l) (l.length + l.length) l.length wr hCw (by rw [wideM_len];exact hcw) (by rw [wideM_len];exact h0) (by rw [wideM_len];omega) (by omega) (by omega) (wideM_ok HP.out HOK.out) (by omega))
   rw [wideM_len] at HRW
   have HRO := Aside0.mk (red_ok HP.out (wideM_ok HP.out HOK.out) l.length)
   rw [wideM_len] at HRO
   obtain ⟨S,hS⟩ : ∃ S,S = red p (wideM l) l.length := ⟨_,rfl⟩
   rw [← hS] at HRW HRO
   have HSS := Aside0.mk hS
   clear hS HF HW HK HSQ hCw
   obtain ⟨rs,ps,det⟩ := S
   have HRL := Aside0.mk (show rs.length = l.length from HRO.out.len)
   have HRR := Aside0.mk (show RowsOk p (l.length + l.length) rs from HRO.out.rows)
   have hpl : ps.length ≤ l.length := HRO.out.piv
   by_cases hps : ps.length < l.length
   ·have z1 : ((ps.length : Int) < (l.length : Int)) = True := eq_true (by omega)
    have z2 : decide (ps.length < l.length) = true := decide_eq_true hps
    go_wp2_with (first
     | (go_at_call 54;(with_reducible refine HRW.out.mono ?_);rintro e w2 ⟨⟨⟨bw,mv,vs2,pv,rfl,hwk⟩⟩,hb2⟩;have HWK := Aside0.mk hwk;have HB2 := Aside0.mk (below_step HB.out hb2);obtain ⟨Ap,cp,epv⟩ := own_slice hwk.piv;subst epv;have hc2 := hwk.c2;clear hb2 hwk))
    first|go_ret2|((try simp only [Exit.inBlock,Exit.then]);refine bodyPost_ret (results_tmp2 rfl _ _ _) rfl ?_)
    refine ⟨?_,HB2.out⟩
    unfold InvR
    rw [← HSS.out,if_pos hps]
    rfl
   ·have z1 : ((ps.length : Int) < (l.length : Int)) = False := eq_false (by omega)
    have z2 : decide (ps.length < l.length) = false := decide_eq_false hps
    go_wp2_with (first
     | (go_at_call 54;(with_reducible refine HRW.out.mono ?_);rintro e w2 ⟨⟨⟨bw,mv,vs2,pv,rfl,hwk⟩⟩,hb2⟩;obtain ⟨bo,co,emv,_,hbo⟩ := hwk.mform (by rw [HRL.out];exact h0);rw [HRL.out] at emv;subst emv;have HWK := Aside0.mk hwk;have HB2 := Aside0.mk (below_step HB.out hb2);obtain ⟨Ap,cp,epv⟩ := own_slice hwk.piv;subst epv;have hc2 := hwk.c2;have hc1 := hwk.c1;clear hb2 hwk))
    go_loopg [12,56] l.length (fun kq v12 v56 w' => ∃ (a : Nat) (hs : List Value),v56 = .int .i64 (a : Int) ∧ Aside0 (kq + a = l.length) ∧ Aside0 (hs.length = a ∧ ∀ (j : Nat) v,hs[j]? = some v → CutAt vs2 l.length j v) ∧ Aside0 ((Kd.raw 1).R 40 w' w2.heap.size (fun _ => True) v12 (hs.map fun v => [v])) ∧ Aside0 (Below w2.heap.size w2 w'))
    case atStart => exact ⟨0,[],rfl,⟨rfl⟩,⟨rfl,fun j v h => by simp at h⟩,⟨Kd.R_nil _ _ _ _ _⟩,⟨Below.refl _ _⟩⟩
    case round =>
     clear hc1 hc2
     obtain ⟨a,hs,rfl,HKa,HH,HO,HBa⟩ := hrel
     by_cases hla : a < l.length
     ·have q1 : ((a : Int) < (l.length : Int)) = True := eq_true (by omega)
      have q2 : decide (a < l.length) = true := decide_eq_true hla
      have q3 : ((0 : Int) ≤ (a : Int)) = True := eq_true (by omega)
      have ha2 : a < rs.length := by rw [HRL.out];exact hla
      obtain ⟨b,cb,hv,hcb,_⟩ := HWK.out.rform a ha2 (by rw [(HRR.out.at ha2).1];omega)
      rw [(HRR.out.at ha2).1] at hv hcb
      have hx := pw_cell_below HBa.out (HWK.out.ahead hv)
      have HCA := Aside0.mk (show CutAt vs2 l.length a (.slice (some ⟨b,l.length,none⟩) l.length (cb - l.length)) from ⟨b,cb,hv,hcb,rfl⟩)
      clear hv ha2
      go_wp2_with (first|((with_reducible refine gate_builtin (b := .append) (xs := #[.tmp 60,.tmp 64]) rfl ?_);at_builtin;refine Kd.R_append (Kd.raw 1) (w0 := w2) w2.heap.size rfl (.tmp 60) (.tmp 64) 25 40 (.slice none 0 0) 24 rfl Try.underlying25 info40 rfl (by decide) (by omega) u12 (hs.map fun v => [v]) [.slice (some ⟨b,l.length,none⟩) l.length (cb - l.length)] [.slice (some ⟨b,l.length,none⟩) l.length (cb - l.length)] (fun _ => True) (fun _ => False) rfl rfl ?aP (fun _ hk => hk.elim) ?aF ?aO ?aB ?aS ?aL ?_;(case aP => exact ⟨rfl,rfl,by intro u9 hu9;rw [List.mem_singleton.1 hu9];rfl⟩);(case aB => exact HBa.out);(case aF => exact (fun _ _ => trivial));(case aO => exact HO.out);(case aS => exact (below_size HBa.out));(case aL => have h9 := HH.out.1;rw [List.length_map];omega);intro v7 w7 ho7 hb7 hg7 ha7;have HO7 := Aside0.mk ho7;have HB7 := Aside0.mk hb7;clear ho7 hb7 hg7 ha7))
      go_roundg (l.length - (a + 1))
      case measure => have := HKa.out;omega
      case rel =>
       refine ⟨a + 1,hs ++ [.slice (some ⟨b,l.length,none⟩) l.length (cb - l.length)],by go_num,⟨by omega⟩,⟨by rw [List.length_append,HH.out.1];rfl,?_⟩,⟨by rw [List.map_append];exact HO7.out⟩,HB7⟩
       intro j v hj
       rcases Nat.lt_or_ge j hs.length with h9|h9
       ·rw [List.getElem?_append_left h9] at hj
        exact HH.out.2 j v hj
       ·have h8 := (List.getElem?_eq_some_iff.1 hj).1
        rw [List.length_append] at h8
        have h7 : j = hs.length := by have : [(Value.slice (some ⟨b,l.length,none⟩) l.length (cb - l.length))].length = 1 := rfl;omega
        subst h7
        rw [List.getElem?_append_right (Nat.le_refl _),Nat.sub_self] at hj
        rw [← Option.some.inj hj,HH.out.1]
        exact HCA.out
     ·have q1 : ((a : Int) < (l.length : Int)) = False := eq_false (by omega)
      have q2 : decide (a < l.length) = false := decide_eq_false hla
      have HA := Aside0.mk (show a = l.length from by have := HKa.out;omega)
      go_wp2
      first|go_ret2|((try simp only [Exit.inBlock,Exit.then]);refine bodyPost_ret (results_tmp2 rfl _ _ _) rfl ?_)
      refine ⟨?_,below_step HB2.out HBa.out⟩
      have hml : (rs.map (·.drop l.length)).length = l.length := by rw [List.length_map];exact HRL.out
      have hsz := below_size HB.out
      have hgo : ∀ W : World,(∀ k,w.heap.size ≤ k → k < wr.heap.size → W.heap[k]? = wr.heap[k]?) → ∃ A' c',u12 = .slice A' (rs.map (·.drop l.length)).length c' ∧ (rs.map (·.drop l.length)).length ≤ c' ∧ Kd.C (Kd.slice 22 (Kd.int .u64)) W A' (rs.map (·.drop l.length)).length (rs.map (·.drop l.length)) := by
       intro W hW
       have hmv : ∀ {e : TypeId} {n : Nat} {v : Value} {xs : List Value} {B : Nat},w.heap.size ≤ B → wr.ownsRow B e 1 v n xs → W.ownsRow B e 1 v n xs := fun hB h => own_move h fun k hk => hW k (Nat.le_trans hB (own_base h k hk)) (own_lt h k hk)
       refine hdr_reads (rs := rs.map (·.drop l.length)) (hmv (below_size HB2.out) (raw_own HO.out)) (by rw [hml,HH.out.1];exact HA.out.symm) (by rw [hml];omega) ?_
       intro j v r hv hr
       obtain ⟨b,cb,h1,h2,rfl⟩ := HH.out.2 j v hv
       rw [List.getElem?_map] at hr
       obtain ⟨r0,hr0,rfl⟩ := Option.map_eq_some_iff.1 hr
       have hrl := (HRR.out r0 (List.mem_of_getElem? hr0)).1
       have hro := hmv hsz (own_below0 (HWK.out.row j _ r0 h1 hr0) HBa.out)
       exact ⟨some ⟨b,l.length,none⟩,cb - l.length,by rw [List.length_drop,hrl];congr 1;omega,by rw [List.length_drop,hrl];omega,C_cut (fun j2 hj2 => own_cell0 hro hj2) (by rw [hrl];omega)⟩
      obtain ⟨A',c',e,hc',hC⟩ := hgo wr (fun k _ _ => rfl)
      rw [hml] at e hc' hC
      unfold InvR
      rw [← HSS.out,if_neg hps]
      refine ⟨A',c',?_,hc',fun W hW => ?_⟩
      ·show Ending.returned (.tuple #[u12,.int .i64 0]) = _
       rw [e]
      ·obtain ⟨A2,c2,e2,_,hC2⟩ := hgo W hW
       rw [hml] at e2 hC2
       rw [e] at e2
       injection e2 with e3 _ _
       rw [e3]
       exact hC2
def selN (keys : List Int) (b : Bool) (n : Nat) : List Nat := (List.range n).filter fun (i : Nat) => decide ((i : Int) ∈ keys) == b
def selR (keys : List Int) (b : Bool) (n : Nat) : List Int := (selN keys b n).map fun (i : Nat) => (i : Int)
theorem selN_next (keys : List Int) (b : Bool) (n : Nat) : selN keys b (n + 1) = if (decide ((n : Int) ∈ keys) == b) = true then selN keys b n ++ [n] else selN keys b n := by
 unfold selN
 rw [List.range_succ,List.filter_append]
 by_cases h : (decide ((n : Int) ∈ keys) == b) = true
 ·rw [if_pos h]
  congr 1
  exact List.filter_cons_of_pos (p := fun (i : Nat) => decide ((i : Int) ∈ keys) == b) h
 ·rw [if_neg h]
  have e : List.filter (fun (i : Nat) => decide ((i : Int) ∈ keys) == b) [n] = [] := List.filter_cons_of_neg (p := fun (i : Nat) => decide ((i : Int) ∈ keys) == b) h
  rw [e,List.append_nil]
theorem selR_next (keys : List Int) (b : Bool) (n : Nat) : selR keys b (n + 1) = if (decide ((n : Int) ∈ keys) == b) = true then selR keys b n ++ [(n : Int)] else selR keys b n := by
 unfold selR
 rw [selN_next]
 split
 ·rw [List.map_append];rfl
 ·rfl
theorem selR_mem {keys : List Int} {b : Bool} {n : Nat} {x : Int} : x ∈ selR keys b n ↔ (0 ≤ x ∧ x < n ∧ (x ∈ keys ↔ b = true)) := by
 unfold selR selN
 simp only [List.mem_map,List.mem_filter,List.mem_range,beq_iff_eq]
 constructor
 ·rintro ⟨i,⟨h1,h2⟩,rfl⟩
  refine ⟨by omega,by omega,?_⟩
  rw [← h2];simp
 ·rintro ⟨h1,h2,h3⟩
  refine ⟨x.toNat,⟨by omega,?_⟩,by omega⟩
  rw [show ((x.toNat : Nat) : Int) = x from by omega]
  cases b with
  | true => exact decide_eq_true (h3.2 rfl)
  | false => exact decide_eq_false fun h => by have := h3.1 h;cases this
theorem selR_nodup (keys : List Int) (b : Bool) (n : Nat) : (selR keys b n).Nodup := by
 unfold selR selN
 have h1 : (List.filter (fun (i : Nat) => decide ((i : Int) ∈ keys) == b) (List.range n)).Nodup := (List.nodup_range (n := n)).sublist List.filter_sublist
 exact List.Pairwise.map (R := fun a c => a ≠ c) (fun (i : Nat) => (i : Int)) (fun a c (h : a ≠ c) => fun e => h (by omega)) h1
theorem selR_len_le (keys : List Int) (b : Bool) (n : Nat) : (selR keys b n).length ≤ n := by
 unfold selR selN
 rw [List.length_map]
 exact Nat.le_trans (List.length_filter_le _ _) (by simp)
theorem selR_yes {keys : List Int} {n : Nat} (hn : keys.Nodup) (h : ∀ x ∈ keys,0 ≤ x ∧ x < n) : (selR keys true n).length = keys.length := by
 refine List.Perm.length_eq ((List.perm_ext_iff_of_nodup (selR_nodup _ _ _) hn).2 fun a => ?_)
 rw [selR_mem]
 exact ⟨fun h2 => h2.2.2.2 rfl,fun h2 => ⟨(h a h2).1,(h a h2).2,⟨fun _ => rfl,fun _ => h2⟩⟩⟩
theorem selN_sum (keys : List Int) : ∀ n,(selN keys true n).length + (selN keys false n).length = n
 | 0 => rfl
 | n + 1 => by
  have ih := selN_sum keys n
  rw [selN_next,selN_next]
  cases h : decide ((n : Int) ∈ keys)
  ·rw [if_neg (by decide),if_pos (by decide),List.length_append,List.length_singleton];omega
  ·rw [if_pos (by decide),if_neg (by decide),List.length_append,List.length_singleton];omega
theorem selR_no {keys : List Int} {n : Nat} (hn : keys.Nodup) (h : ∀ x ∈ keys,0 ≤ x ∧ x < n) : (selR keys false n).length + keys.length = n := by
 have h1 := selR_yes hn h
 have h2 := selN_sum keys n
 unfold selR at h1 ⊢
 rw [List.length_map] at h1 ⊢
 omega
def fillN (cols vals : List Int) (all : List Int) : Nat → List Int
 | 0 => all
 | j + 1 => (fillN cols vals all j).set (rd cols (j : Int)).toNat (vals.getD j 0)
theorem fillN_len (cols vals all : List Int) : ∀ j,(fillN cols vals all j).length = all.length
 | 0 => rfl
 | j + 1 => by unfold fillN;rw [List.length_set,fillN_len cols vals all j]
theorem fillN_res {p : Int} (hp : Supp p) {cols vals all : List Int} (hv : ∀ x ∈ vals,Res p x) (ha : ∀ x ∈ all,Res p x) : ∀ j,∀ x ∈ fillN cols vals all j,Res p x
 | 0 => ha
 | j + 1 => fun x hx => by
  rcases List.mem_or_eq_of_mem_set hx with h|rfl
  ·exact fillN_res hp hv ha j x h
  ·by_cases hj : j < vals.length
   ·exact res_at hv hj
   ·rw [List.getD_eq_getElem?_getD,List.getElem?_eq_none (by omega)];have := hp.bd;exact ⟨Int.le_refl 0,by show (0 : Int) < p;omega⟩
def cpN (m : List (List Int)) : Nat := (m.getD 0 []).length
def cpRows (m : List (List Int)) (outs : List S56) : List Int := selR (keys7 (ptsM outs)) true m.length
def cpCols (m : List (List Int)) (ins : List S56) : List Int := selR (keys7 (ptsM ins)) false (cpN m)
def cpAll0 (m : List (List Int)) (ins : List S56) : List Int := (List.range (cpN m)).map fun (k : Nat) => val7 (ptsM ins) (k : Int)
def cpRed (p : Int) (m : List (List Int)) (ins outs : List S56) : List (List Int) × List Int × Int := red p (wideM (subM m (cpRows m outs) (cpCols m ins))) (cpRows m outs).length
def cpInv (p : Int) (m : List (List Int)) (ins outs : List S56) : List (List Int) := (cpRed p m ins outs).1.map (·.drop (cpRows m outs).length)
def cpLeft (p : Int) (m : List (List Int)) (ins outs : List S56) : List Int := (cpRows m outs).map fun i => (val7 (ptsM outs) i - dotP p (rd_L2 m i) (cpAll0 m ins) (cpN m)) % p
def cpVals (p : Int) (m : List (List Int)) (ins outs : List S56) : List Int := (cpInv p m ins outs).map fun r => dotP p r (cpLeft p m ins outs) (cpRows m outs).length
def cpAll1 (p : Int) (m : List (List Int)) (ins outs : List S56) : List Int := fillN (cpCols m ins) (cpVals p m ins outs) (cpAll0 m ins) (cpRows m outs).length
def cpOut (p : Int) (m : List (List Int)) (all : List Int) : List Int := m.map fun r => dotP p r all (cpN m)
def cpGo (m : List (List Int)) (ins outs : List S56) : Bool := flatB m && (plcB ins (cpN m : Int) && (plcB outs (m.length : Int) && decide ((ins.length : Int) + (outs.length : Int) = (cpN m : Int))))
def cpR (p : Int) (m : List (List Int)) (ins outs : List S56) : List Int × List Int × Int :=
 if cpGo m ins outs = true then
  if (cpRows m outs).length = 0 then (cpAll0 m ins,cpOut p m (cpAll0 m ins),0)
  else if (cpRed p m ins outs).2.1.length < (cpRows m outs).length then ([],[],8)
  else (cpAll1 p m ins outs,cpOut p m (cpAll1 p m ins outs),0)
 else ([],[],1)
structure CpOk (p : Int) (m : List (List Int)) (ins outs : List S56) : Prop where
 hp : Supp p
 lm : m.length ≤ 60
 rows : ∀ r ∈ m,r.length ≤ 60 ∧ ∀ x ∈ r,Res p x
 li : ins.length ≤ 60
 lo : outs.length ≤ 60
 pi : ∀ x ∈ ins,(0 ≤ x.f0 ∧ x.f0 < 18446744073709551616) ∧ Res p x.f1
 po : ∀ x ∈ outs,(0 ≤ x.f0 ∧ x.f0 < 18446744073709551616) ∧ Res p x.f1
theorem flatB_iff {m : List (List Int)} : flatB m = true ↔ 0 < m.length ∧ 0 < cpN m ∧ ∀ r ∈ m,r.length = cpN m := by
 unfold flatB cpN;simp only [Bool.and_eq_true,decide_eq_true_eq,List.all_eq_true]
theorem ptsM_keys {pts : List S56} {x : Int} (h : x ∈ keys7 (ptsM pts)) : ∃ y ∈ pts,x = y.f0 := by
 unfold keys7 ptsM at h
 simp only [List.map_map,List.mem_map] at h
 obtain ⟨y,hy,rfl⟩ := h
 exact ⟨y,hy,rfl⟩
theorem ptsM_len (pts : List S56) : (keys7 (ptsM pts)).length = pts.length := by simp [keys7,ptsM]
theorem keys_in {pts : List S56} {n : Nat} (h : plcB pts (n : Int) = true) (h0 : ∀ x ∈ pts,0 ≤ x.f0) : ∀ x ∈ keys7 (ptsM pts),0 ≤ x ∧ x < n := by
 intro x hx
 obtain ⟨y,hy,rfl⟩ := ptsM_keys hx
 exact ⟨h0 y hy,(plcB_iff.1 h).1 y hy⟩
theorem val7_res {p : Int} (hp : Supp p) {pts : List S56} (hnd : (keys7 (ptsM pts)).Nodup) (h : ∀ x ∈ pts,Res p x.f1) (x : Int) : Res p (val7 (ptsM pts) x) := by
 by_cases hx : x ∈ keys7 (ptsM pts)
 ·obtain ⟨q,hq,rfl⟩ := List.mem_map.1 hx
  rw [val7_in hnd hq]
  obtain ⟨y,hy,rfl⟩ := List.mem_map.1 hq
  exact h y hy
 ·rw [val7_out hx];have := hp.bd;exact ⟨Int.le_refl 0,by show (0 : Int) < p;omega⟩
theorem cpAll0_len (m : List (List Int)) (ins : List S56) : (cpAll0 m ins).length = cpN m := by simp [cpAll0]
section
variable {p : Int} {m : List (List Int)} {ins outs : List S56}
theorem cpGo_iff : cpGo m ins outs = true ↔ flatB m = true ∧ plcB ins (cpN m : Int) = true ∧ plcB outs (m.length : Int) = true ∧ (ins.length : Int) + (outs.length : Int) = (cpN m : Int) := by
 unfold cpGo;simp only [Bool.and_eq_true,decide_eq_true_eq]
theorem cp_lens (h : CpOk p m ins outs) (hg : cpGo m ins outs = true) : (cpRows m outs).length = outs.length ∧ (cpCols m ins).length = outs.length := by
 obtain ⟨h1,h2,h3,h4⟩ := cpGo_iff.1 hg
 have k1 := selR_yes (plcB_iff.1 h3).2 (keys_in h3 fun x hx => (h.po x hx).1.1)
 have k2 := selR_no (plcB_iff.1 h2).2 (keys_in h2 fun x hx => (h.pi x hx).1.1)
 rw [ptsM_len] at k1 k2
 unfold cpRows cpCols
 exact ⟨k1,by omega⟩
theorem cp_part (h : CpOk p m ins outs) (hg : cpGo m ins outs = true) : (subM m (cpRows m outs) (cpCols m ins)).length = (cpRows m outs).length ∧ RowsOk p (cpRows m outs).length (subM m (cpRows m outs) (cpCols m ins)) ∧ subOk m (cpRows m outs) (cpCols m ins) = true := by
 obtain ⟨h1,h2,h3,h4⟩ := cpGo_iff.1 hg
 obtain ⟨l1,l2⟩ := cp_lens h hg
 obtain ⟨_,_,hf⟩ := flatB_iff.1 h1
 have hrow : ∀ i ∈ cpRows m outs,(0 ≤ i ∧ i < (m.length : Int)) ∧ (rd_L2 m i) ∈ m := fun i hi => by
  have := selR_mem.1 hi
  refine ⟨⟨this.1,this.2.1⟩,?_⟩
  unfold rd_L2
  rw [List.getD_eq_getElem?_getD,List.getElem?_eq_getElem (by omega)]
  exact List.getElem_mem _
 have hcol : ∀ c ∈ cpCols m ins,0 ≤ c ∧ c < (cpN m : Int) := fun c hc => by have := selR_mem.1 hc;exact ⟨this.1,this.2.1⟩
 refine ⟨by simp [subM],?_,?_⟩
 ·intro r hr
  obtain ⟨i,hi,rfl⟩ := List.mem_map.1 hr
  refine ⟨by rw [List.length_map,l2,l1],fun x hx => ?_⟩
  obtain ⟨c,hc,rfl⟩ := List.mem_map.1 hx
  have hm := (hrow i hi).2
  have hl := hf _ hm
  have hc2 := hcol c hc
  have : rd (rd_L2 m i) c ∈ rd_L2 m i := by
   rw [show c = ((c.toNat : Nat) : Int) from by omega]
   exact rd_mem (by omega)
  exact (h.rows _ hm).2 _ this
 ·refine subOk_iff.2 fun i hi => ⟨(hrow i hi).1.1,(hrow i hi).1.2,fun c hc => ⟨(hcol c hc).1,?_⟩⟩
  rw [hf _ (hrow i hi).2]
  exact (hcol c hc).2
theorem cpAll0_res (h : CpOk p m ins outs) (hg : cpGo m ins outs = true) : ∀ x ∈ cpAll0 m ins,Res p x := by
 obtain ⟨h1,h2,h3,h4⟩ := cpGo_iff.1 hg
 intro x hx
 obtain ⟨k,_,rfl⟩ := List.mem_map.1 hx
 exact val7_res h.hp (plcB_iff.1 h2).2 (fun y hy => (h.pi y hy).2) _
theorem cpLeft_res (h : CpOk p m ins outs) : ∀ x ∈ cpLeft p m ins outs,Res p x := by
 intro x hx
 obtain ⟨k,_,rfl⟩ := List.mem_map.1 hx
 exact Res.mod h.hp _
theorem cpLeft_len : (cpLeft p m ins outs).length = (cpRows m outs).length := by simp [cpLeft]
theorem cpLeft_next {i : Nat} (h : i < (cpRows m outs).length) : (cpLeft p m ins outs).take i ++ [(val7 (ptsM outs) (rd (cpRows m outs) (i : Int)) - dotP p (rd_L2 m (rd (cpRows m outs) (i : Int))) (cpAll0 m ins) (cpN m)) % p] = (cpLeft p m ins outs).take (i + 1) := by
 unfold cpLeft
 rw [← List.map_take,← List.map_take]
 exact map_next (fun i => (val7 (ptsM outs) i - dotP p (rd_L2 m i) (cpAll0 m ins) (cpN m)) % p) (cpRows m outs) i h
theorem cpInv_ok (h : CpOk p m ins outs) (hg : cpGo m ins outs = true) : (cpInv p m ins outs).length = (cpRows m outs).length ∧ RowsOk p (cpRows m outs).length (cpInv p m ins outs) := by
 obtain ⟨e1,e2,e3⟩ := cp_part h hg
 have h2 := e2
 rw [← e1] at e2
 have hw := wideM_ok h.hp e2
 have hr := red_ok h.hp hw (cpRows m outs).length
 unfold cpInv cpRed
 refine ⟨by rw [List.length_map,hr.len,wideM_len,e1],?_⟩
 intro r hr2
 obtain ⟨r0,h0,rfl⟩ := List.mem_map.1 hr2
 obtain ⟨k1,k2⟩ := hr.rows r0 h0
 rw [e1] at k1
 exact ⟨by rw [List.length_drop];omega,fun x hx => k2 x (List.mem_of_mem_drop hx)⟩
theorem cpVals_res (h : CpOk p m ins outs) : ∀ x ∈ cpVals p m ins outs,Res p x := by
 intro x hx
 obtain ⟨r,_,rfl⟩ := List.mem_map.1 hx
 exact dotP_res h.hp _ _ _
end
theorem below_drawn7 {w w1 : World} (h : Drawn0 w w1) : Below w.heap.size w w1 := by
 obtain ⟨nd,rfl⟩ := h
 exact pw_below_drewN (Below.refl _ _) nd
open Go.ChangeMaps (setBlock) in
theorem sb_other {w : World} {r k : Nat} {o : Obj} (h : k ≠ r) : (setBlock w r o).heap[k]? = w.heap[k]? := by
 unfold setBlock
 exact Array.getElem?_setIfInBounds_ne (by omega)
open Go.ChangeMaps (setBlock) in
theorem sb_same {w : World} {r : Nat} {o : Obj} (h : r < w.heap.size) : (setBlock w r o).heap[r]? = some o := by
 unfold setBlock
 simp [h]
open Go.ChangeMaps (setBlock) in
theorem sb_below {w0 w : World} {B r : Nat} {o : Obj} (h : Below B w0 w) (hr : B ≤ r) : Below B w0 (setBlock w r o) :=
 ⟨h.os,h.tape,h.output,by show _ ≤ (Array.setIfInBounds _ _ _).size;rw [Array.size_setIfInBounds];exact h.size,fun k hk => (sb_other (by omega)).trans (h.block k hk)⟩
def seenL (L : List (Int × Int)) (seen : Array Nat) : List (Int × Int) := (L.zipIdx.filter fun e => seen.contains e.2).map Prod.fst
def allS (L : List (Int × Int)) (seen : Array Nat) (n : Nat) : List Int := (List.range n).map fun (k : Nat) => val7 (seenL L seen) (k : Int)
theorem seenL_mem {L : List (Int × Int)} {seen : Array Nat} {q : Int × Int} : q ∈ seenL L seen ↔ ∃ j,L[j]? = some q ∧ seen.contains j = true := by
 unfold seenL
 simp only [List.mem_map,List.mem_filter]
 constructor
 ·rintro ⟨⟨x,j⟩,⟨h1,h2⟩,rfl⟩
  exact ⟨j,by rw [List.mem_zipIdx_iff_getElem?] at h1;exact h1,h2⟩
 ·rintro ⟨j,h1,h2⟩
  exact ⟨(q,j),⟨by rw [List.mem_zipIdx_iff_getElem?];exact h1,h2⟩,rfl⟩
theorem seenL_nodup {L : List (Int × Int)} (h : (keys7 L).Nodup) (seen : Array Nat) : (keys7 (seenL L seen)).Nodup := by
 refine List.Nodup.sublist ?_ h
 unfold keys7 seenL
 refine List.Sublist.map _ ?_
 have : List.Sublist ((L.zipIdx.filter fun e => seen.contains e.2).map Prod.fst) (L.zipIdx.map Prod.fst) := List.Sublist.map _ List.filter_sublist
 rwa [List.zipIdx_map_fst] at this
theorem seenL_none (L : List (Int × Int)) : seenL L #[] = [] := by
 unfold seenL
 rw [List.filter_eq_nil_iff.2 (fun e _ => by simp)]
 rfl
theorem seenL_all {L : List (Int × Int)} {seen : Array Nat} (h : ∀ j,j < L.length → seen.contains j = true) : seenL L seen = L := by
 unfold seenL
 rw [List.filter_eq_self.2 (fun e he => h _ (by have h2 := (List.mem_zipIdx_iff_getElem?).1 he;exact (List.getElem?_eq_some_iff.1 h2).1)),List.zipIdx_map_fst]
theorem allS_len (L : List (Int × Int)) (seen : Array Nat) (n : Nat) : (allS L seen n).length = n := by simp [allS]
theorem allS_none (L : List (Int × Int)) (n : Nat) : allS L #[] n = List.replicate n 0 := by
 unfold allS
 rw [seenL_none]
 apply List.ext_getElem
 ·simp
 ·intro i h1 h2
  simp [val7]
theorem allS_push {L : List (Int × Int)} (hn : (keys7 L).Nodup) {seen : Array Nat} {j n : Nat} {q : Int × Int} (hj : L[j]? = some q) (h0 : 0 ≤ q.1) (hlt : q.1 < n) : (allS L seen n).set q.1.toNat q.2 = allS L (seen.push j) n := by
 have hn2 := seenL_nodup hn (seen.push j)
 have hn1 := seenL_nodup hn seen
 have hin : q ∈ seenL L (seen.push j) := seenL_mem.2 ⟨j,hj,by rw [contains_push];simp⟩
 apply List.ext_getElem
 ·simp [allS]
 ·intro i h1 h2
  rw [List.getElem_set]
  by_cases e : q.1.toNat = i
  ·rw [if_pos e]
   have : (allS L (seen.push j) n)[i] = val7 (seenL L (seen.push j)) (i : Int) := by simp [allS]
   rw [this,show (i : Int) = q.1 from by omega,val7_in hn2 hin]
  ·rw [if_neg e]
   have e1 : (allS L seen n)[i]'(by rw [List.length_set] at h1;exact h1) = val7 (seenL L seen) (i : Int) := by simp [allS]
   have e2 : (allS L (seen.push j) n)[i] = val7 (seenL L (seen.push j)) (i : Int) := by simp [allS]
   rw [e1,e2]
   by_cases hk : (i : Int) ∈ keys7 (seenL L seen)
   ·obtain ⟨r,hr,hri⟩ := List.mem_map.1 hk
    rw [← hri,val7_in hn1 hr]
    obtain ⟨j2,h3,h4⟩ := seenL_mem.1 hr
    exact (val7_in hn2 (seenL_mem.2 ⟨j2,h3,by rw [contains_push,h4];rfl⟩)).symm
   ·rw [val7_out hk,val7_out]
    intro hk2
    obtain ⟨r,hr,hri⟩ := List.mem_map.1 hk2
    obtain ⟨j2,h3,h4⟩ := seenL_mem.1 hr
    rw [contains_push] at h4
    rcases Bool.or_eq_true _ _ |>.mp h4 with h5|h5
    ·exact hk (List.mem_map.2 ⟨r,seenL_mem.2 ⟨j2,h3,h5⟩,hri⟩)
    ·have h6 : j2 = j := by simpa using h5
     rw [h6,hj] at h3
     rw [← Option.some.inj h3] at hri
     omega
theorem ents7_at {L : List (Int × Int)} {e : MapEntry} (h : e ∈ (ents7 L).toList) : ∃ j q,L[j]? = some q ∧ e = ⟨.int .i64 q.1,.int .u64 q.2,j⟩ := by
 unfold ents7 at h
 simp only [List.mem_mapIdx] at h
 obtain ⟨j,hj,rfl⟩ := h
 exact ⟨j,L[j],List.getElem?_eq_getElem hj,rfl⟩
theorem ents7_born (L : List (Int × Int)) : ((ents7 L).toList.map (·.born)) = List.range L.length := by
 unfold ents7
 apply List.ext_getElem
 ·simp
 ·intro i h1 h2
  simp
theorem ents7_all {L : List (Int × Int)} {j : Nat} (h : j < L.length) : ∃ e ∈ (ents7 L).toList,e.born = j := by
 unfold ents7
 simp only [List.mem_mapIdx]
 exact ⟨_,⟨j,h,rfl⟩,rfl⟩
def CpRet (r : List Int × List Int × Int) (w : World) (e : Ending) (w' : World) : Prop :=
 ∃ v0 v1,e = .returned (.tuple #[v0,v1,.int .i64 r.2.2]) ∧ Kd.R (Kd.int .u64) 22 w' w.heap.size (fun _ => True) v0 r.1 ∧ Kd.R (Kd.int .u64) 22 w' w.heap.size (fun _ => True) v1 r.2.1
theorem cpRet_err {c : Int} {w w' : World} {e : Ending} (h : e = .returned (.tuple #[.slice none 0 0,.slice none 0 0,.int .i64 c])) : CpRet ([],[],c) w e w' := ⟨_,_,h,Kd.R_nil _ _ _ _ _,Kd.R_nil _ _ _ _ _⟩
set_option maxHeartbeats 16000000 in
set_option maxRecDepth 100000 in
theorem complete_err {p : Int} {m : List (List Int)} {ins outs : List S56} (h : CpOk p m ins outs) (A1 : Option Addr) (c1 : Nat) (A2 : Option Addr) (c2 : Nat) (A3 : Option Addr) (c3 : Nat) (w : World) (hr1 : Kd.C (Kd.slice 22 (Kd.int .u64)) w A1 m.length m) (hc1 : m.length ≤ c1) (hr2 : Kd.C k56 w A2 ins.length ins) (hc2 : ins.length ≤ c2) (hr3 : Kd.C k56 w A3 outs.length outs) (hc3 : outs.length ≤ c3) (hg : cpGo m ins outs = false) :
  Calls Try.prog 22 #[.int .u64 p,.slice A1 m.length c1,.slice A2 ins.length c2,.slice A3 outs.length c3] w fun e w' => CpRet ([],[],1) w e w' ∧ Below w.heap.size w w' := by
 have HH := Aside0.mk h
 have HR1 := Aside0.mk hr1
 have HR2 := Aside0.mk hr2
 have HR3 := Aside0.mk hr3
 have hli := h.li
 have hlo := h.lo
 obtain ⟨kf,hkf⟩ := (flat_ev m (by have := h.lm;omega)).rounds
 have HF := Aside0.mk hkf
 have HG := Aside0.mk hg
 clear h hr1 hr2 hr3 hkf hg
 by_cases hfl : flatB m = true
 case neg =>
  rw [Bool.eq_false_iff.2 hfl] at HF
  clear hfl
  go_enter Try.func22,Try.ntmps22
  go_wp2_with (first
   | (go_at_call 40;(with_reducible refine (hyperinvertible_flat.calls kf _ _ _ false _ HR1.out hc1 HF.out).mono ?_);rintro e w1 ⟨rfl,hd1⟩;have HB1 := Aside0.mk (below_drawn7 hd1);clear hd1))
  first|go_ret|((try simp only [Exit.inBlock,Exit.then]);refine bodyPost_ret (results_tmp3 rfl _ _ _) rfl ?_)
  exact ⟨cpRet_err rfl,HB1.out⟩
 rw [hfl] at HF
 obtain ⟨h0,hn0,hrect⟩ := flatB_iff.1 hfl
 have hn60 : cpN m ≤ 60 := by
  have h1 : m.getD 0 [] ∈ m := by rw [List.getD_eq_getElem?_getD,List.getElem?_eq_getElem h0];exact List.getElem_mem h0
  exact (HH.out.rows _ h1).1
 have hm60 := HH.out.lm
 obtain ⟨ad,A0,c0,e1,hx0,hc0,_⟩ := at_L2 HR1.out (0 : Int) (by omega) (by omega)
 cases e1
 rw [show ((0 : Int)).toNat = 0 from rfl,Addr.add_zero',show (rd_L2 m 0).length = cpN m from by rw [show (0 : Int) = ((0 : Nat) : Int) from rfl,rdM_nat];rfl] at hx0
 have HX0 := Aside0.mk hx0
 have HNG := Aside0.mk (show ¬ (plcB ins (cpN m : Int) = true ∧ plcB outs (m.length : Int) = true ∧ (ins.length : Int) + (outs.length : Int) = (cpN m : Int)) from fun hh => by
  have := cpGo_iff.2 ⟨hfl,hh⟩
  rw [HG.out] at this;cases this)
 have HKA := Aside0.mk (fun W (hW : Below w.heap.size w W) => known_any A2 c2 ins (cpN m : Int) (by omega) W (Kd.C_below HR2.out hW) hc2 (by omega) (by omega) (fun x hx => (HH.out.pi x hx).1))
 have HKB := Aside0.mk (fun W (hW : Below w.heap.size w W) => known_any A3 c3 outs (m.length : Int) (by omega) W (Kd.C_below HR3.out hW) hc3 (by omega) (by omega) (fun x hx => (HH.out.po x hx).1))
 obtain ⟨n,hn⟩ : ∃ n,n = cpN m := ⟨_,rfl⟩
 rw [← hn] at hn0 hn60 hx0 HX0 HNG HKA
 obtain ⟨ba,hba⟩ : ∃ b,b = plcB ins (n : Int) := ⟨_,rfl⟩
 obtain ⟨bb,hbb⟩ : ∃ b,b = plcB outs (m.length : Int) := ⟨_,rfl⟩
 unfold KnwR at HKA HKB
 rw [← hba] at HKA HNG
 rw [← hbb] at HKB HNG
 have q1 : ((0 : Int) < (m.length : Int)) = True := eq_true (by omega)
 have q2 : (0 < m.length) = True := eq_true h0
 clear hfl hrect hn hba hbb hx0
 cases ba with
 | false =>
  clear HNG
  go_enter Try.func22,Try.ntmps22
  go_wp2_with (first
   | (go_at_call 40;(with_reducible refine (hyperinvertible_flat.calls kf _ _ _ true _ HR1.out hc1 HF.out).mono ?_);rintro e w1 ⟨rfl,hd1⟩;have HB1 := Aside0.mk (below_drawn7 hd1);have hx1 := pw_cell_below HB1.out HX0.out;clear hd1)
   | (go_at_call 41;(with_reducible refine (HKA.out _ HB1.out).mono ?_);rintro e w2 ⟨⟨a2,rfl,_⟩,hb2⟩;have HB2 := Aside0.mk (below_step HB1.out hb2);have hx2 := pw_cell_below HB2.out HX0.out;clear hb2)
   | (go_at_call 41;(with_reducible refine (HKB.out _ HB2.out).mono ?_);rintro e w3 ⟨⟨a3,rfl,_⟩,hb3⟩;have HB3 := Aside0.mk (below_step HB2.out hb3);have hx3 := pw_cell_below HB3.out HX0.out;clear hb3))
  first|go_ret|((try simp only [Exit.inBlock,Exit.then]);refine bodyPost_ret (results_tmp3 rfl _ _ _) rfl ?_)
  exact ⟨cpRet_err rfl,HB3.out⟩
 | true =>
 cases bb with
 | false =>
  clear HNG
  go_enter Try.func22,Try.ntmps22
  go_wp2_with (first
   | (go_at_call 40;(with_reducible refine (hyperinvertible_flat.calls kf _ _ _ true _ HR1.out hc1 HF.out).mono ?_);rintro e w1 ⟨rfl,hd1⟩;have HB1 := Aside0.mk (below_drawn7 hd1);have hx1 := pw_cell_below HB1.out HX0.out;clear hd1)
   | (go_at_call 41;(with_reducible refine (HKA.out _ HB1.out).mono ?_);rintro e w2 ⟨⟨a2,rfl,_⟩,hb2⟩;have HB2 := Aside0.mk (below_step HB1.out hb2);have hx2 := pw_cell_below HB2.out HX0.out;clear hb2)
   | (go_at_call 41;(with_reducible refine (HKB.out _ HB2.out).mono ?_);rintro e w3 ⟨⟨a3,rfl,_⟩,hb3⟩;have HB3 := Aside0.mk (below_step HB2.out hb3);have hx3 := pw_cell_below HB3.out HX0.out;clear hb3))
  first|go_ret|((try simp only [Exit.inBlock,Exit.then]);refine bodyPost_ret (results_tmp3 rfl _ _ _) rfl ?_)
  exact ⟨cpRet_err rfl,HB3.out⟩
 | true =>
  have hs : ¬ (ins.length : Int) + (outs.length : Int) = (n : Int) := fun hh => HNG.out ⟨rfl,rfl,hh⟩
  have z1 : ((ins.length : Int) + (outs.length : Int) != (n : Int)) = true := by simpa using hs
  clear HNG hs
  go_enter Try.func22,Try.ntmps22
  go_wp2_with (first
   | (go_at_call 40;(with_reducible refine (hyperinvertible_flat.calls kf _ _ _ true _ HR1.out hc1 HF.out).mono ?_);rintro e w1 ⟨rfl,hd1⟩;have HB1 := Aside0.mk (below_drawn7 hd1);have hx1 := pw_cell_below HB1.out HX0.out;clear hd1)
   | (go_at_call 41;(with_reducible refine (HKA.out _ HB1.out).mono ?_);rintro e w2 ⟨⟨a2,rfl,_⟩,hb2⟩;have HB2 := Aside0.mk (below_step HB1.out hb2);have hx2 := pw_cell_below HB2.out HX0.out;clear hb2)
   | (go_at_call 41;(with_reducible refine (HKB.out _ HB2.out).mono ?_);rintro e w3 ⟨⟨a3,rfl,_⟩,hb3⟩;have HB3 := Aside0.mk (below_step HB2.out hb3);have hx3 := pw_cell_below HB3.out HX0.out;clear hb3))
  first|go_ret|((try simp only [Exit.inBlock,Exit.then]);refine bodyPost_ret (results_tmp3 rfl _ _ _) rfl ?_)
  exact ⟨cpRet_err rfl,HB3.out⟩
set_option maxHeartbeats 16000000 in
set_option maxRecDepth 100000 in
theorem complete_ok {p : Int} {m : List (List Int)} {ins outs : List S56} (h : CpOk p m ins outs) (A1 : Option Addr) (c1 : Nat) (A2 : Option Addr) (c2 : Nat) (A3 : Option Addr) (c3 : Nat) (w : World) (hr1 : Kd.C (Kd.slice 22 (Kd.int .u64)) w A1 m.length m) (hc1 : m.length ≤ c1) (hr2 : Kd.C k56 w A2 ins.length ins) (hc2 : ins.length ≤ c2) (hr3 : Kd.C k56 w A3 outs.length outs) (hc3 : outs.length ≤ c3) (hg : cpGo m ins outs = true) :
  Calls Try.prog 22 #[.int .u64 p,.slice A1 m.length c1,.slice A2 ins.length c2,.slice A3 outs.length c3] w fun e w' => CpRet (cpR p m ins outs) w e w' ∧ Below w.heap.size w w' := by
 have HH := am h
 have HR1 := am hr1
 have HR2 := am hr2
 have HR3 := am hr3
 have hli := h.li
 have hlo := h.lo
 have HGO := am hg
 obtain ⟨hfl,hpa,hpb,hsum⟩ := cpGo_iff.1 hg
 obtain ⟨kf,hkf⟩ := (flat_ev m (by have := h.lm;omega)).rounds
 rw [hfl] at hkf
 have HF := am hkf
 obtain ⟨h0,hn0,hrect⟩ := flatB_iff.1 hfl
 have hn60 : cpN m ≤ 60 := by
  have h1 : m.getD 0 [] ∈ m := by rw [List.getD_eq_getElem?_getD,List.getElem?_eq_getElem h0];exact List.getElem_mem h0
  exact (h.rows _ h1).1
 have hm60 := h.lm
 obtain ⟨ad,A0,c0,e1,hx0,hc0,_⟩ := at_L2 hr1 (0 : Int) (by omega) (by omega)
 cases e1
 rw [show ((0 : Int)).toNat = 0 from rfl,Addr.add_zero',show (rd_L2 m 0).length = cpN m from by rw [show (0 : Int) = ((0 : Nat) : Int) from rfl,rdM_nat];rfl] at hx0
 have HX0 := am hx0
 have HKA := am (fun W (hW : Below w.heap.size w W) => known_any A2 c2 ins (cpN m : Int) (by omega) W (Kd.C_below HR2.out hW) hc2 (by omega) (by omega) (fun x hx => (HH.out.pi x hx).1))
 have HKB := am (fun W (hW : Below w.heap.size w W) => known_any A3 c3 outs (m.length : Int) (by omega) W (Kd.C_below HR3.out hW) hc3 (by omega) (by omega) (fun x hx => (HH.out.po x hx).1))
 unfold KnwR at HKA HKB
 rw [hpa] at HKA
 rw [hpb] at HKB
 have HNA := am (plcB_iff.1 hpa).2
 have HKI := am (keys_in hpa fun x hx => (h.pi x hx).1.1)
 have HNB := am (plcB_iff.1 hpb).2
 have HRE := am hrect
 have HA0 := am (show cpAll0 m ins = (List.range (cpN m)).map fun (k : Nat) => val7 (ptsM ins) (k : Int) from rfl)
 have hrl0 := am (show cpRows m outs = selR (keys7 (ptsM outs)) true m.length from rfl)
 have hcl0 := am (show cpCols m ins = selR (keys7 (ptsM ins)) false (cpN m) from rfl)
 obtain ⟨n,hn⟩ : ∃ n,n = cpN m := ⟨_,rfl⟩
 have HN := am hn
 rw [← hn] at hn0 hn60 hx0 HX0 HKA hsum HKI HRE HA0 hcl0
 obtain ⟨LA,hLA⟩ : ∃ L,L = ptsM ins := ⟨_,rfl⟩
 obtain ⟨LB,hLB⟩ : ∃ L,L = ptsM outs := ⟨_,rfl⟩
 rw [← hLA] at HKA HNA HKI HA0 hcl0
 rw [← hLB] at HKB HNB hrl0
 have HLA := am hLA
 have HLB := am hLB
 have q1 : ((0 : Int) < (m.length : Int)) = True := eq_true (by omega)
 have q2 : (0 < m.length) = True := eq_true h0
 have z1 : ((ins.length : Int) + (outs.length : Int) != (n : Int)) = false := by rw [hsum];simp
 clear h hr1 hr2 hr3 hg hkf hpa hpb hfl hrect hn hx0 hsum hLA hLB
 go_enter Try.func22,Try.ntmps22
 go_wp2_with (first
  | (go_at_call 40;(with_reducible refine (hyperinvertible_flat.calls kf _ _ _ true _ HR1.out hc1 HF.out).mono ?_);rintro e w1 ⟨rfl,hd1⟩;have HB1 := am (below_drawn7 hd1);have hx1 := pw_cell_below HB1.out HX0.out;clear hd1)
  | (go_at_call 41;(with_reducible refine (HKA.out _ HB1.out).mono ?_);rintro e w2 ⟨⟨a2,rfl,hma⟩,hb2⟩;obtain ⟨bma,bpa,ea,hm2,_,_⟩ := hma trivial;subst ea;have HMA := am hm2;have HB2 := am (below_step HB1.out hb2);have hx2 := pw_cell_below HB2.out HX0.out;clear hb2 hma hm2)
  | (go_at_call 41;(with_reducible refine (HKB.out _ HB2.out).mono ?_);rintro e w3 ⟨⟨a3,rfl,hmb⟩,hb3⟩;obtain ⟨bmb,bpb,eb,hm3,_,_⟩ := hmb trivial;subst eb;have HMM := am (show MaskAt w3 bma bpa LA ∧ MaskAt w3 bmb bpb LB from ⟨HMA.out.below hb3,hm3⟩);have HB3 := am (below_step HB2.out hb3);have hx3 := pw_cell_below HB3.out HX0.out;clear hb3 hmb hm3 HMA))
 go_loopg [15,72] m.length (fun kq v15 v72 w' => ∃ (i : Nat),v72 = .int .i64 (i : Int) ∧ Aside0 (kq + i = m.length) ∧ Aside0 (Kd.R (Kd.int .i64) 3 w' w3.heap.size (fun _ => True) v15 (selR (keys7 LB) true i)) ∧ Aside0 (Below w3.heap.size w3 w'))
 case atStart => exact ⟨0,rfl,⟨rfl⟩,⟨Kd.R_nil _ _ _ _ _⟩,⟨Below.refl _ _⟩⟩
 case round =>
  as_aux_lemma =>
   clear HB1 HB2 hx1 hx2 hx3 HKA HKB HF HR2 HR3
   obtain ⟨i,rfl,HK,HO,HB⟩ := hrel
   by_cases hlt : i < m.length
   ·
    have r1 : ((i : Int) < (m.length : Int)) = True := eq_true (by omega)
    have r2 : decide (i < m.length) = true := decide_eq_true hlt
    have HW := am (has_walk bmb bpb LB wr (HMM.out.2.below HB.out) i (by omega))
    have hsl := selR_len_le (keys7 LB) true i
    by_cases hin : (i : Int) ∈ keys7 LB
    ·have HS := am (show selR (keys7 LB) true i ++ [(i : Int)] = selR (keys7 LB) true (i + 1) from by rw [selR_next,decide_eq_true hin];rfl)
     rw [decide_eq_true hin] at HW
     clear hin
     go_wp2_with (first
      | (go_at_call 42;(with_reducible refine HW.out.mono ?_);rintro e w4 ⟨rfl,hb4⟩;have HB4 := am (below_step HB.out hb4);have HO4 := am (Kd.R_below HO.out hb4);clear hb4)
      | ((with_reducible refine gate_builtin (b := .append) (xs := #[.tmp 78,.tmp 80]) rfl ?_);at_builtin;refine Kd.R_append (Kd.int .i64) (w0 := w3) w3.heap.size rfl (.tmp 78) (.tmp 80) 31 3 (.int .i64 0) 8 rfl Try.underlying31 info3 rfl (by decide) (by omega) u15 (selR (keys7 LB) true i) (i : Int) [.int .i64 (i : Int)] (fun _ => True) (fun _ => False) rfl rfl ?aP (fun _ hk => hk.elim) ?aF ?aO ?aB ?aS ?aL ?_;(case aP => exact rfl);(case aB => exact HB4.out);(case aF => exact (fun _ _ => trivial));(case aO => exact HO4.out);(case aS => exact (below_size HB4.out));(case aL => omega);intro v8 w8 ho hb hg hat;have HO8 := am (by rw [HS.out] at ho;exact ho);have HB8 := am hb;clear ho hb hg hat))
     go_roundg (m.length - (i + 1))
     case measure => have := HK.out;omega
     case rel => exact ⟨i + 1,by go_num,⟨by omega⟩,HO8,HB8⟩
    ·have HS := am (show selR (keys7 LB) true i = selR (keys7 LB) true (i + 1) from by rw [selR_next,decide_eq_false hin];rfl)
     rw [decide_eq_false hin] at HW
     clear hin
     go_wp2_with (first
      | (go_at_call 42;(with_reducible refine HW.out.mono ?_);rintro e w4 ⟨rfl,hb4⟩;have HB4 := am (below_step HB.out hb4);have HO4 := am (Kd.R_below HO.out hb4);clear hb4))
     go_roundg (m.length - (i + 1))
     case measure => have := HK.out;omega
     case rel => exact ⟨i + 1,by go_num,⟨by omega⟩,⟨by rw [← HS.out];exact HO4.out⟩,HB4⟩
   ·have r1 : ((i : Int) < (m.length : Int)) = False := eq_false (by omega)
    have r2 : decide (i < m.length) = false := decide_eq_false hlt
    obtain ⟨rows,hrows⟩ : ∃ r,r = selR (keys7 LB) true i := ⟨_,rfl⟩
    have HRO := am (show rows = cpRows m outs from by rw [hrows,hrl0.out];congr 1;have := HK.out;omega)
    rw [← hrows] at HO
    obtain ⟨Ar,cr,er⟩ := Kd.R_slice HO.out
    subst er
    obtain ⟨w4,rfl⟩ : ∃ W : World,W = wr := ⟨_,rfl⟩
    have HRS := am (Kd.R_reads' HO.out)
    have HMM4 := am (show MaskAt w4 bma bpa LA ∧ MaskAt w4 bmb bpb LB from ⟨HMM.out.1.below HB.out,HMM.out.2.below HB.out⟩)
    have HB4 := am (below_step HB3.out HB.out)
    have hx4 := pw_cell_below HB4.out HX0.out
    clear hrows HK HO HB HMM hlt
    go_wp2
    go_loopg [16,87] n (fun kq v16 v87 w' => ∃ (i : Nat),v87 = .int .i64 (i : Int) ∧ Aside0 (kq + i = n) ∧ Aside0 (Kd.R (Kd.int .i64) 3 w' w4.heap.size (fun _ => True) v16 (selR (keys7 LA) false i)) ∧ Aside0 (Below w4.heap.size w4 w'))
    case atStart => exact ⟨0,rfl,⟨rfl⟩,⟨Kd.R_nil _ _ _ _ _⟩,⟨Below.refl _ _⟩⟩
    case round =>
     as_aux_lemma =>
      clear hx4 r1 r2
      obtain ⟨i,rfl,HK,HO,HB⟩ := hrel
      by_cases hlt : i < n
      ·
       have r1 : ((i : Int) < (n : Int)) = True := eq_true (by omega)
       have r2 : decide (i < n) = true := decide_eq_true hlt
       have HW := am (has_walk bma bpa LA wr (HMM4.out.1.below HB.out) i (by omega))
       have hsl := selR_len_le (keys7 LA) false i
       by_cases hin : (i : Int) ∈ keys7 LA
       ·have HS := am (show selR (keys7 LA) false i = selR (keys7 LA) false (i + 1) from by rw [selR_next,decide_eq_true hin];rfl)
        rw [decide_eq_true hin] at HW
        clear hin
        go_wp2_with (first
         | (go_at_call 42;(with_reducible refine HW.out.mono ?_);rintro e w5 ⟨rfl,hb5⟩;have HB5 := am (below_step HB.out hb5);have HO5 := am (Kd.R_below HO.out hb5);clear hb5))
        go_roundg (n - (i + 1))
        case measure => have := HK.out;omega
        case rel => exact ⟨i + 1,by go_num,⟨by omega⟩,⟨by rw [← HS.out];exact HO5.out⟩,HB5⟩
       ·have HS := am (show selR (keys7 LA) false i ++ [(i : Int)] = selR (keys7 LA) false (i + 1) from by rw [selR_next,decide_eq_false hin];rfl)
        rw [decide_eq_false hin] at HW
        clear hin
        go_wp2_with (first
         | (go_at_call 42;(with_reducible refine HW.out.mono ?_);rintro e w5 ⟨rfl,hb5⟩;have HB5 := am (below_step HB.out hb5);have HO5 := am (Kd.R_below HO.out hb5);clear hb5)
         | ((with_reducible refine gate_builtin (b := .append) (xs := #[.tmp 94,.tmp 96]) rfl ?_);at_builtin;refine Kd.R_append (Kd.int .i64) (w0 := w4) w4.heap.size rfl (.tmp 94) (.tmp 96) 31 3 (.int .i64 0) 8 rfl Try.underlying31 info3 rfl (by decide) (by omega) u16 (selR (keys7 LA) false i) (i : Int) [.int .i64 (i : Int)] (fun _ => True) (fun _ => False) rfl rfl ?aP (fun _ hk => hk.elim) ?aF ?aO ?aB ?aS ?aL ?_;(case aP => exact rfl);(case aB => exact HB5.out);(case aF => exact (fun _ _ => trivial));(case aO => exact HO5.out);(case aS => exact (below_size HB5.out));(case aL => omega);intro v8 w8 ho hb hg hat;have HO8 := am (by rw [HS.out] at ho;exact ho);have HB8 := am hb;clear ho hb hg hat))
        go_roundg (n - (i + 1))
        case measure => have := HK.out;omega
        case rel => exact ⟨i + 1,by go_num,⟨by omega⟩,HO8,HB8⟩
      ·have r1 : ((i : Int) < (n : Int)) = False := eq_false (by omega)
       have r2 : decide (i < n) = false := decide_eq_false hlt
       obtain ⟨cols,hcols⟩ : ∃ r,r = selR (keys7 LA) false i := ⟨_,rfl⟩
       have HCO := am (show cols = cpCols m ins from by rw [hcols,hcl0.out];congr 1;have := HK.out;omega)
       rw [← hcols] at HO
       obtain ⟨Ac,cc,ec⟩ := Kd.R_slice HO.out
       subst ec
       obtain ⟨w5,rfl⟩ : ∃ W : World,W = wr := ⟨_,rfl⟩
       have HCS := am (Kd.R_reads' HO.out)
       have HRS5 := am (Kd.C_below HRS.out.2.2 HB.out)
       have HMM5 := am (show MaskAt w5 bma bpa LA ∧ MaskAt w5 bmb bpb LB from ⟨HMM4.out.1.below HB.out,HMM4.out.2.below HB.out⟩)
       have HB5 := am (below_step HB4.out HB.out)
       have hx5 := pw_cell_below HB5.out HX0.out
       obtain ⟨bl,w6,hmk,hu6,hb6⟩ := mk_words n (by omega) w5
       have hbl := own_base hu6 bl rfl
       have hbl6 := own_lt hu6 bl rfl
       have HU6 := am hu6
       have HB6 := am hb6
       have HM6 := am (HMM5.out.1.below hb6)
       have hc6 : w6.cell? ⟨bma,64,none⟩ = some (.map (some bpa)) := (blk_cell HM6.out.1 64).trans (maskC_map LA bpa)
       have hrg := run_range_map (P := Try.prog) w6 72 3 22 bpa (ents7 LA) LA.length Try.underlying72 HM6.out.2
       clear hcols HK HO HB hlt hu6 hb6
       go_wp2
       obtain ⟨ri,hri⟩ : ∃ r,r = w6.heap.size := ⟨_,rfl⟩
       rw [← hri]
       have HRI := am (show bl < ri ∧ w5.heap.size ≤ ri from ⟨by omega,by have := below_size HB6.out;omega⟩)
       have HIT := am (show (w6.alloc (.mapIter (some bpa) LA.length #[] LA.length)).heap[ri]? = some (.mapIter (some bpa) LA.length #[] LA.length) from by rw [hri];exact blk_new w6 _)
       have HUA := am (show (w6.alloc (.mapIter (some bpa) LA.length #[] LA.length)).ownsRow w5.heap.size 22 1 (.slice (some ⟨bl,0,none⟩) n n) n (nums .u64 (allS LA #[] n)) from by rw [allS_none];exact own_below0 HU6.out (below_alloc (Below.refl _ _) _))
       have HBA := am (show Below w5.heap.size w5 (w6.alloc (.mapIter (some bpa) LA.length #[] LA.length)) from below_alloc HB6.out _)
       clear hrg hmk hc6 hri
       go_loopg [20] (leftOf (ents7 LA) #[]).size (fun kq v20 w' => ∃ (seen : Array Nat),Aside0 (kq = (leftOf (ents7 LA) seen).size) ∧ Aside0 (w'.heap[ri]? = some (.mapIter (some bpa) LA.length seen LA.length)) ∧ Aside0 (w'.ownsRow w5.heap.size 22 1 (.slice (some ⟨bl,0,none⟩) n n) n (nums .u64 (allS LA seen n))) ∧ Aside0 (Below w5.heap.size w5 w'))
       case atStart => exact ⟨#[],⟨rfl⟩,HIT,HUA,HBA⟩
       case round =>
        as_aux_lemma =>
         clear HIT HUA HBA
         obtain ⟨seen,HK,HI,HU,HB⟩ := hrel
         have HMP := am (HMM5.out.1.below HB.out).2
         have law := run_next_at (P := Try.prog) wr 0 ri bpa LA.length LA.length seen (ents7 LA) LA.length HI.out HMP.out (fun x hx => by obtain ⟨j,q,hj,rfl⟩ := ents7_at hx;exact (List.getElem?_eq_some_iff.1 hj).1) (Nat.le_refl _)
         rcases law with ⟨hl0,hrun⟩|⟨e,he,w7,hw7,hrun⟩
         ·have hnx : ∀ ty,(Instr.next (.pointer (some ⟨ri,0,none⟩)) false ty).run Try.prog wr = _ := fun _ => hrun
          have HSE := am (show allS LA seen n = cpAll0 m ins from by
           rw [HA0.out]
           unfold allS
           rw [seenL_all fun j hj => by
            obtain ⟨e,he,hb⟩ := ents7_all hj
            rw [← hb];exact all_seen _ _ hl0 e he])
          rw [HSE.out] at HU
          clear hl0 hrun HK HI
          obtain ⟨w7,rfl⟩ : ∃ W : World,W = wr := ⟨_,rfl⟩
          have HBW := am (below_step HB5.out HB.out)
          have HMM7 := am (HMM5.out.2.below HB.out)
          have hal0 := cpAll0_len m ins
          rw [← HN.out] at hal0
          have HAL := am hal0
          clear HMM5 HMP hx5 hal0
          obtain ⟨bz,hbz⟩ : ∃ b,decide (0 < rows.length) = b := ⟨_,rfl⟩
          go_upto_if 120 with fail
          have HBZ := am hbz
          clear hnx hbz
          go_cut [] (fun wc => ∃ al : List Int,Aside0 (al = if (cpRows m outs).length = 0 then cpAll0 m ins else cpAll1 p m ins outs) ∧ Aside0 ((cpRows m outs).length = 0 ∨ ¬ (cpRed p m ins outs).2.1.length < (cpRows m outs).length) ∧ Aside0 (wc.ownsRow w5.heap.size 22 1 (.slice (some ⟨bl,0,none⟩) n n) n (nums .u64 al)) ∧ Aside0 (Below w5.heap.size w5 wc))
          case first =>
           as_aux_lemma =>
            cases bz with
            | false =>
             have HZ := am (show rows.length = 0 from by have := of_decide_eq_false HBZ.out;omega)
             go_wp2_with fail
             go_meet
             exact ⟨cpAll0 m ins,⟨by rw [if_pos (by rw [← HRO.out];exact HZ.out)]⟩,⟨Or.inl (by rw [← HRO.out];exact HZ.out)⟩,HU,HB⟩
            | true =>
             have hz0 : 0 < rows.length := of_decide_eq_true HBZ.out
             obtain ⟨hpl,hpo,hps⟩ := cp_part HH.out HGO.out
             rw [← HRO.out,← HCO.out] at hpl hps
             rw [← HRO.out,← HCO.out] at hpo
             obtain ⟨hl1,hl2⟩ := cp_lens HH.out HGO.out
             rw [← HRO.out] at hl1
             rw [← HCO.out] at hl2
             have hr60 : rows.length ≤ 60 := by omega
             obtain ⟨ks,hks⟩ := (subm_ev m rows cols (by omega) (by omega)).rounds
             unfold subR at hks
             rw [if_pos hps] at hks
             have HKS := am hks
             obtain ⟨part,hpart⟩ : ∃ x,x = subM m rows cols := ⟨_,rfl⟩
             rw [← hpart] at hpl hpo HKS
             have HPL := am hpl
             have HPO := am (show RowsOk p part.length part from by rw [hpl];exact hpo)
             have HRED := am (show cpRed p m ins outs = red p (wideM part) part.length from by unfold cpRed;rw [← HRO.out,← HCO.out,← hpart,hpl])
             have HINV := am (show cpInv p m ins outs = (red p (wideM part) part.length).1.map (·.drop part.length) from by unfold cpInv;rw [HRED.out,← HRO.out,hpl])
             have HCM := am (Kd.C_below HR1.out HBW.out)
             have HCR := am (Kd.C_below HRS5.out HB.out)
             have HCC := am (Kd.C_below HCS.out.2.2 HB.out)
             have hp0 : 0 < part.length := by omega
             have hp60 : part.length ≤ 100 := by omega
             have hcr := HRS.out.2.1
             have hcc := HCS.out.2.1
             have hlc : cols.length = rows.length := by omega
             have HLC := am hlc
             clear hpl hpo hps hl1 hl2 hks hpart hlc
             by_cases hsg : (cpRed p m ins outs).2.1.length < (cpRows m outs).length
             ·have HSG := am (show (red p (wideM part) part.length).2.1.length < part.length from by rw [← HRED.out,HPL.out,HRO.out];exact hsg)
              have HER := am (show cpR p m ins outs = ([],[],8) from by
               unfold cpR
               rw [if_pos HGO.out,if_neg (by rw [← HRO.out];omega),if_pos hsg])
              clear hsg
              go_wp2_with (first
               | (go_at_call 18;(with_reducible refine (hyperinvertible_Submatrix.calls ks (some ad) c1 m Ar cr rows Ac cc cols part 0 _ HCM.out hc1 HCR.out hcr HCC.out hcc HKS.out).mono ?_);rintro e w8 ⟨v8,rfl,ho8,hb8⟩;obtain ⟨Ap,cp,ep⟩ := Kd.S_slice ho8;subst ep;have HPS := am (Kd.S_reads' ho8);have HB8 := am (below_step HBW.out hb8);clear ho8 hb8)
               | (go_at_call 43;(with_reducible refine (inverse_walk p HH.out.hp Ap cp part _ HPS.out.2.2 HPS.out.2.1 hp0 hp60 HPO.out).mono ?_);rintro e w9 ⟨hinv,hb9⟩;have HB9 := am (below_step HB8.out hb9);unfold InvR at hinv;rw [if_pos HSG.out] at hinv;subst hinv;clear hb9))
              first|go_ret|((try simp only [Exit.inBlock,Exit.then]);refine bodyPost_ret (results_tmp3 rfl _ _ _) rfl ?_)
              exact ⟨by rw [HER.out];exact cpRet_err rfl,HB9.out⟩
             ·have HSG := am (show ¬ (red p (wideM part) part.length).2.1.length < part.length from by rw [← HRED.out,HPL.out,HRO.out];exact hsg)
              have HNS := am hsg
              clear hsg
              go_wp2_with (first
               | (go_at_call 18;(with_reducible refine (hyperinvertible_Submatrix.calls ks (some ad) c1 m Ar cr rows Ac cc cols part 0 _ HCM.out hc1 HCR.out hcr HCC.out hcc HKS.out).mono ?_);rintro e w8 ⟨v8,rfl,ho8,hb8⟩;obtain ⟨Ap,cp,ep⟩ := Kd.S_slice ho8;subst ep;have HPS := am (Kd.S_reads' ho8);have HB8 := am hb8;clear ho8 hb8)
               | (go_at_call 43;(with_reducible refine (inverse_walk p HH.out.hp Ap cp part _ HPS.out.2.2 HPS.out.2.1 hp0 hp60 HPO.out).mono ?_);rintro e w9 ⟨hinv,hb9⟩;have HB9 := am hb9;unfold InvR at hinv;rw [if_neg HSG.out] at hinv;obtain ⟨Ai,ci,ei,hci,hCi⟩ := hinv;subst ei;have HCI := am hCi;clear hb9 hCi))
              have HB79 := am (show Below w7.heap.size w7 w9 from below_step HB8.out HB9.out)
              have HBL8 := am (show bl < w8.heap.size from by have := own_lt HU.out bl rfl;have := below_size HB8.out;omega)
              have HB59 := am (show Below w5.heap.size w5 w9 from below_step HB.out HB79.out)
              have HU9 := am (own_below0 HU.out HB79.out)
              have hll := cpLeft_len (p := p) (m := m) (ins := ins) (outs := outs)
              rw [← HRO.out] at hll
              have HLL := am hll
              clear hll HPS HU HB HCM HCR HCC HKS
              go_loopg [25,141] rows.length (fun kq v25 v141 w' => ∃ (i : Nat),v141 = .int .i64 (i : Int) ∧ Aside0 (kq + i = rows.length) ∧ Aside0 (Kd.R (Kd.int .u64) 22 w' w9.heap.size (fun _ => True) v25 ((cpLeft p m ins outs).take i)) ∧ Aside0 (Below w9.heap.size w9 w'))
              case atStart => exact ⟨0,rfl,⟨rfl⟩,⟨Kd.R_nil _ _ _ _ _⟩,⟨Below.refl _ _⟩⟩
              case round =>
               as_aux_lemma =>
                obtain ⟨i,rfl,HK,HO,HB⟩ := hrel
                by_cases hlt : i < rows.length
                ·
                 have s1 : ((i : Int) < (rows.length : Int)) = True := eq_true (by omega)
                 have s2 : decide (i < rows.length) = true := decide_eq_true hlt
                 have s3 : ((0 : Int) ≤ (i : Int)) = True := eq_true (by omega)
                 have HB5r := am (below_step HB59.out HB.out)
                 have HBwr := am (below_step HB5.out HB5r.out)
                 obtain ⟨ad2,ea2,hy2⟩ := Kd.at_int (Kd.C_below HRS5.out HB5r.out) (i : Int) (by omega) (by omega)
                 cases ea2
                 rw [Int.toNat_natCast] at hy2
                 have hxin : rd rows (i : Int) ∈ rows := rd_mem hlt
                 have hsel : rows = selR (keys7 LB) true m.length := HRO.out.trans hrl0.out
                 have hxr := selR_mem.1 (show rd rows (i : Int) ∈ selR (keys7 LB) true m.length from hsel ▸ hxin)
                 clear hsel
                 have HNXT := am (show (cpLeft p m ins outs).take i ++ [(val7 LB (rd rows (i : Int)) - dotP p (rd_L2 m (rd rows (i : Int))) (cpAll0 m ins) n) % p] = (cpLeft p m ins outs).take (i + 1) from by
                  have h9 := cpLeft_next (p := p) (m := m) (ins := ins) (outs := outs) (i := i) (by rw [← HRO.out];exact hlt)
                  rw [← HRO.out,← HLB.out,← HN.out] at h9
                  exact h9)
                 have hrow := HH.out.rows
                 obtain ⟨x,hxe⟩ : ∃ x : Nat,rd rows (i : Int) = (x : Int) := ⟨(rd rows (i : Int)).toNat,by omega⟩
                 rw [hxe] at hy2 hxr HNXT
                 have hxm : x < m.length := by omega
                 obtain ⟨ad7,A7,c7,e7,hy9,hc7,hC9⟩ := at_L2 (Kd.C_below HR1.out (below_step HB5.out HB59.out)) (x : Int) (by omega) (by omega)
                 cases e7
                 rw [Int.toNat_natCast] at hy9
                 have hy7 := pw_cell_below HB.out hy9
                 have hC7 := Kd.C_below hC9 HB.out
                 clear hC9
                 have hr7 : rd_L2 m (x : Int) ∈ m := by rw [rdM_nat,List.getD_eq_getElem?_getD,List.getElem?_eq_getElem hxm];exact List.getElem_mem hxm
                 have hrn := HRE.out _ hr7
                 have hrr := (hrow _ hr7).2
                 obtain ⟨r7,her7⟩ : ∃ r,r = rd_L2 m (x : Int) := ⟨_,rfl⟩
                 rw [← her7] at hy7 hy9 hc7 hC7 hrn hrr HNXT
                 rw [hrn] at hy7 hy9 hc7 hC7
                 have HY9 := am hy9
                 clear hy9
                 obtain ⟨kr,hkr⟩ := (row_ev HH.out.hp hrr (cpAll0_res HH.out HGO.out) (by rw [HAL.out];omega) (by omega)).rounds
                 rw [hrn] at hkr
                 have hvr : Res p (val7 LB (x : Int)) := by rw [HLB.out];exact val7_res HH.out.hp (by rw [← HLB.out];exact HNB.out) (fun y hy => (HH.out.po y hy).2) _
                 obtain ⟨y,hye⟩ : ∃ y,y = dotP p r7 (cpAll0 m ins) n := ⟨_,rfl⟩
                 have hyr : Res p y := by rw [hye];exact dotP_res HH.out.hp _ _ _
                 rw [← hye] at hkr HNXT
                 obtain ⟨kq2,hkq⟩ := (sub_ev HH.out.hp hvr hyr).rounds
                 obtain ⟨z,hze⟩ : ∃ z,z = (val7 LB (x : Int) - y) % p := ⟨_,rfl⟩
                 rw [← hze] at hkq HNXT
                 have HUr := am (own_below0 HU9.out HB.out)
                 have HRC := am (show ∀ W,Below wr.heap.size wr W → Calls Try.prog 45 #[.int .u64 p,.slice A7 n c7,.slice (some ⟨bl,0,none⟩) n n] W fun e w' => e = .returned (.int .u64 y) ∧ Drawn0 W w' from by
                  intro W hW
                  have hUR : Kd.R (Kd.int .u64) 22 W w5.heap.size (fun _ => True) (.slice (some ⟨bl,0,none⟩) n n) (cpAll0 m ins) := Kd.R_of_own (by rw [HAL.out];exact own_below0 HUr.out hW) (fun _ _ => trivial)
                  have h3 := (Kd.R_reads' hUR).2.2
                  have h4 := hyperinvertible_row.calls kr p A7 c7 r7 (some ⟨bl,0,none⟩) n (cpAll0 m ins) y W (by rw [hrn];exact Kd.C_below hC7 hW) (by rw [hrn];exact hc7) (by exact h3) (by rw [HAL.out];exact Nat.le_refl _) hkr
                  rw [hrn,HAL.out] at h4
                  exact h4)
                 have HKQ := am hkq
                 have HMr := am ((HMM7.out.below HB79.out).below HB.out)
                 have hcm : wr.cell? ⟨bmb,64,none⟩ = some (.map (some bpb)) := (blk_cell HMr.out.1 64).trans (maskC_map LB bpb)
                 have hmp : MpAt wr bpb LB := HMr.out.2
                 have hlook : ∀ W,MpAt W bpb LB → (Instr.lookup 72 (.map (some bpb)) (.int .i64 (x : Int)) false).run Try.prog W = .ok (.int .u64 (val7 LB (x : Int))) W := fun W hW => (mp_look Try.underlying72 Try.underlying3 (zeroW7 W) hW HNB.out (x : Int)).1
                 obtain ⟨vx,hvx⟩ : ∃ v,v = val7 LB (x : Int) := ⟨_,rfl⟩
                 rw [← hvx] at HKQ
                 rw [← hvx] at hlook
                 have t1 : ((0 : Int) ≤ (x : Int)) = True := eq_true (by omega)
                 have t2 : ((x : Int) < (m.length : Int)) = True := eq_true (by omega)
                 have t3 : decide (x < m.length) = true := decide_eq_true hxm
                 have HY7 := am hy7
                 have HCMr := am hcm
                 have hil2 : ((cpLeft p m ins outs).take i).length ≤ 60 := by rw [List.length_take];omega
                 clear hxin hxr hrow hxe hC7 hr7 hrn hrr her7 hkr hye hvr hyr hkq hze hvx
                 go_wp2
                 refine start_ (n := 19) (S := (fun w' => w'.cell? ⟨bmb,64,none⟩ = some (.map (some bpb)) ∧ MpAt w' bpb LB ∧ w'.cell? (ad.add x) = some (.slice A7 n c7))) (ds := []) (bz 19 0) (by kernel_rfl) rfl rfl ⟨hcm,hmp,hy7⟩ (fun hHeld => ?_)
                 refine pu 0 145 (bz 19 1) ?_
                 refine pu 1 146 (bz 19 3) ?_
                 refine pu 2 147 (bz 19 7) ?_
                 refine pu 3 148 (bz 19 15) ?_
                 refine pu 4 149 (bz 19 31) ?_
                 refine tu 5 150 (bz 19 63) hHeld ?_
                 refine pu 6 151 (bz 19 127) ?_
                 refine tu 7 152 (bz 19 255) hHeld ?_
                 refine pu 8 153 (bz 19 511) ?_
                 refine pu 9 154 (bz 19 1023) ?_
                 refine pu 10 155 (bz 19 2047) ?_
                 refine pu 11 156 (bz 19 4095) ?_
                 refine tu 12 157 (bz 19 8191) hHeld ?_
                 refine pu 13 158 (bz 19 16383) ?_
                 refine one_ (i := 14) (N := some 159) (bz 19 32767) rfl rfl (by kernel_rfl) (by decide) (fun K hK => ?_)
                 refine goes_ Try.func45 (by kernel_rfl) rfl #[.int .u64 p,.slice A7 n c7,.slice (some ⟨bl,0,none⟩) n n] (by rfl) rfl rfl (by (try simp only [List.map_toArray,List.map_cons,List.map_nil]);first|done|rfl) ?_
                 with_reducible refine (HRC.out _ (below_drew (Below.refl _ _))).mono ?_
                 rintro e w' ⟨rfl,⟨nd,rfl⟩⟩
                 refine ⟨_,rfl,?_⟩
                 refine hK.out _ _ ⟨hcm,hmp,hy7⟩ (fun hHeld => ?_)
                 clear hK K
                 refine nm 159 ?_
                 refine one_ (i := 15) (N := some 160) (bz 19 65535) rfl rfl (by kernel_rfl) (by decide) (fun K hK => ?_)
                 refine goes_ Try.func44 (by kernel_rfl) rfl #[.int .u64 p,.int .u64 vx,.int .u64 y] (by rfl) rfl rfl (by (try simp only [List.map_toArray,List.map_cons,List.map_nil]);first|done|rfl) ?_
                 with_reducible refine (field_Sub.calls kq2 p vx y z _ HKQ.out).mono ?_
                 rintro e w' ⟨rfl,⟨nd2,rfl⟩⟩
                 refine ⟨_,rfl,?_⟩
                 refine hK.out _ _ ⟨hcm,hmp,hy7⟩ (fun hHeld => ?_)
                 clear hK K
                 refine nm 160 ?_
                 refine one_ (i := 16) (N := some 161) (bz 19 131071) rfl rfl (by kernel_rfl) (by decide) (fun K hK => ?_)
                 refine value_ (v := .slice (some ⟨wr.heap.size,0,none⟩) 1 1) (w1 := (wr.drewN (1 + nd + nd2)).alloc (.cells #[.int .u64 z] 22)) (by rfl) rfl (by go_simp) ?_
                 refine hK.out _ _ ⟨cell_alloc_of hcm _,MpAt.alloc (w := wr.drewN (1 + nd + nd2)) hmp _,cell_alloc_of hy7 _⟩ (fun hHeld => ?_)
                 clear hK K
                 refine nm 161 ?_
                 refine one_ (i := 17) (N := some 162) (bz 19 262143) rfl rfl (by kernel_rfl) (by decide) (fun K hK => ?_)
                 refine Kd.R_append_step (Kd.int .u64) (w0 := w9) w9.heap.size (by rfl) (.tmp 145) (.tmp 161) 40 22 (.int .u64 0) 8 rfl Try.underlying40 info22 rfl (by decide) (by omega) u25 ((cpLeft p m ins outs).take i) z [.int .u64 z] (fun _ => True) (fun _ => False) rfl rfl ?aP (fun _ hk => hk.elim) ?aF ?aO ?aB ?aS ?aL ?_
                 (case aP => exact rfl)
                 (case aB => exact pw_below_drewN HB.out _)
                 (case aF => exact (fun _ _ => trivial))
                 (case aO => exact Kd.R_drewN HO.out _)
                 (case aS => exact below_size (pw_below_drewN HB.out _))
                 (case aL => omega)
                 intro v2 w10 ho hb hg hat
                 rw [HNXT.out] at ho
                 have hm10 := (HMM7.out.below HB79.out).below hb
                 refine hK.out _ _ ⟨(blk_cell hm10.1 64).trans (maskC_map LB bpb),hm10.2,pw_cell_below hb HY9.out⟩ (fun hHeld => ?_)
                 clear hK K
                 refine nm 162 ?_
                 refine pu 18 25 (bz 19 524287) ?_
                 refine done_ (by kernel_rfl) ?_
                 have HO2 := am ho
                 have HB2 := am hb
                 clear ho hb hg hat hm10
                 go_wp2
                 go_roundg (rows.length - (i + 1))
                 case measure => have := HK.out;omega
                 case rel => exact ⟨i + 1,by go_num,⟨by omega⟩,HO2,HB2⟩
                ·have s1 : ((i : Int) < (rows.length : Int)) = False := eq_false (by omega)
                 have s2 : decide (i < rows.length) = false := decide_eq_false hlt
                 have HLF := am (show (cpLeft p m ins outs).take i = cpLeft p m ins outs from List.take_of_length_le (by rw [HLL.out];omega))
                 rw [HLF.out] at HO
                 obtain ⟨left,hleft⟩ : ∃ x,x = cpLeft p m ins outs := ⟨_,rfl⟩
                 rw [← hleft] at HO HLL
                 obtain ⟨Al,cl,el⟩ := Kd.R_slice HO.out
                 rw [HLL.out] at el
                 subst el
                 obtain ⟨w10,rfl⟩ : ∃ W : World,W = wr := ⟨_,rfl⟩
                 have HB5x := am (below_step HB59.out HB.out)
                 have HBx := HB
                 have HUx := am (own_below0 HU9.out HB.out)
                 have HLV := am (cpVals_res (p := p) (m := m) (ins := ins) (outs := outs) HH.out)
                 have HIO := am (cpInv_ok HH.out HGO.out)
                 rw [← HINV.out] at HCI
                 obtain ⟨inv,hinv⟩ : ∃ x,x = cpInv p m ins outs := ⟨_,rfl⟩
                 rw [← hinv] at HCI HIO
                 have HIN := am (show cpVals p m ins outs = inv.map fun r => dotP p r (cpLeft p m ins outs) rows.length from by rw [hinv,HRO.out];rfl)
                 have HLR := am (show ∀ x ∈ left,Res p x from by rw [hleft];exact cpLeft_res HH.out)
                 rw [← hleft] at HIN
                 clear hinv hleft HK HLF
                 go_wp2
                 go_loopg [166] cols.length (fun kq v166 w' => ∃ (j : Nat),v166 = .int .i64 (j : Int) ∧ Aside0 (kq + j = cols.length) ∧ Aside0 (w'.ownsRow w5.heap.size 22 1 (.slice (some ⟨bl,0,none⟩) n n) n (nums .u64 (fillN cols (cpVals p m ins outs) (cpAll0 m ins) j))) ∧ Aside0 (∀ k,k < w10.heap.size → k ≠ bl → w'.heap[k]? = w10.heap[k]?) ∧ Aside0 (Below w5.heap.size w5 w'))
                 case atStart => exact ⟨0,rfl,⟨rfl⟩,HUx,⟨fun _ _ _ => rfl⟩,HB5x⟩
                 case round =>
                  as_aux_lemma =>
                   clear s1 s2
                   obtain ⟨j,rfl,HK,HU,HKP,HB⟩ := hrel
                   by_cases hlt : j < cols.length
                   ·
                    have s1 : ((j : Int) < (cols.length : Int)) = True := eq_true (by omega)
                    have s2 : decide (j < cols.length) = true := decide_eq_true hlt
                    have s3 : ((0 : Int) ≤ (j : Int)) = True := eq_true (by omega)
                    have hjr : j < rows.length := by rw [← HLC.out];exact hlt
                    obtain ⟨ad2,ea2,hy2⟩ := Kd.at_int (Kd.C_below HCS.out.2.2 HB.out) (j : Int) (by omega) (by omega)
                    cases ea2
                    rw [Int.toNat_natCast] at hy2
                    have hyin : rd cols (j : Int) ∈ cols := rd_mem hlt
                    have hsel : cols = selR (keys7 LA) false n := HCO.out.trans hcl0.out
                    have hyr := selR_mem.1 (show rd cols (j : Int) ∈ selR (keys7 LA) false n from hsel ▸ hyin)
                    clear hsel
                    have HNX := am (show (fillN cols (cpVals p m ins outs) (cpAll0 m ins) j).set (rd cols (j : Int)).toNat ((cpVals p m ins outs).getD j 0) = fillN cols (cpVals p m ins outs) (cpAll0 m ins) (j + 1) from rfl)
                    obtain ⟨y,hye⟩ : ∃ y : Nat,rd cols (j : Int) = (y : Int) := ⟨(rd cols (j : Int)).toNat,by omega⟩
                    rw [hye] at hy2 hyr HNX
                    rw [Int.toNat_natCast] at HNX
                    have hbl8 := HBL8.out
                    have hs89 := below_size HB9.out
                    have hCI := HCI.out wr (fun k h1 h2 => by
                     have h3 := below_size HBx.out
                     rw [HKP.out k (by omega) (by omega)]
                     exact HBx.out.block k h2)
                    obtain ⟨ad8,A8,c8,e8,hy8,hc8,hC8⟩ := at_L2 hCI (j : Int) (by omega) (by rw [HPL.out];omega)
                    cases e8
                    rw [Int.toNat_natCast] at hy8
                    have hjv : j < inv.length := by rw [HIO.out.1,← HRO.out];exact hjr
                    have hr8 : rd_L2 inv (j : Int) ∈ inv := by rw [rdM_nat,List.getD_eq_getElem?_getD,List.getElem?_eq_getElem hjv];exact List.getElem_mem hjv
                    obtain ⟨hrn,hrr⟩ := HIO.out.2 _ hr8
                    rw [← HRO.out] at hrn
                    have hvz : (cpVals p m ins outs).getD j 0 = dotP p (rd_L2 inv (j : Int)) left rows.length := by
                     rw [HIN.out,List.getD_eq_getElem?_getD,List.getElem?_map,List.getElem?_eq_getElem hjv,rdM_nat,List.getD_eq_getElem?_getD,List.getElem?_eq_getElem hjv];rfl
                    rw [hvz] at HNX
                    obtain ⟨r8,her8⟩ : ∃ r,r = rd_L2 inv (j : Int) := ⟨_,rfl⟩
                    rw [← her8] at hy8 hc8 hC8 hrn hrr HNX
                    obtain ⟨kr,hkr⟩ := (row_ev HH.out.hp hrr HLR.out (by rw [HLL.out];omega) (by omega)).rounds
                    rw [hrn] at hkr
                    obtain ⟨z,hze⟩ : ∃ z,z = dotP p r8 left rows.length := ⟨_,rfl⟩
                    rw [← hze] at hkr HNX
                    have hol : wr.ownsRow w9.heap.size 22 1 (.slice Al rows.length cl) left.length (nums .u64 left) := own_move (Kd.own_of_R HO.out) fun k hk => HKP.out k (own_lt (Kd.own_of_R HO.out) k hk) (by have := own_base (Kd.own_of_R HO.out) k hk;omega)
                    have hlR : Kd.R (Kd.int .u64) 22 wr w9.heap.size (fun _ => True) (.slice Al rows.length cl) left := Kd.R_of_own hol (fun _ _ => trivial)
                    have HRC := am (show Calls Try.prog 45 #[.int .u64 p,.slice A8 rows.length c8,.slice Al rows.length cl] wr fun e w' => e = .returned (.int .u64 z) ∧ Drawn0 wr w' from by
                     have h3 := Kd.R_reads' hlR
                     have h4 := hyperinvertible_row.calls kr p A8 c8 r8 Al cl left z wr hC8 hc8 h3.2.2 (by rw [HLL.out];exact h3.2.1) hkr
                     rw [hrn,HLL.out] at h4
                     exact h4)
                    rw [hrn] at hy8
                    have hyn : y < n := by omega
                    have hcl2 : wr.cell? ⟨bl,y,none⟩ = some (.int .u64 ((fillN cols (cpVals p m ins outs) (cpAll0 m ins) j)[y]'(by rw [fillN_len,HAL.out];exact hyn))) := own_cell0 (r := fillN cols (cpVals p m ins outs) (cpAll0 m ins) j) (by rw [fillN_len,HAL.out];exact HU.out) _
                    have hfl2 : wr.frozen? ⟨bl,y,none⟩ = false := by
                     obtain ⟨cs,hcs⟩ := own_typed2 (g := bl) HU.out rfl
                     exact blk_frozen hcs y
                    have k1 : ((0 : Int) ≤ (y : Int)) = True := eq_true (by omega)
                    have k2 : ((y : Int) < (n : Int)) = True := eq_true (by omega)
                    have k3 : decide (y < n) = true := decide_eq_true hyn
                    have k4 : ((j : Int) < (part.length : Int)) = True := eq_true (by rw [HPL.out];omega)
                    have k5 : decide (j < part.length) = true := decide_eq_true (by rw [HPL.out];omega)
                    clear hyin hyr hye hCI hC8 hjv hr8 hrn hrr hvz her8 hkr hze hol hlR
                    go_wp2_with (first
                     | (go_at_call 45;(with_reducible refine HRC.out.mono ?_);rintro e w' ⟨rfl,⟨nd,rfl⟩⟩))
                    go_roundg (cols.length - (j + 1))
                    case measure => have := HK.out;omega
                    case rel =>
                     refine ⟨j + 1,by go_num,⟨by omega⟩,⟨?_⟩,⟨fun k h1 h2 => ?_⟩,⟨?_⟩⟩
                     ·rw [← HNX.out,show nums .u64 ((fillN cols (cpVals p m ins outs) (cpAll0 m ins) j).set y z) = (nums .u64 (fillN cols (cpVals p m ins outs) (cpAll0 m ins) j)).set y (.int .u64 z) from by simp [nums,List.map_set]]
                      exact ((own_below0 HU.out (pw_below_drewN (Below.refl _ _) nd)).stored y _).1
                     ·exact (Below.heap_setCell (wr.drewN nd) ⟨bl,y,none⟩ _ k h2).trans (HKP.out k h1 h2)
                     ·exact (pw_below_drewN HB.out nd).setCell (p := ⟨bl,y,none⟩) hbl _
                   ·have s1 : ((j : Int) < (cols.length : Int)) = False := eq_false (by omega)
                    have s2 : decide (j < cols.length) = false := decide_eq_false hlt
                    have HJ := am (show j = (cpRows m outs).length from by rw [← HRO.out,← HLC.out];have := HK.out;omega)
                    go_wp2_with fail
                    go_meet
                    refine ⟨cpAll1 p m ins outs,⟨by rw [if_neg (by rw [← HRO.out];omega)]⟩,⟨Or.inr HNS.out⟩,⟨?_⟩,HB⟩
                    unfold cpAll1
                    rw [← HJ.out,← HCO.out]
                    exact HU.out
          case rest =>
           as_aux_lemma =>
            obtain ⟨al,HA,HOR,HU,HB⟩ := hcut
            have HCR := am (show cpR p m ins outs = (al,cpOut p m al,0) from by
             unfold cpR
             rw [if_pos HGO.out,HA.out]
             by_cases h1 : (cpRows m outs).length = 0
             ·rw [if_pos h1,if_pos h1]
             ·rw [if_neg h1,if_neg (HOR.out.resolve_left h1),if_neg h1])
            have HALR := am (show (∀ x ∈ al,Res p x) ∧ al.length = n from by
             rw [HA.out]
             split
             ·exact ⟨cpAll0_res HH.out HGO.out,HAL.out⟩
             ·unfold cpAll1
              exact ⟨fillN_res HH.out.hp (cpVals_res HH.out) (cpAll0_res HH.out HGO.out) _,by rw [fillN_len];exact HAL.out⟩)
            have HOUT := am (show cpOut p m al = m.map fun r => dotP p r al n from by unfold cpOut;rw [HN.out])
            have HBw := am (below_step HB5.out HB.out)
            obtain ⟨w11,rfl⟩ : ∃ W : World,W = wc := ⟨_,rfl⟩
            go_wp2
            go_loopg [30,184] m.length (fun kq v30 v184 w' => ∃ (i : Nat),v184 = .int .i64 (i : Int) ∧ Aside0 (kq + i = m.length) ∧ Aside0 (Kd.R (Kd.int .u64) 22 w' w11.heap.size (fun _ => True) v30 ((cpOut p m al).take i)) ∧ Aside0 (Below w11.heap.size w11 w'))
            case atStart => exact ⟨0,rfl,⟨rfl⟩,⟨Kd.R_nil _ _ _ _ _⟩,⟨Below.refl _ _⟩⟩
            case round =>
             as_aux_lemma =>
              obtain ⟨i,rfl,HK,HO,HBi⟩ := hrel
              by_cases hlt : i < m.length
              ·
               have s1 : ((i : Int) < (m.length : Int)) = True := eq_true (by omega)
               have s2 : decide (i < m.length) = true := decide_eq_true hlt
               have s3 : ((0 : Int) ≤ (i : Int)) = True := eq_true (by omega)
               obtain ⟨ad7,A7,c7,e7,hy7,hc7,hC7⟩ := at_L2 (Kd.C_below HR1.out (below_step HBw.out HBi.out)) (i : Int) (by omega) (by omega)
               cases e7
               rw [Int.toNat_natCast] at hy7
               have hr7 : rd_L2 m (i : Int) ∈ m := by rw [rdM_nat,List.getD_eq_getElem?_getD,List.getElem?_eq_getElem hlt];exact List.getElem_mem hlt
               have hrn := HRE.out _ hr7
               have hrr := (HH.out.rows _ hr7).2
               have HNX := am (show (cpOut p m al).take i ++ [dotP p (rd_L2 m (i : Int)) al n] = (cpOut p m al).take (i + 1) from by
                rw [HOUT.out,← List.map_take,← List.map_take,List.take_succ_eq_append_getElem hlt,List.map_append,rdM_nat,List.getD_eq_getElem?_getD,List.getElem?_eq_getElem hlt];rfl)
               obtain ⟨r7,her7⟩ : ∃ r,r = rd_L2 m (i : Int) := ⟨_,rfl⟩
               rw [← her7] at hy7 hc7 hC7 hrn hrr HNX
               obtain ⟨kr,hkr⟩ := (row_ev HH.out.hp hrr HALR.out.1 (by rw [HALR.out.2];omega) (by omega)).rounds
               rw [hrn] at hkr
               obtain ⟨z,hze⟩ : ∃ z,z = dotP p r7 al n := ⟨_,rfl⟩
               rw [← hze] at hkr HNX
               have HRC := am (show Calls Try.prog 45 #[.int .u64 p,.slice A7 n c7,.slice (some ⟨bl,0,none⟩) n n] wr fun e w' => e = .returned (.int .u64 z) ∧ Drawn0 wr w' from by
                have hUR : Kd.R (Kd.int .u64) 22 wr w5.heap.size (fun _ => True) (.slice (some ⟨bl,0,none⟩) n n) al := Kd.R_of_own (by rw [HALR.out.2];exact own_below0 HU.out HBi.out) (fun _ _ => trivial)
                have h3 := (Kd.R_reads' hUR).2.2
                have h4 := hyperinvertible_row.calls kr p A7 c7 r7 (some ⟨bl,0,none⟩) n al z wr hC7 hc7 h3 (by rw [HALR.out.2];exact Nat.le_refl _) hkr
                rw [hrn,HALR.out.2] at h4
                exact h4)
               rw [hrn] at hy7
               have hil2 : ((cpOut p m al).take i).length ≤ 60 := by rw [List.length_take];omega
               clear hC7 hr7 hrn hrr her7 hkr hze
               go_wp2_with (first
                | (go_at_call 45;(with_reducible refine HRC.out.mono ?_);rintro e w' ⟨rfl,⟨nd,rfl⟩⟩)
                | ((with_reducible refine gate_builtin (b := .append) (xs := #[.tmp 188,.tmp 193]) rfl ?_);at_builtin;refine Kd.R_append (Kd.int .u64) (w0 := w11) w11.heap.size rfl (.tmp 188) (.tmp 193) 40 22 (.int .u64 0) 8 rfl Try.underlying40 info22 rfl (by decide) (by omega) u30 ((cpOut p m al).take i) z [.int .u64 z] (fun _ => True) (fun _ => False) rfl rfl ?aP (fun _ hk => hk.elim) ?aF ?aO ?aB ?aS ?aL ?_;(case aP => exact rfl);(case aB => exact (pw_below_drewN HBi.out _));(case aF => exact (fun _ _ => trivial));(case aO => exact Kd.R_drewN HO.out _);(case aS => exact (below_size (pw_below_drewN HBi.out _)));(case aL => omega);intro v8 w8 ho hb hg hat;have HO8 := am (by rw [HNX.out] at ho;exact ho);have HB8 := am hb;clear ho hb hg hat))
               go_roundg (m.length - (i + 1))
               case measure => have := HK.out;omega
               case rel => exact ⟨i + 1,by go_num,⟨by omega⟩,HO8,HB8⟩
              ·have s1 : ((i : Int) < (m.length : Int)) = False := eq_false (by omega)
               have s2 : decide (i < m.length) = false := decide_eq_false hlt
               have HLF := am (show (cpOut p m al).take i = cpOut p m al from List.take_of_length_le (by rw [HOUT.out,List.length_map];omega))
               rw [HLF.out] at HO
               clear HLF HK
               go_wp2
               first|go_ret|((try simp only [Exit.inBlock,Exit.then]);refine bodyPost_ret (results_tmp3 rfl _ _ _) rfl ?_)
               have hbwi := below_step HBw.out HBi.out
               refine ⟨?_,hbwi⟩
               rw [HCR.out]
               refine ⟨.slice (some ⟨bl,0,none⟩) n n,u30,rfl,?_,Kd.R_lower HO.out (below_size HBw.out)⟩
               exact Kd.R_of_own (by
                show wr.ownsRow _ _ _ _ al.length _
                rw [HALR.out.2];exact own_weaken (own_below0 HU.out HBi.out) (below_size HB5.out)) (fun _ _ => trivial)
         ·
          obtain ⟨j,⟨qk,qy⟩,hj,rfl⟩ := ents7_at (mem_left he).1
          have hkin : qk ∈ keys7 LA := List.mem_map.2 ⟨(qk,qy),List.mem_of_getElem? hj,rfl⟩
          obtain ⟨hk0,hkn⟩ := HKI.out qk hkin
          obtain ⟨k,rfl⟩ : ∃ k : Nat,qk = (k : Int) := ⟨qk.toNat,by omega⟩
          have HSH := am (left_shrinks _ _ _ he)
          have hnx : ∀ ty,(Instr.next (.pointer (some ⟨ri,0,none⟩)) false ty).run Try.prog wr = _ := fun _ => hrun
          have hw7b : w7.heap = wr.heap := by rcases hw7 with rfl|rfl <;> rfl
          have hB7 : Below w5.heap.size w5 w7 := by
           rcases hw7 with rfl|rfl
           ·exact HB.out
           ·exact below_drew HB.out
          have hri7 : ri < w7.heap.size := by rw [hw7b];exact blk_lt HI.out
          obtain ⟨w8,hw8⟩ : ∃ W,W = Go.ChangeMaps.setBlock w7 ri (.mapIter (some bpa) LA.length (seen.push j) LA.length) := ⟨_,rfl⟩
          have HI8 := am (show w8.heap[ri]? = some (.mapIter (some bpa) LA.length (seen.push j) LA.length) from by rw [hw8];exact sb_same hri7)
          have HB8 := am (show Below w5.heap.size w5 w8 from by rw [hw8];exact sb_below hB7 HRI.out.2)
          have hu8 : w8.ownsRow w5.heap.size 22 1 (.slice (some ⟨bl,0,none⟩) n n) n (nums .u64 (allS LA seen n)) := own_move HU.out fun k hk => by
           rw [hw8]
           refine (sb_other ?_).trans (by rw [hw7b])
           have : bl = k := Option.some.inj hk
           have := HRI.out.1
           omega
          have hen := run_entry_at (P := Try.prog) w8 ri bpa LA.length seen (ents7 LA) LA.length ⟨.int .i64 (k : Int),.int .u64 qy,j⟩ HI8.out ((HMM5.out.1.below HB8.out).2) (mem_left he).1 (by rw [ents7_born];exact List.nodup_range)
          have hcl : w8.cell? ⟨bl,k,none⟩ = some (.int .u64 ((allS LA seen n)[k]'(by rw [allS_len];omega))) := own_cell0 (r := allS LA seen n) (by rw [allS_len];exact hu8) _
          have hfl : w8.frozen? ⟨bl,k,none⟩ = false := by
           obtain ⟨cs,hcs⟩ := own_typed2 (g := bl) hu8 rfl
           exact blk_frozen hcs k
          have HNX := am (show (allS LA seen n).set k qy = allS LA (seen.push j) n from by
           have := allS_push (n := n) HNA.out (seen := seen) hj hk0 hkn
           rwa [Int.toNat_natCast] at this)
          have HU9 := am (show (w8.setCell ⟨bl,k,none⟩ (.int .u64 qy)).ownsRow w5.heap.size 22 1 (.slice (some ⟨bl,0,none⟩) n n) n (nums .u64 (allS LA (seen.push j) n)) from by
           rw [← HNX.out,show nums .u64 ((allS LA seen n).set k qy) = (nums .u64 (allS LA seen n)).set k (.int .u64 qy) from by simp [nums,List.map_set]]
           exact (hu8.stored k _).1)
          have HB9 := am (show Below w5.heap.size w5 (w8.setCell ⟨bl,k,none⟩ (.int .u64 qy)) from HB8.out.setCell (p := ⟨bl,k,none⟩) hbl _)
          have HI9 := am (show (w8.setCell ⟨bl,k,none⟩ (.int .u64 qy)).heap[ri]? = some (.mapIter (some bpa) LA.length (seen.push j) LA.length) from (Below.heap_setCell w8 ⟨bl,k,none⟩ _ ri (by have := HRI.out.1;show ri ≠ bl;omega)).trans HI8.out)
          have k1 : ((0 : Int) ≤ (k : Int)) = True := eq_true (by omega)
          have k2 : ((k : Int) < (n : Int)) = True := eq_true (by omega)
          have k3 : decide (k < n) = true := decide_eq_true (by omega)
          rw [← hw8] at hnx
          clear he hj hrun hw7 hw7b hB7 hri7 hw8 hu8 hkin
          go_wp2
          go_roundg (leftOf (ents7 LA) (seen.push j)).size
          case measure => have := HK.out;have := HSH.out;omega
          case rel => exact ⟨seen.push j,⟨rfl⟩,HI9,HU9,HB9⟩
def ptB (p : Int) (l : List S56) : Bool := l.all fun x => (decide (0 ≤ x.f0) && decide (x.f0 < 18446744073709551616)) && resB p x.f1
def cpOkB (p : Int) (m : List (List Int)) (ins outs : List S56) : Bool := supB p && (decide (m.length ≤ 60) && ((m.all fun r => decide (r.length ≤ 60) && ressB p r) && (decide (ins.length ≤ 60) && (decide (outs.length ≤ 60) && (ptB p ins && ptB p outs)))))
theorem ptB_iff {p : Int} {l : List S56} : ptB p l = true ↔ ∀ x ∈ l,(0 ≤ x.f0 ∧ x.f0 < 18446744073709551616) ∧ Res p x.f1 := by
 unfold ptB;simp only [List.all_eq_true,Bool.and_eq_true,decide_eq_true_eq,resB_iff]
theorem cpOkB_iff {p : Int} {m : List (List Int)} {ins outs : List S56} : cpOkB p m ins outs = true ↔ CpOk p m ins outs := by
 unfold cpOkB
 simp only [List.all_eq_true,Bool.and_eq_true,decide_eq_true_eq,supB_iff,ptB_iff,ressB_iff]
 exact ⟨fun h => ⟨h.1,h.2.1,h.2.2.1,h.2.2.2.1,h.2.2.2.2.1,h.2.2.2.2.2.1,h.2.2.2.2.2.2⟩,fun h => ⟨h.hp,h.lm,h.rows,h.li,h.lo,h.pi,h.po⟩⟩
def hyperinvertible_Complete.f (a0 : Int) (l1 : List (List Int)) (l2 l3 : List S56) : Option (List Int × List Int × Int) := if cpOkB a0 l1 l2 l3 = true then some (cpR a0 l1 l2 l3) else none
theorem hyperinvertible_Complete.calls (a0 : Int) (A1 : Option Addr) (c1 : Nat) (l1 : List (List Int)) (A2 : Option Addr) (c2 : Nat) (l2 : List S56) (A3 : Option Addr) (c3 : Nat) (l3 : List S56) (r1 r2 : List Int) (r3 : Int) (w : World) (hr1 : Kd.C (Kd.slice 22 (Kd.int .u64)) w A1 l1.length l1) (hc1 : l1.length ≤ c1) (hr2 : Kd.C k56 w A2 l2.length l2) (hc2 : l2.length ≤ c2) (hr3 : Kd.C k56 w A3 l3.length l3) (hc3 : l3.length ≤ c3) (h : hyperinvertible_Complete.f a0 l1 l2 l3 = some (r1,r2,r3)) :
  Calls Try.prog 22 #[.int .u64 a0,.slice A1 l1.length c1,.slice A2 l2.length c2,.slice A3 l3.length c3] w fun e w' => ∃ v0_ v1_ : Value,e = .returned (.tuple #[v0_,v1_,.int .i64 r3]) ∧ Kd.R (Kd.int .u64) 22 w' w.heap.size (fun _ => True) v0_ r1 ∧ Kd.R (Kd.int .u64) 22 w' w.heap.size (fun _ => True) v1_ r2 ∧ Below w.heap.size w w' := by
 unfold hyperinvertible_Complete.f at h
 obtain ⟨hok,h⟩ := ifs h
 have hk := cpOkB_iff.1 hok
 have hr := Option.some.inj h
 have hcalls : Calls Try.prog 22 #[.int .u64 a0,.slice A1 l1.length c1,.slice A2 l2.length c2,.slice A3 l3.length c3] w fun e w' => CpRet (cpR a0 l1 l2 l3) w e w' ∧ Below w.heap.size w w' := by
  by_cases hg : cpGo l1 l2 l3 = true
  ·exact complete_ok hk A1 c1 A2 c2 A3 c3 w hr1 hc1 hr2 hc2 hr3 hc3 hg
  ·have hg2 := Bool.eq_false_iff.2 hg
   have he : cpR a0 l1 l2 l3 = ([],[],1) := by unfold cpR;rw [if_neg hg]
   rw [he]
   exact complete_err hk A1 c1 A2 c2 A3 c3 w hr1 hc1 hr2 hc2 hr3 hc3 hg2
 refine hcalls.mono ?_
 rintro e w' ⟨⟨v0,v1,he,h1,h2⟩,hb⟩
 rw [hr] at he h1 h2
 exact ⟨v0,v1,he,h1,h2,hb⟩
end Go.Proofs.Ytmdoaijkaaaglaa.Hw
end
section
namespace Go.Proofs.Ytmdoaijkaaaglaa.Pr
open Go.RowKit Go.Proofs.YtmdoaijkaaaglaaW.PrintWords Go.Proofs.YtmdoaijkaaaglaaW.PrintLast Go.Proofs.YtmdoaijkaaaglaaW.PrintMore
attribute [local go_sem] max2_int min2_int max_two min_two max_three min_three max_four min_four
open Go.Proofs.Ytmdoaijkaaaglaa.Hw
def privitylaw07_awake.f (k : Nat)  : Option (Bool) := (hyperinvertible_New.f k 31 1 2).bind fun bt412 => ((hyperinvertible_New.f k 31 16 15).bind fun bt416 => ((hyperinvertible_Complete.f 31 (([(([30,2] : List Int))] : List (List Int))) (([(⟨1,5⟩ : S56)] : List (S56))) (([(⟨0,7⟩ : S56)] : List (S56)))).bind fun bt432 => (if bt412.2 = 0 then ((privityref05_SameRows.f k bt412.1 (([(([30,2] : List Int))] : List (List Int)))).bind fun t445 => (if t445 = true then (if bt416.2 = 2 then (if bt432.2.2 = 0 then ((privityref05_Same.f k bt432.1 (([3,5] : List Int))).bind fun t449 => (if t449 = true then ((privityref05_Same.f k bt432.2.1 (([7] : List Int))).bind fun t453 => (some t453)) else (some false))) else (some false)) else (some false)) else (some false))) else (some false))))
theorem privitylaw07_awake.mono : ∀ k,LeO (privitylaw07_awake.f k ) (privitylaw07_awake.f (k + 1) ) := by
 intro  k
 unfold privitylaw07_awake.f
 repeat' first
   | (with_reducible exact hyperinvertible_New.mono _ _ _ _)
   | (with_reducible exact privityref05_Same.mono _ _ _)
   | (with_reducible exact privityref05_SameRows.mono _ _ _)
   | (with_reducible exact LeO.refl _)
   | (with_reducible exact LeO.none _)
   | (with_reducible refine LeO.ite ?_ ?_)
   | (with_reducible refine LeO.bind ?_ (fun _ => ?_))
   | exact hyperinvertible_New.mono _ _ _ _
   | exact privityref05_Same.mono _ _ _
   | exact privityref05_SameRows.mono _ _ _
   | exact LeO.none _
   | refine LeO.ite ?_ ?_
   | refine LeO.bind ?_ (fun _ => ?_)
theorem privitylaw07_awake.more (k : Nat) : ∀ d,LeO (privitylaw07_awake.f k) (privitylaw07_awake.f (k + d))
 | 0 => fun r h => h
 | d + 1 => fun r h => privitylaw07_awake.mono (k + d) r (privitylaw07_awake.more k d r h)
theorem privitylaw07_awake.is : privitylaw07_awake.f 60 = some true := by kernel_rfl
theorem privitylaw07_awake.one (k : Nat) (r : Bool) (h : privitylaw07_awake.f k = some r) : r = true := by
 have h1 := privitylaw07_awake.more k 60 r h
 have h2 := privitylaw07_awake.more 60 k true privitylaw07_awake.is
 rw [Nat.add_comm,h1] at h2
 exact Option.some.inj h2
set_option maxHeartbeats 8000000 in
set_option maxRecDepth 100000 in
theorem privitylaw07_awake.calls (k : Nat)  (r : Bool) (w : World) (h : privitylaw07_awake.f k  = some r) :
  Calls Try.prog 12 #[] w fun e w' => e = .returned (.bool r) ∧ Below w.heap.size w w' := by
 have HR1 := am (privitylaw07_awake.one k r h)
 have hu56 := Try.underlying56
 have HB := am (Below.refl w.heap.size w)
 have H : ((hyperinvertible_New.f k 31 1 2).bind fun bt412 => ((hyperinvertible_New.f k 31 16 15).bind fun bt416 => ((hyperinvertible_Complete.f 31 (([(([30,2] : List Int))] : List (List Int))) (([(⟨1,5⟩ : S56)] : List (S56))) (([(⟨0,7⟩ : S56)] : List (S56)))).bind fun bt432 => (if bt412.2 = 0 then ((privityref05_SameRows.f k bt412.1 (([(([30,2] : List Int))] : List (List Int)))).bind fun t445 => (if t445 = true then (if bt416.2 = 2 then (if bt432.2.2 = 0 then ((privityref05_Same.f k bt432.1 (([3,5] : List Int))).bind fun t449 => (if t449 = true then ((privityref05_Same.f k bt432.2.1 (([7] : List Int))).bind fun t453 => (some t453)) else (some false))) else (some false)) else (some false)) else (some false))) else (some false))))) = some r := h
 clear h
 replace H := Option.bind_eq_some_iff.mp H
 obtain ⟨⟨t412,t413⟩,A10,H⟩ := H
 try dsimp only at H
 have A1 := am A10
 clear A10
 replace H := Option.bind_eq_some_iff.mp H
 obtain ⟨⟨t416,t417⟩,A20,H⟩ := H
 try dsimp only at H
 have A2 := am A20
 clear A20
 obtain ⟨y420,hy420⟩ : ∃ y_ : List Int,y_ = (([30,2] : List Int)) := ⟨_,rfl⟩
 replace H : ((hyperinvertible_Complete.f 31 (([y420] : List (List Int))) (([(⟨1,5⟩ : S56)] : List (S56))) (([(⟨0,7⟩ : S56)] : List (S56)))).bind fun bt432 => (if t413 = 0 then ((privityref05_SameRows.f k t412 (([(([30,2] : List Int))] : List (List Int)))).bind fun t445 => (if t445 = true then (if t417 = 2 then (if bt432.2.2 = 0 then ((privityref05_Same.f k bt432.1 (([3,5] : List Int))).bind fun t449 => (if t449 = true then ((privityref05_Same.f k bt432.2.1 (([7] : List Int))).bind fun t453 => (some t453)) else (some false))) else (some false)) else (some false)) else (some false))) else (some false))) = some r := by first|(rw [hy420];with_reducible exact H)|(have H2_ := (Option.bind_some _ _).symm.trans H;rw [hy420];with_reducible exact H2_)|(have H2_ := (Option.bind_some _ _).symm.trans H;with_reducible exact H2_)|with_reducible exact H|(rw [hy420];exact H)|exact H
 have Ny420 := am hy420
 clear hy420
 obtain ⟨y423,hy423⟩ : ∃ y_ : List (List Int),y_ = (([y420] : List (List Int))) := ⟨_,rfl⟩
 replace H : ((hyperinvertible_Complete.f 31 y423 (([(⟨1,5⟩ : S56)] : List (S56))) (([(⟨0,7⟩ : S56)] : List (S56)))).bind fun bt432 => (if t413 = 0 then ((privityref05_SameRows.f k t412 (([(([30,2] : List Int))] : List (List Int)))).bind fun t445 => (if t445 = true then (if t417 = 2 then (if bt432.2.2 = 0 then ((privityref05_Same.f k bt432.1 (([3,5] : List Int))).bind fun t449 => (if t449 = true then ((privityref05_Same.f k bt432.2.1 (([7] : List Int))).bind fun t453 => (some t453)) else (some false))) else (some false)) else (some false)) else (some false))) else (some false))) = some r := by first|(rw [hy423];with_reducible exact H)|(have H2_ := (Option.bind_some _ _).symm.trans H;rw [hy423];with_reducible exact H2_)|(have H2_ := (Option.bind_some _ _).symm.trans H;with_reducible exact H2_)|with_reducible exact H|(rw [hy423];exact H)|exact H
 have Ny423 := am hy423
 clear hy423
 obtain ⟨y426,hy426⟩ : ∃ y_ : List (S56),y_ = (([(⟨1,5⟩ : S56)] : List (S56))) := ⟨_,rfl⟩
 replace H : ((hyperinvertible_Complete.f 31 y423 y426 (([(⟨0,7⟩ : S56)] : List (S56)))).bind fun bt432 => (if t413 = 0 then ((privityref05_SameRows.f k t412 (([(([30,2] : List Int))] : List (List Int)))).bind fun t445 => (if t445 = true then (if t417 = 2 then (if bt432.2.2 = 0 then ((privityref05_Same.f k bt432.1 (([3,5] : List Int))).bind fun t449 => (if t449 = true then ((privityref05_Same.f k bt432.2.1 (([7] : List Int))).bind fun t453 => (some t453)) else (some false))) else (some false)) else (some false)) else (some false))) else (some false))) = some r := by first|(rw [hy426];with_reducible exact H)|(have H2_ := (Option.bind_some _ _).symm.trans H;rw [hy426];with_reducible exact H2_)|(have H2_ := (Option.bind_some _ _).symm.trans H;with_reducible exact H2_)|with_reducible exact H|(rw [hy426];exact H)|exact H
 have Ny426 := am hy426
 clear hy426
 obtain ⟨y429,hy429⟩ : ∃ y_ : List (S56),y_ = (([(⟨0,7⟩ : S56)] : List (S56))) := ⟨_,rfl⟩
 replace H : ((hyperinvertible_Complete.f 31 y423 y426 y429).bind fun bt432 => (if t413 = 0 then ((privityref05_SameRows.f k t412 (([(([30,2] : List Int))] : List (List Int)))).bind fun t445 => (if t445 = true then (if t417 = 2 then (if bt432.2.2 = 0 then ((privityref05_Same.f k bt432.1 (([3,5] : List Int))).bind fun t449 => (if t449 = true then ((privityref05_Same.f k bt432.2.1 (([7] : List Int))).bind fun t453 => (some t453)) else (some false))) else (some false)) else (some false)) else (some false))) else (some false))) = some r := by first|(rw [hy429];with_reducible exact H)|(have H2_ := (Option.bind_some _ _).symm.trans H;rw [hy429];with_reducible exact H2_)|(have H2_ := (Option.bind_some _ _).symm.trans H;with_reducible exact H2_)|with_reducible exact H|(rw [hy429];exact H)|exact H
 have Ny429 := am hy429
 clear hy429
 replace H := Option.bind_eq_some_iff.mp H
 obtain ⟨⟨t432,t433,t434⟩,A30,H⟩ := H
 try dsimp only at H
 have A3 := am A30
 clear A30
 by_cases c4 : t413 = 0
 ·rw [if_pos c4] at H
  have c4b0 : (t413 == 0) = true := beq_iff_eq.mpr c4
  have c4b1 : (t413 != 0) = false := bne_eq_false_iff_eq.mpr c4
  clear c4
  obtain ⟨y439,hy439⟩ : ∃ y_ : List Int,y_ = (([30,2] : List Int)) := ⟨_,rfl⟩
  replace H : ((privityref05_SameRows.f k t412 (([y439] : List (List Int)))).bind fun t445 => (if t445 = true then (if t417 = 2 then (if t434 = 0 then ((privityref05_Same.f k t432 (([3,5] : List Int))).bind fun t449 => (if t449 = true then ((privityref05_Same.f k t433 (([7] : List Int))).bind fun t453 => (some t453)) else (some false))) else (some false)) else (some false)) else (some false))) = some r := by first|(rw [hy439];with_reducible exact H)|(have H2_ := (Option.bind_some _ _).symm.trans H;rw [hy439];with_reducible exact H2_)|(have H2_ := (Option.bind_some _ _).symm.trans H;with_reducible exact H2_)|with_reducible exact H|(rw [hy439];exact H)|exact H
  have Ny439 := am hy439
  clear hy439
  obtain ⟨y442,hy442⟩ : ∃ y_ : List (List Int),y_ = (([y439] : List (List Int))) := ⟨_,rfl⟩
  replace H : ((privityref05_SameRows.f k t412 y442).bind fun t445 => (if t445 = true then (if t417 = 2 then (if t434 = 0 then ((privityref05_Same.f k t432 (([3,5] : List Int))).bind fun t449 => (if t449 = true then ((privityref05_Same.f k t433 (([7] : List Int))).bind fun t453 => (some t453)) else (some false))) else (some false)) else (some false)) else (some false))) = some r := by first|(rw [hy442];with_reducible exact H)|(have H2_ := (Option.bind_some _ _).symm.trans H;rw [hy442];with_reducible exact H2_)|(have H2_ := (Option.bind_some _ _).symm.trans H;with_reducible exact H2_)|with_reducible exact H|(rw [hy442];exact H)|exact H
  have Ny442 := am hy442
  clear hy442
  replace H := Option.bind_eq_some_iff.mp H
  obtain ⟨t445,A50,H⟩ := H
  try dsimp only at H
  have A5 := am A50
  clear A50
  by_cases c6 : t445 = true
  ·subst c6
   rw [if_pos rfl] at H
   by_cases c7 : t417 = 2
   ·rw [if_pos c7] at H
    have c7b0 : (t417 == 2) = true := beq_iff_eq.mpr c7
    have c7b1 : (t417 != 2) = false := bne_eq_false_iff_eq.mpr c7
    clear c7
    by_cases c8 : t434 = 0
    ·rw [if_pos c8] at H
     have c8b0 : (t434 == 0) = true := beq_iff_eq.mpr c8
     have c8b1 : (t434 != 0) = false := bne_eq_false_iff_eq.mpr c8
     clear c8
     obtain ⟨y446,hy446⟩ : ∃ y_ : List Int,y_ = (([3,5] : List Int)) := ⟨_,rfl⟩
     replace H : ((privityref05_Same.f k t432 y446).bind fun t449 => (if t449 = true then ((privityref05_Same.f k t433 (([7] : List Int))).bind fun t453 => (some t453)) else (some false))) = some r := by first|(rw [hy446];with_reducible exact H)|(have H2_ := (Option.bind_some _ _).symm.trans H;rw [hy446];with_reducible exact H2_)|(have H2_ := (Option.bind_some _ _).symm.trans H;with_reducible exact H2_)|with_reducible exact H|(rw [hy446];exact H)|exact H
     have Ny446 := am hy446
     clear hy446
     replace H := Option.bind_eq_some_iff.mp H
     obtain ⟨t449,A90,H⟩ := H
     try dsimp only at H
     have A9 := am A90
     clear A90
     by_cases c10 : t449 = true
     ·subst c10
      rw [if_pos rfl] at H
      obtain ⟨y450,hy450⟩ : ∃ y_ : List Int,y_ = (([7] : List Int)) := ⟨_,rfl⟩
      replace H : ((privityref05_Same.f k t433 y450).bind fun t453 => (some t453)) = some r := by first|(rw [hy450];with_reducible exact H)|(have H2_ := (Option.bind_some _ _).symm.trans H;rw [hy450];with_reducible exact H2_)|(have H2_ := (Option.bind_some _ _).symm.trans H;with_reducible exact H2_)|with_reducible exact H|(rw [hy450];exact H)|exact H
      have Ny450 := am hy450
      clear hy450
      replace H := Option.bind_eq_some_iff.mp H
      obtain ⟨t453,A110,H⟩ := H
      try dsimp only at H
      have A11 := am A110
      clear A110
      obtain rfl := Option.some.inj H
      go_enter Try.func12,Try.ntmps12
      go_wp2_with (first|((with_reducible refine gate_callee (f := 14) rfl ?_);refine goesL_ (some 9) rfl rfl Try.func14 (by kernel_rfl) rfl #[.int .u64 31,.int .i64 1,.int .i64 2] rfl (by (try simp only [List.map_toArray,List.map_cons,List.map_nil]);first|done|rfl|(simp only [List.length_drop,List.length_take];rfl)) ?_;(with_reducible refine (hyperinvertible_New.calls k 31 1 2 t412 t413 _ A1.out).mono ?_);rintro e w12 ⟨v414,rfl,ho0,hb⟩;refine ⟨_,rfl,?_⟩;have n0_ := am (Kd.N_lower (Kd.N_mono (ok' := fun k_ => True) (Kd.S_N (Kd.S_bound ho0)) (fun k_ hk_ => trivial)) (below_size (bb HB)));have n1_ := am (below_step (bb HB) hb);clear HB;have HO415 := n0_;have HB := n1_;clear n0_ n1_;(try clear hb);(try clear hb2);(try clear hk);(try clear hi);(try clear ho0))|((with_reducible refine gate_callee (f := 14) rfl ?_);refine goesL_ (some 13) rfl rfl Try.func14 (by kernel_rfl) rfl #[.int .u64 31,.int .i64 16,.int .i64 15] rfl (by (try simp only [List.map_toArray,List.map_cons,List.map_nil]);first|done|rfl|(simp only [List.length_drop,List.length_take];rfl)) ?_;(with_reducible refine (hyperinvertible_New.calls k 31 16 15 t416 t417 _ A2.out).mono ?_);rintro e w13 ⟨v418,rfl,ho0,hb⟩;refine ⟨_,rfl,?_⟩;have n0_ := am (Kd.N_elder' (rn HO415) (by first|exact Kd.N_base ho0|exact Kd.S_base ho0) hb);have n1_ := am (Kd.N_lower (Kd.N_mono (ok' := fun k_ => some k_ ≠ (v414 : Value).ownBlock) (Kd.S_N (Kd.S_bound ho0)) (fun k_ hk_ => (Kd.fresh' (Kd.N_lt (rn HO415)) k_ hk_.2.1))) (below_size (bb HB)));have n2_ := am (below_step (bb HB) hb);clear HO415 HB;have HO415 := n0_;have HO419 := n1_;have HB := n2_;clear n0_ n1_ n2_;(try clear hb);(try clear hb2);(try clear hk);(try clear hi);(try clear ho0))|((with_reducible refine gate_dst (N := 17) rfl ?_);(try (refine gate_guard (by rfl) ?_;dsimp only));refine Kd.R_lit (Kd.int .u64) _ 22 ?hg (N := 17) ?hd (xs := ([30,2] : List Int)) (inner := [.int .u64 30,.int .u64 2]) (ok := fun _ => True) (okp := fun _ => True) ?hr ?hp (fun _ hk => hk) trivial (Below.refl _ _) (Nat.le_refl _) (by simp) ?_;(case hd => rfl);(case hg => rfl);(case hr => first|(go_simp;done)|(go_simp;rfl));(case hp => exact (Reps.one (show Kd.M (Kd.int .u64) _ _ _ 30 [.int .u64 30] from rfl) (Reps.one (show Kd.M (Kd.int .u64) _ _ _ 2 [.int .u64 2] from rfl) (Reps.none _ _))));intro v421 w14 ho15 hb hg_ hnew_;clear hg_ hnew_;(first|rw [← Ny420.out] at ho15|(simp only [Int.reduceToNat] at ho15;rw [← Ny420.out] at ho15));have n0_ := am (Kd.N_elder' (rn HO415) (Kd.R_base ho15) hb);have n1_ := am (Kd.N_elder' (rn HO419) (Kd.R_base ho15) hb);have n2_ := am (Kd.R_lower ho15 (below_size (bb HB)));have n3_ := am (below_step (bb HB) hb);clear HO415 HO419 HB;have HO415 := n0_;have HO419 := n1_;have HO422 := n2_;have HB := n3_;clear n0_ n1_ n2_ n3_;clear hb ho15;obtain ⟨Ao16,co16,eo16⟩ := Kd.R_slice HO422.out;subst eo16)|((with_reducible refine gate_dst (N := 18) rfl ?_);(try (refine gate_guard (by rfl) ?_;dsimp only));refine Kd.N_lit (Kd.slice 22 (Kd.int .u64)) _ 40 ?hg (N' := 18) ?hd (xs := ([y420] : List (List Int))) (inner := [.slice Ao16 y420.length co16]) (ok := (fun k_ => some k_ ≠ (v414 : Value).ownBlock ∧ some k_ ≠ (v418 : Value).ownBlock)) (okp := (fun k_ => some k_ ≠ (v414 : Value).ownBlock ∧ some k_ ≠ (v418 : Value).ownBlock)) ?hr ?hp (fun _ hk => hk) ((show ∀ k_,w14.heap.size ≤ k_ → (fun k_ => some k_ ≠ (v414 : Value).ownBlock ∧ some k_ ≠ (v418 : Value).ownBlock) k_ from fun k_ hk => ⟨Kd.fresh' (Kd.N_lt (rn HO415)) k_ hk,Kd.fresh' (Kd.N_lt (rn HO419)) k_ hk⟩) _ (Nat.le_refl _)) (Below.refl _ _) (Nat.le_refl _) (by simp) ?_;(case hd => rfl);(case hg => rfl);(case hr => first|(go_simp;done)|(go_simp;rfl));(case hp => exact (Reps.one (show Kd.FK (Kd.slice 22 (Kd.int .u64)) _ _ y420 [.slice Ao16 y420.length co16] from (Kd.FK_slice_mk (Kd.R_reads' (Kd.R_mono (ok' := (fun k_ => some k_ ≠ (v414 : Value).ownBlock ∧ some k_ ≠ (v418 : Value).ownBlock)) (Kd.R_apart' (Kd.R_apart' (HO422.out) (Kd.N_typed HO415.out) (by decide)) (Kd.N_typed HO419.out) (by decide)) (fun k_ hk => ⟨hk.1.2,hk.2⟩))).2.1 (Kd.R_F (Kd.R_mono (ok' := (fun k_ => some k_ ≠ (v414 : Value).ownBlock ∧ some k_ ≠ (v418 : Value).ownBlock)) (Kd.R_apart' (Kd.R_apart' (HO422.out) (Kd.N_typed HO415.out) (by decide)) (Kd.N_typed HO419.out) (by decide)) (fun k_ hk => ⟨hk.1.2,hk.2⟩))))) (Reps.none _ _)));intro v424 w17 ho18 hb hg_ hnew_;clear hg_ hnew_;(first|rw [← Ny423.out] at ho18|(simp only [Int.reduceToNat] at ho18;rw [← Ny423.out] at ho18));have n0_ := am (Kd.N_elder' (rn HO415) (Kd.N_base ho18) hb);have n1_ := am (Kd.N_elder' (rn HO419) (Kd.N_base ho18) hb);have n2_ := am (Kd.N_lower ho18 (below_size (bb HB)));have n3_ := am (below_step (bb HB) hb);clear HO415 HO419 HB HO422;have HO415 := n0_;have HO419 := n1_;have HO425 := n2_;have HB := n3_;clear n0_ n1_ n2_ n3_;clear hb ho18)|((with_reducible refine gate_dst (N := 20) rfl ?_);(try (refine gate_guard (by rfl) ?_;dsimp only));refine Kd.R_lit k56 _ 56 ?hg (N := 20) ?hd (xs := ([(⟨1,5⟩ : S56)] : List (S56))) (inner := [.int .u64 1,.int .u64 5]) (ok := fun _ => True) (okp := fun _ => True) ?hr ?hp (fun _ hk => hk) trivial (Below.refl _ _) (Nat.le_refl _) (by simp) ?_;(case hd => rfl);(case hg => rfl);(case hr => first|(go_simp;done)|(go_simp;rfl));(case hp => exact (Reps.c2 (show Kd.M k56 _ _ _ (⟨1,5⟩ : S56) [.int .u64 1,.int .u64 5] from (k56_mkM _ _ _ (⟨1,5⟩ : S56) )) (Reps.none _ _)));intro v427 w19 ho20 hb hg_ hnew_;clear hg_ hnew_;(first|rw [← Ny426.out] at ho20|(simp only [Int.reduceToNat] at ho20;rw [← Ny426.out] at ho20));have n0_ := am (Kd.N_elder' (rn HO415) (Kd.R_base ho20) hb);have n1_ := am (Kd.N_elder' (rn HO419) (Kd.R_base ho20) hb);have n2_ := am (Kd.N_elder' (rn HO425) (Kd.R_base ho20) hb);have n3_ := am (Kd.R_lower ho20 (below_size (bb HB)));have n4_ := am (below_step (bb HB) hb);clear HO415 HO419 HO425 HB;have HO415 := n0_;have HO419 := n1_;have HO425 := n2_;have HO428 := n3_;have HB := n4_;clear n0_ n1_ n2_ n3_ n4_;clear hb ho20)|((with_reducible refine gate_dst (N := 22) rfl ?_);(try (refine gate_guard (by rfl) ?_;dsimp only));refine Kd.R_lit k56 _ 56 ?hg (N := 22) ?hd (xs := ([(⟨0,7⟩ : S56)] : List (S56))) (inner := [.int .u64 0,.int .u64 7]) (ok := fun _ => True) (okp := fun _ => True) ?hr ?hp (fun _ hk => hk) trivial (Below.refl _ _) (Nat.le_refl _) (by simp) ?_;(case hd => rfl);(case hg => rfl);(case hr => first|(go_simp;done)|(go_simp;rfl));(case hp => exact (Reps.c2 (show Kd.M k56 _ _ _ (⟨0,7⟩ : S56) [.int .u64 0,.int .u64 7] from (k56_mkM _ _ _ (⟨0,7⟩ : S56) )) (Reps.none _ _)));intro v430 w21 ho22 hb hg_ hnew_;clear hg_ hnew_;(first|rw [← Ny429.out] at ho22|(simp only [Int.reduceToNat] at ho22;rw [← Ny429.out] at ho22));have n0_ := am (Kd.N_elder' (rn HO415) (Kd.R_base ho22) hb);have n1_ := am (Kd.N_elder' (rn HO419) (Kd.R_base ho22) hb);have n2_ := am (Kd.N_elder' (rn HO425) (Kd.R_base ho22) hb);have n3_ := am (Kd.R_elder' (rr HO428) (Kd.R_base ho22) hb);have n4_ := am (Kd.R_lower (Kd.R_new' ho22 (Kd.R_lt (rr HO428))) (below_size (bb HB)));have n5_ := am (below_step (bb HB) hb);clear HO415 HO419 HO425 HO428 HB;have HO415 := n0_;have HO419 := n1_;have HO425 := n2_;have HO428 := n3_;have HO431 := n4_;have HB := n5_;clear n0_ n1_ n2_ n3_ n4_ n5_;clear hb ho22;obtain ⟨Ao23,co23,eo23⟩ := Kd.N_slice HO425.out;subst eo23;obtain ⟨Ao24,co24,eo24⟩ := Kd.R_slice HO428.out;subst eo24;obtain ⟨Ao25,co25,eo25⟩ := Kd.R_slice HO431.out;subst eo25)|((with_reducible refine gate_callee (f := 22) rfl ?_);refine goesL_ (some 23) rfl rfl Try.func22 (by kernel_rfl) rfl #[.int .u64 31,.slice Ao23 y423.length co23,.slice Ao24 y426.length co24,.slice Ao25 y429.length co25] rfl (by (try simp only [List.map_toArray,List.map_cons,List.map_nil]);first|done|rfl|(simp only [List.length_drop,List.length_take];rfl)) ?_;(with_reducible refine (hyperinvertible_Complete.calls 31 _ _ y423 _ _ y426 _ _ y429 t432 t433 t434 _ ?side1 ?side2 ?side3 ?side4 ?side5 ?side6 A3.out).mono ?_);(case side1 => repeat (first|exact (Kd.N_reads' HO425.out).2.2|(with_reducible refine Kd.C_alloc ?_ _)|(with_reducible refine Kd.C_drewN ?_ _)|(with_reducible refine Kd.C_drew ?_)));(case side2 => exact (Kd.N_reads' HO425.out).2.1);(case side3 => exact cr HO428);(case side4 => exact (Kd.R_reads' HO428.out).2.1);(case side5 => exact cr HO431);(case side6 => exact (Kd.R_reads' HO431.out).2.1);rintro e w26 ⟨v435,v437,rfl,ho0,ho1,hb⟩;refine ⟨_,rfl,?_⟩;have n0_ := am (Kd.N_mono (Kd.N_told (Kd.N_told (Kd.N_old (rn HO415) hb) (Kd.R_base ho0)) (Kd.R_base ho1)) (fun _ h_ => h_.1));have n1_ := am (Kd.N_mono (Kd.N_told (Kd.N_told (Kd.N_old (rn HO419) hb) (Kd.R_base ho0)) (Kd.R_base ho1)) (fun _ h_ => h_.1));have n2_ := am (Kd.N_mono (Kd.N_told (Kd.N_told (Kd.N_old (rn HO425) hb) (Kd.R_base ho0)) (Kd.R_base ho1)) (fun _ h_ => h_.1));have n3_ := am (Kd.R_below (rr HO428) hb);have n4_ := am (Kd.R_below (rr HO431) hb);have n5_ := am (Kd.R_lower ho0 (below_size (bb HB)));have n6_ := am (Kd.R_lower ho1 (below_size (bb HB)));have n7_ := am (below_step (bb HB) hb);clear HO415 HO419 HO425 HO428 HO431 HB;have HO415 := n0_;have HO419 := n1_;have HO425 := n2_;have HO428 := n3_;have HO431 := n4_;have HO436 := n5_;have HO438 := n6_;have HB := n7_;clear n0_ n1_ n2_ n3_ n4_ n5_ n6_ n7_;(try clear hb);(try clear hb2);(try clear hk);(try clear hi);(try clear ho0);(try clear ho1))|((with_reducible refine gate_dst (N := 31) rfl ?_);(try (refine gate_guard (by rfl) ?_;dsimp only));refine Kd.R_lit (Kd.int .u64) _ 22 ?hg (N := 31) ?hd (xs := ([30,2] : List Int)) (inner := [.int .u64 30,.int .u64 2]) (ok := fun _ => True) (okp := fun _ => True) ?hr ?hp (fun _ hk => hk) trivial (Below.refl _ _) (Nat.le_refl _) (by simp) ?_;(case hd => rfl);(case hg => rfl);(case hr => first|(go_simp;done)|(go_simp;rfl));(case hp => exact (Reps.one (show Kd.M (Kd.int .u64) _ _ _ 30 [.int .u64 30] from rfl) (Reps.one (show Kd.M (Kd.int .u64) _ _ _ 2 [.int .u64 2] from rfl) (Reps.none _ _))));intro v440 w27 ho28 hb hg_ hnew_;clear hg_ hnew_;(first|rw [← Ny439.out] at ho28|(simp only [Int.reduceToNat] at ho28;rw [← Ny439.out] at ho28));have n0_ := am (Kd.N_elder' (rn HO415) (Kd.R_base ho28) hb);have n1_ := am (Kd.N_elder' (rn HO419) (Kd.R_base ho28) hb);have n2_ := am (Kd.N_elder' (rn HO425) (Kd.R_base ho28) hb);have n3_ := am (Kd.R_below (rr HO428) hb);have n4_ := am (Kd.R_below (rr HO431) hb);have n5_ := am (Kd.R_elder' (rr HO436) (Kd.R_base ho28) hb);have n6_ := am (Kd.R_elder' (rr HO438) (Kd.R_base ho28) hb);have n7_ := am (Kd.R_lower (Kd.R_new' (Kd.R_new' ho28 (Kd.R_lt (rr HO436))) (Kd.R_lt (rr HO438))) (below_size (bb HB)));have n8_ := am (below_step (bb HB) hb);clear HO415 HO419 HO425 HO428 HO431 HO436 HO438 HB;have HO415 := n0_;have HO419 := n1_;have HO425 := n2_;have HO428 := n3_;have HO431 := n4_;have HO436 := n5_;have HO438 := n6_;have HO441 := n7_;have HB := n8_;clear n0_ n1_ n2_ n3_ n4_ n5_ n6_ n7_ n8_;clear hb ho28;obtain ⟨Ao29,co29,eo29⟩ := Kd.R_slice HO441.out;subst eo29)|((with_reducible refine gate_dst (N := 32) rfl ?_);(try (refine gate_guard (by rfl) ?_;dsimp only));refine Kd.N_lit (Kd.slice 22 (Kd.int .u64)) _ 40 ?hg (N' := 32) ?hd (xs := ([y439] : List (List Int))) (inner := [.slice Ao29 y439.length co29]) (ok := (fun k_ => some k_ ≠ (v414 : Value).ownBlock ∧ some k_ ≠ (v418 : Value).ownBlock ∧ some k_ ≠ (.slice Ao23 y423.length co23 : Value).ownBlock ∧ some k_ ≠ (.slice Ao24 y426.length co24 : Value).ownBlock ∧ some k_ ≠ (.slice Ao25 y429.length co25 : Value).ownBlock ∧ some k_ ≠ (v435 : Value).ownBlock ∧ some k_ ≠ (v437 : Value).ownBlock)) (okp := (fun k_ => some k_ ≠ (v414 : Value).ownBlock ∧ some k_ ≠ (v418 : Value).ownBlock ∧ some k_ ≠ (.slice Ao23 y423.length co23 : Value).ownBlock ∧ some k_ ≠ (.slice Ao24 y426.length co24 : Value).ownBlock ∧ some k_ ≠ (.slice Ao25 y429.length co25 : Value).ownBlock ∧ some k_ ≠ (v435 : Value).ownBlock ∧ some k_ ≠ (v437 : Value).ownBlock)) ?hr ?hp (fun _ hk => hk) ((show ∀ k_,w27.heap.size ≤ k_ → (fun k_ => some k_ ≠ (v414 : Value).ownBlock ∧ some k_ ≠ (v418 : Value).ownBlock ∧ some k_ ≠ (.slice Ao23 y423.length co23 : Value).ownBlock ∧ some k_ ≠ (.slice Ao24 y426.length co24 : Value).ownBlock ∧ some k_ ≠ (.slice Ao25 y429.length co25 : Value).ownBlock ∧ some k_ ≠ (v435 : Value).ownBlock ∧ some k_ ≠ (v437 : Value).ownBlock) k_ from fun k_ hk => ⟨Kd.fresh' (Kd.N_lt (rn HO415)) k_ hk,Kd.fresh' (Kd.N_lt (rn HO419)) k_ hk,Kd.fresh' (Kd.N_lt (rn HO425)) k_ hk,Kd.fresh' (Kd.R_lt (rr HO428)) k_ hk,Kd.fresh' (Kd.R_lt (rr HO431)) k_ hk,Kd.fresh' (Kd.R_lt (rr HO436)) k_ hk,Kd.fresh' (Kd.R_lt (rr HO438)) k_ hk⟩) _ (Nat.le_refl _)) (Below.refl _ _) (Nat.le_refl _) (by simp) ?_;(case hd => rfl);(case hg => rfl);(case hr => first|(go_simp;done)|(go_simp;rfl));(case hp => exact (Reps.one (show Kd.FK (Kd.slice 22 (Kd.int .u64)) _ _ y439 [.slice Ao29 y439.length co29] from (Kd.FK_slice_mk (Kd.R_reads' (Kd.R_mono (ok' := (fun k_ => some k_ ≠ (v414 : Value).ownBlock ∧ some k_ ≠ (v418 : Value).ownBlock ∧ some k_ ≠ (.slice Ao23 y423.length co23 : Value).ownBlock ∧ some k_ ≠ (.slice Ao24 y426.length co24 : Value).ownBlock ∧ some k_ ≠ (.slice Ao25 y429.length co25 : Value).ownBlock ∧ some k_ ≠ (v435 : Value).ownBlock ∧ some k_ ≠ (v437 : Value).ownBlock)) (Kd.R_apart' (Kd.R_apart' (Kd.R_apart' (Kd.R_apart' (Kd.R_apart' (HO441.out) (Kd.N_typed HO415.out) (by decide)) (Kd.N_typed HO419.out) (by decide)) (Kd.N_typed HO425.out) (by decide)) (Kd.R_typed HO428.out) (by decide)) (Kd.R_typed HO431.out) (by decide)) (fun k_ hk => ⟨hk.1.1.1.1.2,⟨hk.1.1.1.2,⟨hk.1.1.2,⟨hk.1.2,⟨hk.2,⟨hk.1.1.1.1.1.1.2,hk.1.1.1.1.1.2⟩⟩⟩⟩⟩⟩))).2.1 (Kd.R_F (Kd.R_mono (ok' := (fun k_ => some k_ ≠ (v414 : Value).ownBlock ∧ some k_ ≠ (v418 : Value).ownBlock ∧ some k_ ≠ (.slice Ao23 y423.length co23 : Value).ownBlock ∧ some k_ ≠ (.slice Ao24 y426.length co24 : Value).ownBlock ∧ some k_ ≠ (.slice Ao25 y429.length co25 : Value).ownBlock ∧ some k_ ≠ (v435 : Value).ownBlock ∧ some k_ ≠ (v437 : Value).ownBlock)) (Kd.R_apart' (Kd.R_apart' (Kd.R_apart' (Kd.R_apart' (Kd.R_apart' (HO441.out) (Kd.N_typed HO415.out) (by decide)) (Kd.N_typed HO419.out) (by decide)) (Kd.N_typed HO425.out) (by decide)) (Kd.R_typed HO428.out) (by decide)) (Kd.R_typed HO431.out) (by decide)) (fun k_ hk => ⟨hk.1.1.1.1.2,⟨hk.1.1.1.2,⟨hk.1.1.2,⟨hk.1.2,⟨hk.2,⟨hk.1.1.1.1.1.1.2,hk.1.1.1.1.1.2⟩⟩⟩⟩⟩⟩))))) (Reps.none _ _)));intro v443 w30 ho31 hb hg_ hnew_;clear hg_ hnew_;(first|rw [← Ny442.out] at ho31|(simp only [Int.reduceToNat] at ho31;rw [← Ny442.out] at ho31));have n0_ := am (Kd.N_elder' (rn HO415) (Kd.N_base ho31) hb);have n1_ := am (Kd.N_elder' (rn HO419) (Kd.N_base ho31) hb);have n2_ := am (Kd.N_elder' (rn HO425) (Kd.N_base ho31) hb);have n3_ := am (Kd.R_below (rr HO428) hb);have n4_ := am (Kd.R_below (rr HO431) hb);have n5_ := am (Kd.R_below (rr HO436) hb);have n6_ := am (Kd.R_below (rr HO438) hb);have n7_ := am (Kd.N_lower ho31 (below_size (bb HB)));have n8_ := am (below_step (bb HB) hb);clear HO415 HO419 HO425 HO428 HO431 HO436 HO438 HB HO441;have HO415 := n0_;have HO419 := n1_;have HO425 := n2_;have HO428 := n3_;have HO431 := n4_;have HO436 := n5_;have HO438 := n6_;have HO444 := n7_;have HB := n8_;clear n0_ n1_ n2_ n3_ n4_ n5_ n6_ n7_ n8_;clear hb ho31;obtain ⟨Ao32,co32,eo32⟩ := Kd.N_slice HO415.out;subst eo32;obtain ⟨Ao33,co33,eo33⟩ := Kd.N_slice HO444.out;subst eo33)|(go_at_call 16;(with_reducible refine (privityref05_SameRows.calls k _ _ t412 _ _ y442 true _ ?side1 ?side2 ?side3 ?side4 A5.out).mono ?_);(case side1 => repeat (first|exact (Kd.N_reads' HO415.out).2.2|(with_reducible refine Kd.C_alloc ?_ _)|(with_reducible refine Kd.C_drewN ?_ _)|(with_reducible refine Kd.C_drew ?_)));(case side2 => exact (Kd.N_reads' HO415.out).2.1);(case side3 => repeat (first|exact (Kd.N_reads' HO444.out).2.2|(with_reducible refine Kd.C_alloc ?_ _)|(with_reducible refine Kd.C_drewN ?_ _)|(with_reducible refine Kd.C_drew ?_)));(case side4 => exact (Kd.N_reads' HO444.out).2.1);rintro e w' ⟨rfl,⟨nd,rfl⟩⟩)|((with_reducible refine gate_dst (N := 45) rfl ?_);(try (refine gate_guard (by rfl) ?_;dsimp only));refine Kd.R_lit (Kd.int .u64) _ 22 ?hg (N := 45) ?hd (xs := ([3,5] : List Int)) (inner := [.int .u64 3,.int .u64 5]) (ok := fun _ => True) (okp := fun _ => True) ?hr ?hp (fun _ hk => hk) trivial (Below.refl _ _) (Nat.le_refl _) (by simp) ?_;(case hd => rfl);(case hg => rfl);(case hr => first|(go_simp;done)|(go_simp;rfl));(case hp => exact (Reps.one (show Kd.M (Kd.int .u64) _ _ _ 3 [.int .u64 3] from rfl) (Reps.one (show Kd.M (Kd.int .u64) _ _ _ 5 [.int .u64 5] from rfl) (Reps.none _ _))));intro v447 w34 ho35 hb hg_ hnew_;clear hg_ hnew_;(first|rw [← Ny446.out] at ho35|(simp only [Int.reduceToNat] at ho35;rw [← Ny446.out] at ho35));have n0_ := am (Kd.N_elder' (rn HO415) (Kd.R_base ho35) hb);have n1_ := am (Kd.N_elder' (rn HO419) (Kd.R_base ho35) hb);have n2_ := am (Kd.N_elder' (rn HO425) (Kd.R_base ho35) hb);have n3_ := am (Kd.R_below (rr HO428) hb);have n4_ := am (Kd.R_below (rr HO431) hb);have n5_ := am (Kd.R_elder' (rr HO436) (Kd.R_base ho35) hb);have n6_ := am (Kd.R_elder' (rr HO438) (Kd.R_base ho35) hb);have n7_ := am (Kd.N_elder' (rn HO444) (Kd.R_base ho35) hb);have n8_ := am (Kd.R_lower (Kd.R_new' (Kd.R_new' ho35 (Kd.R_lt (rr HO436))) (Kd.R_lt (rr HO438))) (below_size (bb HB)));have n9_ := am (below_step (bb HB) hb);clear HO415 HO419 HO425 HO428 HO431 HO436 HO438 HO444 HB;have HO415 := n0_;have HO419 := n1_;have HO425 := n2_;have HO428 := n3_;have HO431 := n4_;have HO436 := n5_;have HO438 := n6_;have HO444 := n7_;have HO448 := n8_;have HB := n9_;clear n0_ n1_ n2_ n3_ n4_ n5_ n6_ n7_ n8_ n9_;clear hb ho35;obtain ⟨Ao36,co36,eo36⟩ := Kd.R_slice HO436.out;subst eo36;obtain ⟨Ao37,co37,eo37⟩ := Kd.R_slice HO448.out;subst eo37)|(go_at_call 24;(with_reducible refine (privityref05_Same.calls k _ _ t432 _ _ y446 true _ ?side1 ?side2 ?side3 ?side4 A9.out).mono ?_);(case side1 => exact cr HO436);(case side2 => exact (Kd.R_reads' HO436.out).2.1);(case side3 => exact cr HO448);(case side4 => exact (Kd.R_reads' HO448.out).2.1);rintro e w' ⟨rfl,⟨nd,rfl⟩⟩)|((with_reducible refine gate_dst (N := 50) rfl ?_);(try (refine gate_guard (by rfl) ?_;dsimp only));refine Kd.R_lit (Kd.int .u64) _ 22 ?hg (N := 50) ?hd (xs := ([7] : List Int)) (inner := [.int .u64 7]) (ok := fun _ => True) (okp := fun _ => True) ?hr ?hp (fun _ hk => hk) trivial (Below.refl _ _) (Nat.le_refl _) (by simp) ?_;(case hd => rfl);(case hg => rfl);(case hr => first|(go_simp;done)|(go_simp;rfl));(case hp => exact (Reps.one (show Kd.M (Kd.int .u64) _ _ _ 7 [.int .u64 7] from rfl) (Reps.none _ _)));intro v451 w38 ho39 hb hg_ hnew_;clear hg_ hnew_;(first|rw [← Ny450.out] at ho39|(simp only [Int.reduceToNat] at ho39;rw [← Ny450.out] at ho39));have n0_ := am (Kd.N_elder' (rn HO415) (Kd.R_base ho39) hb);have n1_ := am (Kd.N_elder' (rn HO419) (Kd.R_base ho39) hb);have n2_ := am (Kd.N_elder' (rn HO425) (Kd.R_base ho39) hb);have n3_ := am (Kd.R_below (rr HO428) hb);have n4_ := am (Kd.R_below (rr HO431) hb);have n5_ := am (Kd.R_elder' (rr HO436) (Kd.R_base ho39) hb);have n6_ := am (Kd.R_elder' (rr HO438) (Kd.R_base ho39) hb);have n7_ := am (Kd.N_elder' (rn HO444) (Kd.R_base ho39) hb);have n8_ := am (Kd.R_elder' (rr HO448) (Kd.R_base ho39) hb);have n9_ := am (Kd.R_lower (Kd.R_new' (Kd.R_new' (Kd.R_new' ho39 (Kd.R_lt (rr HO436))) (Kd.R_lt (rr HO438))) (Kd.R_lt (rr HO448))) (below_size (bb HB)));have n10_ := am (below_step (bb HB) hb);clear HO415 HO419 HO425 HO428 HO431 HO436 HO438 HO444 HO448 HB;have HO415 := n0_;have HO419 := n1_;have HO425 := n2_;have HO428 := n3_;have HO431 := n4_;have HO436 := n5_;have HO438 := n6_;have HO444 := n7_;have HO448 := n8_;have HO452 := n9_;have HB := n10_;clear n0_ n1_ n2_ n3_ n4_ n5_ n6_ n7_ n8_ n9_ n10_;clear hb ho39;obtain ⟨Ao40,co40,eo40⟩ := Kd.R_slice HO438.out;subst eo40;obtain ⟨Ao41,co41,eo41⟩ := Kd.R_slice HO452.out;subst eo41)|(go_at_call 24;(with_reducible refine (privityref05_Same.calls k _ _ t433 _ _ y450 t453 _ ?side1 ?side2 ?side3 ?side4 A11.out).mono ?_);(case side1 => exact cr HO438);(case side2 => exact (Kd.R_reads' HO438.out).2.1);(case side3 => exact cr HO452);(case side4 => exact (Kd.R_reads' HO452.out).2.1);rintro e w' ⟨rfl,⟨nd,rfl⟩⟩))
      go_ret
      exact ⟨by first|rfl|(simp [errW_none,errW_some] <;> rfl)|(simp [*,errW_none,errW_some] <;> rfl),bb HB⟩
     ·replace c10 := Bool.eq_false_iff.mpr c10
      subst c10
      rw [if_neg (show ¬ (false = true) by decide)] at H
      exact absurd (Option.some.inj H) (by rw [HR1.out];simp)
    ·rw [if_neg c8] at H
     have c8b0 : (t434 == 0) = false := beq_eq_false_iff_ne.mpr c8
     have c8b1 : (t434 != 0) = true := bne_iff_ne.mpr c8
     exact absurd (Option.some.inj H) (by rw [HR1.out];simp)
   ·rw [if_neg c7] at H
    have c7b0 : (t417 == 2) = false := beq_eq_false_iff_ne.mpr c7
    have c7b1 : (t417 != 2) = true := bne_iff_ne.mpr c7
    exact absurd (Option.some.inj H) (by rw [HR1.out];simp)
  ·replace c6 := Bool.eq_false_iff.mpr c6
   subst c6
   rw [if_neg (show ¬ (false = true) by decide)] at H
   exact absurd (Option.some.inj H) (by rw [HR1.out];simp)
 ·rw [if_neg c4] at H
  have c4b0 : (t413 == 0) = false := beq_eq_false_iff_ne.mpr c4
  have c4b1 : (t413 != 0) = true := bne_iff_ne.mpr c4
  exact absurd (Option.some.inj H) (by rw [HR1.out];simp)
mutual
def privityref07_New.j0 : Nat → Int → Int → Int → Bool → Option ((List (List Int)) × Int)
 | 0,_,_,_,_ => none
 | k + 1,x0,x1,x2,x35 => if x35 = true then (some (([] : List (List Int)),2)) else (privityref07_New.l0 k x0 x1 x2 ([] : List Int) 1)
def privityref07_New.l0 : Nat → Int → Int → Int → List Int → Int → Option ((List (List Int)) × Int)
 | 0,_,_,_,_,_ => none
 | k + 1,x0,x1,x2,x8,x9 => if x9 ≤ x2 then (if x8.length < 17592186044416 then (privityref07_New.l0 k x0 x1 x2 (x8 ++ [IntKind.u64.wrap (x9)]) (wrap64 (x9 + 1))) else (none)) else (privityref07_New.l1 k x0 x1 x2 x8 ([] : List (List Int)) 1)
def privityref07_New.l1 : Nat → Int → Int → Int → List Int → List (List Int) → Int → Option ((List (List Int)) × Int)
 | 0,_,_,_,_,_,_ => none
 | k + 1,x0,x1,x2,x8,x10,x11 => if x11 ≤ x1 then ((privityref05_LagrangeWeights.f k x0 x8 (IntKind.u64.wrap (wrap64 (x2 + x11)))).bind fun bt466 => (if x10.length < 5864062014805 then (privityref07_New.l1 k x0 x1 x2 x8 (x10 ++ [bt466.1]) (wrap64 (x11 + 1))) else (none))) else (some (x10,0))
end
def privityref07_New.f (k : Nat) (a0 : Int) (a1 : Int) (a2 : Int) : Option ((List (List Int)) × Int) := if a1 < 1 then (privityref07_New.j0 k a0 a1 a2 true) else (if a1 > 26 then (privityref07_New.j0 k a0 a1 a2 true) else (if a2 < 1 then (privityref07_New.j0 k a0 a1 a2 true) else (if a2 > 26 then (privityref07_New.j0 k a0 a1 a2 true) else (privityref07_New.j0 k a0 a1 a2 (decide ((IntKind.u64.wrap (wrap64 (a1 + a2))) ≥ a0))))))
set_option maxHeartbeats 8000000 in
set_option maxRecDepth 100000 in
theorem privityref07_New.calls (k : Nat) (a0 : Int) (a1 : Int) (a2 : Int) (r1 : List (List Int)) (r2 : Int) (w : World) (h : privityref07_New.f k a0 a1 a2 = some (r1,r2)) :
  Calls Try.prog 15 #[.int .u64 a0,.int .i64 a1,.int .i64 a2] w fun e w' => ∃ v0_ : Value,e = .returned (.tuple #[v0_,.int .i64 r2]) ∧ Kd.S (Kd.slice 22 (Kd.int .u64)) 40 w' w.heap.size (fun _ => True) v0_ r1 ∧ Below w.heap.size w w' := by
 have HB := am (Below.refl w.heap.size w)
 have H : (if a1 < 1 then (privityref07_New.j0 k a0 a1 a2 true) else (if a1 > 26 then (privityref07_New.j0 k a0 a1 a2 true) else (if a2 < 1 then (privityref07_New.j0 k a0 a1 a2 true) else (if a2 > 26 then (privityref07_New.j0 k a0 a1 a2 true) else (privityref07_New.j0 k a0 a1 a2 (decide ((IntKind.u64.wrap (wrap64 (a1 + a2))) ≥ a0))))))) = some (r1,r2) := h
 clear h
 have HC4 := am H
 clear H
 go_enter Try.func15,Try.ntmps15
 go_upto_region 1 with (fail)
 go_cut [35] (fun v35 wc => ∃ (kq : Nat) (x35_3 : Bool),v35 = .bool x35_3 ∧ Aside0 (privityref07_New.j0 kq a0 a1 a2 x35_3 = some (r1,r2)) ∧ Aside0 (kq ≤ k) ∧ Aside0 (Below w.heap.size w wc))
 case first =>
  have H := HC4.out
  clear HC4
  by_cases c5 : a1 < 1
  ·rw [if_pos c5] at H
   have c5b0 : decide (a1 < 1) = true := decide_eq_true c5
   clear c5
   (first|rw [c5b0]|(simp only [i64_w,i32_w];rw [c5b0])|skip)
   have H' := am H
   clear H
   go_wp2
   go_meet
   case rel => exact ⟨_,(true),(by first|rfl|(simp;done)|(simp [*];done)),H',⟨by first|omega|exact Nat.le_refl _⟩,⟨bb HB⟩⟩
  ·rw [if_neg c5] at H
   have c5b0 : decide (a1 < 1) = false := decide_eq_false c5
   clear c5
   (first|rw [c5b0]|(simp only [i64_w,i32_w];rw [c5b0])|skip)
   by_cases c6 : a1 > 26
   ·rw [if_pos c6] at H
    have c6b0 : decide (26 < a1) = true := decide_eq_true c6
    clear c6
    have H' := am H
    clear H
    go_wp2
    go_meet
    case rel => exact ⟨_,(true),(by first|rfl|(simp;done)|(simp [*];done)),H',⟨by first|omega|exact Nat.le_refl _⟩,⟨bb HB⟩⟩
   ·rw [if_neg c6] at H
    have c6b0 : decide (26 < a1) = false := decide_eq_false c6
    clear c6
    by_cases c7 : a2 < 1
    ·rw [if_pos c7] at H
     have c7b0 : decide (a2 < 1) = true := decide_eq_true c7
     clear c7
     have H' := am H
     clear H
     go_wp2
     go_meet
     case rel => exact ⟨_,(true),(by first|rfl|(simp;done)|(simp [*];done)),H',⟨by first|omega|exact Nat.le_refl _⟩,⟨bb HB⟩⟩
    ·rw [if_neg c7] at H
     have c7b0 : decide (a2 < 1) = false := decide_eq_false c7
     clear c7
     by_cases c8 : a2 > 26
     ·rw [if_pos c8] at H
      have c8b0 : decide (26 < a2) = true := decide_eq_true c8
      clear c8
      have H' := am H
      clear H
      go_wp2
      go_meet
      case rel => exact ⟨_,(true),(by first|rfl|(simp;done)|(simp [*];done)),H',⟨by first|omega|exact Nat.le_refl _⟩,⟨bb HB⟩⟩
     ·rw [if_neg c8] at H
      have c8b0 : decide (26 < a2) = false := decide_eq_false c8
      clear c8
      have H' := am H
      clear H
      go_wp2
      go_meet
      case rel => exact ⟨_,(decide ((IntKind.u64.wrap (wrap64 (a1 + a2))) ≥ a0)),(by first|rfl|(simp;done)|(simp [*];done)),H',⟨by first|omega|exact Nat.le_refl _⟩,⟨bb HB⟩⟩
 case rest =>
  clear HC4
  try clear c1
  try clear p2
  try clear c5
  try clear c5b0
  try clear c6
  try clear c6b0
  try clear p6
  try clear c7
  try clear c7b0
  try clear c8
  try clear c8b0
  obtain ⟨kq,x35_3,rfl,HA,HJ3,HB⟩ := hcut
  cases kq with
  | zero => exact absurd HA.out (by simp [privityref07_New.j0])
  | succ kj3 =>
   have H := HA.out
   clear HA
   simp only [privityref07_New.j0] at H
   by_cases c9 : x35_3 = true
   ·subst c9
    rw [if_pos rfl] at H
    simp only [Option.some.injEq,Prod.mk.injEq] at H
    obtain ⟨rfl,rfl⟩ := H
    go_wp2
    go_ret2
    exact ⟨_,by first|rfl|(simp [errW_none,errW_some] <;> rfl)|(simp [*,errW_none,errW_some] <;> rfl),by first|exact Kd.S_nil _ _ _ _ _|exact Kd.N_nil _ _ _ _ _|exact Kd.V_nil _ _ _ _ _|exact Kd.Q_nil _ _ _ _ _|exact Kd.R_nil _ _ _ _ _,bb HB⟩
   ·replace c9 := Bool.eq_false_iff.mpr c9
    subst c9
    rw [if_neg (show ¬ (false = true) by decide)] at H
    have H' := am H
    clear H
    go_wp2
    go_loopg [8,9] kj3 (fun kq v8 v9 w' => ∃ (x8_2 : List Int) (x9_2 : Int),v9 = .int .i64 x9_2 ∧ Aside0 (privityref07_New.l0 kq a0 a1 a2 x8_2 x9_2 = some (r1,r2)) ∧ Aside0 (kq ≤ kj3) ∧ Aside0 (Kd.R (Kd.int .u64) 22 w' w.heap.size (fun _ => True) v8 x8_2) ∧ Aside0 (Below w.heap.size w w'))
    case atStart => exact ⟨(([] : List Int)),(1),(by first|rfl|(simp;done)|(simp [*];done)),H',⟨Nat.le_refl _⟩,⟨by first|exact Kd.R_nil _ _ _ _ _|exact Kd.N_nil _ _ _ _ _|exact Kd.V_nil _ _ _ _ _|exact Kd.Q_nil _ _ _ _ _|exact Kd.S_nil _ _ _ _ _⟩,⟨bb HB⟩⟩
    case round =>
     clear H'
     try clear c1
     try clear p2
     try clear c5
     try clear c5b0
     try clear c6
     try clear c6b0
     try clear p6
     try clear c7
     try clear c7b0
     try clear c8
     try clear c8b0
     try clear c9
     try clear p2
     try clear p6
     obtain ⟨x8_2,x9_2,rfl,HA,HK2,HO_8,HB⟩ := hrel
     cases gk with
     | zero => exact absurd HA.out (by simp [privityref07_New.l0])
     | succ k2 =>
      have H := HA.out
      clear HA
      simp only [privityref07_New.l0] at H
      by_cases c10 : x9_2 ≤ a2
      ·rw [if_pos c10] at H
       have c10b0 : decide (x9_2 ≤ a2) = true := decide_eq_true c10
       clear c10
       by_cases c11 : x8_2.length < 17592186044416
       ·rw [if_pos c11] at H
        have LMc11 := am c11
        clear c11
        obtain ⟨y463,hy463⟩ : ∃ y_ : List Int,y_ = (x8_2 ++ [IntKind.u64.wrap (x9_2)]) := ⟨_,rfl⟩
        replace H : (privityref07_New.l0 k2 a0 a1 a2 y463 (wrap64 (x9_2 + 1))) = some (r1,r2) := by first|(rw [hy463];with_reducible exact H)|(have H2_ := (Option.bind_some _ _).symm.trans H;rw [hy463];with_reducible exact H2_)|(have H2_ := (Option.bind_some _ _).symm.trans H;with_reducible exact H2_)|with_reducible exact H|(rw [hy463];exact H)|exact H
        have Ny463 := am hy463
        clear hy463
        have H' := am H
        clear H
        go_wp2_with (first|((with_reducible refine gate_builtin (b := .append) (xs := #[.tmp 41,.tmp 44]) rfl ?_);at_builtin;refine Kd.R_append (Kd.int .u64) (w0 := w) w.heap.size rfl (.tmp 41) (.tmp 44) 40 22 (.int .u64 0) 8 rfl Try.underlying40 info22 rfl (by decide) (by omega) u8 x8_2 (IntKind.u64.wrap (x9_2)) [.int .u64 (IntKind.u64.wrap (x9_2))] (fun _ => True) (fun _ => False) rfl rfl ?aP (fun _ hk => hk.elim) ?aF ?aO ?aB ?aS ?aL ?_;(case aP => exact rfl);(case aB => exact (bb HB));(case aF => exact (fun _ _ => trivial));(case aO => exact (rr HO_8));(case aS => exact (below_size (bb HB)));(case aL => have := LMc11.out;omega);intro v464 w12 ho hb hg hat;rw [← Ny463.out] at ho;have n0_ := am (hb);have n1_ := am (ho);clear HB HO_8;have HB := n0_;have HO465 := n1_;clear n0_ n1_;clear ho hb hg hat))
        go_roundg k2
        case measure => have := HJ3.out;have := HK2.out;omega
        case rel => exact ⟨(y463),(wrap64 (x9_2 + 1)),(by first|rfl|(simp;done)|(simp [*];done)),H',⟨by have := HJ3.out;have := HK2.out;omega⟩,⟨by (with_reducible repeat (first|apply Kd.R_alloc|apply Kd.R_drewN|apply Kd.R_drew));exact HO465.out⟩,⟨bb HB⟩⟩
       ·rw [if_neg c11] at H
        exact absurd H (by simp)
      ·rw [if_neg c10] at H
       have c10b0 : decide (x9_2 ≤ a2) = false := decide_eq_false c10
       clear c10
       have H' := am H
       clear H
       go_wp2
       go_loopg [10,11] k2 (fun kq v10 v11 w' => ∃ (x10_3 : List (List Int)) (x11_3 : Int),v11 = .int .i64 x11_3 ∧ Aside0 (privityref07_New.l1 kq a0 a1 a2 x8_2 x10_3 x11_3 = some (r1,r2)) ∧ Aside0 (kq ≤ k2) ∧ Aside0 (Kd.R (Kd.int .u64) 22 w' w.heap.size (fun _ => True) u8 x8_2) ∧ Aside0 (Kd.S (Kd.slice 22 (Kd.int .u64)) 40 w' w.heap.size (fun k_ => some k_ ≠ (u8 : Value).ownBlock) v10 x10_3) ∧ Aside0 (Below w.heap.size w w'))
       case atStart => exact ⟨(([] : List (List Int))),(1),(by first|rfl|(simp;done)|(simp [*];done)),H',⟨Nat.le_refl _⟩,⟨by (with_reducible repeat (first|apply Kd.R_alloc|apply Kd.R_drewN|apply Kd.R_drew));exact HO_8.out⟩,⟨by first|exact Kd.S_nil _ _ _ _ _|exact Kd.N_nil _ _ _ _ _|exact Kd.V_nil _ _ _ _ _|exact Kd.Q_nil _ _ _ _ _|exact Kd.R_nil _ _ _ _ _⟩,⟨bb HB⟩⟩
       case round =>
        clear H'
        try clear c1
        try clear p2
        try clear c5
        try clear c5b0
        try clear c6
        try clear c6b0
        try clear p6
        try clear c7
        try clear c7b0
        try clear c8
        try clear c8b0
        try clear c9
        try clear c10
        try clear c10b0
        try clear c11
        try clear p2
        try clear p6
        obtain ⟨x10_3,x11_3,rfl,HA,HK3,HO_8,HO_10,HB⟩ := hrel
        cases gk with
        | zero => exact absurd HA.out (by simp [privityref07_New.l1])
        | succ k3 =>
         have H := HA.out
         clear HA
         simp only [privityref07_New.l1] at H
         by_cases c13 : x11_3 ≤ a1
         ·rw [if_pos c13] at H
          have c13b0 : decide (x11_3 ≤ a1) = true := decide_eq_true c13
          clear c13
          replace H := Option.bind_eq_some_iff.mp H
          obtain ⟨⟨t466,t467⟩,A140,H⟩ := H
          try dsimp only at H
          have A14 := am A140
          clear A140
          by_cases c15 : x10_3.length < 5864062014805
          ·rw [if_pos c15] at H
           have LMc15 := am c15
           clear c15
           obtain ⟨y470,hy470⟩ : ∃ y_ : List (List Int),y_ = (x10_3 ++ [t466]) := ⟨_,rfl⟩
           replace H : (privityref07_New.l1 k3 a0 a1 a2 x8_2 y470 (wrap64 (x11_3 + 1))) = some (r1,r2) := by first|(rw [hy470];with_reducible exact H)|(have H2_ := (Option.bind_some _ _).symm.trans H;rw [hy470];with_reducible exact H2_)|(have H2_ := (Option.bind_some _ _).symm.trans H;with_reducible exact H2_)|with_reducible exact H|(rw [hy470];exact H)|exact H
           have Ny470 := am hy470
           clear hy470
           have H' := am H
           clear H
           obtain ⟨Ao16,co16,eo16⟩ := Kd.R_slice HO_8.out
           subst eo16
           go_wp2_with (first|((with_reducible refine gate_callee (f := 34) rfl ?_);refine goesL_ (some 58) rfl rfl Try.func34 (by kernel_rfl) rfl #[.int .u64 a0,.slice Ao16 x8_2.length co16,.int .u64 (IntKind.u64.wrap (wrap64 (a2 + x11_3)))] rfl (by (try simp only [List.map_toArray,List.map_cons,List.map_nil]);first|done|rfl|(simp only [List.length_drop,List.length_take];rfl)) ?_;(with_reducible refine (privityref05_LagrangeWeights.calls k3 a0 _ _ x8_2 (IntKind.u64.wrap (wrap64 (a2 + x11_3))) t466 t467 _ ?side1 ?side2 A14.out).mono ?_);(case side1 => exact cr HO_8);(case side2 => exact (Kd.R_reads' HO_8.out).2.1);rintro e w17 ⟨v468,rfl,ho0,hb⟩;refine ⟨_,rfl,?_⟩;have n0_ := am (Kd.R_elder' (rr HO_8) (Kd.R_base ho0) hb);have n1_ := am (Kd.S_elder' (by (with_reducible repeat (first|apply Kd.S_alloc|apply Kd.S_drewN|apply Kd.S_drew));exact HO_10.out) (Kd.R_base ho0) hb);have n2_ := am (Kd.R_lower (Kd.R_new' ho0 (Kd.R_lt (rr HO_8))) (below_size (bb HB)));have n3_ := am (below_step (bb HB) hb);clear HO_8 HO_10 HB;have HO_8 := n0_;have HO_10 := n1_;have HO469 := n2_;have HB := n3_;clear n0_ n1_ n2_ n3_;(try clear hb);(try clear hb2);(try clear hk);(try clear hi);(try clear ho0);obtain ⟨Ao19,co19,eo19⟩ := Kd.R_slice HO469.out;subst eo19)|((with_reducible refine gate_builtin (b := .append) (xs := #[.tmp 61,.tmp 63]) rfl ?_);at_builtin;refine Kd.S_append (Kd.slice 22 (Kd.int .u64)) (w0 := w) w.heap.size rfl (.tmp 61) (.tmp 63) 25 40 (.slice none 0 0) 24 rfl Try.underlying25 info40 rfl (by decide) (by omega) u10 x10_3 t466 [.slice Ao19 t466.length co19] (fun k_ => some k_ ≠ (.slice Ao16 x8_2.length co16 : Value).ownBlock) (fun k_ => some k_ = (.slice Ao19 t466.length co19 : Value).ownBlock) rfl rfl ?aP (fun k_ hk_ => ((Kd.R_mono (ok' := fun k_ => ((fun k_ => some k_ ≠ (.slice Ao16 x8_2.length co16 : Value).ownBlock)) k_ ∧ some k_ ≠ (u10 : Value).ownBlock) (Kd.R_apart' (HO469.out) (Kd.S_typed HO_10.out) (by decide)) (fun k_ hk => ⟨hk.1.2,hk.2⟩))).1 k_ hk_.symm) ?aF ?aO ?aB ?aS ?aL ?_;(case aP => exact Kd.M_row (Kd.R_mono (Kd.R_tight rfl (Kd.R_mono (ok' := fun k_ => ((fun k_ => some k_ ≠ (.slice Ao16 x8_2.length co16 : Value).ownBlock)) k_ ∧ some k_ ≠ (u10 : Value).ownBlock) (Kd.R_apart' (HO469.out) (Kd.S_typed HO_10.out) (by decide)) (fun k_ hk => ⟨hk.1.2,hk.2⟩))) (fun _ h_ => h_)));(case aB => exact (bb HB));(case aF => exact (fun k_ hk => Kd.fresh' (Kd.R_lt (rr HO_8)) k_ hk));(case aO => exact (by (with_reducible repeat (first|apply Kd.S_alloc|apply Kd.S_drewN|apply Kd.S_drew));exact Kd.S_mono HO_10.out (fun k_ hk => ⟨hk.1,fun e_ => hk.2 e_⟩)));(case aS => exact (below_size (bb HB)));(case aL => have := LMc15.out;omega);intro v471 w18 ho hb hg hat;rw [← Ny470.out] at ho;have n0_ := am (Kd.R_over' (rr HO_8) (Kd.S_typed (by (with_reducible repeat (first|apply Kd.S_alloc|apply Kd.S_drewN|apply Kd.S_drew));exact HO_10.out)) (by decide) hg);have n1_ := am (hb);have n2_ := am (ho);clear HO_8 HB HO_10 HO469;have HO_8 := n0_;have HB := n1_;have HO472 := n2_;clear n0_ n1_ n2_;clear ho hb hg hat))
           go_roundg k3
           case measure => have := HJ3.out;have := HK2.out;have := HK3.out;omega
           case rel => exact ⟨(y470),(wrap64 (x11_3 + 1)),(by first|rfl|(simp;done)|(simp [*];done)),H',⟨by have := HJ3.out;have := HK2.out;have := HK3.out;omega⟩,⟨by (with_reducible repeat (first|apply Kd.R_alloc|apply Kd.R_drewN|apply Kd.R_drew));exact Kd.R_mono HO_8.out (fun _ hk => trivial)⟩,⟨by (with_reducible repeat (first|apply Kd.S_alloc|apply Kd.S_drewN|apply Kd.S_drew));exact HO472.out⟩,⟨bb HB⟩⟩
          ·rw [if_neg c15] at H
           exact absurd H (by simp)
         ·rw [if_neg c13] at H
          have c13b0 : decide (x11_3 ≤ a1) = false := decide_eq_false c13
          clear c13
          simp only [Option.some.injEq,Prod.mk.injEq] at H
          obtain ⟨rfl,rfl⟩ := H
          go_wp2
          go_ret2
          exact ⟨_,by first|rfl|(simp [errW_none,errW_some] <;> rfl)|(simp [*,errW_none,errW_some] <;> rfl),by (with_reducible repeat (first|apply Kd.S_alloc|apply Kd.S_drewN|apply Kd.S_drew));exact Kd.S_mono HO_10.out (fun _ hk => trivial),bb HB⟩
def privitylaw07_HyperinvertibleNewMatchesReference.f (k : Nat) (a0 : Int) (a1 : Int) (a2 : Int) : Option (Bool) := (privitylaw07_awake.f k).bind fun t473 => (if t473 = true then ((privityref01_Supported.f k a0).bind fun t474 => (if t474 = true then ((hyperinvertible_New.f k a0 a1 a2).bind fun bt475 => ((privityref07_New.f k a0 a1 a2).bind fun bt479 => (if bt475.2 = bt479.2 then ((privityref05_SameRows.f k bt475.1 bt479.1).bind fun t483 => (some t483)) else (some false)))) else (some true))) else (some false))
set_option maxHeartbeats 8000000 in
set_option maxRecDepth 100000 in
theorem privitylaw07_HyperinvertibleNewMatchesReference.calls (k : Nat) (a0 : Int) (a1 : Int) (a2 : Int) (r : Bool) (w : World) (hr1_ : r = true) (h : privitylaw07_HyperinvertibleNewMatchesReference.f k a0 a1 a2 = some r) :
  Calls Try.prog 3 #[.int .u64 a0,.int .i64 a1,.int .i64 a2] w fun e w' => e = .returned (.bool r) ∧ Below w.heap.size w w' := by
 have HRT_ := am hr1_
 clear hr1_
 have HB := am (Below.refl w.heap.size w)
 have H : ((privitylaw07_awake.f k).bind fun t473 => (if t473 = true then ((privityref01_Supported.f k a0).bind fun t474 => (if t474 = true then ((hyperinvertible_New.f k a0 a1 a2).bind fun bt475 => ((privityref07_New.f k a0 a1 a2).bind fun bt479 => (if bt475.2 = bt479.2 then ((privityref05_SameRows.f k bt475.1 bt479.1).bind fun t483 => (some t483)) else (some false)))) else (some true))) else (some false))) = some r := h
 clear h
 replace H := Option.bind_eq_some_iff.mp H
 obtain ⟨t473,A40,H⟩ := H
 try dsimp only at H
 have A4 := am A40
 clear A40
 by_cases c5 : t473 = true
 ·subst c5
  rw [if_pos rfl] at H
  replace H := Option.bind_eq_some_iff.mp H
  obtain ⟨t474,A60,H⟩ := H
  try dsimp only at H
  have A6 := am A60
  clear A60
  by_cases c7 : t474 = true
  ·subst c7
   rw [if_pos rfl] at H
   replace H := Option.bind_eq_some_iff.mp H
   obtain ⟨⟨t475,t476⟩,A80,H⟩ := H
   try dsimp only at H
   have A8 := am A80
   clear A80
   replace H := Option.bind_eq_some_iff.mp H
   obtain ⟨⟨t479,t480⟩,A90,H⟩ := H
   try dsimp only at H
   have A9 := am A90
   clear A90
   by_cases c10 : t476 = t480
   ·rw [if_pos c10] at H
    have c10b0 : (t476 == t480) = true := beq_iff_eq.mpr c10
    have c10b1 : (t476 != t480) = false := bne_eq_false_iff_eq.mpr c10
    clear c10
    replace H := Option.bind_eq_some_iff.mp H
    obtain ⟨t483,A110,H⟩ := H
    try dsimp only at H
    have A11 := am A110
    clear A110
    obtain rfl := Option.some.inj H
    go_enter Try.func3,Try.ntmps3
    go_wp2_with (first|((with_reducible refine gate_callee (f := 12) rfl ?_);refine goesL_ (some 11) rfl rfl Try.func12 (by kernel_rfl) rfl #[] rfl (by (try simp only [List.map_toArray,List.map_cons,List.map_nil]);first|done|rfl|(simp only [List.length_drop,List.length_take];rfl)) ?_;(with_reducible refine (privitylaw07_awake.calls k  true _ A4.out).mono ?_);rintro e w12 ⟨rfl,hb⟩;refine ⟨_,rfl,?_⟩;have n0_ := am (below_step (bb HB) hb);clear HB;have HB := n0_;clear n0_;(try clear hb);(try clear hb2);(try clear hk);(try clear hi))|((with_reducible refine gate_callee (f := 13) rfl ?_);refine goesL_ (some 14) rfl rfl Try.func13 (by kernel_rfl) rfl #[.int .u64 a0] rfl (by (try simp only [List.map_toArray,List.map_cons,List.map_nil]);first|done|rfl|(simp only [List.length_drop,List.length_take];rfl)) ?_;(with_reducible refine (privityref01_Supported.calls k a0 true _ A6.out).mono ?_);rintro e w13 ⟨rfl,hb⟩;refine ⟨_,rfl,?_⟩;have n0_ := am (below_step (bb HB) hb);clear HB;have HB := n0_;clear n0_;(try clear hb);(try clear hb2);(try clear hk);(try clear hi))|((with_reducible refine gate_callee (f := 14) rfl ?_);refine goesL_ (some 20) rfl rfl Try.func14 (by kernel_rfl) rfl #[.int .u64 a0,.int .i64 a1,.int .i64 a2] rfl (by (try simp only [List.map_toArray,List.map_cons,List.map_nil]);first|done|rfl|(simp only [List.length_drop,List.length_take];rfl)) ?_;(with_reducible refine (hyperinvertible_New.calls k a0 a1 a2 t475 t476 _ A8.out).mono ?_);rintro e w14 ⟨v477,rfl,ho0,hb⟩;refine ⟨_,rfl,?_⟩;have n0_ := am (Kd.S_lower ho0 (below_size (bb HB)));have n1_ := am (below_step (bb HB) hb);clear HB;have HO478 := n0_;have HB := n1_;clear n0_ n1_;(try clear hb);(try clear hb2);(try clear hk);(try clear hi);(try clear ho0))|((with_reducible refine gate_callee (f := 15) rfl ?_);refine goesL_ (some 27) rfl rfl Try.func15 (by kernel_rfl) rfl #[.int .u64 a0,.int .i64 a1,.int .i64 a2] rfl (by (try simp only [List.map_toArray,List.map_cons,List.map_nil]);first|done|rfl|(simp only [List.length_drop,List.length_take];rfl)) ?_;(with_reducible refine (privityref07_New.calls k a0 a1 a2 t479 t480 _ A9.out).mono ?_);rintro e w15 ⟨v481,rfl,ho0,hb⟩;refine ⟨_,rfl,?_⟩;have n0_ := am (Kd.S_elder' (by (with_reducible repeat (first|apply Kd.S_alloc|apply Kd.S_drewN|apply Kd.S_drew));exact HO478.out) (Kd.S_base ho0) hb);have n1_ := am (Kd.S_lower (Kd.S_new' ho0 (Kd.S_lt (by (with_reducible repeat (first|apply Kd.S_alloc|apply Kd.S_drewN|apply Kd.S_drew));exact HO478.out))) (below_size (bb HB)));have n2_ := am (below_step (bb HB) hb);clear HO478 HB;have HO478 := n0_;have HO482 := n1_;have HB := n2_;clear n0_ n1_ n2_;(try clear hb);(try clear hb2);(try clear hk);(try clear hi);(try clear ho0);obtain ⟨Ao16,co16,eo16⟩ := Kd.S_slice HO478.out;subst eo16;obtain ⟨Ao17,co17,eo17⟩ := Kd.S_slice HO482.out;subst eo17)|(go_at_call 16;(with_reducible refine (privityref05_SameRows.calls k _ _ t475 _ _ t479 t483 _ ?side1 ?side2 ?side3 ?side4 A11.out).mono ?_);(case side1 => repeat (first|exact (Kd.S_reads' HO478.out).2.2|(with_reducible refine Kd.C_alloc ?_ _)|(with_reducible refine Kd.C_drewN ?_ _)|(with_reducible refine Kd.C_drew ?_)));(case side2 => exact (Kd.S_reads' HO478.out).2.1);(case side3 => repeat (first|exact (Kd.S_reads' HO482.out).2.2|(with_reducible refine Kd.C_alloc ?_ _)|(with_reducible refine Kd.C_drewN ?_ _)|(with_reducible refine Kd.C_drew ?_)));(case side4 => exact (Kd.S_reads' HO482.out).2.1);rintro e w' ⟨rfl,⟨nd,rfl⟩⟩))
    go_ret
    exact ⟨by first|rfl|(simp [errW_none,errW_some] <;> rfl)|(simp [*,errW_none,errW_some] <;> rfl),bb HB⟩
   ·rw [if_neg c10] at H
    have c10b0 : (t476 == t480) = false := beq_eq_false_iff_ne.mpr c10
    have c10b1 : (t476 != t480) = true := bne_iff_ne.mpr c10
    exact absurd (Option.some.inj H) (by rw [HRT_.out];simp)
  ·replace c7 := Bool.eq_false_iff.mpr c7
   subst c7
   rw [if_neg (show ¬ (false = true) by decide)] at H
   obtain rfl := Option.some.inj H
   go_enter Try.func3,Try.ntmps3
   go_wp2_with (first|((with_reducible refine gate_callee (f := 12) rfl ?_);refine goesL_ (some 11) rfl rfl Try.func12 (by kernel_rfl) rfl #[] rfl (by (try simp only [List.map_toArray,List.map_cons,List.map_nil]);first|done|rfl|(simp only [List.length_drop,List.length_take];rfl)) ?_;(with_reducible refine (privitylaw07_awake.calls k  true _ A4.out).mono ?_);rintro e w22 ⟨rfl,hb⟩;refine ⟨_,rfl,?_⟩;have n0_ := am (below_step (bb HB) hb);clear HB;have HB := n0_;clear n0_;(try clear hb);(try clear hb2);(try clear hk);(try clear hi))|((with_reducible refine gate_callee (f := 13) rfl ?_);refine goesL_ (some 14) rfl rfl Try.func13 (by kernel_rfl) rfl #[.int .u64 a0] rfl (by (try simp only [List.map_toArray,List.map_cons,List.map_nil]);first|done|rfl|(simp only [List.length_drop,List.length_take];rfl)) ?_;(with_reducible refine (privityref01_Supported.calls k a0 false _ A6.out).mono ?_);rintro e w23 ⟨rfl,hb⟩;refine ⟨_,rfl,?_⟩;have n0_ := am (below_step (bb HB) hb);clear HB;have HB := n0_;clear n0_;(try clear hb);(try clear hb2);(try clear hk);(try clear hi)))
   go_ret
   exact ⟨by first|rfl|(simp [errW_none,errW_some] <;> rfl)|(simp [*,errW_none,errW_some] <;> rfl),bb HB⟩
 ·replace c5 := Bool.eq_false_iff.mpr c5
  subst c5
  rw [if_neg (show ¬ (false = true) by decide)] at H
  exact absurd (Option.some.inj H) (by rw [HRT_.out];simp)
def privitylaw07_HyperinvertibleNewMatchesReference.Pure : Prop := ∀ (a0 : Int) (a1 : Int) (a2 : Int),(Lit.int .u64 a0).wf = true → (Lit.int .i64 a1).wf = true → (Lit.int .i64 a2).wf = true → ∃ k,privitylaw07_HyperinvertibleNewMatchesReference.f k a0 a1 a2 = some true
theorem privitylaw07_HyperinvertibleNewMatchesReference.walk (P : privitylaw07_HyperinvertibleNewMatchesReference.Pure) (a0 : Int) (a1 : Int) (a2 : Int) (w : World) (w0 : (Lit.int .u64 a0).wf = true) (w1 : (Lit.int .i64 a1).wf = true) (w2 : (Lit.int .i64 a2).wf = true) :
  Calls Try.prog 3 #[.int .u64 a0,.int .i64 a1,.int .i64 a2] w fun e w' => e = .returned (.bool true) ∧ Below w.heap.size w w' := by
 obtain ⟨k,h⟩ := P a0 a1 a2 w0 w1 w2
 refine (privitylaw07_HyperinvertibleNewMatchesReference.calls k a0 a1 a2 true w rfl h).mono ?_
 rintro e w' ⟨rfl,hd⟩
 exact ⟨rfl,hd⟩
end Go.Proofs.Ytmdoaijkaaaglaa.Pr
end
section
namespace Go.Proofs.Ytmdoaijkaaaglaa.Pl
open Go.Proofs.Ytmdoaijkaaaglaa.Fd
section
variable {p : Nat} [NeZero p]
def ev (x : Fin p) : List (Fin p) → Fin p
 | [] => 0
 | c :: f => c + x * ev x f
def sub : List (Fin p) → List (Fin p) → List (Fin p)
 | [],g => g.map fun c => -c
 | f,[] => f
 | c :: f,d :: g => (c - d) :: sub f g
theorem ev_neg (x : Fin p) : ∀ f : List (Fin p),ev x (f.map fun c => -c) = - ev x f
 | [] => by simp only [List.map_nil,ev];grind
 | c :: f => by simp only [List.map_cons,ev,ev_neg x f];grind
theorem ev_sub (x : Fin p) : ∀ f g : List (Fin p),ev x (sub f g) = ev x f - ev x g
 | [],g => by simp only [sub,ev_neg,ev];grind
 | _ :: _,[] => by simp only [sub,ev];grind
 | c :: f,d :: g => by simp only [sub,ev,ev_sub x f g];grind
theorem getD_sub (i : Nat) : ∀ f g : List (Fin p),(sub f g).getD i 0 = f.getD i 0 - g.getD i 0 := by
 induction i with
 | zero =>
  intro f g
  cases f with
  | nil => cases g with
   | nil => simp only [sub,List.map_nil,List.getD_nil];grind
   | cons d g => simp only [sub,List.map_cons,List.getD_cons_zero,List.getD_nil];grind
  | cons c f => cases g with
   | nil => simp only [sub,List.getD_cons_zero,List.getD_nil];grind
   | cons d g => simp only [sub,List.getD_cons_zero]
 | succ i ih =>
  intro f g
  cases f with
  | nil => cases g with
   | nil => simp only [sub,List.map_nil,List.getD_nil];grind
   | cons d g =>
    have := ih [] g
    simp only [sub,List.map_cons,List.getD_cons_succ,List.getD_nil] at *
    exact this
  | cons c f => cases g with
   | nil => simp only [sub,List.getD_cons_succ,List.getD_nil];grind
   | cons d g => simp only [sub,List.getD_cons_succ];exact ih f g
theorem ev_congr (x : Fin p) : ∀ f g : List (Fin p),(∀ i,f.getD i 0 = g.getD i 0) → ev x f = ev x g := by
 intro f g h
 have : ∀ c ∈ sub f g,c = 0 := by
  intro c hc
  obtain ⟨i,hi,rfl⟩ := List.getElem_of_mem hc
  have := getD_sub i f g
  rw [h i,List.getD_eq_getElem?_getD,List.getElem?_eq_getElem hi] at this
  simp only [Option.getD_some] at this
  rw [this];grind
 have h0 : ∀ l : List (Fin p),(∀ c ∈ l,c = 0) → ev x l = 0 := by
  intro l
  induction l with
  | nil => intro _;rfl
  | cons c l ih => intro hl;rw [ev,ih (fun d hd => hl d (List.mem_cons_of_mem _ hd)),hl c (by simp)];grind
 have h1 := h0 _ this
 rw [ev_sub] at h1
 grind
end
section
variable {p : Nat} [NeZero p]
def mono (x : Fin p) : Nat → Fin p
 | 0 => 1
 | n + 1 => x * mono x n
theorem mono_add (x : Fin p) (a : Nat) : ∀ b,mono x (a + b) = mono x a * mono x b
 | 0 => by simp only [mono,Nat.add_zero];grind
 | b + 1 => by rw [← Nat.add_assoc];simp only [mono];rw [mono_add x a b];grind
theorem ev_append (x : Fin p) : ∀ f g : List (Fin p),ev x (f ++ g) = ev x f + mono x f.length * ev x g
 | [],g => by simp only [List.nil_append,ev,List.length_nil,mono];grind
 | c :: f,g => by simp only [List.cons_append,ev,List.length_cons,mono,ev_append x f g];grind
theorem ev_zeros (x : Fin p) : ∀ n,ev x (List.replicate n 0) = 0
 | 0 => rfl
 | n + 1 => by simp only [List.replicate_succ,ev,ev_zeros x n];grind
theorem ev_set (x v : Fin p) : ∀ (f : List (Fin p)) (i : Nat),i < f.length → ev x (f.set i v) = ev x f + (v - f.getD i 0) * mono x i
 | [],_,h => by simp at h
 | c :: f,0,_ => by simp only [List.set_cons_zero,ev,mono,List.getD_cons_zero];grind
 | c :: f,i + 1,h => by
  have := ev_set x v f i (by simpa using h)
  simp only [List.set_cons_succ,ev,mono,List.getD_cons_succ,this];grind
theorem ev_take_succ (x : Fin p) : ∀ (f : List (Fin p)) (n : Nat),ev x (f.take (n + 1)) = ev x (f.take n) + f.getD n 0 * mono x n
 | [],n => by simp only [List.take_nil,List.getD_nil,ev];grind
 | c :: f,0 => by simp only [List.take_succ_cons,List.take_zero,ev,List.getD_cons_zero,mono];grind
 | c :: f,n + 1 => by
  have := ev_take_succ x f n
  simp only [List.take_succ_cons,ev,List.getD_cons_succ,mono] at *
  rw [this];grind
def tf (p : Nat) [NeZero p] (a : Int) : Fin p := ⟨(a % (p : Int)).toNat,by
 have h : (0 : Int) < p := by have := Nat.pos_of_neZero p;omega
 have := Int.emod_lt_of_pos a h
 have := Int.emod_nonneg a (by omega : (p : Int) ≠ 0)
 omega⟩
theorem tf_val (a : Int) : (((tf p a).val : Nat) : Int) = a % (p : Int) := by
 have h : (0 : Int) < p := by have := Nat.pos_of_neZero p;omega
 show (((a % (p : Int)).toNat : Nat) : Int) = _
 rw [Int.toNat_of_nonneg (Int.emod_nonneg a (by omega))]
theorem tf_eq {a : Int} {x : Fin p} (h : ((x.val : Nat) : Int) = a % (p : Int)) : tf p a = x := by
 apply Fin.ext
 have := tf_val (p := p) a
 omega
theorem tf_of_emod {a b : Int} (h : a % (p : Int) = b % (p : Int)) : tf p a = tf p b := tf_eq (by rw [tf_val,h])
theorem tf_emod (a : Int) : tf p (a % (p : Int)) = tf p a := tf_of_emod (Int.emod_emod_of_dvd _ (Int.dvd_refl _))
theorem tf_add (a b : Int) : tf p (a + b) = tf p a + tf p b := by
 refine tf_eq ?_
 rw [Fin.val_add,Int.natCast_emod,Int.natCast_add,tf_val,tf_val,← Int.add_emod]
theorem tf_mul (a b : Int) : tf p (a * b) = tf p a * tf p b := by
 refine tf_eq ?_
 rw [Fin.val_mul,Int.natCast_emod,Int.natCast_mul,tf_val,tf_val,← Int.mul_emod]
theorem tf_zero : tf p 0 = 0 := tf_eq (by simp)
theorem tf_one : tf p 1 = 1 := by
 refine tf_eq ?_
 rw [show ((1 : Fin p).val) = 1 % p from rfl];simp
theorem tf_neg (a : Int) : tf p (-a) = - tf p a := by
 have h : tf p (-a) + tf p a = 0 := by rw [← tf_add,show -a + a = 0 from by omega,tf_zero]
 grind
theorem tf_sub (a b : Int) : tf p (a - b) = tf p a - tf p b := by rw [Int.sub_eq_add_neg,tf_add,tf_neg];grind
theorem tf_inj {a b : Int} (ha : 0 ≤ a ∧ a < (p : Int)) (hb : 0 ≤ b ∧ b < (p : Int)) (h : tf p a = tf p b) : a = b := by
 have h1 := tf_val (p := p) a
 rw [h,tf_val,Int.emod_eq_of_lt ha.1 ha.2,Int.emod_eq_of_lt hb.1 hb.2] at h1
 exact h1.symm
theorem getD_tf (l : List Int) (i : Nat) : (l.map (tf p)).getD i 0 = tf p (l.getD i 0) := by
 rw [List.getD_eq_getElem?_getD,List.getD_eq_getElem?_getD,List.getElem?_map]
 cases l[i]? with
 | none => simp [tf_zero]
 | some v => rfl
def lin (y : Fin p) : List (Fin p) → Fin p
 | [] => 1
 | o :: l => (y - o) * lin y l
end
end Go.Proofs.Ytmdoaijkaaaglaa.Pl
end
section
namespace Go.Proofs.Ytmdoaijkaaaglaa.E
open Go.RowKit Go.Proofs.Ytmdoaijkaaaglaa.Pr Go.Proofs.Ytmdoaijkaaaglaa.Hw Go.Proofs.Ytmdoaijkaaaglaa.Pl Go.Proofs.YtmdoaijkaaaglaaW.PrintWords Go.Proofs.YtmdoaijkaaaglaaW.PrintLast Go.Proofs.YtmdoaijkaaaglaaW.PrintMore
theorem nz {p : Int} (hp : Supp p) : NeZero p.toNat := ⟨by have := hp.bd;omega⟩
theorem cast_p {p : Int} (hp : Supp p) : ((p.toNat : Nat) : Int) = p := by have := hp.bd;omega
section
variable {p : Int} (hp : Supp p) [NeZero p.toNat]
def T (p : Int) [NeZero p.toNat] (a : Int) : Fin p.toNat := tf p.toNat a
def M (p : Int) [NeZero p.toNat] (l : List Int) : List (Fin p.toNat) := l.map (T p)
include hp in
theorem T_mod (a : Int) : T p (a % p) = T p a := by
 have h := tf_emod (p := p.toNat) a
 rw [cast_p hp] at h;exact h
theorem T_add (a b : Int) : T p (a + b) = T p a + T p b := tf_add a b
theorem T_mul (a b : Int) : T p (a * b) = T p a * T p b := tf_mul a b
theorem T_sub (a b : Int) : T p (a - b) = T p a - T p b := tf_sub a b
theorem T_neg (a : Int) : T p (-a) = - T p a := tf_neg a
theorem T_zero : T p 0 = 0 := tf_zero
theorem T_one : T p 1 = 1 := tf_one
include hp in
theorem T_inj {a b : Int} (ha : Res p a) (hb : Res p b) (h : T p a = T p b) : a = b :=
 tf_inj (p := p.toNat) (by rw [cast_p hp];exact ha) (by rw [cast_p hp];exact hb) h
include hp in
theorem T_inv {a : Int} (ha : Res p a) (h0 : a ≠ 0) : T p a * T p (invp p a) = 1 := by
 rw [← T_mul,← T_one,← T_mod hp (a * invp p a),inv_spec hp ha h0]
include hp in
theorem ev_evI (x : Int) : ∀ l,T p (evI p x l) = ev (T p x) (M p l)
 | [] => T_zero
 | c :: l => by
  have := ev_evI x l
  simp only [evI,M,List.map_cons,ev]
  rw [T_mod hp,T_add,T_mod hp,T_mul,this,M]
  grind
theorem M_getD (l : List Int) (i : Nat) : (M p l).getD i 0 = T p (l.getD i 0) := getD_tf l i
theorem M_length (l : List Int) : (M p l).length = l.length := List.length_map _
theorem ev_trimL (x : Fin p.toNat) (l : List Int) : ev x (M p (trimL l)) = ev x (M p l) :=
 ev_congr x _ _ (fun i => by rw [M_getD,M_getD,trimL_getD])
theorem ev_grow (x : Fin p.toNat) (l : List Int) (n : Nat) : ev x (M p (grow l n)) = ev x (M p l) := by
 have : M p (grow l n) = M p l ++ List.replicate (n - l.length) 0 := by
  unfold grow M;rw [List.map_append,List.map_replicate,T_zero]
 rw [this,ev_append,ev_zeros];grind
include hp in
theorem ev_put (x : Fin p.toNat) (l : List Int) (i : Nat) (k : Int) : ev x (M p (putL p l i k)) = ev x (M p l) + T p k * mono x i := by
 have hg : i < (grow l (i + 1)).length := by unfold grow;simp;omega
 have : M p (putL p l i k) = (M p (grow l (i + 1))).set i (T p ((grow l (i + 1)).getD i 0) + T p k) := by
  unfold putL M;rw [List.map_set,T_mod hp,T_add]
 rw [this,ev_set _ _ _ _ (by rw [M_length];exact hg),ev_grow,M_getD]
 grind
theorem M_take_all (l : List Int) : (M p l).take l.length = M p l := by rw [← M_length (p := p) l,List.take_length]
include hp in
theorem ev_row (x : Fin p.toNat) (m : List Int) (u : Int) (b : List Int) (i : Nat) : ∀ n,ev x (M p (rowL p m u b i n)) = ev x (M p m) + T p u * mono x i * ev x ((M p b).take n)
 | 0 => by simp only [rowL,List.take_zero,ev];grind
 | n + 1 => by
  rw [rowL,ev_put hp,ev_row x m u b i n,ev_take_succ,M_getD,T_mod hp,T_mul,mono_add,rd_nat];grind
include hp in
theorem ev_muls (x : Fin p.toNat) (a b : List Int) : ∀ n,ev x (M p (mulsL p a b n)) = ev x ((M p a).take n) * ev x (M p b)
 | 0 => by simp only [mulsL,List.take_zero,M,List.map_nil,ev];grind
 | n + 1 => by rw [mulsL,ev_row hp,ev_muls x a b n,M_take_all,ev_take_succ,M_getD,rd_nat];grind
end
section
variable {p : Int} (hp : Supp p) [NeZero p.toNat]
end
theorem othersN_len (xs : List Int) (i : Nat) : ∀ n,(othersN xs i n).length = if i < n then n - 1 else n
 | 0 => rfl
 | n + 1 => by
  have ih := othersN_len xs i n
  unfold othersN
  by_cases h : n = i
  ·subst h;rw [if_pos rfl,ih,if_neg (by omega),if_pos (by omega)];omega
  ·rw [if_neg h,List.length_append,ih]
   by_cases h2 : i < n
   ·rw [if_pos h2,if_pos (by omega)];simp;omega
   ·rw [if_neg h2,if_neg (by omega)];simp
theorem othersN_has (xs : List Int) (i j : Nat) (hne : j ≠ i) : ∀ n,j < n → rd xs j ∈ othersN xs i n
 | n + 1,h => by
  unfold othersN
  by_cases hj : j = n
  ·subst hj;rw [if_neg hne];simp
  ·have := othersN_has xs i j hne n (by omega)
   split
   ·exact this
   ·exact List.mem_append_left _ this
theorem othersN_ne {xs : List Int} (hnd : xs.Nodup) (i : Nat) (hi : i < xs.length) (n : Nat) (hn : n ≤ xs.length) : ∀ o ∈ othersN xs i n,rd xs i ≠ o := by
 intro o ho
 obtain ⟨j,h1,h2,rfl⟩ := othersN_mem ho
 rw [rd_nat,rd_nat,Hw.getD_in _ _ hi,Hw.getD_in _ _ (by omega)]
 intro e
 rw [List.nodup_iff_pairwise_ne,List.pairwise_iff_getElem] at hnd
 rcases Nat.lt_trichotomy i j with h3|h3|h3
 ·exact hnd i j hi (by omega) h3 e
 ·exact h2 h3.symm
 ·exact hnd j i (by omega) hi h3 e.symm
theorem othersN_res {p : Int} {xs : List Int} (hx : ∀ x ∈ xs,Res p x) (i n : Nat) (hn : n ≤ xs.length) : ∀ o ∈ othersN xs i n,Res p o := by
 intro o ho
 obtain ⟨j,h1,_,rfl⟩ := othersN_mem ho
 exact rd_res' hx j (by omega)
section
variable {p : Int} (hp : Supp p) [NeZero p.toNat]
def oth (p : Int) [NeZero p.toNat] (xs : List Int) (i : Nat) : List (Fin p.toNat) := M p (othersN xs i xs.length)
def dinv (p : Int) [NeZero p.toNat] (xs : List Int) (i : Nat) : Fin p.toNat := T p (invp p (lagS p 0 xs i).2)
include hp in
theorem lagS_ev (a : Int) (X : Int) : ∀ (l : List Int) (s : Int × Int),
  T p (l.foldl (lagStep p a X) s).1 = T p s.1 * lin (T p a) (M p l) ∧ T p (l.foldl (lagStep p a X) s).2 = T p s.2 * lin (T p X) (M p l)
 | [],s => ⟨by show _ = _ * 1;grind,by show _ = _ * 1;grind⟩
 | o :: l,s => by
  obtain ⟨h1,h2⟩ := lagS_ev a X l (lagStep p a X s o)
  simp only [List.foldl_cons,M,List.map_cons,lin]
  rw [h1,h2]
  simp only [lagStep,M]
  rw [T_mod hp,T_mod hp,T_mul,T_mul,T_mod hp,T_mod hp,T_sub,T_sub]
  constructor <;> grind
include hp in
theorem dinv_spec {xs : List Int} (hx : ∀ x ∈ xs,Res p x) (hn : xs.Nodup) (i : Nat) (hi : i < xs.length) : lin (T p (rd xs i)) (oth p xs i) * dinv p xs i = 1 := by
 have hb := hp.bd
 obtain ⟨h1,h2,h3⟩ := lagS_ok hp (a := 0) hx hn i hi
 have h := (lagS_ev hp 0 (rd xs i) (othersN xs i xs.length) (1,1)).2
 have e := T_inv hp h2 h3
 have h' : T p (lagS p 0 xs i).2 = lin (T p (rd xs i)) (oth p xs i) := by
  unfold lagS oth;rw [h,T_one];grind
 rw [h'] at e
 exact e
include hp in
theorem lagW_ev (a : Int) {xs : List Int} (hx : ∀ x ∈ xs,Res p x) (hn : xs.Nodup) (i : Nat) (hi : i < xs.length) : T p (lagW p a xs i) = lin (T p a) (oth p xs i) * dinv p xs i := by
 obtain ⟨h1,h2,h3⟩ := lagS_ok hp (a := a) hx hn i hi
 have h := lagS_ev hp a (rd xs i) (othersN xs i xs.length) (1,1)
 have e := T_inv hp h2 h3
 have d := dinv_spec hp hx hn i hi
 have e1 : T p (lagS p a xs i).1 = lin (T p a) (oth p xs i) := by unfold lagS oth;rw [h.1,T_one];grind
 have e2 : T p (lagS p a xs i).2 = lin (T p (rd xs i)) (oth p xs i) := by unfold lagS oth;rw [h.2,T_one];grind
 unfold lagW
 rw [T_mod hp,T_mul,e1]
 rw [e2] at e
 generalize lin (T p (rd xs i)) (oth p xs i) = D at *
 have : T p (invp p (lagS p a xs i).2) = dinv p xs i := by grind
 rw [this]
end
end Go.Proofs.Ytmdoaijkaaaglaa.E
end
section
namespace Go.Proofs.Ytmdoaijkaaaglaa.Pr
open Go.RowKit Go.Proofs.YtmdoaijkaaaglaaW.PrintWords Go.Proofs.YtmdoaijkaaaglaaW.PrintLast Go.Proofs.YtmdoaijkaaaglaaW.PrintMore
attribute [local go_sem] max2_int min2_int max_two min_two max_three min_three max_four min_four
open Go.Proofs.Ytmdoaijkaaaglaa.Hw

end Go.Proofs.Ytmdoaijkaaaglaa.Pr
end
section
namespace Go.Proofs.Ytmdoaijkaaaglaa.E
open Go.RowKit Go.Proofs.Ytmdoaijkaaaglaa.Pr Go.Proofs.Ytmdoaijkaaaglaa.Hw Go.Proofs.Ytmdoaijkaaaglaa.Pl Go.Proofs.YtmdoaijkaaaglaaW.PrintWords Go.Proofs.YtmdoaijkaaaglaaW.PrintLast Go.Proofs.YtmdoaijkaaaglaaW.PrintMore
theorem rtrim_l0 (l : List Int) (hl : l.length ≤ 1099511627776) : ∀ (m : Nat),m ≤ l.length → (∀ j,m ≤ j → l.getD j 0 = 0) → Ev (fun k => privityref04_Trim.l0 k l (m : Int)) (trimL l) := by
 have hend : ∀ m : Nat,(trimL l).length = m → m ≤ l.length → ((some (([] : List Int) : List Int)).bind fun y250 => (if 0 ≤ (m : Int) then (if (m : Int) ≤ (l.length : Int) then (if y250.length + (l.take ((m : Int) : Int).toNat).length < 17592186044416 then (some (y250 ++ (l.take ((m : Int) : Int).toNat))) else (none)) else (none)) else (none))) = some (trimL l) := by
  intro m hm hle
  rw [Option.bind_some,if_pos (by omega),if_pos (by omega),Int.toNat_natCast,← hm,trimL_take,if_pos (by have := trimL_length l;simp;omega)]
  rfl
 intro m
 induction m with
 | zero =>
  intro _ hz
  have : trimL l = [] := (trimL_nil_iff l).2 fun i => hz i (Nat.zero_le _)
  refine Ev.step (fun k => ?_) (Ev.now _)
  simp only [privityref04_Trim.l0]
  rw [if_neg (by omega)]
  exact hend 0 (by rw [this];rfl) (Nat.zero_le _)
 | succ m ih =>
  intro hm hz
  have e : wrap64 (((m + 1 : Nat) : Int) - 1) = (m : Int) := by rw [wrap64];omega
  by_cases h0 : l.getD m 0 = 0
  ·refine Ev.step (fun k => ?_) (ih (by omega) (fun j hj => by
    by_cases e : j = m
    ·rw [e];exact h0
    ·exact hz j (by omega)))
   simp only [privityref04_Trim.l0]
   rw [if_pos (by omega),e,if_pos (by omega),if_pos (by omega),rd_nat,if_pos h0]
  ·refine Ev.step (fun k => ?_) (Ev.now _)
   simp only [privityref04_Trim.l0]
   rw [if_pos (by omega),e,if_pos (by omega),if_pos (by omega),rd_nat,if_neg h0]
   refine hend (m + 1) ?_ hm
   have hne : trimL l ≠ [] := fun e => h0 ((trimL_nil_iff l).1 e m)
   have hp : 0 < (trimL l).length := List.length_pos_iff.2 hne
   have h2 := trimL_last l hne
   rw [trimL_getD] at h2
   have h3 : (trimL l).length - 1 < m + 1 := Nat.lt_of_not_le fun h => h2 (hz _ h)
   have h4 : m < (trimL l).length := Nat.lt_of_not_le fun h => h0 (by rw [← trimL_getD,List.getD_eq_getElem?_getD,List.getElem?_eq_none h];rfl)
   omega
theorem getD_out (l : List Int) (j : Nat) (h : l.length ≤ j) : l.getD j 0 = 0 := by rw [List.getD_eq_getElem?_getD,List.getElem?_eq_none h];rfl
theorem rtrim_ev (l : List Int) (hl : l.length ≤ 1099511627776) : Ev (fun k => privityref04_Trim.f k l) (trimL l) :=
 rtrim_l0 l hl l.length (Nat.le_refl _) (fun j hj => getD_out l j hj)
theorem res_getD {p : Int} (hp : Supp p) {l : List Int} (hl : ∀ x ∈ l,Res p x) (i : Nat) : Res p (l.getD i 0) := by
 have hb := hp.bd
 by_cases hi : i < l.length
 ·rw [Hw.getD_in _ _ hi];exact hl _ (List.getElem_mem hi)
 ·rw [getD_out l i (by omega)];exact ⟨Int.le_refl 0,by show (0 : Int) < p;omega⟩
theorem grow_getD (l : List Int) (n j : Nat) : (grow l n).getD j 0 = l.getD j 0 := by
 unfold grow
 by_cases h : j < l.length
 ·rw [List.getD_eq_getElem?_getD,List.getD_eq_getElem?_getD,List.getElem?_append_left h]
 ·rw [getD_out l j (by omega),List.getD_eq_getElem?_getD,List.getElem?_append_right (by omega)]
  by_cases h2 : j - l.length < n - l.length
  ·rw [List.getElem?_replicate,if_pos h2];rfl
  ·rw [List.getElem?_replicate,if_neg h2];rfl
theorem putL_getD (p : Int) (l : List Int) (i : Nat) (k : Int) (j : Nat) : (putL p l i k).getD j 0 = if j = i then (l.getD i 0 + k) % p else l.getD j 0 := by
 have hg : i < (grow l (i + 1)).length := by unfold grow;simp;omega
 unfold putL
 rw [List.getD_eq_getElem?_getD,List.getElem?_set]
 by_cases h : i = j
 ·subst h;rw [if_pos rfl,if_pos hg,if_pos rfl,grow_getD];rfl
 ·rw [if_neg h,if_neg (fun e => h e.symm),← List.getD_eq_getElem?_getD,grow_getD]
theorem evI_take_next {p : Int} (hp : Supp p) (l : List Int) (x pw : Int) (i : Nat) (hpw : pw = x ^ i % p) : (evI p x (l.take i) + l.getD i 0 * pw % p) % p = evI p x (l.take (i + 1)) := by
 haveI := nz hp
 refine T_inj hp (Res.mod hp _) (evI_res hp _ _) ?_
 have hm : ∀ n : Nat,T p (x ^ n) = mono (T p x) n := by
  intro n
  induction n with
  | zero => rw [Int.pow_zero,T_one];rfl
  | succ n ih => rw [Int.pow_succ,T_mul,ih];simp only [mono];grind
 rw [T_mod hp,T_add,T_mod hp,T_mul,hpw,T_mod hp,hm,ev_evI hp,ev_evI hp]
 have e : ∀ n,M p (l.take n) = (M p l).take n := fun n => by unfold M;rw [List.map_take]
 rw [e,e,ev_take_succ,M_getD]
theorem reval_ev {p : Int} (hp : Supp p) {x : Int} (hx : Res p x) (l : List Int) (hl : ∀ c ∈ l,Res p c) (hll : l.length ≤ 1000000000) : Ev (fun k => privityref04_Eval.f k p l x) (evI p x l) := by
 have hb := hp.bd
 have h1p : (1 : Int) % p = 1 := Int.emod_eq_of_lt (by omega) (by omega)
 have := up (Q := fun i => Ev (fun k => privityref04_Eval.l0 k p l x (evI p x (l.take i)) (x ^ i % p) (i : Int)) (evI p x l)) (n := l.length) ?_ ?_
 ·rw [List.take_zero,Int.pow_zero,h1p] at this;exact this
 ·rw [List.take_length]
  refine Ev.step (fun k => ?_) (Ev.now _)
  simp only [privityref04_Eval.l0]
  rw [if_neg (by omega)]
 ·intro i hi h
  rw [← evI_take_next hp l x (x ^ i % p) i rfl] at h
  refine Ev.step (f := fun k => (privityref01_Mul.f k p (l.getD i 0) (x ^ i % p)).bind fun t235 => ((privityref01_Add.f p (evI p x (l.take i)) t235).bind fun t236 => ((privityref01_Mul.f k p (x ^ i % p) x).bind fun t237 => (privityref04_Eval.l0 k p l x t236 t237 ((i + 1 : Nat) : Int))))) (fun k => ?_) (Ev.bind (rmul_ev hp (res_getD hp hl i) (Res.mod hp _)) ?_)
  ·simp only [privityref04_Eval.l0]
   rw [if_pos (by omega),if_pos (by omega),rd_nat,wnat (by omega)]
  ·rw [radd_eq hp (evI_res hp _ _) (Res.mod hp _)]
   refine Ev.bind (g := fun _ => some _) (Ev.now _) (Ev.bind (rmul_ev hp (Res.mod hp _) hx) ?_)
   rw [show x ^ i % p * x % p = x ^ (i + 1) % p from by rw [Int.pow_succ,mulm (modm p (x ^ i)) rfl]]
   exact h
theorem list_ext_getD {a b : List Int} (hl : a.length = b.length) (h : ∀ i,a.getD i 0 = b.getD i 0) : a = b := by
 apply List.ext_getElem hl
 intro i h1 h2
 have := h i
 rwa [Hw.getD_in _ _ h1,Hw.getD_in _ _ h2] at this
theorem grow_length (l : List Int) (n : Nat) : (grow l n).length = max l.length n := by unfold grow;simp;omega
theorem put_grow (p : Int) (l : List Int) (N i : Nat) (k : Int) (hl : l.length ≤ N) (hi : i < N) : (grow l N).set i (((grow l N).getD i 0 + k) % p) = grow (putL p l i k) N := by
 refine list_ext_getD ?_ fun j => ?_
 ·rw [List.length_set,grow_length,grow_length,putL_length];omega
 ·rw [grow_getD (putL p l i k),putL_getD,List.getD_eq_getElem?_getD,List.getElem?_set]
  by_cases h : i = j
  ·subst h;rw [if_pos rfl,if_pos (by rw [grow_length];omega),if_pos rfl,grow_getD];rfl
  ·rw [if_neg h,if_neg (fun e => h e.symm),← List.getD_eq_getElem?_getD,grow_getD]
theorem rowL_len (p : Int) (m : List Int) (u : Int) (b : List Int) (i : Nat) : ∀ n,(rowL p m u b i n).length = if n = 0 then m.length else max m.length (i + n)
 | 0 => rfl
 | n + 1 => by
  rw [rowL,putL_length,rowL_len p m u b i n,if_neg (Nat.succ_ne_zero n)]
  by_cases h : n = 0
  ·rw [if_pos h];omega
  ·rw [if_neg h];omega
theorem mulsL_len (p : Int) (a b : List Int) (hb : 0 < b.length) : ∀ n,(mulsL p a b n).length = if n = 0 then 0 else n + b.length - 1
 | 0 => rfl
 | n + 1 => by
  rw [mulsL,rowL_len,mulsL_len p a b hb n,if_neg (by omega : ¬ b.length = 0),if_neg (Nat.succ_ne_zero n)]
  by_cases h : n = 0
  ·rw [if_pos h];omega
  ·rw [if_neg h];omega
theorem mulsL_nil (p : Int) (a : List Int) : ∀ n,mulsL p a [] n = []
 | 0 => rfl
 | n + 1 => by rw [mulsL,mulsL_nil p a n];rfl
theorem trimL_grow (l : List Int) (n : Nat) : trimL (grow l n) = trimL l := trimL_ext fun i => grow_getD l n i
theorem grow_nil (n : Nat) : grow [] n = List.replicate n 0 := by unfold grow;simp
theorem rmulL_ev {p : Int} (hp : Supp p) {a b : List Int} (ha : ∀ x ∈ a,Res p x) (hb : ∀ x ∈ b,Res p x) (la : a.length ≤ 1000000) (lb : b.length ≤ 1000000) : Ev (fun k => privityref04_Mul.f k p a b) (trimL (mulsL p a b a.length)) := by
 by_cases h0 : a.length = 0
 ·have : a = [] := List.eq_nil_of_length_eq_zero h0
  subst this
  refine Ev.step (f := fun k => some []) (fun k => ?_) (Ev.now _)
  simp only [privityref04_Mul.f]
  rw [if_pos (by rfl)]
  simp only [privityref04_Mul.j0]
  rw [if_pos trivial]
 by_cases h1 : b.length = 0
 ·have : b = [] := List.eq_nil_of_length_eq_zero h1
  subst this
  rw [mulsL_nil]
  refine Ev.step (f := fun k => some []) (fun k => ?_) (Ev.now _)
  simp only [privityref04_Mul.f]
  rw [if_neg (by omega)]
  simp only [privityref04_Mul.j0]
  rw [if_pos (by rfl)]
 have hw : wrap64 (wrap64 ((a.length : Int) + (b.length : Int)) - 1) = ((a.length + b.length - 1 : Nat) : Int) := by rw [wcap (n := (a.length : Int) + (b.length : Int)) (by omega) (by omega),wcap (by omega) (by omega)];omega
 have main : Ev (fun k => privityref04_Mul.l0 k p a b (grow (mulsL p a b 0) (a.length + b.length - 1)) ((0 : Nat) : Int)) (trimL (mulsL p a b a.length)) := by
  refine up (Q := fun i => Ev (fun k => privityref04_Mul.l0 k p a b (grow (mulsL p a b i) (a.length + b.length - 1)) (i : Int)) (trimL (mulsL p a b a.length))) (n := a.length) ?_ ?_
  ·refine Ev.step (f := fun k => (privityref04_Trim.f k (grow (mulsL p a b a.length) (a.length + b.length - 1))).bind fun t => some t) (fun k => ?_) ?_
   ·simp only [privityref04_Mul.l0]
    rw [if_neg (by omega)]
   ·have := rtrim_ev (grow (mulsL p a b a.length) (a.length + b.length - 1)) (by rw [grow_length,mulsL_len _ _ _ (by omega),if_neg h0];omega)
    rw [trimL_grow] at this
    exact Ev.bind this (Ev.now _)
  ·intro i hi h
   have row : Ev (fun k => privityref04_Mul.l1 k p a b (grow (rowL p (mulsL p a b i) (rd a i) b i 0) (a.length + b.length - 1)) (i : Int) ((0 : Nat) : Int)) (trimL (mulsL p a b a.length)) := by
    refine up (Q := fun j => Ev (fun k => privityref04_Mul.l1 k p a b (grow (rowL p (mulsL p a b i) (rd a i) b i j) (a.length + b.length - 1)) (i : Int) (j : Int)) (trimL (mulsL p a b a.length))) (n := b.length) ?_ ?_
    ·refine Ev.step (fun k => ?_) h
     simp only [privityref04_Mul.l1]
     rw [if_neg (by omega),wnat (by omega)]
     rfl
    ·intro j hj h2
     have hlen : (rowL p (mulsL p a b i) (rd a i) b i j).length ≤ a.length + b.length - 1 := by
      rw [rowL_len,mulsL_len _ _ _ (by omega)];split <;> split <;> omega
     have e : wrap64 ((i : Int) + (j : Int)) = ((i + j : Nat) : Int) := by rw [wcap (by omega) (by omega)];omega
     have hres : ∀ x ∈ grow (rowL p (mulsL p a b i) (rd a i) b i j) (a.length + b.length - 1),Res p x := grow_res hp (rowL_res hp (mulsL_res hp _ _ _) _ _ _ _) _
     rw [rowL,← put_grow p _ _ _ _ hlen (by omega)] at h2
     refine Ev.step (f := fun k => (privityref01_Mul.f k p (a.getD i 0) (b.getD j 0)).bind fun t266 => ((privityref01_Add.f p ((grow (rowL p (mulsL p a b i) (rd a i) b i j) (a.length + b.length - 1)).getD (i + j) 0) t266).bind fun t267 => (privityref04_Mul.l1 k p a b ((grow (rowL p (mulsL p a b i) (rd a i) b i j) (a.length + b.length - 1)).set (i + j) t267) (i : Int) ((j + 1 : Nat) : Int)))) (fun k => ?_) (Ev.bind (rmul_ev hp (res_getD hp ha i) (res_getD hp hb j)) ?_)
     ·simp only [privityref04_Mul.l1]
      rw [if_pos (by omega),e,if_pos (by omega),if_pos (by rw [grow_length];omega),if_pos (by omega),if_pos (by omega),if_pos (by omega),rd_nat,rd_nat,rd_nat,Int.toNat_natCast,wnat (by omega)]
     ·rw [radd_eq hp (res_getD hp hres _) (Res.mod hp _)]
      refine Ev.bind (g := fun _ => some _) (Ev.now _) ?_
      rw [rd_nat a i,rd_nat b j] at h2
      exact h2
   refine Ev.step (fun k => ?_) row
   simp only [privityref04_Mul.l0]
   rw [if_pos (by omega)];rfl
 rw [show mulsL p a b 0 = [] from rfl,grow_nil] at main
 have h2 : Ev (fun k => privityref04_Mul.j0 k p a b false) (trimL (mulsL p a b a.length)) := by
  refine Ev.step (fun k => ?_) main
  simp only [privityref04_Mul.j0]
  rw [if_neg (by simp),hw,if_pos (by omega),Int.toNat_natCast,if_pos (by omega)];rfl
 refine h2.congr fun k => ?_
 unfold privityref04_Mul.f
 rw [if_neg (by omega),show ((b.length : Int) == 0) = false from by rw [beq_eq_false_iff_ne];omega]
end Go.Proofs.Ytmdoaijkaaaglaa.E
end
section
namespace Go.Proofs.Ytmdoaijkaaaglaa.Pr
open Go.RowKit Go.Proofs.YtmdoaijkaaaglaaW.PrintWords Go.Proofs.YtmdoaijkaaaglaaW.PrintLast Go.Proofs.YtmdoaijkaaaglaaW.PrintMore
attribute [local go_sem] max2_int min2_int max_two min_two max_three min_three max_four min_four
open Go.Proofs.Ytmdoaijkaaaglaa.Hw



end Go.Proofs.Ytmdoaijkaaaglaa.Pr
end
section
namespace Go.Proofs.Ytmdoaijkaaaglaa.E
open Go.RowKit Go.Proofs.Ytmdoaijkaaaglaa.Pr Go.Proofs.Ytmdoaijkaaaglaa.Hw Go.Proofs.Ytmdoaijkaaaglaa.Pl Go.Proofs.YtmdoaijkaaaglaaW.PrintWords Go.Proofs.YtmdoaijkaaaglaaW.PrintLast Go.Proofs.YtmdoaijkaaaglaaW.PrintMore
theorem allLoop {F : Nat → Int → Option Bool} {n : Nat} {Q : Nat → Prop} [DecidablePred Q] (hend : ∀ k,F (k + 1) (n : Int) = some true) (hyes : ∀ i,i < n → Q i → ∀ r,Ev (fun k => F k ((i + 1 : Nat) : Int)) r → Ev (fun k => F k (i : Int)) r)
  (hno : ∀ i,i < n → ¬ Q i → Ev (fun k => F k (i : Int)) false) (r : Bool) (hr : r = true ↔ ∀ i,i < n → Q i) : Ev (fun k => F k ((0 : Nat) : Int)) r := by
 have main : ∀ d i,i + d = n → ∀ r : Bool,(r = true ↔ ∀ j,i ≤ j → j < n → Q j) → Ev (fun k => F k (i : Int)) r := by
  intro d
  induction d with
  | zero =>
   intro i hi r hr
   have : i = n := by omega
   subst this
   have : r = true := hr.2 (fun j h1 h2 => by omega)
   subst this
   exact Ev.step (fun k => hend k) (Ev.now _)
  | succ d ih =>
   intro i hi r hr
   by_cases h : Q i
   ·refine hyes i (by omega) h r (ih (i + 1) (by omega) r ⟨fun e j h1 h2 => hr.1 e j (by omega) h2,fun e => hr.2 fun j h1 h2 => ?_⟩)
    by_cases e2 : j = i
    ·rw [e2];exact h
    ·exact e j (by omega) h2
   ·have : r = false := by
     cases r with
     | false => rfl
     | true => exact absurd (hr.1 rfl i (Nat.le_refl _) (by omega)) h
    subst this
    exact hno i (by omega) h
 exact main n 0 (by omega) r ⟨fun e j _ h2 => hr.1 e j h2,fun e => hr.2 fun j h => e j (Nat.zero_le _) h⟩
theorem same_ev (a b : List Int) (ha : a.length ≤ 1000000000) : Ev (fun k => privityref05_Same.f k a b) (decide (a = b)) := by
 by_cases hl : a.length = b.length
 ·have h := allLoop (F := fun k i => privityref05_Same.l0 k a b i) (n := a.length) (Q := fun i => a.getD i 0 = b.getD i 0) (fun k => ?_) (fun i hi hq r h => ?_) (fun i hi hq => ?_) (decide (a = b)) ?_
  ·refine h.congr fun k => ?_
   unfold privityref05_Same.f
   rw [if_pos (by omega)];rfl
  ·simp only [privityref05_Same.l0]
   rw [if_neg (by omega)]
  ·refine Ev.step (fun k => ?_) h
   simp only [privityref05_Same.l0]
   rw [if_pos (by omega),if_pos (by omega),if_pos (by omega),rd_nat,rd_nat,if_pos hq,wnat (by omega)]
  ·refine Ev.step (fun k => ?_) (Ev.now _)
   simp only [privityref05_Same.l0]
   rw [if_pos (by omega),if_pos (by omega),if_pos (by omega),rd_nat,rd_nat,if_neg hq]
  ·rw [decide_eq_true_iff]
   refine ⟨fun e i _ => by rw [e],fun h => list_ext_getD hl fun i => ?_⟩
   by_cases hi : i < a.length
   ·exact h i hi
   ·rw [getD_out a i (by omega),getD_out b i (by omega)]
 ·have : decide (a = b) = false := decide_eq_false fun e => hl (by rw [e])
  rw [this]
  refine Ev.congr (fun k => ?_) (Ev.now _)
  unfold privityref05_Same.f
  rw [if_neg (by omega)]
theorem rdL_nat (l : List (List Int)) (i : Nat) : rd_L2 l (i : Int) = l.getD i [] := by unfold rd_L2;rw [Int.toNat_natCast]
theorem sameRows_ev (a b : List (List Int)) (ha : a.length ≤ 1000000000) (hr : ∀ x ∈ a,x.length ≤ 1000000000) : Ev (fun k => privityref05_SameRows.f k a b) (decide (a = b)) := by
 by_cases hl : a.length = b.length
 ·have hs : ∀ i,i < a.length → Ev (fun k => privityref05_Same.f k (rd_L2 a (i : Int)) (rd_L2 b (i : Int))) (decide (a.getD i [] = b.getD i [])) := by
   intro i hi
   rw [rdL_nat,rdL_nat]
   refine same_ev _ _ (hr _ ?_)
   rw [List.getD_eq_getElem?_getD,List.getElem?_eq_getElem hi];exact List.getElem_mem hi
  have h := allLoop (F := fun k i => privityref05_SameRows.l0 k a b i) (n := a.length) (Q := fun i => a.getD i [] = b.getD i []) (fun k => ?_) (fun i hi hq r h => ?_) (fun i hi hq => ?_) (decide (a = b)) ?_
  ·refine h.congr fun k => ?_
   unfold privityref05_SameRows.f
   rw [if_pos (by omega)];rfl
  ·simp only [privityref05_SameRows.l0]
   rw [if_neg (by omega)]
  ·have h1 := hs i hi
   rw [decide_eq_true hq] at h1
   refine Ev.step (f := fun k => (privityref05_Same.f k (rd_L2 a (i : Int)) (rd_L2 b (i : Int))).bind fun t176 => (if t176 = true then (privityref05_SameRows.l0 k a b ((i + 1 : Nat) : Int)) else (some false))) (fun k => ?_) (Ev.bind h1 ?_)
   ·simp only [privityref05_SameRows.l0]
    rw [if_pos (by omega),if_pos (by omega),if_pos (by omega),wnat (by omega)]
   ·exact h.congr fun k => if_pos rfl
  ·have h1 := hs i hi
   rw [decide_eq_false hq] at h1
   refine Ev.step (f := fun k => (privityref05_Same.f k (rd_L2 a (i : Int)) (rd_L2 b (i : Int))).bind fun t176 => (if t176 = true then (privityref05_SameRows.l0 k a b ((i + 1 : Nat) : Int)) else (some false))) (fun k => ?_) (Ev.bind h1 ?_)
   ·simp only [privityref05_SameRows.l0]
    rw [if_pos (by omega),if_pos (by omega),if_pos (by omega),wnat (by omega)]
   ·exact (Ev.now false).congr fun k => if_neg (by simp)
  ·rw [decide_eq_true_iff]
   refine ⟨fun e i _ => by rw [e],fun h => List.ext_getElem hl fun i h1 h2 => ?_⟩
   have := h i h1
   rw [List.getD_eq_getElem?_getD,List.getD_eq_getElem?_getD,List.getElem?_eq_getElem h1,List.getElem?_eq_getElem h2] at this
   exact this
 ·have : decide (a = b) = false := decide_eq_false fun e => hl (by rw [e])
  rw [this]
  refine Ev.congr (fun k => ?_) (Ev.now _)
  unfold privityref05_SameRows.f
  rw [if_neg (by omega)]
theorem unlike_ev (l : List Int) (hl : l.length ≤ 1000000000) : Ev (fun k => privityref05_Unlike.f k l) (decide l.Nodup) := by
 have h := allLoop (F := fun k i => privityref05_Unlike.l0 k l i) (n := l.length) (Q := fun i => ∀ j,j < i → l.getD i 0 ≠ l.getD j 0) (fun k => ?_) (fun i hi hq r h => ?_) (fun i hi hq => ?_) (decide l.Nodup) ?_
 ·exact h
 ·simp only [privityref05_Unlike.l0]
  rw [if_neg (by omega)]
 ·have row : Ev (fun k => privityref05_Unlike.l1 k l (i : Int) ((0 : Nat) : Int)) r := by
   refine up (Q := fun j => Ev (fun k => privityref05_Unlike.l1 k l (i : Int) (j : Int)) r) (n := i) ?_ ?_
   ·refine Ev.step (fun k => ?_) h
    simp only [privityref05_Unlike.l1]
    rw [if_neg (by omega),wnat (by omega)]
   ·intro j hj h2
    refine Ev.step (fun k => ?_) h2
    simp only [privityref05_Unlike.l1]
    rw [if_pos (by omega),if_pos (by omega),if_pos (by omega),if_pos (by omega),if_pos (by omega),rd_nat,rd_nat,if_neg (hq j hj),wnat (by omega)]
  refine Ev.step (fun k => ?_) row
  simp only [privityref05_Unlike.l0]
  rw [if_pos (by omega)];rfl
 ·have row : Ev (fun k => privityref05_Unlike.l1 k l (i : Int) ((0 : Nat) : Int)) false := by
   obtain ⟨j,hj,he⟩ : ∃ j,j < i ∧ l.getD i 0 = l.getD j 0 := by
    apply Classical.byContradiction
    intro hc
    exact hq fun j hj e => hc ⟨j,hj,e⟩
   refine up (Q := fun j => Ev (fun k => privityref05_Unlike.l1 k l (i : Int) (j : Int)) false) (n := j) ?_ ?_
   ·refine Ev.step (fun k => ?_) (Ev.now _)
    simp only [privityref05_Unlike.l1]
    rw [if_pos (by omega),if_pos (by omega),if_pos (by omega),if_pos (by omega),if_pos (by omega),rd_nat,rd_nat,if_pos he]
   ·intro j' hj' h2
    by_cases e : l.getD i 0 = l.getD j' 0
    ·refine Ev.step (fun k => ?_) (Ev.now _)
     simp only [privityref05_Unlike.l1]
     rw [if_pos (by omega),if_pos (by omega),if_pos (by omega),if_pos (by omega),if_pos (by omega),rd_nat,rd_nat,if_pos e]
    ·refine Ev.step (fun k => ?_) h2
     simp only [privityref05_Unlike.l1]
     rw [if_pos (by omega),if_pos (by omega),if_pos (by omega),if_pos (by omega),if_pos (by omega),rd_nat,rd_nat,if_neg e,wnat (by omega)]
  refine Ev.step (fun k => ?_) row
  simp only [privityref05_Unlike.l0]
  rw [if_pos (by omega)];rfl
 ·rw [decide_eq_true_iff,List.nodup_iff_pairwise_ne,List.pairwise_iff_getElem]
  refine ⟨fun h i hi j hj e => ?_,fun h i j hi hj hij e => ?_⟩
  ·rw [Hw.getD_in _ _ hi,Hw.getD_in _ _ (by omega)] at e
   exact h j i (by omega) hi hj e.symm
  ·have := h j hj i hij
   rw [Hw.getD_in _ _ hi,Hw.getD_in _ _ hj] at this
   exact this e.symm
end Go.Proofs.Ytmdoaijkaaaglaa.E
end
