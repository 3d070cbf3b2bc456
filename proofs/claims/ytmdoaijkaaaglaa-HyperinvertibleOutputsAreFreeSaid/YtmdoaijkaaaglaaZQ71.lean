/- Part 1 of the proof's texts, joined in build order. -/
import Derived.Test.YtmdoaijkaaaglaaProg
import Derived.Test.YtmdoaijkaaaglaaZQ70
import Derived.KernelRfl
import Derived.WalkKit
import Derived.Tactics
import Derived.Tactics2
import Derived.OrdersHeld
import Derived.Deep.Draws
import Derived.Laws.Externs
import Derived.Laws.Rows
import Derived.Below
import Derived.Deep.AppendLies
import Derived.Maps.AppendAt
import Derived.OwnWalk
import Derived.Laws.BytesArg
import Derived.Laws.MakeOwn
import Derived.Laws.OwnMore
import Derived.Deep.OwnRows
import Derived.Lib.ConvBytes
import Derived.Laws.Slices
import Derived.RowKit3
import Derived.Deep.LoopGhost
import Derived.Deep.QuietTactic
import Derived.BigQuiet
import Derived.WideLaws
import Derived.Deep.DeepCutAuto
import Derived.Deep.CutBlock
import Derived.Deep.RegionHeld3
import Derived.Lib.AppendStr
import Derived.ArgAppend
import Derived.Laws.IdiomCopy
import Derived.Laws.BitsLemmas
import Derived.RowKit
import Derived.Laws.BitsAllLaws
import Derived.StillTail
import Derived.Lib.Hide
set_option linter.unusedVariables false
set_option linter.unusedSimpArgs false
section
namespace Go.Proofs.Ytmdoaijkaaaglaa.Hw
open Go.RowKit Go.Proofs.YtmdoaijkaaaglaaW.PrintWords Go.Proofs.YtmdoaijkaaaglaaW.PrintLast Go.Proofs.YtmdoaijkaaaglaaW.PrintMore
theorem am {p : Prop} (h : p) : Aside0 p := ⟨h⟩
theorem od {p : Prop} [Decidable p] (h : decide p = true := by first|(with_reducible assumption)|assumption) : p := of_decide_eq_true h
section
variable {X : Type} {d : Kd X} {e : TypeId} {W w : World} {base : Nat} {ok : Nat → Prop} {v : Value} {xs : List X}
theorem rr (h : Aside0 (Kd.R d e W base ok v xs)) (f : Kd.R d e W base ok v xs → Kd.R d e w base ok v xs := by intro h_;(with_reducible repeat (first|apply Kd.R_alloc|apply Kd.R_drewN|apply Kd.R_drew));exact h_) : Kd.R d e w base ok v xs := f h.out
theorem cr {A : Option Addr} {n c : Nat} (h : Aside0 (Kd.R d e W base ok (.slice A n c) xs)) (f : Kd.C d W A xs.length xs → Kd.C d w A xs.length xs := by intro h_;repeat (first|exact h_|(with_reducible refine Kd.C_alloc ?_ _)|(with_reducible refine Kd.C_drewN ?_ _)|(with_reducible refine Kd.C_drew ?_))) : Kd.C d w A xs.length xs := f (Kd.R_reads' h.out).2.2
theorem rv {o : Nat → Prop} {b : Nat} (h : Aside0 (Kd.V d e W b o v xs)) (f : Kd.V d e W b o v xs → Kd.V d e w b o v xs := by intro h_;(with_reducible repeat (first|apply Kd.V_alloc|apply Kd.V_drewN|apply Kd.V_drew));exact h_) : Kd.V d e w b o v xs := f h.out
theorem rn (h : Aside0 (Kd.N d e W base ok v xs)) (f : Kd.N d e W base ok v xs → Kd.N d e w base ok v xs := by intro h_;(with_reducible repeat (first|apply Kd.N_alloc|apply Kd.N_drewN|apply Kd.N_drew));exact h_) : Kd.N d e w base ok v xs := f h.out
theorem cb {A : Option Addr} {n : Nat} {w0 : World} (h : Aside0 (Kd.C d w0 A n xs)) (hb : Aside0 (Below w0.heap.size w0 W)) (f : Kd.C d W A n xs → Kd.C d w A n xs := by intro h_;repeat (first|exact h_|(with_reducible refine Kd.C_alloc ?_ _)|(with_reducible refine Kd.C_drewN ?_ _)|(with_reducible refine Kd.C_drew ?_))) : Kd.C d w A n xs := f (Kd.C_below h.out hb.out)
end
theorem bb {B : Nat} {w W W' : World} (h : Aside0 (Below B w W)) (f : Below B w W → Below B w W' := by intro h_;repeat (first|(with_reducible first|exact h_|apply below_alloc|apply pw_below_drewN|apply below_drew1)|exact h_)) : Below B w W' := f h.out
theorem bg {B : Nat} {w W W' : World} {g : Nat} (h : Aside0 (Below B w W)) (hg : Aside0 (w.heap.size ≤ g)) (f : Below B w W → w.heap.size ≤ g → Below B w W' := by intro h_ g_;repeat (first|(with_reducible first|exact h_|apply below_alloc|apply pw_below_drewN|apply below_drew1|refine below_set ?_ g_)|exact h_)) : Below B w W' := f h.out hg.out
theorem bc {w : World} {g : Nat} {t : TypeId} {cs : Array Value} (h : Aside0 (w.heap[g]? = some (.cells cs t (0,0)))) (i : Nat) {v : Value} (f : cs[i]? = some v := by rfl) : w.cell? ⟨g,i,none⟩ = some v := (blk_cell h.out i).trans f
theorem bf {w : World} {g : Nat} {t : TypeId} {cs : Array Value} (h : Aside0 (w.heap[g]? = some (.cells cs t (0,0)))) (i : Nat) : w.frozen? ⟨g,i,none⟩ = false := blk_frozen h.out i
theorem kb {w W w1 : World} {g : Nat} {o : Obj} (h : Aside0 (w.heap[g]? = some o)) (hb : Below W.heap.size W w1) (f : w.heap[g]? = some o → W.heap[g]? = some o := by intro h_;(with_reducible repeat (first|refine blk_drewN ?_ _|refine blk_drew ?_|refine blk_alloc ?_ _));exact h_) : w1.heap[g]? = some o := blk_below (f h.out) hb
theorem kx {w W : World} {g : Nat} {o : Obj} (h : Aside0 (w.heap[g]? = some o)) (f : w.heap[g]? = some o → W.heap[g]? = some o := by intro h_;(with_reducible repeat (first|refine blk_drewN ?_ _|refine blk_drew ?_|refine blk_alloc ?_ _));exact h_) : W.heap[g]? = some o := f h.out
def bz (n m : Nat) : Array Bool := ⟨(List.range n).map fun i => m.testBit i⟩
section
variable {P : Program} {ops : Array Oper} {Q : Exit → Act → World → Prop} {md : Region.Mode} {S : World → Prop} {ds : List Nat} {oi : Oper} {v : Value} {fuel : Nat} {l : Array Bool} {a a' : Act} {w : World}
theorem pu (i N : Nat) (l' : Array Bool) (h : wpAnyLast P md ops Q S ds fuel l' a' w) (hc : anyB md ops l l' i = true := by kernel_rfl)
  (hi : ops[i]? = some oi := by rfl) (hN : oi.dst = some N := by rfl) (hQ : ∀ c a w,Q (.panic c) (a.put oi.dst v) w → Q (.panic c) a w := by exact fun _ _ _ h => h) (hw : Region.wanted oi (yielded ops a.tmps) = true := by rfl)
  (hv : ∀ w',(execOp a.eval oi).run P w' = .ok (.value v) w' := by intro w';go_simp;with_reducible rfl)
  (ha : a.put (some N) v = a' := by simp only [Act.put,List.setIfInBounds_toArray,List.set_cons_zero,List.set_cons_succ,i64_w,i32_w];rfl) : wpAnyLast P md ops Q S ds (fuel + 1) l a w :=
 pure_ l' hi hN hc hQ (Or.inl ⟨hw,hv⟩) ha h
theorem pk {T : Bool × List (List Nat × List Nat)} (i N : Nat) (l' : Array Bool) (hT : Aside0 (rtab md ops = T)) (h : wpAnyLast P md ops Q S ds fuel l' a' w) (hc : anyT T l.toList l'.toList i = true := by kernel_rfl)
  (hi : ops[i]? = some oi := by rfl) (hN : oi.dst = some N := by rfl) (hQ : ∀ c a w,Q (.panic c) (a.put oi.dst v) w → Q (.panic c) a w := by exact fun _ _ _ h => h) (hw : Region.wanted oi (yielded ops a.tmps) = true := by rfl)
  (hv : ∀ w',(execOp a.eval oi).run P w' = .ok (.value v) w' := by intro w';go_simp;with_reducible rfl)
  (ha : a.put (some N) v = a' := by simp only [Act.put,List.setIfInBounds_toArray,List.set_cons_zero,List.set_cons_succ,i64_w,i32_w];rfl) : wpAnyLast P md ops Q S ds (fuel + 1) l a w :=
 pure_ l' hi hN (any_of hT.out hc) hQ (Or.inl ⟨hw,hv⟩) ha h
theorem pz {T : Bool × List (List Nat × List Nat)} (i N : Nat) (l' : Array Bool) (hT : Aside0 (rtab md ops = T)) (h : wpAnyLast P md ops Q S ds fuel l' a' w) (hc : anyT T l.toList l'.toList i = true := by kernel_rfl)
  (hi : ops[i]? = some oi := by rfl) (hN : oi.dst = some N := by rfl) (hQ : ∀ c a w,Q (.panic c) (a.put oi.dst undef) w → Q (.panic c) a w := by exact fun _ _ _ h => h) (hw : Region.wanted oi (yielded ops a.tmps) = false := by rfl)
  (ha : a.put (some N) undef = a' := by simp only [Act.put,List.setIfInBounds_toArray,List.set_cons_zero,List.set_cons_succ,i64_w,i32_w];rfl) : wpAnyLast P md ops Q S ds (fuel + 1) l a w :=
 pure_ l' hi hN (any_of hT.out hc) hQ (Or.inr ⟨hw,rfl⟩) ha h
theorem tu (i N : Nat) (l' : Array Bool) (hS : S w) (h : wpAnyLast P md ops Q S ds fuel l' a' w) (hc : takeB md ops ds l l' i = true := by kernel_rfl)
  (hi : ops[i]? = some oi := by rfl) (hN : oi.dst = some N := by rfl) (hQ : ∀ c a w,Q (.panic c) (a.put oi.dst v) w → Q (.panic c) a w := by exact fun _ _ _ h => h) (hw : Region.wanted oi (yielded ops a.tmps) = true := by rfl)
  (hv : ∀ w',S w' → (execOp a.eval oi).run P w' = .ok (.value v) w' := by intro w' s0;go_simp;with_reducible rfl)
  (ha : a.put (some N) v = a' := by simp only [Act.put,List.setIfInBounds_toArray,List.set_cons_zero,List.set_cons_succ,i64_w,i32_w];rfl) : wpAnyLast P md ops Q S ds (fuel + 1) l a w :=
 take_ l' hi hN hc hQ (Or.inl ⟨hw,hv⟩) hS ha h
theorem tk {T : Bool × List (List Nat × List Nat)} {B : List Nat} (i N : Nat) (l' : Array Bool) (hT : Aside0 (rtab md ops = T)) (hB : Aside0 (waitsOk T.2 B = true)) (hS : S w) (h : wpAnyLast P md ops Q S ds fuel l' a' w) (hc : takeW T B ds l.toList l'.toList i = true := by kernel_rfl)
  (hi : ops[i]? = some oi := by rfl) (hN : oi.dst = some N := by rfl) (hQ : ∀ c a w,Q (.panic c) (a.put oi.dst v) w → Q (.panic c) a w := by exact fun _ _ _ h => h) (hw : Region.wanted oi (yielded ops a.tmps) = true := by rfl)
  (hv : ∀ w',S w' → (execOp a.eval oi).run P w' = .ok (.value v) w' := by intro w' s0;go_simp;with_reducible rfl)
  (ha : a.put (some N) v = a' := by simp only [Act.put,List.setIfInBounds_toArray,List.set_cons_zero,List.set_cons_succ,i64_w,i32_w];rfl) : wpAnyLast P md ops Q S ds (fuel + 1) l a w :=
 take_ l' hi hN (take_ofW hT.out hB.out hc) hQ (Or.inl ⟨hw,hv⟩) hS ha h
theorem on {T : Bool × List (List Nat × List Nat)} (i N : Nat) (l' : Array Bool) (hT : Aside0 (rtab md ops = T)) (h : ∀ K : Act → World → Prop,Shut (∀ a' w',S w' → (S w' → wpAnyLast P md ops Q S ds fuel l' a' w') → K a' w') → if Region.wanted oi (yielded ops a.tmps) = true then Oper.wp P oi a w K Q else K (a.put (some N) undef) w)
  (hc : (readyT T.2 l.toList == [i] && l.toList.set i true == l'.toList) = true := by kernel_rfl) (hi : ops[i]? = some oi := by rfl) (hN : oi.dst = some N := by rfl) (hd : i ∉ ds := by decide) : wpAnyLast P md ops Q S ds (fuel + 1) l a w := one_ l' hi hN (one_of hT.out hc) hd h
theorem nm (N : Nat) (h : wpAnyLast P md ops Q S ds fuel l a' w) (ha : a.put (some N) v = a' := by simp only [Act.put,List.setIfInBounds_toArray,List.set_cons_zero,List.set_cons_succ,i64_w,i32_w];rfl) : wpAnyLast P md ops Q S ds fuel l (a.put (some N) v) w := norm_ ha h
end
section
variable {P : Program} {ops : Array Oper} {Q : Exit → Act → World → Prop}
theorem goesX_ {rest : List Oper} {oi : Oper} {a : Act} {w : World} (N : Option Tmp) (hd : oi.dst = N) (hg : oi.guard = none) {f : FuncId} {xs : Array Operand} {ts : Array TypeId} (args : Array Value)
  (hop : oi.op = .call { callee := .value (.func f),args := xs,argTypes := ts }) (hargs : xs.map a.eval = args) (v : Value) (hrun : (callFunc f args).run P w = .ok (.value v) w)
  (h : wpList P ops Q rest (a.put N v) w) : wpList P ops Q (oi :: rest) a w := by
 refine wpList_plain hg fun K hK => ?_
 have hr : (execOp a.eval oi).run P w = .ok (.value v) w := by
  unfold execOp
  simp [hop,resolve,Deferred.ofValue,invoke,Act.eval,hargs,hrun]
 unfold Oper.wp
 rw [hr,Oper.upon_value]
 subst hd
 exact hK _ _ h
end
theorem R_open {k : IntKind} {e base : Nat} {w : World} {ok : Nat → Prop} {v : Value} {xs : List Int} (h : Kd.R (Kd.int k) e w base ok v xs) (hn : 0 < xs.length) :
  ∃ b c,v = .slice (some ⟨b,0,none⟩) xs.length c ∧ base ≤ b ∧ w.ownsRow base e 1 (.slice (some ⟨b,0,none⟩) xs.length c) xs.length (nums k xs) := by
 have ho := Kd.own_of_R h
 rcases ho.2 with ⟨_,h0⟩|⟨b,c,cur,rfl,hb,_⟩
 ·omega
 ·exact ⟨b,c,rfl,hb,ho⟩
theorem R_made {k : IntKind} {e base : Nat} {w : World} {ok : Nat → Prop} {v : Value} {xs : List Int} (h : w.ownsRow base e 1 v xs.length (nums k xs)) (hok : ∀ b,v.ownBlock = some b → ok b) : Kd.R (Kd.int k) e w base ok v xs := Kd.R_of_own h hok
def bits_Add64.f (a0 : Int) (a1 : Int) (a2 : Int) : Option (Int × Int) :=
 if 0 ≤ a0 then (if 0 ≤ a1 then (if 0 ≤ a2 then (if a2 ≤ 1 then some ((a0 + a1 + a2) % 18446744073709551616,(a0 + a1 + a2) / 18446744073709551616) else none) else none) else none) else none
theorem bits_Add64.runs (a0 a1 a2 r1 r2 : Int) (w : World) (h : bits_Add64.f a0 a1 a2 = some (r1,r2)) :
  (callFunc 84 #[.int .u64 a0,.int .u64 a1,.int .u64 a2]).run Try.prog w = .ok (.value (.tuple #[.int .u64 r1,.int .u64 r2])) w := by
 unfold bits_Add64.f at h
 split at h
 ·split at h
  ·split at h
   ·split at h
    ·simp only [Option.some.injEq,Prod.mk.injEq] at h
     obtain ⟨rfl,rfl⟩ := h
     rw [run_callFunc_extern Try.func84 (by kernel_rfl) (by kernel_rfl) (by kernel_rfl) (e := add64Entry) (by kernel_rfl),run_add64 a0 a1 a2 (by assumption) (by assumption) (by assumption) (by assumption)]
     rfl
    ·simp at h
   ·simp at h
  ·simp at h
 ·simp at h
end Go.Proofs.Ytmdoaijkaaaglaa.Hw
end
section
namespace Go.Proofs.Ytmdoaijkaaaglaa.Pr
open Go.RowKit Go.Proofs.YtmdoaijkaaaglaaW.PrintWords Go.Proofs.YtmdoaijkaaaglaaW.PrintLast Go.Proofs.YtmdoaijkaaaglaaW.PrintMore
attribute [local go_sem] max2_int min2_int max_two min_two max_three min_three max_four min_four
open Go.Proofs.Ytmdoaijkaaaglaa.Hw
def errW : Option Int → Value
 | none => .nilIface
 | some c => .iface 0 (.int .i64 c)
theorem errW_none : errW none = .nilIface := rfl
theorem errW_some (c : Int) : errW (some c) = .iface 0 (.int .i64 c) := rfl
theorem info3 : (Try.prog.info? 3).map (fun i => (i.zero,i.size,i.bytes)) = some (some (.int .i64 0),1,8) := by kernel_rfl
theorem info22 : (Try.prog.info? 22).map (fun i => (i.zero,i.size,i.bytes)) = some (some (.int .u64 0),1,8) := by kernel_rfl
theorem info40 : (Try.prog.info? 40).map (fun i => (i.zero,i.size,i.bytes)) = some (some (.slice none 0 0),1,24) := by kernel_rfl
structure S56 where
 f0 : Int
 f1 : Int
def z56 : S56 := ⟨(0 : Int),(0 : Int)⟩
def k56 : Kd S56 := Kd.iso (Kd.pair (Kd.int .u64) (Kd.int .u64)) (fun x : S56 => (x.f0,x.f1))
theorem k56_open {w : World} {x : S56} {cs : List Value} (h : k56.K w x cs) : cs = [.int .u64 x.f0,.int .u64 x.f1] := by
 obtain ⟨_,_,rfl,rfl,rfl⟩ := h
 exact rfl
theorem k56_mkM (w : World) (base : Nat) (ok : Nat → Prop) (x : S56)  : k56.M w base ok x [.int .u64 x.f0,.int .u64 x.f1] := ⟨[.int .u64 x.f0],[.int .u64 x.f1],rfl,rfl,rfl⟩
def rd_T56 (xs : List S56) (i : Int) : S56 := xs.getD i.toNat z56
theorem at_T56 {w : World} {A : Option Addr} {n : Nat} {xs : List S56} (h : Kd.C k56 w A n xs) (i : Int) (h0 : 0 ≤ i) (h1 : i < n) : ∃ ad ,A = some ad ∧ w.cell? (ad.add (i.toNat * 2)) = some (.int .u64 (rd_T56 xs i).f0) ∧ w.cell? ⟨(ad.add (i.toNat * 2)).block,(ad.add (i.toNat * 2)).off + 1,none⟩ = some (.int .u64 (rd_T56 xs i).f1) := by
 obtain ⟨ad,c,e,_,hK,hc0⟩ := Kd.C_get h z56 i h0 h1
 have hc : ∀ j u,c[j]? = some u → w.cell? (ad.add (i.toNat * 2 + j)) = some u := hc0
 obtain rfl := k56_open hK
 exact ⟨ad,e,hc 0 _ rfl,by rw [← add_field _ _ 1 (by omega)];exact hc 1 _ rfl⟩
def rd_L2 (xs : List (List Int)) (i : Int) : (List Int) := xs.getD i.toNat ([] : List Int)
theorem at_L2 {w : World} {A : Option Addr} {n : Nat} {xs : List (List Int)} (h : Kd.C (Kd.slice 22 (Kd.int .u64)) w A n xs) (i : Int) (h0 : 0 ≤ i) (h1 : i < n) : ∃ ad A0 c0,A = some ad ∧ w.cell? (ad.add i.toNat) = some (.slice A0 (rd_L2 xs i).length c0) ∧ (rd_L2 xs i).length ≤ c0 ∧ (Kd.int .u64).C w A0 (rd_L2 xs i).length (rd_L2 xs i) := by
 obtain ⟨ad,c,e,_,hK,hc0⟩ := Kd.C_get h ([] : List Int) i h0 h1
 have hc : ∀ j u,c[j]? = some u → w.cell? (ad.add (i.toNat * 1 + j)) = some u := hc0
 obtain ⟨A0,c0,rfl,l0,g0⟩ := hK
 exact ⟨ad,A0,c0,e,by have hq := hc 0 _ rfl;rwa [Nat.mul_one,Nat.add_zero] at hq,l0,g0⟩
def hyperinvertible_points.l0 : Nat → Int → List Int → Int → Int → Option (List Int)
 | 0,_,_,_,_ => none
 | k + 1,x0,x5,x7,x8 => if x8 < x7 then (if x5.length < 17592186044416 then (hyperinvertible_points.l0 k x0 (x5 ++ [IntKind.u64.wrap (wrap64 (x0 + x8))]) x7 (wrap64 (x8 + 1))) else (none)) else (some x5)
def hyperinvertible_points.f (k : Nat) (a0 : Int) (a1 : Int) : Option (List Int) := hyperinvertible_points.l0 k a0 ([] : List Int) a1 0
theorem hyperinvertible_points.mono_l : ∀ k,(∀ y0 y1 y2 y3,LeO (hyperinvertible_points.l0 k y0 y1 y2 y3) (hyperinvertible_points.l0 (k + 1) y0 y1 y2 y3))
 | 0 => fun _ _ _ _ r h => by simp [hyperinvertible_points.l0] at h
 | k + 1 => by
  have ih0 := hyperinvertible_points.mono_l k
  ·intro y0 y1 y2 y3
   unfold hyperinvertible_points.l0
   repeat' first
   | (with_reducible exact ih0 _ _ _ _)
   | (with_reducible exact LeO.refl _)
   | (with_reducible exact LeO.none _)
   | (with_reducible refine LeO.ite ?_ ?_)
   | (with_reducible refine LeO.bind ?_ (fun _ => ?_))
   | exact ih0 _ _ _ _
   | exact LeO.none _
   | refine LeO.ite ?_ ?_
   | refine LeO.bind ?_ (fun _ => ?_)
theorem hyperinvertible_points.mono : ∀ a0 a1 k,LeO (hyperinvertible_points.f k a0 a1) (hyperinvertible_points.f (k + 1) a0 a1) := by
 intro a0 a1 k
 have ih0 := hyperinvertible_points.mono_l k
 unfold hyperinvertible_points.f
 repeat' first
   | (with_reducible exact ih0 _ _ _ _)
   | (with_reducible exact LeO.refl _)
   | (with_reducible exact LeO.none _)
   | (with_reducible refine LeO.ite ?_ ?_)
   | (with_reducible refine LeO.bind ?_ (fun _ => ?_))
   | exact ih0 _ _ _ _
   | exact LeO.none _
   | refine LeO.ite ?_ ?_
   | refine LeO.bind ?_ (fun _ => ?_)
set_option maxHeartbeats 8000000 in
set_option maxRecDepth 100000 in
theorem hyperinvertible_points.calls (k : Nat) (a0 : Int) (a1 : Int) (r : List Int) (w : World) (h : hyperinvertible_points.f k a0 a1 = some r) :
  Calls Try.prog 39 #[.int .i64 a0,.int .i64 a1] w fun e w' => ∃ v0_ : Value,e = .returned (v0_) ∧ Kd.R (Kd.int .u64) 22 w' w.heap.size (fun _ => True) v0_ r ∧ Below w.heap.size w w' := by
 have HB := am (Below.refl w.heap.size w)
 have H : (hyperinvertible_points.l0 k a0 ([] : List Int) a1 0) = some r := h
 clear h
 have H' := am H
 clear H
 go_enter Try.func39,Try.ntmps39
 go_wp2
 go_loopg [5,8] k (fun kq v5 v8 w' => ∃ (x5_1 : List Int) (x8_1 : Int),v8 = .int .i64 x8_1 ∧ Aside0 (hyperinvertible_points.l0 kq a0 x5_1 a1 x8_1 = some r) ∧ Aside0 (kq ≤ k) ∧ Aside0 (Kd.R (Kd.int .u64) 22 w' w.heap.size (fun _ => True) v5 x5_1) ∧ Aside0 (Below w.heap.size w w'))
 case atStart => exact ⟨(([] : List Int)),(0),(by first|rfl|(simp;done)|(simp [*];done)),H',⟨Nat.le_refl _⟩,⟨by first|exact Kd.R_nil _ _ _ _ _|exact Kd.N_nil _ _ _ _ _|exact Kd.V_nil _ _ _ _ _|exact Kd.Q_nil _ _ _ _ _|exact Kd.S_nil _ _ _ _ _⟩,⟨bb HB⟩⟩
 case round =>
  clear H'
  try clear p2
  obtain ⟨x5_1,x8_1,rfl,HA,HK1,HO_5,HB⟩ := hrel
  cases gk with
  | zero => exact absurd HA.out (by simp [hyperinvertible_points.l0])
  | succ k1 =>
   have H := HA.out
   clear HA
   simp only [hyperinvertible_points.l0] at H
   by_cases c3 : x8_1 < a1
   ·rw [if_pos c3] at H
    have c3b0 : decide (x8_1 < a1) = true := decide_eq_true c3
    clear c3
    by_cases c4 : x5_1.length < 17592186044416
    ·rw [if_pos c4] at H
     have LMc4 := am c4
     clear c4
     obtain ⟨y369,hy369⟩ : ∃ y_ : List Int,y_ = (x5_1 ++ [IntKind.u64.wrap (wrap64 (a0 + x8_1))]) := ⟨_,rfl⟩
     replace H : (hyperinvertible_points.l0 k1 a0 y369 a1 (wrap64 (x8_1 + 1))) = some r := by first|(rw [hy369];with_reducible exact H)|(have H2_ := (Option.bind_some _ _).symm.trans H;rw [hy369];with_reducible exact H2_)|(have H2_ := (Option.bind_some _ _).symm.trans H;with_reducible exact H2_)|with_reducible exact H|(rw [hy369];exact H)|exact H
     have Ny369 := am hy369
     clear hy369
     have H' := am H
     clear H
     go_wp2_with (first|((with_reducible refine gate_builtin (b := .append) (xs := #[.tmp 11,.tmp 16]) rfl ?_);at_builtin;refine Kd.R_append (Kd.int .u64) (w0 := w) w.heap.size rfl (.tmp 11) (.tmp 16) 40 22 (.int .u64 0) 8 rfl Try.underlying40 info22 rfl (by decide) (by omega) u5 x5_1 (IntKind.u64.wrap (wrap64 (a0 + x8_1))) [.int .u64 (IntKind.u64.wrap (wrap64 (a0 + x8_1)))] (fun _ => True) (fun _ => False) rfl rfl ?aP (fun _ hk => hk.elim) ?aF ?aO ?aB ?aS ?aL ?_;(case aP => exact rfl);(case aB => exact (bb HB));(case aF => exact (fun _ _ => trivial));(case aO => exact (rr HO_5));(case aS => exact (below_size (bb HB)));(case aL => have := LMc4.out;omega);intro v370 w5 ho hb hg hat;rw [← Ny369.out] at ho;have n0_ := am (hb);have n1_ := am (ho);clear HB HO_5;have HB := n0_;have HO371 := n1_;clear n0_ n1_;clear ho hb hg hat))
     go_roundg k1
     case measure => have := HK1.out;omega
     case rel => exact ⟨(y369),(wrap64 (x8_1 + 1)),(by first|rfl|(simp;done)|(simp [*];done)),H',⟨by have := HK1.out;omega⟩,⟨by (with_reducible repeat (first|apply Kd.R_alloc|apply Kd.R_drewN|apply Kd.R_drew));exact HO371.out⟩,⟨bb HB⟩⟩
    ·rw [if_neg c4] at H
     exact absurd H (by simp)
   ·rw [if_neg c3] at H
    have c3b0 : decide (x8_1 < a1) = false := decide_eq_false c3
    clear c3
    obtain rfl := Option.some.inj H
    go_wp2
    go_ret
    exact ⟨_,by first|rfl|(simp [errW_none,errW_some] <;> rfl)|(simp [*,errW_none,errW_some] <;> rfl),by (with_reducible repeat (first|apply Kd.R_alloc|apply Kd.R_drewN|apply Kd.R_drew));exact HO_5.out,bb HB⟩
def bits_Len64.j0 : Nat → Int → Int → Option (Int)
 | 0,_,_ => none
 | k + 1,x0,x2 => if x0 ≥ 65536 then (if (x0 / 65536) ≥ 256 then (if 0 ≤ (((x0 / 65536) / 256) % 256) then (if (((x0 / 65536) / 256) % 256) < 256 then (some (wrap64 ((wrap64 ((wrap64 (x2 + 16)) + 8)) + (wrap64 (bt (⟨#[0,1,2,2,3,3,3,3,4,4,4,4,4,4,4,4,5,5,5,5,5,5,5,5,5,5,5,5,5,5,5,5,6,6,6,6,6,6,6,6,6,6,6,6,6,6,6,6,6,6,6,6,6,6,6,6,6,6,6,6,6,6,6,6,7,7,7,7,7,7,7,7,7,7,7,7,7,7,7,7,7,7,7,7,7,7,7,7,7,7,7,7,7,7,7,7,7,7,7,7,7,7,7,7,7,7,7,7,7,7,7,7,7,7,7,7,7,7,7,7,7,7,7,7,7,7,7,7,8,8,8,8,8,8,8,8,8,8,8,8,8,8,8,8,8,8,8,8,8,8,8,8,8,8,8,8,8,8,8,8,8,8,8,8,8,8,8,8,8,8,8,8,8,8,8,8,8,8,8,8,8,8,8,8,8,8,8,8,8,8,8,8,8,8,8,8,8,8,8,8,8,8,8,8,8,8,8,8,8,8,8,8,8,8,8,8,8,8,8,8,8,8,8,8,8,8,8,8,8,8,8,8,8,8,8,8,8,8,8,8,8,8,8,8,8,8,8,8,8,8,8,8,8,8,8,8]⟩ : ByteArray) (((x0 / 65536) / 256) % 256)))))) else (none)) else (none)) else (if 0 ≤ ((x0 / 65536) % 256) then (if ((x0 / 65536) % 256) < 256 then (some (wrap64 ((wrap64 (x2 + 16)) + (wrap64 (bt (⟨#[0,1,2,2,3,3,3,3,4,4,4,4,4,4,4,4,5,5,5,5,5,5,5,5,5,5,5,5,5,5,5,5,6,6,6,6,6,6,6,6,6,6,6,6,6,6,6,6,6,6,6,6,6,6,6,6,6,6,6,6,6,6,6,6,7,7,7,7,7,7,7,7,7,7,7,7,7,7,7,7,7,7,7,7,7,7,7,7,7,7,7,7,7,7,7,7,7,7,7,7,7,7,7,7,7,7,7,7,7,7,7,7,7,7,7,7,7,7,7,7,7,7,7,7,7,7,7,7,8,8,8,8,8,8,8,8,8,8,8,8,8,8,8,8,8,8,8,8,8,8,8,8,8,8,8,8,8,8,8,8,8,8,8,8,8,8,8,8,8,8,8,8,8,8,8,8,8,8,8,8,8,8,8,8,8,8,8,8,8,8,8,8,8,8,8,8,8,8,8,8,8,8,8,8,8,8,8,8,8,8,8,8,8,8,8,8,8,8,8,8,8,8,8,8,8,8,8,8,8,8,8,8,8,8,8,8,8,8,8,8,8,8,8,8,8,8,8,8,8,8,8,8,8,8,8,8]⟩ : ByteArray) ((x0 / 65536) % 256)))))) else (none)) else (none))) else (if x0 ≥ 256 then (if 0 ≤ ((x0 / 256) % 256) then (if ((x0 / 256) % 256) < 256 then (some (wrap64 ((wrap64 (x2 + 8)) + (wrap64 (bt (⟨#[0,1,2,2,3,3,3,3,4,4,4,4,4,4,4,4,5,5,5,5,5,5,5,5,5,5,5,5,5,5,5,5,6,6,6,6,6,6,6,6,6,6,6,6,6,6,6,6,6,6,6,6,6,6,6,6,6,6,6,6,6,6,6,6,7,7,7,7,7,7,7,7,7,7,7,7,7,7,7,7,7,7,7,7,7,7,7,7,7,7,7,7,7,7,7,7,7,7,7,7,7,7,7,7,7,7,7,7,7,7,7,7,7,7,7,7,7,7,7,7,7,7,7,7,7,7,7,7,8,8,8,8,8,8,8,8,8,8,8,8,8,8,8,8,8,8,8,8,8,8,8,8,8,8,8,8,8,8,8,8,8,8,8,8,8,8,8,8,8,8,8,8,8,8,8,8,8,8,8,8,8,8,8,8,8,8,8,8,8,8,8,8,8,8,8,8,8,8,8,8,8,8,8,8,8,8,8,8,8,8,8,8,8,8,8,8,8,8,8,8,8,8,8,8,8,8,8,8,8,8,8,8,8,8,8,8,8,8,8,8,8,8,8,8,8,8,8,8,8,8,8,8,8,8,8,8]⟩ : ByteArray) ((x0 / 256) % 256)))))) else (none)) else (none)) else (if 0 ≤ ((x0) % 256) then (if ((x0) % 256) < 256 then (some (wrap64 (x2 + (wrap64 (bt (⟨#[0,1,2,2,3,3,3,3,4,4,4,4,4,4,4,4,5,5,5,5,5,5,5,5,5,5,5,5,5,5,5,5,6,6,6,6,6,6,6,6,6,6,6,6,6,6,6,6,6,6,6,6,6,6,6,6,6,6,6,6,6,6,6,6,7,7,7,7,7,7,7,7,7,7,7,7,7,7,7,7,7,7,7,7,7,7,7,7,7,7,7,7,7,7,7,7,7,7,7,7,7,7,7,7,7,7,7,7,7,7,7,7,7,7,7,7,7,7,7,7,7,7,7,7,7,7,7,7,8,8,8,8,8,8,8,8,8,8,8,8,8,8,8,8,8,8,8,8,8,8,8,8,8,8,8,8,8,8,8,8,8,8,8,8,8,8,8,8,8,8,8,8,8,8,8,8,8,8,8,8,8,8,8,8,8,8,8,8,8,8,8,8,8,8,8,8,8,8,8,8,8,8,8,8,8,8,8,8,8,8,8,8,8,8,8,8,8,8,8,8,8,8,8,8,8,8,8,8,8,8,8,8,8,8,8,8,8,8,8,8,8,8,8,8,8,8,8,8,8,8,8,8,8,8,8,8]⟩ : ByteArray) ((x0) % 256)))))) else (none)) else (none)))
def bits_Len64.f (k : Nat) (a0 : Int) : Option (Int) := if a0 ≥ 4294967296 then (bits_Len64.j0 k (a0 / 4294967296) 32) else (bits_Len64.j0 k a0 0)
theorem bits_Len64.mono_l : ∀ k,(∀ y0 y1,LeO (bits_Len64.j0 k y0 y1) (bits_Len64.j0 (k + 1) y0 y1))
 | 0 => fun _ _ r h => by simp [bits_Len64.j0] at h
 | k + 1 => by
  have ih0 := bits_Len64.mono_l k
  ·intro y0 y1
   unfold bits_Len64.j0
   repeat' first
   | (with_reducible exact ih0 _ _)
   | (with_reducible exact LeO.refl _)
   | (with_reducible exact LeO.none _)
   | (with_reducible refine LeO.ite ?_ ?_)
   | (with_reducible refine LeO.bind ?_ (fun _ => ?_))
   | exact ih0 _ _
   | exact LeO.none _
   | refine LeO.ite ?_ ?_
   | refine LeO.bind ?_ (fun _ => ?_)
theorem bits_Len64.mono : ∀ a0 k,LeO (bits_Len64.f k a0) (bits_Len64.f (k + 1) a0) := by
 intro a0 k
 have ih0 := bits_Len64.mono_l k
 unfold bits_Len64.f
 repeat' first
   | (with_reducible exact ih0 _ _)
   | (with_reducible exact LeO.refl _)
   | (with_reducible exact LeO.none _)
   | (with_reducible refine LeO.ite ?_ ?_)
   | (with_reducible refine LeO.bind ?_ (fun _ => ?_))
   | exact ih0 _ _
   | exact LeO.none _
   | refine LeO.ite ?_ ?_
   | refine LeO.bind ?_ (fun _ => ?_)
set_option maxHeartbeats 8000000 in
set_option maxRecDepth 100000 in
theorem bits_Len64.calls (k : Nat) (a0 : Int) (r : Int) (w : World) (h : bits_Len64.f k a0 = some r) :
  Calls Try.prog 99 #[.int .u64 a0] w fun e w' => e = .returned (.int .i64 r) ∧ Drawn0 w w' := by
 have H : (if a0 ≥ 4294967296 then (bits_Len64.j0 k (a0 / 4294967296) 32) else (bits_Len64.j0 k a0 0)) = some r := h
 clear h
 have HC2 := am H
 clear H
 go_enter Try.func99,Try.ntmps99
 go_upto_if 4 with (fail)
 go_cut [0,2] (fun v0 v2 wc => ∃ (kq : Nat) (x0_1 : Int) (x2_1 : Int),v0 = .int .u64 x0_1 ∧ v2 = .int .i64 x2_1 ∧ Aside0 (bits_Len64.j0 kq x0_1 x2_1 = some r) ∧ Aside0 (kq ≤ k) ∧ Drawn0 w wc)
 case first =>
  have H := HC2.out
  clear HC2
  by_cases c3 : a0 ≥ 4294967296
  ·rw [if_pos c3] at H
   have c3b0 : decide (4294967296 ≤ a0) = true := decide_eq_true c3
   clear c3
   (first|rw [c3b0]|(simp only [i64_w,i32_w];rw [c3b0])|skip)
   have H' := am H
   clear H
   go_wp2
   go_meet
   case rel => exact ⟨_,(a0 / 4294967296),(32),(by first|rfl|(simp;done)|(simp [*];done)),(by first|rfl|(simp;done)|(simp [*];done)),H',⟨by first|omega|exact Nat.le_refl _⟩,by repeat (first|exact Drawn0.refl _|apply Drawn0.step)⟩
  ·rw [if_neg c3] at H
   have c3b0 : decide (4294967296 ≤ a0) = false := decide_eq_false c3
   clear c3
   (first|rw [c3b0]|(simp only [i64_w,i32_w];rw [c3b0])|skip)
   have H' := am H
   clear H
   go_wp2
   go_meet
   case rel => exact ⟨_,(a0),(0),(by first|rfl|(simp;done)|(simp [*];done)),(by first|rfl|(simp;done)|(simp [*];done)),H',⟨by first|omega|exact Nat.le_refl _⟩,by repeat (first|exact Drawn0.refl _|apply Drawn0.step)⟩
 case rest =>
  clear HC2
  try clear p2
  try clear c3
  try clear c3b0
  obtain ⟨kq,x0_1,x2_1,rfl,rfl,HA,HJ1,⟨mc1,rfl⟩⟩ := hcut
  cases kq with
  | zero => exact absurd HA.out (by simp [bits_Len64.j0])
  | succ kj1 =>
   have H := HA.out
   clear HA
   simp only [bits_Len64.j0] at H
   by_cases c4 : x0_1 ≥ 65536
   ·rw [if_pos c4] at H
    have c4b0 : decide (65536 ≤ x0_1) = true := decide_eq_true c4
    clear c4
    by_cases c5 : (x0_1 / 65536) ≥ 256
    ·rw [if_pos c5] at H
     have c5b0 : decide (256 ≤ (x0_1 / 65536)) = true := decide_eq_true c5
     clear c5
     obtain ⟨ji6,hji6⟩ : ∃ j_ : Int,(((x0_1 / 65536) / 256) % 256) = j_ := ⟨_,rfl⟩
     first|rw [hji6] at H|simp only [hji6] at H
     by_cases c7 : 0 ≤ (ji6)
     ·rw [if_pos c7] at H
      have c7b0 : decide (0 ≤ (ji6)) = true := decide_eq_true c7
      clear c7
      by_cases c8 : (ji6) < 256
      ·rw [if_pos c8] at H
       have c8b0 : decide ((ji6) < 256) = true := decide_eq_true c8
       clear c8
       obtain rfl := Option.some.inj H
       have p9 : 0 ≤ ((ji6) : Int) := od
       have q9 : (ji6) < (256 : Int) := od
       have hx9 := bt_at (⟨#[0,1,2,2,3,3,3,3,4,4,4,4,4,4,4,4,5,5,5,5,5,5,5,5,5,5,5,5,5,5,5,5,6,6,6,6,6,6,6,6,6,6,6,6,6,6,6,6,6,6,6,6,6,6,6,6,6,6,6,6,6,6,6,6,7,7,7,7,7,7,7,7,7,7,7,7,7,7,7,7,7,7,7,7,7,7,7,7,7,7,7,7,7,7,7,7,7,7,7,7,7,7,7,7,7,7,7,7,7,7,7,7,7,7,7,7,7,7,7,7,7,7,7,7,7,7,7,7,8,8,8,8,8,8,8,8,8,8,8,8,8,8,8,8,8,8,8,8,8,8,8,8,8,8,8,8,8,8,8,8,8,8,8,8,8,8,8,8,8,8,8,8,8,8,8,8,8,8,8,8,8,8,8,8,8,8,8,8,8,8,8,8,8,8,8,8,8,8,8,8,8,8,8,8,8,8,8,8,8,8,8,8,8,8,8,8,8,8,8,8,8,8,8,8,8,8,8,8,8,8,8,8,8,8,8,8,8,8,8,8,8,8,8,8,8,8,8,8,8,8,8,8,8,8,8,8]⟩ : ByteArray) (ji6)
       replace p9 := eq_true p9
       replace q9 := eq_true q9
       go_wp2
       go_ret
       exact ⟨by first|rfl|(simp;done)|(simp only [← hji6] <;> (first|rfl|simp))|(simp [*];done),by repeat (first|exact Drawn0.refl _|apply Drawn0.step)⟩
      ·rw [if_neg c8] at H
       exact absurd H (by simp)
     ·rw [if_neg c7] at H
      exact absurd H (by simp)
    ·rw [if_neg c5] at H
     have c5b0 : decide (256 ≤ (x0_1 / 65536)) = false := decide_eq_false c5
     clear c5
     obtain ⟨ji10,hji10⟩ : ∃ j_ : Int,((x0_1 / 65536) % 256) = j_ := ⟨_,rfl⟩
     first|rw [hji10] at H|simp only [hji10] at H
     by_cases c11 : 0 ≤ (ji10)
     ·rw [if_pos c11] at H
      have c11b0 : decide (0 ≤ (ji10)) = true := decide_eq_true c11
      clear c11
      by_cases c12 : (ji10) < 256
      ·rw [if_pos c12] at H
       have c12b0 : decide ((ji10) < 256) = true := decide_eq_true c12
       clear c12
       obtain rfl := Option.some.inj H
       have p13 : 0 ≤ ((ji10) : Int) := od
       have q13 : (ji10) < (256 : Int) := od
       have hx13 := bt_at (⟨#[0,1,2,2,3,3,3,3,4,4,4,4,4,4,4,4,5,5,5,5,5,5,5,5,5,5,5,5,5,5,5,5,6,6,6,6,6,6,6,6,6,6,6,6,6,6,6,6,6,6,6,6,6,6,6,6,6,6,6,6,6,6,6,6,7,7,7,7,7,7,7,7,7,7,7,7,7,7,7,7,7,7,7,7,7,7,7,7,7,7,7,7,7,7,7,7,7,7,7,7,7,7,7,7,7,7,7,7,7,7,7,7,7,7,7,7,7,7,7,7,7,7,7,7,7,7,7,7,8,8,8,8,8,8,8,8,8,8,8,8,8,8,8,8,8,8,8,8,8,8,8,8,8,8,8,8,8,8,8,8,8,8,8,8,8,8,8,8,8,8,8,8,8,8,8,8,8,8,8,8,8,8,8,8,8,8,8,8,8,8,8,8,8,8,8,8,8,8,8,8,8,8,8,8,8,8,8,8,8,8,8,8,8,8,8,8,8,8,8,8,8,8,8,8,8,8,8,8,8,8,8,8,8,8,8,8,8,8,8,8,8,8,8,8,8,8,8,8,8,8,8,8,8,8,8,8]⟩ : ByteArray) (ji10)
       replace p13 := eq_true p13
       replace q13 := eq_true q13
       go_wp2
       go_ret
       exact ⟨by first|rfl|(simp;done)|(simp only [← hji10] <;> (first|rfl|simp))|(simp [*];done),by repeat (first|exact Drawn0.refl _|apply Drawn0.step)⟩
      ·rw [if_neg c12] at H
       exact absurd H (by simp)
     ·rw [if_neg c11] at H
      exact absurd H (by simp)
   ·rw [if_neg c4] at H
    have c4b0 : decide (65536 ≤ x0_1) = false := decide_eq_false c4
    clear c4
    by_cases c14 : x0_1 ≥ 256
    ·rw [if_pos c14] at H
     have c14b0 : decide (256 ≤ x0_1) = true := decide_eq_true c14
     clear c14
     obtain ⟨ji15,hji15⟩ : ∃ j_ : Int,((x0_1 / 256) % 256) = j_ := ⟨_,rfl⟩
     first|rw [hji15] at H|simp only [hji15] at H
     by_cases c16 : 0 ≤ (ji15)
     ·rw [if_pos c16] at H
      have c16b0 : decide (0 ≤ (ji15)) = true := decide_eq_true c16
      clear c16
      by_cases c17 : (ji15) < 256
      ·rw [if_pos c17] at H
       have c17b0 : decide ((ji15) < 256) = true := decide_eq_true c17
       clear c17
       obtain rfl := Option.some.inj H
       have p18 : 0 ≤ ((ji15) : Int) := od
       have q18 : (ji15) < (256 : Int) := od
       have hx18 := bt_at (⟨#[0,1,2,2,3,3,3,3,4,4,4,4,4,4,4,4,5,5,5,5,5,5,5,5,5,5,5,5,5,5,5,5,6,6,6,6,6,6,6,6,6,6,6,6,6,6,6,6,6,6,6,6,6,6,6,6,6,6,6,6,6,6,6,6,7,7,7,7,7,7,7,7,7,7,7,7,7,7,7,7,7,7,7,7,7,7,7,7,7,7,7,7,7,7,7,7,7,7,7,7,7,7,7,7,7,7,7,7,7,7,7,7,7,7,7,7,7,7,7,7,7,7,7,7,7,7,7,7,8,8,8,8,8,8,8,8,8,8,8,8,8,8,8,8,8,8,8,8,8,8,8,8,8,8,8,8,8,8,8,8,8,8,8,8,8,8,8,8,8,8,8,8,8,8,8,8,8,8,8,8,8,8,8,8,8,8,8,8,8,8,8,8,8,8,8,8,8,8,8,8,8,8,8,8,8,8,8,8,8,8,8,8,8,8,8,8,8,8,8,8,8,8,8,8,8,8,8,8,8,8,8,8,8,8,8,8,8,8,8,8,8,8,8,8,8,8,8,8,8,8,8,8,8,8,8,8]⟩ : ByteArray) (ji15)
       replace p18 := eq_true p18
       replace q18 := eq_true q18
       go_wp2
       go_ret
       exact ⟨by first|rfl|(simp;done)|(simp only [← hji15] <;> (first|rfl|simp))|(simp [*];done),by repeat (first|exact Drawn0.refl _|apply Drawn0.step)⟩
      ·rw [if_neg c17] at H
       exact absurd H (by simp)
     ·rw [if_neg c16] at H
      exact absurd H (by simp)
    ·rw [if_neg c14] at H
     have c14b0 : decide (256 ≤ x0_1) = false := decide_eq_false c14
     clear c14
     obtain ⟨ji19,hji19⟩ : ∃ j_ : Int,((x0_1) % 256) = j_ := ⟨_,rfl⟩
     first|rw [hji19] at H|simp only [hji19] at H
     by_cases c20 : 0 ≤ (ji19)
     ·rw [if_pos c20] at H
      have c20b0 : decide (0 ≤ (ji19)) = true := decide_eq_true c20
      clear c20
      by_cases c21 : (ji19) < 256
      ·rw [if_pos c21] at H
       have c21b0 : decide ((ji19) < 256) = true := decide_eq_true c21
       clear c21
       obtain rfl := Option.some.inj H
       have p22 : 0 ≤ ((ji19) : Int) := od
       have q22 : (ji19) < (256 : Int) := od
       have hx22 := bt_at (⟨#[0,1,2,2,3,3,3,3,4,4,4,4,4,4,4,4,5,5,5,5,5,5,5,5,5,5,5,5,5,5,5,5,6,6,6,6,6,6,6,6,6,6,6,6,6,6,6,6,6,6,6,6,6,6,6,6,6,6,6,6,6,6,6,6,7,7,7,7,7,7,7,7,7,7,7,7,7,7,7,7,7,7,7,7,7,7,7,7,7,7,7,7,7,7,7,7,7,7,7,7,7,7,7,7,7,7,7,7,7,7,7,7,7,7,7,7,7,7,7,7,7,7,7,7,7,7,7,7,8,8,8,8,8,8,8,8,8,8,8,8,8,8,8,8,8,8,8,8,8,8,8,8,8,8,8,8,8,8,8,8,8,8,8,8,8,8,8,8,8,8,8,8,8,8,8,8,8,8,8,8,8,8,8,8,8,8,8,8,8,8,8,8,8,8,8,8,8,8,8,8,8,8,8,8,8,8,8,8,8,8,8,8,8,8,8,8,8,8,8,8,8,8,8,8,8,8,8,8,8,8,8,8,8,8,8,8,8,8,8,8,8,8,8,8,8,8,8,8,8,8,8,8,8,8,8,8]⟩ : ByteArray) (ji19)
       replace p22 := eq_true p22
       replace q22 := eq_true q22
       go_wp2
       go_ret
       exact ⟨by first|rfl|(simp;done)|(simp only [← hji19] <;> (first|rfl|simp))|(simp [*];done),by repeat (first|exact Drawn0.refl _|apply Drawn0.step)⟩
      ·rw [if_neg c21] at H
       exact absurd H (by simp)
     ·rw [if_neg c20] at H
      exact absurd H (by simp)
def field_width.f (k : Nat) (a0 : Int) : Option (Int) := (bits_Len64.f k a0).bind fun t101 => (some (IntKind.u64.wrap (t101)))
theorem field_width.mono : ∀ a0 k,LeO (field_width.f k a0) (field_width.f (k + 1) a0) := by
 intro a0 k
 unfold field_width.f
 repeat' first
   | (with_reducible exact bits_Len64.mono _ _)
   | (with_reducible exact LeO.refl _)
   | (with_reducible exact LeO.none _)
   | (with_reducible refine LeO.ite ?_ ?_)
   | (with_reducible refine LeO.bind ?_ (fun _ => ?_))
   | exact bits_Len64.mono _ _
   | exact LeO.none _
   | refine LeO.ite ?_ ?_
   | refine LeO.bind ?_ (fun _ => ?_)
set_option maxHeartbeats 8000000 in
set_option maxRecDepth 100000 in
theorem field_width.calls (k : Nat) (a0 : Int) (r : Int) (w : World) (h : field_width.f k a0 = some r) :
  Calls Try.prog 83 #[.int .u64 a0] w fun e w' => e = .returned (.int .u64 r) ∧ Drawn0 w w' := by
 have H : ((bits_Len64.f k a0).bind fun t101 => (some (IntKind.u64.wrap (t101)))) = some r := h
 clear h
 replace H := Option.bind_eq_some_iff.mp H
 obtain ⟨t101,A20,H⟩ := H
 try dsimp only at H
 have A2 := am A20
 clear A20
 obtain rfl := Option.some.inj H
 go_enter Try.func83,Try.ntmps83
 go_wp2_with (first|((with_reducible refine gate_callee (f := 99) rfl ?_);refine goesL_ (some 4) rfl rfl Try.func99 (by kernel_rfl) rfl #[.int .u64 a0] rfl (by (try simp only [List.map_toArray,List.map_cons,List.map_nil]);first|done|rfl|(simp only [List.length_drop,List.length_take];rfl)) ?_;(with_reducible refine (bits_Len64.calls k a0 t101 _ A2.out).mono ?_);rintro e w' ⟨rfl,⟨nd,rfl⟩⟩;refine ⟨_,rfl,?_⟩))
 go_ret
 exact ⟨by first|rfl|(simp;done)|(simp [*];done),by repeat (first|exact Drawn0.refl _|apply Drawn0.step)⟩
def field_fold.l0 : Nat → Int → Int → Int → Int → Option (Int)
 | 0,_,_,_,_ => none
 | k + 1,x0,x1,x2,x7 => if x1 = 0 then (if x2 > x0 then (if 0 ≤ x7 then (if 0 ≤ (IntKind.u64.wrap (64 - x7)) then ((bits_Add64.f (Go.bits .or .u64 (shr .u64 x2 x7) (shl .u64 x1 (IntKind.u64.wrap (64 - x7)))) (Go.bits .and .u64 x2 x0) 0).bind fun bt103 => (field_fold.l0 k x0 (IntKind.u64.wrap ((shr .u64 x1 x7) + bt103.2)) bt103.1 x7)) else (none)) else (none)) else (if x2 = x0 then (some 0) else (some x2))) else (if 0 ≤ x7 then (if 0 ≤ (IntKind.u64.wrap (64 - x7)) then ((bits_Add64.f (Go.bits .or .u64 (shr .u64 x2 x7) (shl .u64 x1 (IntKind.u64.wrap (64 - x7)))) (Go.bits .and .u64 x2 x0) 0).bind fun bt105 => (field_fold.l0 k x0 (IntKind.u64.wrap ((shr .u64 x1 x7) + bt105.2)) bt105.1 x7)) else (none)) else (none))
def field_fold.f (k : Nat) (a0 : Int) (a1 : Int) (a2 : Int) : Option (Int) := (field_width.f k a0).bind fun t102 => (field_fold.l0 k a0 a1 a2 t102)
theorem field_fold.mono_l : ∀ k,(∀ y0 y1 y2 y3,LeO (field_fold.l0 k y0 y1 y2 y3) (field_fold.l0 (k + 1) y0 y1 y2 y3))
 | 0 => fun _ _ _ _ r h => by simp [field_fold.l0] at h
 | k + 1 => by
  have ih0 := field_fold.mono_l k
  ·intro y0 y1 y2 y3
   unfold field_fold.l0
   repeat' first
   | (with_reducible exact ih0 _ _ _ _)
   | (with_reducible exact field_width.mono _ _)
   | (with_reducible exact LeO.refl _)
   | (with_reducible exact LeO.none _)
   | (with_reducible refine LeO.ite ?_ ?_)
   | (with_reducible refine LeO.bind ?_ (fun _ => ?_))
   | exact ih0 _ _ _ _
   | exact field_width.mono _ _
   | exact LeO.none _
   | refine LeO.ite ?_ ?_
   | refine LeO.bind ?_ (fun _ => ?_)
theorem field_fold.mono : ∀ a0 a1 a2 k,LeO (field_fold.f k a0 a1 a2) (field_fold.f (k + 1) a0 a1 a2) := by
 intro a0 a1 a2 k
 have ih0 := field_fold.mono_l k
 unfold field_fold.f
 repeat' first
   | (with_reducible exact ih0 _ _ _ _)
   | (with_reducible exact field_width.mono _ _)
   | (with_reducible exact LeO.refl _)
   | (with_reducible exact LeO.none _)
   | (with_reducible refine LeO.ite ?_ ?_)
   | (with_reducible refine LeO.bind ?_ (fun _ => ?_))
   | exact ih0 _ _ _ _
   | exact field_width.mono _ _
   | exact LeO.none _
   | refine LeO.ite ?_ ?_
   | refine LeO.bind ?_ (fun _ => ?_)
set_option maxHeartbeats 8000000 in
set_option maxRecDepth 100000 in
theorem field_fold.calls (k : Nat) (a0 : Int) (a1 : Int) (a2 : Int) (r : Int) (w : World) (h : field_fold.f k a0 a1 a2 = some r) :
  Calls Try.prog 51 #[.int .u64 a0,.int .u64 a1,.int .u64 a2] w fun e w' => e = .returned (.int .u64 r) ∧ Drawn0 w w' := by
 have H : ((field_width.f k a0).bind fun t102 => (field_fold.l0 k a0 a1 a2 t102)) = some r := h
 clear h
 replace H := Option.bind_eq_some_iff.mp H
 obtain ⟨t102,A40,H⟩ := H
 try dsimp only at H
 have A4 := am A40
 clear A40
 have H' := am H
 clear H
 go_enter Try.func51,Try.ntmps51
 go_wp2_with (first|((with_reducible refine gate_callee (f := 83) rfl ?_);refine goesL_ (some 12) rfl rfl Try.func83 (by kernel_rfl) rfl #[.int .u64 a0] rfl (by (try simp only [List.map_toArray,List.map_cons,List.map_nil]);first|done|rfl|(simp only [List.length_drop,List.length_take];rfl)) ?_;(with_reducible refine (field_width.calls k a0 t102 _ A4.out).mono ?_);rintro e w' ⟨rfl,⟨nd,rfl⟩⟩;refine ⟨_,rfl,?_⟩))
 go_loopg [1,2] k (fun kq v1 v2 w' => ∃ (x1_1 : Int) (x2_1 : Int),v1 = .int .u64 x1_1 ∧ v2 = .int .u64 x2_1 ∧ Aside0 (field_fold.l0 kq a0 x1_1 x2_1 t102 = some r) ∧ Aside0 (kq ≤ k) ∧ Drawn0 w w')
 case atStart => exact ⟨(a1),(a2),(by first|rfl|(simp;done)|(simp [*];done)),(by first|rfl|(simp;done)|(simp [*];done)),H',⟨Nat.le_refl _⟩,by repeat (first|exact Drawn0.refl _|apply Drawn0.step)⟩
 case round =>
  clear H'
  try clear p2
  obtain ⟨x1_1,x2_1,rfl,rfl,HA,HK1,⟨m1,rfl⟩⟩ := hrel
  cases gk with
  | zero => exact absurd HA.out (by simp [field_fold.l0])
  | succ k1 =>
   have H := HA.out
   clear HA
   simp only [field_fold.l0] at H
   by_cases c5 : x1_1 = 0
   ·rw [if_pos c5] at H
    have c5b0 : (x1_1 == 0) = true := beq_iff_eq.mpr c5
    have c5b1 : (x1_1 != 0) = false := bne_eq_false_iff_eq.mpr c5
    clear c5
    by_cases c6 : x2_1 > a0
    ·rw [if_pos c6] at H
     have c6b0 : decide (a0 < x2_1) = true := decide_eq_true c6
     clear c6
     by_cases c7 : 0 ≤ t102
     ·rw [if_pos c7] at H
      have c7b0 := eq_true c7
      have c7b1 : decide (0 ≤ t102) = true := decide_eq_true c7
      clear c7
      obtain ⟨ji8,hji8⟩ : ∃ j_ : Int,(shr .u64 x2_1 t102) = j_ := ⟨_,rfl⟩
      first|rw [hji8] at H|simp only [hji8] at H
      have hji8_ : (x2_1 / 2 ^ min t102.toNat 64) = ji8 := hji8
      have hji8z : t102 ≤ 64 → (x2_1 / 2 ^ t102.toNat) = ji8 := shr_small hji8
      obtain ⟨ji9,hji9⟩ : ∃ j_ : Int,(IntKind.u64.wrap (64 - t102)) = j_ := ⟨_,rfl⟩
      first|rw [hji9] at H|simp only [hji9] at H
      by_cases c10 : 0 ≤ (ji9)
      ·rw [if_pos c10] at H
       have c10b0 := eq_true c10
       have c10b1 : decide (0 ≤ (ji9)) = true := decide_eq_true c10
       clear c10
       obtain ⟨ji11,hji11⟩ : ∃ j_ : Int,(shl .u64 x1_1 (ji9)) = j_ := ⟨_,rfl⟩
       first|rw [hji11] at H|simp only [hji11] at H
       have hji11_ : (IntKind.u64.wrap (x1_1 * 2 ^ min (ji9).toNat 64)) = ji11 := hji11
       have hji11z : (ji9) ≤ 64 → (IntKind.u64.wrap (x1_1 * 2 ^ (ji9).toNat)) = ji11 := shl_small hji11
       have c12b0 := eq_true (od : 0 ≤ t102)
       obtain ⟨ji13,hji13⟩ : ∃ j_ : Int,(shr .u64 x1_1 t102) = j_ := ⟨_,rfl⟩
       first|rw [hji13] at H|simp only [hji13] at H
       have hji13_ : (x1_1 / 2 ^ min t102.toNat 64) = ji13 := hji13
       have hji13z : t102 ≤ 64 → (x1_1 / 2 ^ t102.toNat) = ji13 := shr_small hji13
       replace H := Option.bind_eq_some_iff.mp H
       obtain ⟨⟨t103,t104⟩,A140,H⟩ := H
       try dsimp only at H
       have A14 := am A140
       clear A140
       have H' := am H
       clear H
       go_wp2_with (first|((with_reducible refine gate_callee (f := 84) rfl ?_);refine goesX_ (some 37) rfl rfl #[.int .u64 (Go.bits .or .u64 (ji8) (ji11)),.int .u64 (Go.bits .and .u64 x2_1 a0),.int .u64 0] rfl (by (try simp only [List.map_toArray,List.map_cons,List.map_nil]);first|done|(simp only [hji11,hji8];rfl)|rfl|(simp only [List.length_drop,List.length_take];rfl)) _ (bits_Add64.runs (Go.bits .or .u64 (ji8) (ji11)) (Go.bits .and .u64 x2_1 a0) 0 t103 t104 _ A14.out) ?_))
       go_roundg k1
       case measure => have := HK1.out;omega
       case rel => exact ⟨(IntKind.u64.wrap ((ji13) + t104)),(t103),(by first|rfl|(simp;done)|(simp only [← hji13] <;> (first|rfl|simp))|(simp [*];done)),(by first|rfl|(simp;done)|(simp [*];done)),H',⟨by have := HK1.out;omega⟩,by repeat (first|exact Drawn0.refl _|apply Drawn0.step)⟩
      ·rw [if_neg c10] at H
       exact absurd H (by simp)
     ·rw [if_neg c7] at H
      exact absurd H (by simp)
    ·rw [if_neg c6] at H
     have c6b0 : decide (a0 < x2_1) = false := decide_eq_false c6
     clear c6
     by_cases c15 : x2_1 = a0
     ·rw [if_pos c15] at H
      have c15b0 : (x2_1 == a0) = true := beq_iff_eq.mpr c15
      have c15b1 : (x2_1 != a0) = false := bne_eq_false_iff_eq.mpr c15
      clear c15
      obtain rfl := Option.some.inj H
      go_wp2
      go_ret
      exact ⟨by first|rfl|(simp;done)|(simp [*];done),by repeat (first|exact Drawn0.refl _|apply Drawn0.step)⟩
     ·rw [if_neg c15] at H
      have c15b0 : (x2_1 == a0) = false := beq_eq_false_iff_ne.mpr c15
      have c15b1 : (x2_1 != a0) = true := bne_iff_ne.mpr c15
      obtain rfl := Option.some.inj H
      go_wp2
      go_ret
      exact ⟨by first|rfl|(simp;done)|(simp [*];done),by repeat (first|exact Drawn0.refl _|apply Drawn0.step)⟩
   ·rw [if_neg c5] at H
    have c5b0 : (x1_1 == 0) = false := beq_eq_false_iff_ne.mpr c5
    have c5b1 : (x1_1 != 0) = true := bne_iff_ne.mpr c5
    by_cases c16 : 0 ≤ t102
    ·rw [if_pos c16] at H
     have c16b0 := eq_true c16
     have c16b1 : decide (0 ≤ t102) = true := decide_eq_true c16
     clear c16
     obtain ⟨ji17,hji17⟩ : ∃ j_ : Int,(shr .u64 x2_1 t102) = j_ := ⟨_,rfl⟩
     first|rw [hji17] at H|simp only [hji17] at H
     have hji17_ : (x2_1 / 2 ^ min t102.toNat 64) = ji17 := hji17
     have hji17z : t102 ≤ 64 → (x2_1 / 2 ^ t102.toNat) = ji17 := shr_small hji17
     obtain ⟨ji18,hji18⟩ : ∃ j_ : Int,(IntKind.u64.wrap (64 - t102)) = j_ := ⟨_,rfl⟩
     first|rw [hji18] at H|simp only [hji18] at H
     by_cases c19 : 0 ≤ (ji18)
     ·rw [if_pos c19] at H
      have c19b0 := eq_true c19
      have c19b1 : decide (0 ≤ (ji18)) = true := decide_eq_true c19
      clear c19
      obtain ⟨ji20,hji20⟩ : ∃ j_ : Int,(shl .u64 x1_1 (ji18)) = j_ := ⟨_,rfl⟩
      first|rw [hji20] at H|simp only [hji20] at H
      have hji20_ : (IntKind.u64.wrap (x1_1 * 2 ^ min (ji18).toNat 64)) = ji20 := hji20
      have hji20z : (ji18) ≤ 64 → (IntKind.u64.wrap (x1_1 * 2 ^ (ji18).toNat)) = ji20 := shl_small hji20
      have c21b0 := eq_true (od : 0 ≤ t102)
      obtain ⟨ji22,hji22⟩ : ∃ j_ : Int,(shr .u64 x1_1 t102) = j_ := ⟨_,rfl⟩
      first|rw [hji22] at H|simp only [hji22] at H
      have hji22_ : (x1_1 / 2 ^ min t102.toNat 64) = ji22 := hji22
      have hji22z : t102 ≤ 64 → (x1_1 / 2 ^ t102.toNat) = ji22 := shr_small hji22
      replace H := Option.bind_eq_some_iff.mp H
      obtain ⟨⟨t105,t106⟩,A230,H⟩ := H
      try dsimp only at H
      have A23 := am A230
      clear A230
      have H' := am H
      clear H
      go_wp2_with (first|((with_reducible refine gate_callee (f := 84) rfl ?_);refine goesX_ (some 37) rfl rfl #[.int .u64 (Go.bits .or .u64 (ji17) (ji20)),.int .u64 (Go.bits .and .u64 x2_1 a0),.int .u64 0] rfl (by (try simp only [List.map_toArray,List.map_cons,List.map_nil]);first|done|(simp only [hji17,hji20];rfl)|rfl|(simp only [List.length_drop,List.length_take];rfl)) _ (bits_Add64.runs (Go.bits .or .u64 (ji17) (ji20)) (Go.bits .and .u64 x2_1 a0) 0 t105 t106 _ A23.out) ?_))
      go_roundg k1
      case measure => have := HK1.out;omega
      case rel => exact ⟨(IntKind.u64.wrap ((ji22) + t106)),(t105),(by first|rfl|(simp;done)|(simp only [← hji22] <;> (first|rfl|simp))|(simp [*];done)),(by first|rfl|(simp;done)|(simp [*];done)),H',⟨by have := HK1.out;omega⟩,by repeat (first|exact Drawn0.refl _|apply Drawn0.step)⟩
     ·rw [if_neg c19] at H
      exact absurd H (by simp)
    ·rw [if_neg c16] at H
     exact absurd H (by simp)
def field_Add.f (k : Nat) (a0 : Int) (a1 : Int) (a2 : Int) : Option (Int) := (field_fold.f k a0 0 (IntKind.u64.wrap (a1 + a2))).bind fun t107 => (some t107)
set_option maxHeartbeats 8000000 in
set_option maxRecDepth 100000 in
theorem field_Add.calls (k : Nat) (a0 : Int) (a1 : Int) (a2 : Int) (r : Int) (w : World) (h : field_Add.f k a0 a1 a2 = some r) :
  Calls Try.prog 26 #[.int .u64 a0,.int .u64 a1,.int .u64 a2] w fun e w' => e = .returned (.int .u64 r) ∧ Drawn0 w w' := by
 have H : ((field_fold.f k a0 0 (IntKind.u64.wrap (a1 + a2))).bind fun t107 => (some t107)) = some r := h
 clear h
 replace H := Option.bind_eq_some_iff.mp H
 obtain ⟨t107,A40,H⟩ := H
 try dsimp only at H
 have A4 := am A40
 clear A40
 obtain rfl := Option.some.inj H
 go_enter Try.func26,Try.ntmps26
 go_wp2_with (first|((with_reducible refine gate_callee (f := 51) rfl ?_);refine goesL_ (some 11) rfl rfl Try.func51 (by kernel_rfl) rfl #[.int .u64 a0,.int .u64 0,.int .u64 (IntKind.u64.wrap (a1 + a2))] rfl (by (try simp only [List.map_toArray,List.map_cons,List.map_nil]);first|done|rfl|(simp only [List.length_drop,List.length_take];rfl)) ?_;(with_reducible refine (field_fold.calls k a0 0 (IntKind.u64.wrap (a1 + a2)) t107 _ A4.out).mono ?_);rintro e w' ⟨rfl,⟨nd,rfl⟩⟩;refine ⟨_,rfl,?_⟩))
 go_ret
 exact ⟨by first|rfl|(simp;done)|(simp [*];done),by repeat (first|exact Drawn0.refl _|apply Drawn0.step)⟩
def field_Neg.f (a0 : Int) (a1 : Int) : Option (Int) := if a1 = 0 then (some 0) else (some (IntKind.u64.wrap (a0 - a1)))
set_option maxHeartbeats 8000000 in
set_option maxRecDepth 100000 in
theorem field_Neg.calls (a0 : Int) (a1 : Int) (r : Int) (w : World) (h : field_Neg.f a0 a1 = some r) :
  Calls Try.prog 68 #[.int .u64 a0,.int .u64 a1] w fun e w' => e = .returned (.int .u64 r) ∧ Drawn0 w w' := by
 have H : (if a1 = 0 then (some 0) else (some (IntKind.u64.wrap (a0 - a1)))) = some r := h
 clear h
 by_cases c3 : a1 = 0
 ·rw [if_pos c3] at H
  have c3b0 : (a1 == 0) = true := beq_iff_eq.mpr c3
  have c3b1 : (a1 != 0) = false := bne_eq_false_iff_eq.mpr c3
  clear c3
  obtain rfl := Option.some.inj H
  go_enter Try.func68,Try.ntmps68
  go_wp2
  go_ret
  exact ⟨by first|rfl|(simp;done)|(simp [*];done),by repeat (first|exact Drawn0.refl _|apply Drawn0.step)⟩
 ·rw [if_neg c3] at H
  have c3b0 : (a1 == 0) = false := beq_eq_false_iff_ne.mpr c3
  have c3b1 : (a1 != 0) = true := bne_iff_ne.mpr c3
  obtain rfl := Option.some.inj H
  go_enter Try.func68,Try.ntmps68
  go_wp2
  go_ret
  exact ⟨by first|rfl|(simp;done)|(simp [*];done),by repeat (first|exact Drawn0.refl _|apply Drawn0.step)⟩
def field_Sub.f (k : Nat) (a0 : Int) (a1 : Int) (a2 : Int) : Option (Int) := (field_Neg.f a0 a2).bind fun t108 => ((field_Add.f k a0 a1 t108).bind fun t109 => (some t109))
set_option maxHeartbeats 8000000 in
set_option maxRecDepth 100000 in
theorem field_Sub.calls (k : Nat) (a0 : Int) (a1 : Int) (a2 : Int) (r : Int) (w : World) (h : field_Sub.f k a0 a1 a2 = some r) :
  Calls Try.prog 44 #[.int .u64 a0,.int .u64 a1,.int .u64 a2] w fun e w' => e = .returned (.int .u64 r) ∧ Drawn0 w w' := by
 have H : ((field_Neg.f a0 a2).bind fun t108 => ((field_Add.f k a0 a1 t108).bind fun t109 => (some t109))) = some r := h
 clear h
 replace H := Option.bind_eq_some_iff.mp H
 obtain ⟨t108,A40,H⟩ := H
 try dsimp only at H
 have A4 := am A40
 clear A40
 replace H := Option.bind_eq_some_iff.mp H
 obtain ⟨t109,A50,H⟩ := H
 try dsimp only at H
 have A5 := am A50
 clear A50
 obtain rfl := Option.some.inj H
 go_enter Try.func44,Try.ntmps44
 go_wp2_with (first|((with_reducible refine gate_callee (f := 68) rfl ?_);refine goesL_ (some 11) rfl rfl Try.func68 (by kernel_rfl) rfl #[.int .u64 a0,.int .u64 a2] rfl (by (try simp only [List.map_toArray,List.map_cons,List.map_nil]);first|done|rfl|(simp only [List.length_drop,List.length_take];rfl)) ?_;(with_reducible refine (field_Neg.calls a0 a2 t108 _ A4.out).mono ?_);rintro e w' ⟨rfl,⟨nd,rfl⟩⟩;refine ⟨_,rfl,?_⟩)|((with_reducible refine gate_callee (f := 26) rfl ?_);refine goesL_ (some 12) rfl rfl Try.func26 (by kernel_rfl) rfl #[.int .u64 a0,.int .u64 a1,.int .u64 t108] rfl (by (try simp only [List.map_toArray,List.map_cons,List.map_nil]);first|done|rfl|(simp only [List.length_drop,List.length_take];rfl)) ?_;(with_reducible refine (field_Add.calls k a0 a1 t108 t109 _ A5.out).mono ?_);rintro e w' ⟨rfl,⟨nd,rfl⟩⟩;refine ⟨_,rfl,?_⟩))
 go_ret
 exact ⟨by first|rfl|(simp;done)|(simp [*];done),by repeat (first|exact Drawn0.refl _|apply Drawn0.step)⟩
def bits_Mul64.f (a0 : Int) (a1 : Int) : Option (Int × Int) := some (IntKind.u64.wrap ((IntKind.u64.wrap ((IntKind.u64.wrap ((a0 / 4294967296) * (a1 / 4294967296))) + ((IntKind.u64.wrap ((IntKind.u64.wrap ((a0 / 4294967296) * (Go.bits .and .u64 a1 4294967295))) + ((IntKind.u64.wrap ((Go.bits .and .u64 a0 4294967295) * (Go.bits .and .u64 a1 4294967295))) / 4294967296))) / 4294967296))) + ((IntKind.u64.wrap ((Go.bits .and .u64 (IntKind.u64.wrap ((IntKind.u64.wrap ((a0 / 4294967296) * (Go.bits .and .u64 a1 4294967295))) + ((IntKind.u64.wrap ((Go.bits .and .u64 a0 4294967295) * (Go.bits .and .u64 a1 4294967295))) / 4294967296))) 4294967295) + (IntKind.u64.wrap ((Go.bits .and .u64 a0 4294967295) * (a1 / 4294967296))))) / 4294967296)),IntKind.u64.wrap (a0 * a1))
set_option maxHeartbeats 8000000 in
set_option maxRecDepth 100000 in
theorem bits_Mul64.calls (a0 : Int) (a1 : Int) (r1 : Int) (r2 : Int) (w : World) (h : bits_Mul64.f a0 a1 = some (r1,r2)) :
  Calls Try.prog 52 #[.int .u64 a0,.int .u64 a1] w fun e w' => e = .returned (.tuple #[.int .u64 r1,.int .u64 r2]) ∧ Drawn0 w w' := by
 have H : (some (IntKind.u64.wrap ((IntKind.u64.wrap ((IntKind.u64.wrap ((a0 / 4294967296) * (a1 / 4294967296))) + ((IntKind.u64.wrap ((IntKind.u64.wrap ((a0 / 4294967296) * (Go.bits .and .u64 a1 4294967295))) + ((IntKind.u64.wrap ((Go.bits .and .u64 a0 4294967295) * (Go.bits .and .u64 a1 4294967295))) / 4294967296))) / 4294967296))) + ((IntKind.u64.wrap ((Go.bits .and .u64 (IntKind.u64.wrap ((IntKind.u64.wrap ((a0 / 4294967296) * (Go.bits .and .u64 a1 4294967295))) + ((IntKind.u64.wrap ((Go.bits .and .u64 a0 4294967295) * (Go.bits .and .u64 a1 4294967295))) / 4294967296))) 4294967295) + (IntKind.u64.wrap ((Go.bits .and .u64 a0 4294967295) * (a1 / 4294967296))))) / 4294967296)),IntKind.u64.wrap (a0 * a1))) = some (r1,r2) := h
 clear h
 simp only [Option.some.injEq,Prod.mk.injEq] at H
 obtain ⟨rfl,rfl⟩ := H
 go_enter Try.func52,Try.ntmps52
 go_wp2
 go_ret2
 exact ⟨by first|rfl|(simp;done)|(simp [*];done),by repeat (first|exact Drawn0.refl _|apply Drawn0.step)⟩
def field_Mul.f (k : Nat) (a0 : Int) (a1 : Int) (a2 : Int) : Option (Int) := (bits_Mul64.f a1 a2).bind fun bt110 => ((field_fold.f k a0 bt110.1 bt110.2).bind fun t112 => (some t112))
theorem field_Mul.mono : ∀ a0 a1 a2 k,LeO (field_Mul.f k a0 a1 a2) (field_Mul.f (k + 1) a0 a1 a2) := by
 intro a0 a1 a2 k
 unfold field_Mul.f
 repeat' first
   | (with_reducible exact field_fold.mono _ _ _ _)
   | (with_reducible exact LeO.refl _)
   | (with_reducible exact LeO.none _)
   | (with_reducible refine LeO.ite ?_ ?_)
   | (with_reducible refine LeO.bind ?_ (fun _ => ?_))
   | exact field_fold.mono _ _ _ _
   | exact LeO.none _
   | refine LeO.ite ?_ ?_
   | refine LeO.bind ?_ (fun _ => ?_)
set_option maxHeartbeats 8000000 in
set_option maxRecDepth 100000 in
theorem field_Mul.calls (k : Nat) (a0 : Int) (a1 : Int) (a2 : Int) (r : Int) (w : World) (h : field_Mul.f k a0 a1 a2 = some r) :
  Calls Try.prog 27 #[.int .u64 a0,.int .u64 a1,.int .u64 a2] w fun e w' => e = .returned (.int .u64 r) ∧ Drawn0 w w' := by
 have H : ((bits_Mul64.f a1 a2).bind fun bt110 => ((field_fold.f k a0 bt110.1 bt110.2).bind fun t112 => (some t112))) = some r := h
 clear h
 replace H := Option.bind_eq_some_iff.mp H
 obtain ⟨⟨t110,t111⟩,A40,H⟩ := H
 try dsimp only at H
 have A4 := am A40
 clear A40
 replace H := Option.bind_eq_some_iff.mp H
 obtain ⟨t112,A50,H⟩ := H
 try dsimp only at H
 have A5 := am A50
 clear A50
 obtain rfl := Option.some.inj H
 go_enter Try.func27,Try.ntmps27
 go_wp2_with (first|((with_reducible refine gate_callee (f := 52) rfl ?_);refine goesL_ (some 12) rfl rfl Try.func52 (by kernel_rfl) rfl #[.int .u64 a1,.int .u64 a2] rfl (by (try simp only [List.map_toArray,List.map_cons,List.map_nil]);first|done|rfl|(simp only [List.length_drop,List.length_take];rfl)) ?_;(with_reducible refine (bits_Mul64.calls a1 a2 t110 t111 _ A4.out).mono ?_);rintro e w' ⟨rfl,⟨nd,rfl⟩⟩;refine ⟨_,rfl,?_⟩)|((with_reducible refine gate_callee (f := 51) rfl ?_);refine goesL_ (some 18) rfl rfl Try.func51 (by kernel_rfl) rfl #[.int .u64 a0,.int .u64 t110,.int .u64 t111] rfl (by (try simp only [List.map_toArray,List.map_cons,List.map_nil]);first|done|rfl|(simp only [List.length_drop,List.length_take];rfl)) ?_;(with_reducible refine (field_fold.calls k a0 t110 t111 t112 _ A5.out).mono ?_);rintro e w' ⟨rfl,⟨nd,rfl⟩⟩;refine ⟨_,rfl,?_⟩))
 go_ret
 exact ⟨by first|rfl|(simp;done)|(simp [*];done),by repeat (first|exact Drawn0.refl _|apply Drawn0.step)⟩
def field_Pow.l0 : Nat → Int → Int → Int → Int → Option (Int)
 | 0,_,_,_,_ => none
 | k + 1,x0,x1,x2,x7 => if x2 > 0 then (if (Go.bits .and .u64 x2 1) = 1 then ((field_Mul.f k x0 x7 x1).bind fun t113 => ((field_Mul.f k x0 x1 x1).bind fun t114 => (field_Pow.l0 k x0 t114 (x2 / 2) t113))) else ((field_Mul.f k x0 x1 x1).bind fun t115 => (field_Pow.l0 k x0 t115 (x2 / 2) x7))) else (some x7)
def field_Pow.f (k : Nat) (a0 : Int) (a1 : Int) (a2 : Int) : Option (Int) := field_Pow.l0 k a0 a1 a2 1
theorem field_Pow.mono_l : ∀ k,(∀ y0 y1 y2 y3,LeO (field_Pow.l0 k y0 y1 y2 y3) (field_Pow.l0 (k + 1) y0 y1 y2 y3))
 | 0 => fun _ _ _ _ r h => by simp [field_Pow.l0] at h
 | k + 1 => by
  have ih0 := field_Pow.mono_l k
  ·intro y0 y1 y2 y3
   unfold field_Pow.l0
   repeat' first
   | (with_reducible exact ih0 _ _ _ _)
   | (with_reducible exact field_Mul.mono _ _ _ _)
   | (with_reducible exact LeO.refl _)
   | (with_reducible exact LeO.none _)
   | (with_reducible refine LeO.ite ?_ ?_)
   | (with_reducible refine LeO.bind ?_ (fun _ => ?_))
   | exact ih0 _ _ _ _
   | exact field_Mul.mono _ _ _ _
   | exact LeO.none _
   | refine LeO.ite ?_ ?_
   | refine LeO.bind ?_ (fun _ => ?_)
set_option maxHeartbeats 8000000 in
set_option maxRecDepth 100000 in
theorem field_Pow.calls (k : Nat) (a0 : Int) (a1 : Int) (a2 : Int) (r : Int) (w : World) (h : field_Pow.f k a0 a1 a2 = some r) :
  Calls Try.prog 100 #[.int .u64 a0,.int .u64 a1,.int .u64 a2] w fun e w' => e = .returned (.int .u64 r) ∧ Drawn0 w w' := by
 have H : (field_Pow.l0 k a0 a1 a2 1) = some r := h
 clear h
 have H' := am H
 clear H
 go_enter Try.func100,Try.ntmps100
 go_wp2
 go_loopg [1,2,7] k (fun kq v1 v2 v7 w' => ∃ (x1_1 : Int) (x2_1 : Int) (x7_1 : Int),v1 = .int .u64 x1_1 ∧ v2 = .int .u64 x2_1 ∧ v7 = .int .u64 x7_1 ∧ Aside0 (field_Pow.l0 kq a0 x1_1 x2_1 x7_1 = some r) ∧ Aside0 (kq ≤ k) ∧ Drawn0 w w')
 case atStart => exact ⟨(a1),(a2),(1),(by first|rfl|(simp;done)|(simp [*];done)),(by first|rfl|(simp;done)|(simp [*];done)),(by first|rfl|(simp;done)|(simp [*];done)),H',⟨Nat.le_refl _⟩,by repeat (first|exact Drawn0.refl _|apply Drawn0.step)⟩
 case round =>
  clear H'
  try clear c1
  try clear p2
  obtain ⟨x1_1,x2_1,x7_1,rfl,rfl,rfl,HA,HK1,⟨m1,rfl⟩⟩ := hrel
  cases gk with
  | zero => exact absurd HA.out (by simp [field_Pow.l0])
  | succ k1 =>
   have H := HA.out
   clear HA
   simp only [field_Pow.l0] at H
   by_cases c4 : x2_1 > 0
   ·rw [if_pos c4] at H
    have c4b0 : decide (0 < x2_1) = true := decide_eq_true c4
    clear c4
    by_cases c5 : (Go.bits .and .u64 x2_1 1) = 1
    ·rw [if_pos c5] at H
     have c5b0 : ((Go.bits .and .u64 x2_1 1) == 1) = true := beq_iff_eq.mpr c5
     have c5b1 : ((Go.bits .and .u64 x2_1 1) != 1) = false := bne_eq_false_iff_eq.mpr c5
     clear c5
     replace H := Option.bind_eq_some_iff.mp H
     obtain ⟨t113,A60,H⟩ := H
     try dsimp only at H
     have A6 := am A60
     clear A60
     replace H := Option.bind_eq_some_iff.mp H
     obtain ⟨t114,A70,H⟩ := H
     try dsimp only at H
     have A7 := am A70
     clear A70
     have H' := am H
     clear H
     go_wp2_with (first|((with_reducible refine gate_callee (f := 27) rfl ?_);refine goesL_ (some 18) rfl rfl Try.func27 (by kernel_rfl) rfl #[.int .u64 a0,.int .u64 x7_1,.int .u64 x1_1] rfl (by (try simp only [List.map_toArray,List.map_cons,List.map_nil]);first|done|rfl|(simp only [List.length_drop,List.length_take];rfl)) ?_;(with_reducible refine (field_Mul.calls k1 a0 x7_1 x1_1 t113 _ A6.out).mono ?_);rintro e w' ⟨rfl,⟨nd,rfl⟩⟩;refine ⟨_,rfl,?_⟩)|((with_reducible refine gate_callee (f := 27) rfl ?_);refine goesL_ (some 22) rfl rfl Try.func27 (by kernel_rfl) rfl #[.int .u64 a0,.int .u64 x1_1,.int .u64 x1_1] rfl (by (try simp only [List.map_toArray,List.map_cons,List.map_nil]);first|done|rfl|(simp only [List.length_drop,List.length_take];rfl)) ?_;(with_reducible refine (field_Mul.calls k1 a0 x1_1 x1_1 t114 _ A7.out).mono ?_);rintro e w' ⟨rfl,⟨nd,rfl⟩⟩;refine ⟨_,rfl,?_⟩))
     go_roundg k1
     case measure => have := HK1.out;omega
     case rel => exact ⟨(t114),(x2_1 / 2),(t113),(by first|rfl|(simp;done)|(simp [*];done)),(by first|rfl|(simp;done)|(simp [*];done)),(by first|rfl|(simp;done)|(simp [*];done)),H',⟨by have := HK1.out;omega⟩,by repeat (first|exact Drawn0.refl _|apply Drawn0.step)⟩
    ·rw [if_neg c5] at H
     have c5b0 : ((Go.bits .and .u64 x2_1 1) == 1) = false := beq_eq_false_iff_ne.mpr c5
     have c5b1 : ((Go.bits .and .u64 x2_1 1) != 1) = true := bne_iff_ne.mpr c5
     replace H := Option.bind_eq_some_iff.mp H
     obtain ⟨t115,A80,H⟩ := H
     try dsimp only at H
     have A8 := am A80
     clear A80
     have H' := am H
     clear H
     go_wp2_with (first|((with_reducible refine gate_callee (f := 27) rfl ?_);refine goesL_ (some 22) rfl rfl Try.func27 (by kernel_rfl) rfl #[.int .u64 a0,.int .u64 x1_1,.int .u64 x1_1] rfl (by (try simp only [List.map_toArray,List.map_cons,List.map_nil]);first|done|rfl|(simp only [List.length_drop,List.length_take];rfl)) ?_;(with_reducible refine (field_Mul.calls k1 a0 x1_1 x1_1 t115 _ A8.out).mono ?_);rintro e w' ⟨rfl,⟨nd,rfl⟩⟩;refine ⟨_,rfl,?_⟩))
     go_roundg k1
     case measure => have := HK1.out;omega
     case rel => exact ⟨(t115),(x2_1 / 2),(x7_1),(by first|rfl|(simp;done)|(simp [*];done)),(by first|rfl|(simp;done)|(simp [*];done)),(by first|rfl|(simp;done)|(simp [*];done)),H',⟨by have := HK1.out;omega⟩,by repeat (first|exact Drawn0.refl _|apply Drawn0.step)⟩
   ·rw [if_neg c4] at H
    have c4b0 : decide (0 < x2_1) = false := decide_eq_false c4
    clear c4
    obtain rfl := Option.some.inj H
    go_wp2
    go_ret
    exact ⟨by first|rfl|(simp;done)|(simp [*];done),by repeat (first|exact Drawn0.refl _|apply Drawn0.step)⟩
def field_Inverse.f (k : Nat) (a0 : Int) (a1 : Int) : Option (Int × Int) := if a1 = 0 then (some (0,8)) else ((field_Pow.f k a0 a1 (IntKind.u64.wrap (a0 - 2))).bind fun t116 => (some (t116,0)))
set_option maxHeartbeats 8000000 in
set_option maxRecDepth 100000 in
theorem field_Inverse.calls (k : Nat) (a0 : Int) (a1 : Int) (r1 : Int) (r2 : Int) (w : World) (h : field_Inverse.f k a0 a1 = some (r1,r2)) :
  Calls Try.prog 86 #[.int .u64 a0,.int .u64 a1] w fun e w' => e = .returned (.tuple #[.int .u64 r1,.int .i64 r2]) ∧ Drawn0 w w' := by
 have H : (if a1 = 0 then (some (0,8)) else ((field_Pow.f k a0 a1 (IntKind.u64.wrap (a0 - 2))).bind fun t116 => (some (t116,0)))) = some (r1,r2) := h
 clear h
 by_cases c3 : a1 = 0
 ·rw [if_pos c3] at H
  have c3b0 : (a1 == 0) = true := beq_iff_eq.mpr c3
  have c3b1 : (a1 != 0) = false := bne_eq_false_iff_eq.mpr c3
  clear c3
  simp only [Option.some.injEq,Prod.mk.injEq] at H
  obtain ⟨rfl,rfl⟩ := H
  go_enter Try.func86,Try.ntmps86
  go_wp2
  go_ret2
  exact ⟨by first|rfl|(simp;done)|(simp [*];done),by repeat (first|exact Drawn0.refl _|apply Drawn0.step)⟩
 ·rw [if_neg c3] at H
  have c3b0 : (a1 == 0) = false := beq_eq_false_iff_ne.mpr c3
  have c3b1 : (a1 != 0) = true := bne_iff_ne.mpr c3
  replace H := Option.bind_eq_some_iff.mp H
  obtain ⟨t116,A40,H⟩ := H
  try dsimp only at H
  have A4 := am A40
  clear A40
  simp only [Option.some.injEq,Prod.mk.injEq] at H
  obtain ⟨rfl,rfl⟩ := H
  go_enter Try.func86,Try.ntmps86
  go_wp2_with (first|((with_reducible refine gate_callee (f := 100) rfl ?_);refine goesL_ (some 12) rfl rfl Try.func100 (by kernel_rfl) rfl #[.int .u64 a0,.int .u64 a1,.int .u64 (IntKind.u64.wrap (a0 - 2))] rfl (by (try simp only [List.map_toArray,List.map_cons,List.map_nil]);first|done|rfl|(simp only [List.length_drop,List.length_take];rfl)) ?_;(with_reducible refine (field_Pow.calls k a0 a1 (IntKind.u64.wrap (a0 - 2)) t116 _ A4.out).mono ?_);rintro e w' ⟨rfl,⟨nd,rfl⟩⟩;refine ⟨_,rfl,?_⟩))
  go_ret2
  exact ⟨by first|rfl|(simp;done)|(simp [*];done),by repeat (first|exact Drawn0.refl _|apply Drawn0.step)⟩
def interpolate_over.f (k : Nat) (a0 : Int) (a1 : Int) (a2 : Int) : Option (Int) := (field_Inverse.f k a0 a2).bind fun bt117 => ((field_Mul.f k a0 a1 bt117.1).bind fun t119 => (some t119))
set_option maxHeartbeats 8000000 in
set_option maxRecDepth 100000 in
theorem interpolate_over.calls (k : Nat) (a0 : Int) (a1 : Int) (a2 : Int) (r : Int) (w : World) (h : interpolate_over.f k a0 a1 a2 = some r) :
  Calls Try.prog 62 #[.int .u64 a0,.int .u64 a1,.int .u64 a2] w fun e w' => e = .returned (.int .u64 r) ∧ Drawn0 w w' := by
 have H : ((field_Inverse.f k a0 a2).bind fun bt117 => ((field_Mul.f k a0 a1 bt117.1).bind fun t119 => (some t119))) = some r := h
 clear h
 replace H := Option.bind_eq_some_iff.mp H
 obtain ⟨⟨t117,t118⟩,A40,H⟩ := H
 try dsimp only at H
 have A4 := am A40
 clear A40
 replace H := Option.bind_eq_some_iff.mp H
 obtain ⟨t119,A50,H⟩ := H
 try dsimp only at H
 have A5 := am A50
 clear A50
 obtain rfl := Option.some.inj H
 go_enter Try.func62,Try.ntmps62
 go_wp2_with (first|((with_reducible refine gate_callee (f := 86) rfl ?_);refine goesL_ (some 12) rfl rfl Try.func86 (by kernel_rfl) rfl #[.int .u64 a0,.int .u64 a2] rfl (by (try simp only [List.map_toArray,List.map_cons,List.map_nil]);first|done|rfl|(simp only [List.length_drop,List.length_take];rfl)) ?_;(with_reducible refine (field_Inverse.calls k a0 a2 t117 t118 _ A4.out).mono ?_);rintro e w' ⟨rfl,⟨nd,rfl⟩⟩;refine ⟨_,rfl,?_⟩)|((with_reducible refine gate_callee (f := 27) rfl ?_);refine goesL_ (some 18) rfl rfl Try.func27 (by kernel_rfl) rfl #[.int .u64 a0,.int .u64 a1,.int .u64 t117] rfl (by (try simp only [List.map_toArray,List.map_cons,List.map_nil]);first|done|rfl|(simp only [List.length_drop,List.length_take];rfl)) ?_;(with_reducible refine (field_Mul.calls k a0 a1 t117 t119 _ A5.out).mono ?_);rintro e w' ⟨rfl,⟨nd,rfl⟩⟩;refine ⟨_,rfl,?_⟩))
 go_ret
 exact ⟨by first|rfl|(simp;done)|(simp [*];done),by repeat (first|exact Drawn0.refl _|apply Drawn0.step)⟩
end Go.Proofs.Ytmdoaijkaaaglaa.Pr
end
section
namespace Go.Proofs.Ytmdoaijkaaaglaa.Fd
def pw (p : Nat) : Nat → Nat → Nat → Nat → Nat
 | 0,_,_,acc => acc
 | k + 1,a,n,acc => pw p k (a * a % p) (n / 2) (if n % 2 = 1 then acc * a % p else acc)
theorem pow_mod' (a n p : Nat) : (a % p) ^ n % p = a ^ n % p := (Nat.pow_mod a n p).symm
theorem pow_two_half (a n : Nat) : a ^ n = (a * a) ^ (n / 2) * a ^ (n % 2) := by
 rw [← Nat.pow_two,← Nat.pow_mul,← Nat.pow_add];congr 1;omega
theorem pw_spec (p : Nat) : ∀ (k a n acc : Nat),n < 2 ^ k → pw p k a n acc % p = acc * a ^ n % p
 | 0,a,n,acc,h => by
  have : n = 0 := by simpa using h
  subst this;simp [pw]
 | k + 1,a,n,acc,h => by
  have hn : n / 2 < 2 ^ k := by rw [Nat.pow_succ] at h;omega
  rw [pw,pw_spec p k _ _ _ hn,pow_two_half a n]
  have e1 : (a * a % p) ^ (n / 2) % p = (a * a) ^ (n / 2) % p := pow_mod' _ _ _
  rcases Nat.mod_two_eq_zero_or_one n with e|e
  ·rw [e,if_neg (by decide),Nat.pow_zero,Nat.mul_one,Nat.mul_mod,e1,← Nat.mul_mod]
  ·rw [e,if_pos rfl,Nat.pow_one,Nat.mul_mod,e1,← Nat.mul_mod,Nat.mod_mul_mod]
   congr 1
   rw [Nat.mul_assoc,Nat.mul_comm a]
def Prm (q : Nat) : Prop := 1 < q ∧ ∀ e,e ∣ q → e = 1 ∨ e = q
theorem Prm.of_below {q : Nat} (h1 : 1 < q) (h : ∀ e,e < q → e ∣ q → e = 1) : Prm q :=
 ⟨h1,fun e he => by
  rcases Nat.lt_or_ge e q with h2|h2
  ·exact .inl (h e h2 he)
  ·exact .inr (Nat.le_antisymm (Nat.le_of_dvd (by omega) he) h2)⟩
def prmB (q : Nat) : Bool := decide (1 < q) && (List.range q).all fun e => decide (e < 2) || decide (q % e ≠ 0)
theorem Prm.of_bool {q : Nat} (h : prmB q = true) : Prm q := by
 simp only [prmB,Bool.and_eq_true,decide_eq_true_eq,List.all_eq_true,List.mem_range,Bool.or_eq_true] at h
 refine .of_below h.1 fun e he hd => ?_
 rcases h.2 e he with h2|h2
 ·have : e ≠ 0 := fun e0 => by subst e0;have := Nat.eq_zero_of_zero_dvd hd;omega
  omega
 ·exact absurd (Nat.mod_eq_zero_of_dvd hd) h2
theorem Prm.dvd_mul {q a b : Nat} (h : Prm q) (hd : q ∣ a * b) : q ∣ a ∨ q ∣ b := by
 rcases h.2 (Nat.gcd q a) (Nat.gcd_dvd_left q a) with e|e
 ·exact .inr (Nat.Coprime.dvd_of_dvd_mul_left e hd)
 ·exact .inl (e ▸ Nat.gcd_dvd_right q a)
def prod : List Nat → Nat
 | [] => 1
 | x :: l => x * prod l
theorem Prm.dvd_prod {q : Nat} (h : Prm q) : ∀ l : List Nat,(∀ x ∈ l,Prm x) → q ∣ prod l → q ∈ l
 | [],_,hd => by
  have := Nat.le_of_dvd (by decide) hd
  have := h.1
  simp [prod] at *;omega
 | x :: l,hl,hd => by
  rcases h.dvd_mul hd with e|e
  ·rcases (hl x (by simp)).2 q e with e1|e1
   ·have := h.1;omega
   ·simp [e1]
  ·exact List.mem_cons_of_mem _ (h.dvd_prod l (fun y hy => hl y (List.mem_cons_of_mem _ hy)) e)
theorem prime_factor : ∀ m : Nat,1 < m → ∃ q,Prm q ∧ q ∣ m := by
 intro m
 induction m using Nat.strongRecOn with
 | _ m ih =>
  intro hm
  by_cases h : ∃ e,e < m ∧ e ∣ m ∧ e ≠ 1
  ·obtain ⟨e,he,hd,h1⟩ := h
   have : e ≠ 0 := fun e0 => by subst e0;have := Nat.eq_zero_of_zero_dvd hd;omega
   obtain ⟨q,hq,hqe⟩ := ih e he (by omega)
   exact ⟨q,hq,Nat.dvd_trans hqe hd⟩
  ·exact ⟨m,.of_below hm fun e he hd => Classical.byContradiction fun h1 => h ⟨e,he,hd,h1⟩,Nat.dvd_refl m⟩
theorem pigeon : ∀ (n : Nat) (f : Nat → Nat),(∀ i,i < n → f i < n) → (∀ i j,i < n → j < n → f i = f j → i = j) → ∀ a,a < n → ∃ i,i < n ∧ f i = a
 | 0,_,_,_,a,ha => absurd ha (by omega)
 | n + 1,f,hf,hi,a,ha => by
  refine Classical.byContradiction fun hno => ?_
  have hno' : ∀ i,i < n + 1 → f i ≠ a := fun i h e => hno ⟨i,h,e⟩
  let f' : Nat → Nat := fun i => if f i = n then a else f i
  have hlt : ∀ i,i < n + 1 → f' i < n := by
   intro i h
   have h1 := hf i h
   have h2 := hno' i h
   show (if f i = n then a else f i) < n
   split
   ·rename_i e;rw [e] at h2;omega
   ·omega
  have hinj : ∀ i j,i < n + 1 → j < n + 1 → f' i = f' j → i = j := by
   intro i j h1 h2 e
   have a1 := hno' i h1
   have a2 := hno' j h2
   refine hi i j h1 h2 ?_
   change (if f i = n then a else f i) = (if f j = n then a else f j) at e
   split at e <;> split at e <;> first|omega|(exfalso;omega)
  obtain ⟨i,h1,h2⟩ := pigeon n f' (fun i h => hlt i (by omega)) (fun i j h1 h2 => hinj i j (by omega) (by omega)) (f' n) (hlt n (by omega))
  have := hinj i n (by omega) (by omega) h2
  omega
section order
variable {p g : Nat} (hp : 1 < p)
theorem one_mul_mod {a b : Nat} (h : a % p = 1 % p) : a * b % p = b % p := by
 rw [Nat.mul_mod,h,← Nat.mul_mod,Nat.one_mul]
theorem one_pow_mod {a : Nat} (h : a % p = 1 % p) (n : Nat) : a ^ n % p = 1 % p := by
 rw [Nat.pow_mod,h,← Nat.pow_mod,Nat.one_pow]
theorem pow_mul_mod {d : Nat} (h : g ^ d % p = 1 % p) (m : Nat) : g ^ (d * m) % p = 1 % p := by
 rw [Nat.pow_mul];exact one_pow_mod h m
theorem pow_mod_step {a b : Nat} (ha : g ^ a % p = 1 % p) (hb : g ^ b % p = 1 % p) : g ^ (a % b) % p = 1 % p := by
 have h := Nat.div_add_mod a b
 rw [← h,Nat.pow_add,one_mul_mod (pow_mul_mod hb _)] at ha
 exact ha
theorem pow_gcd (a b : Nat) (ha : g ^ a % p = 1 % p) (hb : g ^ b % p = 1 % p) : g ^ (Nat.gcd a b) % p = 1 % p := by
 induction a,b using Nat.gcd.induction with
 | H0 b => simpa using hb
 | H1 a b h ih =>
  rw [Nat.gcd_rec]
  exact ih (pow_mod_step hb ha) ha
variable (hone : g ^ (p - 1) % p = 1 % p)
theorem order_full (fs : List Nat) (hfs : ∀ x ∈ fs,Prm x) (hprod : p - 1 = prod fs) (hno : ∀ q ∈ fs,g ^ ((p - 1) / q) % p ≠ 1 % p) (hone : g ^ (p - 1) % p = 1 % p)
  (i : Nat) (h0 : 0 < i) (hi : i < p - 1) : g ^ i % p ≠ 1 % p := by
 intro h
 have hg := pow_gcd i (p - 1) h hone
 have d1 := Nat.gcd_dvd_left i (p - 1)
 have d2 := Nat.gcd_dvd_right i (p - 1)
 generalize Nat.gcd i (p - 1) = d at hg d1 d2
 obtain ⟨m,hm⟩ := d2
 have hd : d ≤ i := Nat.le_of_dvd h0 d1
 have hm1 : 1 < m := by
  rcases m with _|_|m
  ·omega
  ·omega
  ·omega
 obtain ⟨q,hq,k,hk⟩ := prime_factor m hm1
 have hqm : q ∈ fs := hq.dvd_prod fs hfs (by rw [← hprod,hm,hk];exact ⟨d * k,by rw [Nat.mul_left_comm]⟩)
 refine hno q hqm ?_
 have : (p - 1) / q = d * k := by
  rw [hm,hk,Nat.mul_left_comm,Nat.mul_div_cancel_left _ (by have := hq.1;omega)]
 rw [this]
 exact pow_mul_mod hg k
include hp in
theorem all_powers (hord : ∀ i,0 < i → i < p - 1 → g ^ i % p ≠ 1 % p) (hone : g ^ (p - 1) % p = 1 % p) (a : Nat) (h0 : 0 < a) (ha : a < p) : ∃ i,g ^ i % p = a := by
 have unit : ∀ i,i ≤ p - 1 → g ^ i * g ^ (p - 1 - i) % p = 1 % p := by
  intro i hi;rw [← Nat.pow_add,show i + (p - 1 - i) = p - 1 from by omega];exact hone
 have nz : ∀ i,i < p - 1 → g ^ i % p ≠ 0 := by
  intro i hi h
  have := unit i (by omega)
  rw [Nat.mul_mod,h,Nat.zero_mul,Nat.zero_mod,Nat.mod_eq_of_lt hp] at this
  omega
 have inj : ∀ i j,i < j → j < p - 1 → g ^ i % p ≠ g ^ j % p := by
  intro i j hij hj h
  refine hord (j - i) (by omega) (by omega) ?_
  have e1 : g ^ j * g ^ (p - 1 - i) % p = 1 % p := by
   rw [Nat.mul_mod,← h,← Nat.mul_mod];exact unit i (by omega)
  have e2 : g ^ j * g ^ (p - 1 - i) = g ^ (p - 1) * g ^ (j - i) := by
   rw [← Nat.pow_add,← Nat.pow_add];congr 1;omega
  rw [e2,one_mul_mod hone] at e1
  exact e1
 obtain ⟨i,_,h2⟩ := pigeon (p - 1) (fun i => g ^ i % p - 1) (fun i h => by
   have := nz i h;have := Nat.mod_lt (g ^ i) (show 0 < p by omega);omega)
  (fun i j h1 h2 h => by
   have a1 := nz i h1
   have a2 := nz j h2
   have h : g ^ i % p = g ^ j % p := by omega
   rcases Nat.lt_trichotomy i j with h3|h3|h3
   ·exact absurd h (inj i j h3 h2)
   ·exact h3
   ·exact absurd h.symm (inj j i h3 h1)) (a - 1) (by omega)
 refine ⟨i,?_⟩
 have := nz i ‹_›
 omega
include hp in
theorem fermat_of (hord : ∀ i,0 < i → i < p - 1 → g ^ i % p ≠ 1 % p) (hone : g ^ (p - 1) % p = 1 % p) (a : Nat) (h0 : 0 < a) (ha : a < p) : a ^ (p - 1) % p = 1 % p := by
 obtain ⟨i,hi⟩ := all_powers hp hord hone a h0 ha
 rw [← hi,pow_mod',← Nat.pow_mul,Nat.mul_comm]
 exact pow_mul_mod hone i
end order
structure Good (p : Nat) : Prop where
 big : 31 ≤ p
 small : p < 2305843009213693952
 fermat : ∀ a,0 < a → a < p → a ^ (p - 1) % p = 1
def certB (p g : Nat) (fs : List Nat) : Bool :=
 decide (31 ≤ p) && decide (p < 2305843009213693952) && fs.all prmB && decide (p - 1 = prod fs) && decide (pw p 64 g (p - 1) 1 % p = 1 % p) && fs.all fun q => decide (pw p 64 g ((p - 1) / q) 1 % p ≠ 1 % p)
theorem Good.of_cert {p g : Nat} {fs : List Nat} (h : certB p g fs = true) : Good p := by
 simp only [certB,Bool.and_eq_true,decide_eq_true_eq,List.all_eq_true] at h
 obtain ⟨⟨⟨⟨⟨h1,h2⟩,h3⟩,h4⟩,h5⟩,h6⟩ := h
 have hb : ∀ n,n < p → n < 2 ^ 64 := fun n hn => by
  have : (2 : Nat) ^ 64 = 18446744073709551616 := by decide
  omega
 have hone : g ^ (p - 1) % p = 1 % p := by
  rw [pw_spec p 64 g (p - 1) 1 (hb _ (by omega)),Nat.one_mul] at h5;exact h5
 refine ⟨h1,h2,fun a h0 ha => ?_⟩
 have := fermat_of (p := p) (g := g) (by omega) (order_full fs (fun x hx => .of_bool (h3 x hx)) h4 (fun q hq => by
  have := h6 q hq
  rw [pw_spec p 64 g _ 1 (hb _ (by have := Nat.div_le_self (p - 1) q;omega)),Nat.one_mul] at this
  exact this) hone) hone a h0 ha
 rw [this,Nat.mod_eq_of_lt (by omega)]
theorem good31 : Good 31 := Good.of_cert (g := 3) (fs := [2,3,5]) (by decide +kernel)
theorem good127 : Good 127 := Good.of_cert (g := 3) (fs := [2,3,3,7]) (by decide +kernel)
theorem good8191 : Good 8191 := Good.of_cert (g := 17) (fs := [2,3,3,5,7,13]) (by decide +kernel)
theorem good131071 : Good 131071 := Good.of_cert (g := 3) (fs := [2,3,5,17,257]) (by decide +kernel)
theorem good524287 : Good 524287 := Good.of_cert (g := 3) (fs := [2,3,3,3,7,19,73]) (by decide +kernel)
theorem good2147483647 : Good 2147483647 := Good.of_cert (g := 7) (fs := [2,3,3,7,11,31,151,331]) (by decide +kernel)
theorem good2305843009213693951 : Good 2305843009213693951 := Good.of_cert (g := 37) (fs := [2,3,3,5,5,7,11,13,31,41,61,151,331,1321]) (by decide +kernel)
end Go.Proofs.Ytmdoaijkaaaglaa.Fd
end
section
namespace Go.Proofs.Ytmdoaijkaaaglaa.E
open Go.RowKit Go.Proofs.Ytmdoaijkaaaglaa.Pr Go.Proofs.Ytmdoaijkaaaglaa.Hw Go.Proofs.YtmdoaijkaaaglaaW.PrintWords Go.Proofs.YtmdoaijkaaaglaaW.PrintLast Go.Proofs.YtmdoaijkaaaglaaW.PrintMore Go.Proofs.Ytmdoaijkaaaglaa.Fd
def Sup (p : Int) (q : Nat) : Prop :=
 (p = 31 ∧ q = 5) ∨ (p = 127 ∧ q = 7) ∨ (p = 8191 ∧ q = 13) ∨ (p = 131071 ∧ q = 17) ∨ (p = 524287 ∧ q = 19) ∨ (p = 2147483647 ∧ q = 31) ∨ (p = 2305843009213693951 ∧ q = 61)
def Supp (p : Int) : Prop := ∃ q,Sup p q
theorem Sup.width {p : Int} {q : Nat} (h : Sup p q) : Ev (fun k => field_width.f k p) (q : Int) := by
 refine Ev.of (field_width.mono p) (k := 3) ?_
 rcases h with ⟨rfl,rfl⟩|⟨rfl,rfl⟩|⟨rfl,rfl⟩|⟨rfl,rfl⟩|⟨rfl,rfl⟩|⟨rfl,rfl⟩|⟨rfl,rfl⟩ <;> kernel_rfl
theorem Sup.eq {p : Int} {q : Nat} (h : Sup p q) : p = 2 ^ q - 1 := by
 rcases h with ⟨rfl,rfl⟩|⟨rfl,rfl⟩|⟨rfl,rfl⟩|⟨rfl,rfl⟩|⟨rfl,rfl⟩|⟨rfl,rfl⟩|⟨rfl,rfl⟩ <;> rfl
theorem Sup.q5 {p : Int} {q : Nat} (h : Sup p q) : 5 ≤ q ∧ q ≤ 61 := by unfold Sup at h;omega
theorem Sup.bd {p : Int} {q : Nat} (h : Sup p q) : 31 ≤ p ∧ p ≤ 2305843009213693951 := by unfold Sup at h;omega
theorem Supp.bd {p : Int} (h : Supp p) : 31 ≤ p ∧ p ≤ 2305843009213693951 := h.elim fun _ h => h.bd
theorem Supp.good {p : Int} (h : Supp p)  : Fd.Good p.toNat := by
 obtain ⟨q,h⟩ := h
 rcases h with ⟨rfl,_⟩|⟨rfl,_⟩|⟨rfl,_⟩|⟨rfl,_⟩|⟨rfl,_⟩|⟨rfl,_⟩|⟨rfl,_⟩
 ·exact good31
 ·exact good127
 ·exact good8191
 ·exact good131071
 ·exact good524287
 ·exact good2147483647
 ·exact good2305843009213693951
theorem wrapU (n : Int) : IntKind.u64.wrap n = n % 18446744073709551616 := by simp [IntKind.wrap,IntKind.bits,IntKind.signed]
theorem wrapU_id {n : Int} (h0 : 0 ≤ n) (h1 : n < 18446744073709551616) : IntKind.u64.wrap n = n := by rw [wrapU];exact Int.emod_eq_of_lt h0 h1
theorem pow_le_61 {q : Nat} (hq : q ≤ 61) : 2 ^ q ≤ 2305843009213693952 := by
 have : 2 ^ q ≤ 2 ^ 61 := Nat.pow_le_pow_right (by decide) hq
 have e : (2 : Nat) ^ 61 = 2305843009213693952 := by decide
 omega
theorem and_mask (x : Nat) (hx : x < 18446744073709551616) (q : Nat) (hq : q ≤ 61) : Go.bits .and .u64 (x : Int) ((2 ^ q - 1 : Nat) : Int) = ((x % 2 ^ q : Nat) : Int) := by
 have := pow_le_61 hq
 rw [u64_and_nat x (2 ^ q - 1) hx (by omega),Nat.and_two_pow_sub_one_eq_mod]
theorem or_part (hi lo : Nat) (h1 : hi < 18446744073709551616) (h2 : lo < 18446744073709551616) (q : Nat) (hq : 5 ≤ q) (hq' : q ≤ 61) :
  Go.bits .or .u64 ((lo / 2 ^ q : Nat) : Int) ((hi * 2 ^ (64 - q) % 18446744073709551616 : Nat) : Int) = (((hi * 18446744073709551616 + lo) / 2 ^ q % 18446744073709551616 : Nat) : Int) := by
 have e64 : (18446744073709551616 : Nat) = 2 ^ (64 - q) * 2 ^ q := by
  rw [← Nat.pow_add,show 64 - q + q = 64 from by omega]
 have hlo : lo / 2 ^ q < 2 ^ (64 - q) := by rw [Nat.div_lt_iff_lt_mul (Nat.two_pow_pos _),← e64];exact h2
 rw [u64_or_nat _ _ (by have := Nat.div_le_self lo (2 ^ q);omega) (Nat.mod_lt _ (by decide))]
 congr 1
 have e1 : hi * 2 ^ (64 - q) % 18446744073709551616 = 2 ^ (64 - q) * (hi % 2 ^ q) := by
  rw [e64,Nat.mul_comm hi,Nat.mul_mod_mul_left]
 have e2 : (hi * 18446744073709551616 + lo) / 2 ^ q = 2 ^ (64 - q) * hi + lo / 2 ^ q := by
  rw [e64,← Nat.mul_assoc,Nat.add_comm,Nat.add_mul_div_right _ _ (Nat.two_pow_pos _),Nat.add_comm,Nat.mul_comm hi]
 have hm := Nat.mod_lt hi (Nat.two_pow_pos q)
 have e3 := Nat.div_add_mod hi (2 ^ q)
 rw [e1,e2,Nat.or_comm,← Nat.two_pow_add_eq_or_of_lt hlo]
 generalize hi % 2 ^ q = m at *
 generalize lo / 2 ^ q = l at *
 have e4 : 2 ^ (64 - q) * hi + l = 18446744073709551616 * (hi / 2 ^ q) + (2 ^ (64 - q) * m + l) := by
  generalize hi / 2 ^ q = d at *
  rw [← e3,Nat.mul_add,← Nat.mul_assoc,← e64,Nat.add_assoc]
 have e5 : 2 ^ (64 - q) * m + l < 18446744073709551616 := by
  have : 2 ^ (64 - q) * (m + 1) ≤ 2 ^ (64 - q) * 2 ^ q := Nat.mul_le_mul_left _ hm
  rw [← e64,Nat.mul_add] at this
  omega
 rw [e4,Nat.mul_add_mod,Nat.mod_eq_of_lt e5]
theorem step_mod (N q : Nat) : (N / 2 ^ q + N % 2 ^ q) % (2 ^ q - 1) = N % (2 ^ q - 1) := by
 have h := Nat.div_add_mod N (2 ^ q)
 have h2 : 0 < 2 ^ q := Nat.two_pow_pos q
 generalize N / 2 ^ q = d at *
 generalize N % 2 ^ q = m at *
 have : N = (2 ^ q - 1) * d + (d + m) := by
  rw [← h,Nat.sub_mul,Nat.one_mul]
  have : d ≤ 2 ^ q * d := Nat.le_mul_of_pos_left d h2
  omega
 rw [this,Nat.mul_add_mod]
theorem shrN (x q : Nat) (hq : q ≤ 64) : shr .u64 (x : Int) (q : Int) = ((x / 2 ^ q : Nat) : Int) := by
 unfold shr
 rw [show min (q : Int).toNat IntKind.u64.bits = q from by simp [IntKind.bits];omega]
 simp
theorem shlN (x q : Nat) (hq : q ≤ 64) : shl .u64 (x : Int) (q : Int) = ((x * 2 ^ q % 18446744073709551616 : Nat) : Int) := by
 unfold shl
 rw [show min (q : Int).toNat IntKind.u64.bits = q from by simp [IntKind.bits];omega,wrapU]
 simp
theorem fold_l0 {p : Int} {q : Nat} (h : Sup p q) : ∀ (N hi lo : Nat),hi < 18446744073709551616 → lo < 18446744073709551616 → hi * 18446744073709551616 + lo = N →
  Ev (fun k => field_fold.l0 k p hi lo q) ((N % p.toNat : Nat) : Int) := by
 have hq := h.q5
 have hp := h.eq
 have hpow := pow_le_61 hq.2
 have hpn : p = ((2 ^ q - 1 : Nat) : Int) := by
  rw [hp,Int.natCast_sub (Nat.one_le_two_pow)]
  simp
 have hpn' : p.toNat = 2 ^ q - 1 := by rw [hpn];rfl
 have h32 : 2 ^ 5 ≤ 2 ^ q := Nat.pow_le_pow_right (n := 2) (by decide) hq.1
 intro N
 induction N using Nat.strongRecOn with
 | _ N ih =>
  intro hi lo h1 h2 hN
  have hround : 2 ^ q ≤ N → Ev (fun k => (bits_Add64.f (Go.bits .or .u64 (shr .u64 lo q) (shl .u64 hi (IntKind.u64.wrap (64 - q)))) (Go.bits .and .u64 lo p) 0).bind fun bt239 => (field_fold.l0 k p (IntKind.u64.wrap ((shr .u64 hi q) + bt239.2)) bt239.1 q)) ((N % p.toNat : Nat) : Int) := by
   intro hc
   have e64 : (18446744073709551616 : Nat) = 2 ^ (64 - q) * 2 ^ q := by
    rw [← Nat.pow_add,show 64 - q + q = 64 from by omega]
   have hw : IntKind.u64.wrap (64 - q) = ((64 - q : Nat) : Int) := by rw [wrapU_id (by omega) (by omega)];omega
   have eA := or_part hi lo h1 h2 q hq.1 hq.2
   have eB : lo % 2 ^ q = N % 2 ^ q := by rw [← hN,e64,← Nat.mul_assoc,Nat.mul_comm _ (2 ^ q),Nat.mul_add_mod]
   have eC : hi / 2 ^ q = N / 2 ^ q / 18446744073709551616 := by
    rw [Nat.div_div_eq_div_mul,Nat.mul_comm,← Nat.div_div_eq_div_mul,← hN,Nat.mul_comm hi,Nat.mul_add_div (by decide),Nat.div_eq_of_lt h2,Nat.add_zero]
   rw [hw,shrN lo q (by omega),shrN hi q (by omega),shlN hi _ (by omega),eA,hN,hpn,and_mask lo h2 q hq.2,eB,eC]
   have hN128 : N < 18446744073709551616 * 18446744073709551616 := by rw [← hN];omega
   have hdm := Nat.div_add_mod N (2 ^ q)
   have hmlt := Nat.mod_lt N (Nat.two_pow_pos q)
   have hstep := step_mod N q
   have hd1 : 1 ≤ N / 2 ^ q := (Nat.le_div_iff_mul_le (Nat.two_pow_pos q)).2 (by omega)
   rw [← hpn,hpn'] at *
   have hlt : N / 2 ^ q + N % 2 ^ q < N := by
    have : 2 * (N / 2 ^ q) ≤ 2 ^ q * (N / 2 ^ q) := Nat.mul_le_mul_right _ (by omega)
    omega
   rw [← hstep]
   generalize N / 2 ^ q = d at *
   generalize N % 2 ^ q = m at *
   have hb : bits_Add64.f ((d % 18446744073709551616 : Nat) : Int) (m : Int) 0 = some ((((d % 18446744073709551616 + m) % 18446744073709551616 : Nat) : Int),(((d % 18446744073709551616 + m) / 18446744073709551616 : Nat) : Int)) := by
    unfold bits_Add64.f
    rw [if_pos (by omega),if_pos (by omega),if_pos (by omega),if_pos (by omega)]
    simp
   rw [hb]
   simp only [Option.bind_some]
   have e9 : IntKind.u64.wrap (((d / 18446744073709551616 : Nat) : Int) + (((d % 18446744073709551616 + m) / 18446744073709551616 : Nat) : Int)) = (((d + m) / 18446744073709551616 : Nat) : Int) := by
    rw [wrapU_id (by omega) (by omega)];omega
   rw [e9,show (d % 18446744073709551616 + m) % 18446744073709551616 = (d + m) % 18446744073709551616 from by omega]
   have := ih (d + m) hlt ((d + m) / 18446744073709551616) ((d + m) % 18446744073709551616) (by omega) (by omega) (Nat.div_add_mod' _ _)
   rwa [hpn'] at this
  by_cases hhi : hi = 0
  ·subst hhi
   by_cases hlo : (lo : Int) > p
   ·refine Ev.step (fun k => ?_) (hround (by omega))
    simp only [field_fold.l0]
    rw [if_pos (by rfl),if_pos hlo,if_pos (by omega),if_pos (by rw [wrapU_id (by omega) (by omega)];omega)]
   ·refine Ev.of (fun k => (field_fold.mono_l k) _ _ _ _) (k := 1) ?_
    simp only [field_fold.l0]
    rw [if_pos (by rfl),if_neg hlo]
    have hN' : N = lo := by omega
    by_cases e : (lo : Int) = p
    ·rw [if_pos e,hN',show p.toNat = lo from by omega,Nat.mod_self];rfl
    ·rw [if_neg e,hN',Nat.mod_eq_of_lt (by omega)]
  ·refine Ev.step (fun k => ?_) (hround (by omega))
   simp only [field_fold.l0]
   rw [if_neg (by omega),if_pos (by omega),if_pos (by rw [wrapU_id (by omega) (by omega)];omega)]
theorem fold_ev {p : Int} (h : Supp p) (hi lo : Int) (h0 : 0 ≤ hi) (h1 : hi < 18446744073709551616) (h2 : 0 ≤ lo) (h3 : lo < 18446744073709551616) :
  Ev (fun k => field_fold.f k p hi lo) ((hi * 18446744073709551616 + lo) % p) := by
 obtain ⟨q,h⟩ := h
 have := h.bd
 refine (Ev.bind (f := fun k t => field_fold.l0 k p hi lo t) h.width (a := q) ?_).congr fun k => rfl
 have := fold_l0 h _ hi.toNat lo.toNat (by omega) (by omega) rfl
 rw [Int.toNat_of_nonneg h0,Int.toNat_of_nonneg h2] at this
 have e : (((hi.toNat * 18446744073709551616 + lo.toNat) % p.toNat : Nat) : Int) = (hi * 18446744073709551616 + lo) % p := by
  rw [Int.natCast_emod,Int.natCast_add,Int.natCast_mul,Int.toNat_of_nonneg h0,Int.toNat_of_nonneg h2,Int.toNat_of_nonneg (by omega)];rfl
 rwa [e] at this
def Res (p a : Int) : Prop := 0 ≤ a ∧ a < p
theorem Res.mod {p : Int} (h : Supp p) (a : Int) : Res p (a % p) := by
 have := h.bd
 exact ⟨Int.emod_nonneg _ (by omega),Int.emod_lt_of_pos _ (by omega)⟩
theorem Res.eq {p a : Int} (h : Res p a) : a % p = a := Int.emod_eq_of_lt h.1 h.2
theorem add_ev {p : Int} (h : Supp p) {a b : Int} (ha : Res p a) (hb : Res p b) : Ev (fun k => field_Add.f k p a b) ((a + b) % p) := by
 have := h.bd
 obtain ⟨a0,a1⟩ := ha
 obtain ⟨b0,b1⟩ := hb
 have e := fold_ev h 0 (a + b) (by omega) (by omega) (by omega) (by omega)
 rw [Int.zero_mul,Int.zero_add] at e
 refine (Ev.bind (f := fun k t => some t) e (Ev.now _)).congr fun k => ?_
 show (field_fold.f k p 0 (IntKind.u64.wrap (a + b))).bind _ = _
 rw [wrapU_id (by omega) (by omega)]
theorem neg_eq {p : Int} (h : Supp p) {a : Int} (ha : Res p a) : field_Neg.f p a = some (-a % p) := by
 have := h.bd
 obtain ⟨a0,a1⟩ := ha
 unfold field_Neg.f
 by_cases e : a = 0
 ·rw [if_pos e,e];simp
 ·rw [if_neg e,wrapU_id (by omega) (by omega),show -a = (p - a) + p * (-1) from by omega,Int.add_mul_emod_self_left,Int.emod_eq_of_lt (by omega) (by omega)]
theorem sub_ev {p : Int} (h : Supp p) {a b : Int} (ha : Res p a) (hb : Res p b) : Ev (fun k => field_Sub.f k p a b) ((a - b) % p) := by
 have e := add_ev h ha (Res.mod h (-b))
 rw [show (a + -b % p) % p = (a - b) % p from by rw [Int.add_emod,Int.emod_emod_of_dvd _ (Int.dvd_refl p),← Int.add_emod,Int.sub_eq_add_neg]] at e
 refine (Ev.bind (f := fun k t => some t) e (Ev.now _)).congr fun k => ?_
 show (field_Neg.f p b).bind _ = _
 rw [neg_eq h hb]
 rfl
theorem mul64_eq {a b : Int} (a0 : 0 ≤ a) (a1 : a < 2305843009213693952) (b0 : 0 ≤ b) (b1 : b < 2305843009213693952) :
  bits_Mul64.f a b = some (a * b / 18446744073709551616,a * b % 18446744073709551616) := by
 have hA : Go.bits .and .u64 a 4294967295 = a % 4294967296 := by
  have := and_mask a.toNat (by omega) 32 (by decide)
  rw [Int.toNat_of_nonneg a0] at this
  rw [show (4294967295 : Int) = ((2 ^ 32 - 1 : Nat) : Int) from by decide,this]
  omega
 have hB : Go.bits .and .u64 b 4294967295 = b % 4294967296 := by
  have := and_mask b.toNat (by omega) 32 (by decide)
  rw [Int.toNat_of_nonneg b0] at this
  rw [show (4294967295 : Int) = ((2 ^ 32 - 1 : Nat) : Int) from by decide,this]
  omega
 have ea : a = 4294967296 * (a / 4294967296) + a % 4294967296 := by omega
 have eb : b = 4294967296 * (b / 4294967296) + b % 4294967296 := by omega
 have x1 : 0 ≤ a / 4294967296 ∧ a / 4294967296 < 536870912 := by omega
 have y1 : 0 ≤ b / 4294967296 ∧ b / 4294967296 < 536870912 := by omega
 have x0 : 0 ≤ a % 4294967296 ∧ a % 4294967296 < 4294967296 := by omega
 have y0 : 0 ≤ b % 4294967296 ∧ b % 4294967296 < 4294967296 := by omega
 unfold bits_Mul64.f
 rw [hA,hB]
 have e : a * b = 18446744073709551616 * (a / 4294967296 * (b / 4294967296)) + 4294967296 * (a / 4294967296 * (b % 4294967296)) + 4294967296 * (a % 4294967296 * (b / 4294967296)) + a % 4294967296 * (b % 4294967296) := by
  generalize a / 4294967296 = u at *
  generalize a % 4294967296 = v at *
  generalize b / 4294967296 = s at *
  generalize b % 4294967296 = t at *
  subst ea eb
  grind
 have bd : ∀ {u v U V : Int},0 ≤ u ∧ u < U → 0 ≤ v ∧ v < V → 0 ≤ u * v ∧ u * v ≤ (U - 1) * (V - 1) := by
  intro u v U V hu hv
  exact ⟨Int.mul_nonneg hu.1 hv.1,Int.mul_le_mul (by omega) (by omega) hv.1 (by omega)⟩
 have b1 := bd x1 y1
 have b2 := bd x1 y0
 have b3 := bd x0 y1
 have b4 := bd x0 y0
 have hm : IntKind.u64.wrap (a * b) = a * b % 18446744073709551616 := wrapU _
 rw [hm]
 generalize a * b = E at *
 generalize a / 4294967296 * (b / 4294967296) = D at *
 generalize a / 4294967296 * (b % 4294967296) = B at *
 generalize a % 4294967296 * (b / 4294967296) = C at *
 generalize a % 4294967296 * (b % 4294967296) = A at *
 have m32 : ∀ x : Int,0 ≤ x → x < 18446744073709551616 → Go.bits .and .u64 x 4294967295 = x % 4294967296 := by
  intro x h0 h1
  have := and_mask x.toNat (by omega) 32 (by decide)
  rw [Int.toNat_of_nonneg h0] at this
  rw [show (4294967295 : Int) = ((2 ^ 32 - 1 : Nat) : Int) from by decide,this]
  omega
 rw [wrapU_id (n := A) (by omega) (by omega),wrapU_id (n := B) (by omega) (by omega),wrapU_id (n := C) (by omega) (by omega),wrapU_id (n := D) (by omega) (by omega)]
 rw [wrapU_id (n := B + A / 4294967296) (by omega) (by omega),m32 _ (by omega) (by omega)]
 rw [wrapU_id (n := D + (B + A / 4294967296) / 4294967296) (by omega) (by omega),wrapU_id (n := (B + A / 4294967296) % 4294967296 + C) (by omega) (by omega),wrapU_id (by omega) (by omega)]
 congr 2
 omega
theorem mul_ev {p : Int} (h : Supp p) {a b : Int} (ha : Res p a) (hb : Res p b) : Ev (fun k => field_Mul.f k p a b) (a * b % p) := by
 have := h.bd
 obtain ⟨a0,a1⟩ := ha
 obtain ⟨b0,b1⟩ := hb
 have hn := Int.mul_nonneg a0 b0
 have hl : a * b ≤ 2305843009213693951 * 2305843009213693951 := Int.mul_le_mul (by omega) (by omega) b0 (by omega)
 have e := fold_ev h (a * b / 18446744073709551616) (a * b % 18446744073709551616) (by omega) (by omega) (by omega) (by omega)
 rw [Int.mul_comm (a * b / 18446744073709551616),Int.mul_ediv_add_emod] at e
 refine (Ev.bind (f := fun k t => some t) e (Ev.now _)).congr fun k => ?_
 show (bits_Mul64.f a b).bind _ = _
 rw [mul64_eq a0 (by omega) b0 (by omega)]
 rfl
theorem and_one (n : Int) (h0 : 0 ≤ n) (h1 : n < 18446744073709551616) : Go.bits .and .u64 n 1 = n % 2 := by
 have := and_mask n.toNat (by omega) 1 (by decide)
 rw [Int.toNat_of_nonneg h0] at this
 rw [show (1 : Int) = ((2 ^ 1 - 1 : Nat) : Int) from by decide,this]
 omega
theorem mulm {p a a' b b' : Int} (h : a % p = a' % p) (k : b % p = b' % p) : a * b % p = a' * b' % p := by rw [Int.mul_emod,h,k,← Int.mul_emod]
theorem modm (p a : Int) : a % p % p = a % p := Int.emod_emod_of_dvd _ (Int.dvd_refl p)
theorem pow_two_half (a : Int) (n : Nat) : a ^ n = (a * a) ^ (n / 2) * a ^ (n % 2) := by
 have h : a * a = a ^ 2 := by rw [Int.pow_succ,Int.pow_succ,Int.pow_zero,Int.one_mul]
 rw [h,← Int.pow_mul,← Int.pow_add];congr 1;omega
theorem pow_mod_base (a p : Int) : ∀ n : Nat,(a % p) ^ n % p = a ^ n % p
 | 0 => by rw [Int.pow_zero,Int.pow_zero]
 | n + 1 => by rw [Int.pow_succ,Int.pow_succ,Int.mul_emod,pow_mod_base a p n,Int.emod_emod_of_dvd _ (Int.dvd_refl p),← Int.mul_emod]
theorem pow_l0 {p : Int} (h : Supp p) : ∀ (n : Nat) (a out : Int),n < 18446744073709551616 → Res p a → Res p out → Ev (fun k => field_Pow.l0 k p a n out) (out * a ^ n % p) := by
 intro n
 induction n using Nat.strongRecOn with
 | _ n ih =>
  intro a out hn ha ho
  by_cases h0 : n = 0
  ·subst h0
   refine Ev.of (fun k => (field_Pow.mono_l k) _ _ _ _) (k := 1) ?_
   simp only [field_Pow.l0]
   rw [if_neg (by omega),Int.pow_zero,Int.mul_one,ho.eq]
  ·have hsq := mul_ev h ha ha
   have hrec := fun out' ho' => ih (n / 2) (by omega) (a * a % p) out' (by omega) (Res.mod h _) ho'
   have eh := pow_two_half a n
   have e1 := pow_mod_base (a * a) p (n / 2)
   by_cases hodd : n % 2 = 1
   ·refine Ev.step (f := fun k => (field_Mul.f k p out a).bind fun t244 => ((field_Mul.f k p a a).bind fun t245 => (field_Pow.l0 k p t245 ((n / 2 : Nat) : Int) t244))) (fun k => ?_) ?_
    ·simp only [field_Pow.l0]
     rw [if_pos (by omega),if_pos (by rw [and_one _ (by omega) (by omega)];omega)]
     rfl
    ·refine Ev.bind (mul_ev h ho ha) (Ev.bind hsq ?_)
     have := hrec (out * a % p) (Res.mod h _)
     rw [show out * a ^ n % p = out * a % p * (a * a % p) ^ (n / 2) % p from ?_]
     ·exact this
     ·rw [mulm (Int.emod_emod_of_dvd (out * a) (Int.dvd_refl p)) e1,eh,hodd,Int.pow_one,Int.mul_assoc,Int.mul_comm a ((a * a) ^ (n / 2))]
   ·refine Ev.step (f := fun k => (field_Mul.f k p a a).bind fun t246 => (field_Pow.l0 k p t246 ((n / 2 : Nat) : Int) out)) (fun k => ?_) ?_
    ·simp only [field_Pow.l0]
     rw [if_pos (by omega),if_neg (by rw [and_one _ (by omega) (by omega)];omega)]
     rfl
    ·refine Ev.bind hsq ?_
     have := hrec out ho
     rw [show out * a ^ n % p = out * (a * a % p) ^ (n / 2) % p from ?_]
     ·exact this
     ·rw [mulm (a := out) rfl e1,eh,show n % 2 = 0 from by omega,Int.pow_zero,Int.mul_one]
def invp (p a : Int) : Int := a ^ (p - 2).toNat % p
theorem inv_ev {p : Int} (h : Supp p) {a : Int} (ha : Res p a) (h0 : a ≠ 0) : Ev (fun k => field_Inverse.f k p a) (invp p a,0) := by
 have := h.bd
 have e := pow_l0 h (p - 2).toNat a 1 (by omega) ha ⟨by omega,by omega⟩
 rw [Int.one_mul,show ((p - 2).toNat : Int) = p - 2 from Int.toNat_of_nonneg (by omega)] at e
 refine (Ev.bind (f := fun k t => some (t,0)) e (Ev.now _)).congr fun k => ?_
 show (if a = 0 then _ else (field_Pow.f k p a (IntKind.u64.wrap (p - 2))).bind _) = _
 rw [if_neg h0,wrapU_id (by omega) (by omega)]
 rfl
theorem inv_spec {p : Int} (h : Supp p) {a : Int} (ha : Res p a) (h0 : a ≠ 0) : a * invp p a % p = 1 := by
 have := h.bd
 obtain ⟨a0,a1⟩ := ha
 have e := h.good.fermat a.toNat (by omega) (by omega)
 unfold invp
 rw [mulm rfl (modm p _),Int.mul_comm,← Int.pow_succ,show (p - 2).toNat.succ = p.toNat - 1 from by omega]
 have e2 : ((a.toNat ^ (p.toNat - 1) % p.toNat : Nat) : Int) = 1 := by rw [e];rfl
 rw [Int.natCast_emod,Int.natCast_pow,Int.toNat_of_nonneg a0,Int.toNat_of_nonneg (by omega)] at e2
 exact e2
theorem inv_res {p : Int} (h : Supp p) (a : Int) : Res p (invp p a) := Res.mod h _
theorem over_ev {p : Int} (h : Supp p) {a b : Int} (ha : Res p a) (hb : Res p b) (h0 : b ≠ 0) : Ev (fun k => interpolate_over.f k p a b) (a * invp p b % p) := by
 refine (Ev.bind (f := fun k (t : Int × Int) => (field_Mul.f k p a t.1).bind fun t119 => some t119) (inv_ev h hb h0) (Ev.bind (f := fun k t => some t) (mul_ev h ha (inv_res h b)) (Ev.now _))).congr fun k => rfl
end Go.Proofs.Ytmdoaijkaaaglaa.E
end
section
namespace Go.Proofs.Ytmdoaijkaaaglaa.Hw
open Go
section
variable {P : Program} {ops : Array Oper} {md : Region.Mode} {C : World → Prop}
def wpAnyLQ (P : Program) (md : Region.Mode) (ops : Array Oper) (C : World → Prop) (n : Nat) (L : Array Bool → Act → Prop) : Nat → Array Bool → Act → Prop
 | 0,listed,a => L listed a
 | f + 1,listed,a =>
  Region.ready md ops listed ≠ [] ∧ ∀ i ∈ Region.ready md ops listed,i < n ∧ qOp P ops C i (wpAnyLQ P md ops C n L f (listed.setIfInBounds i true)) a
theorem wpAny_of_headQ {n g : Nat} {L : Array Bool → Act → Prop} {Q' : Exit → Act → World → Prop} (hL : ∀ listed a w,C w → L listed a → wpAny P md ops Q' g listed a w) :
  ∀ (f : Nat) (listed : Array Bool) (a : Act) (w : World),C w → wpAnyLQ P md ops C n L f listed a → wpAny P md ops Q' (f + g) listed a w
 | 0,listed,a,w,hw,h => by rw [Nat.zero_add];exact hL _ _ _ hw h
 | f + 1,listed,a,w,hw,h => by
  rw [show f + 1 + g = (f + g) + 1 by omega]
  exact ⟨fun h0 => absurd h0 h.1,fun i hi => wpOp_of_qOp hw (fun a' w' hw' h' => wpAny_of_headQ hL f _ a' w' hw' h') (h.2 i hi).2⟩
theorem wpAnyLQ_first {n i : Nat} {oi : Oper} {v : Value} {L : Array Bool → Act → Prop} (hi : ops[i]? = some oi) (hsel : ∀ (j : Nat) (o : Oper) cs b,ops[j]? = some o → o.op ≠ .select cs b)
  (hs : Region.sinkB md ops n = true) (hc : Region.chainB md ops n = true) (hn : n < ops.size) (hin : i < n)
  (hdone : ∀ listed a,L listed a → ∀ j ∈ Region.ready md ops listed,n ≤ j) :
  ∀ (f : Nat) (listed : Array Bool) (a : Act),HeadInv md ops n listed →
   (∀ j oj,ops[j]? = some oj → j ≠ i → listed.getD j true = false → (∀ e ∈ oj.after,Region.binds md e = true → e.on ≠ i) → oi.apart ops oj = true) →
   i ∈ Region.ready md ops listed → YieldsIn P ops C oi v a →
   wpAnyLQ P md ops C n L f (listed.setIfInBounds i true) (a.put oi.dst v) → wpAnyLQ P md ops C n L (f + 1) listed a := by
 intro f
 induction f with
 | zero =>
  intro listed a inv _ hr hy H
  have hun := (mem_ready.1 hr).1
  refine ⟨fun h => (by rw [h] at hr;cases hr),fun j hj => ?_⟩
  have hjn : j < n := by
   rcases Nat.lt_or_ge j n with h|h
   ·exact h
   ·exact absurd hj (tail_waits hs hc hn inv _ i rfl hin hun j h)
  refine ⟨hjn,?_⟩
  by_cases hji : j = i
  ·subst hji;exact hy.qOp hi H
  ·have := hdone _ _ H j (ready_mono hj hji)
   omega
 | succ f ih =>
  intro listed a inv hfree hr hy H
  have hun := (mem_ready.1 hr).1
  refine ⟨fun h => (by rw [h] at hr;cases hr),fun j hj => ?_⟩
  have hjn : j < n := by
   rcases Nat.lt_or_ge j n with h|h
   ·exact h
   ·exact absurd hj (tail_waits hs hc hn inv _ i rfl hin hun j h)
  refine ⟨hjn,?_⟩
  by_cases hji : j = i
  ·subst hji;exact hy.qOp hi H
  ·have h1 := (H.2 j (ready_mono hj hji)).2
   obtain ⟨hjun,oj,hoj,hall⟩ := mem_ready.1 hj
   have hnot : ∀ e ∈ oj.after,Region.binds md e = true → e.on ≠ i := fun e he hb heq => by
    have h1 := hall e he hb
    rw [heq,getD_both hun] at h1
    cases h1
   have h2 := qOp_put hoj (hfree j oj hoj hji hjun hnot) (fun cs b => hsel i oi cs b hi) (fun cs b => hsel j oj cs b hoj) hy h1
   have hfree' : ∀ k ok,ops[k]? = some ok → k ≠ i → (listed.setIfInBounds j true).getD k true = false →
     (∀ e ∈ ok.after,Region.binds md e = true → e.on ≠ i) → oi.apart ops ok = true := fun k ok hk hki hun hno => by
    refine hfree k ok hk hki ?_ hno
    by_cases hjk : j = k
    ·subst hjk;exact hjun
    ·rw [getD_set_ne true hjk] at hun;exact hun
   refine qOp_mono (fun a' h3 => ih (listed.setIfInBounds j true) a' (inv.set hj hjn) hfree' (ready_mono hr (Ne.symm hji)) h3.1 ?_) h2
   rw [Array.setIfInBounds_comm _ _ hji]
   exact h3.2
theorem wpAnyLQ_lex {n g : Nat} {Lq : Act → Prop} (hsel : Region.noSelect ops = true) (hs : Region.sinkB md ops n = true) (hc : Region.chainB md ops n = true) (hn : n < ops.size) :
  ∀ (l : List Oper) (k : Nat) (listed : Array Bool) (a : Act),(∀ j,j < l.length → l[j]? = ops[k + j]?) → k + l.length = n → HeadInv md ops n listed →
  Region.lexHead md ops g l.length k listed = true → wpQuiet P ops C Lq l a →
  wpAnyLQ P md ops C n (fun listed' a' => Region.seqB md ops g n listed' = true ∧ Lq a') l.length listed a
 | [],k,listed,a,_,hk,_,hB,h => by
  have : k = n := by simpa using hk
  subst this
  exact ⟨by simpa [Region.lexHead] using hB,h⟩
 | o :: l,k,listed,a,hl,hk,inv,hB,h => by
  have h0 : ops[k]? = some o := by simpa using (hl 0 (by simp)).symm
  simp only [List.length_cons,Region.lexHead,Bool.and_eq_true] at hB
  obtain ⟨⟨hr,hf⟩,hB'⟩ := hB
  have hkn : k < n := by simp only [List.length_cons] at hk;omega
  have hr' : k ∈ Region.ready md ops listed := by simpa using hr
  have hst : qOp P ops C k (wpQuiet P ops C Lq l) a := by unfold qOp;simp only [h0];exact h
  obtain ⟨v,hy,hK⟩ := yieldsIn_of_qOp h0 hst
  exact wpAnyLQ_first h0 (Region.noSelect_spec hsel) hs hc hn hkn (fun listed' a' hL => seqB_ready hL.1) l.length listed a inv (Region.free_spec h0 hf) hr' hy
   (wpAnyLQ_lex hsel hs hc hn l (k + 1) _ _ (fun j hj => by have := hl (j + 1) (by simp;omega);simpa [Nat.add_assoc,Nat.add_comm 1 j] using this) (by simp only [List.length_cons] at hk;omega) (inv.set hr' hkn) hB' hK)
theorem wp_region_quiet_tail {id : Nat} {Q : Exit → Act → World → Prop} {a : Act} {w : World} {l : List Oper} (n : Nat) (hm : P.follows .mixedOrders = true) (hB : Region.lexTailB .any l.toArray n = true)
  (hC : C { w with drawn := w.drawn + 1 })
  (h : wpQuiet P l.toArray C (fun a' => ∀ w',C w' → wpList P l.toArray Q (l.drop n) a' w') (l.take n) a) : (Code.region id l.toArray true).wp P Q a w := by
 simp only [Region.lexTailB,Bool.and_eq_true,decide_eq_true_eq] at hB
 obtain ⟨⟨⟨⟨hsel,hn⟩,hs⟩,hc⟩,hlex⟩ := hB
 have hn' : n < l.length := by simpa using hn
 have htl : (l.take n).length = n := by simp;omega
 have hdl : (l.drop n).length = l.toArray.size - n := by simp
 have inv0 : HeadInv .any l.toArray n (Array.replicate l.toArray.size false) :=
  ⟨by simp,fun j oj _ hl => (by rw [getD_replicate_false] at hl;cases hl),fun t _ ht => getD_in (by simpa using ht) (getD_replicate_false _ _)⟩
 have H := wpAnyLQ_lex (md := .any) (g := l.toArray.size - n) hsel hs hc hn (l.take n) 0 _ a (fun j hj => by
  have hj' : j < n := by rw [htl] at hj;exact hj
  simp [hj']) (by simpa using htl) inv0 (by rw [htl];exact hlex) h
 refine wp_region_any hm ?_
 have := wpAny_of_headQ (Q' := Q) (g := l.toArray.size - n) (fun listed a' w' hw' hL => by
  have := wpAny_of_seq (md := .any) (Q' := Q) (l.drop n) n listed a' w' (fun j => by simp [List.getElem?_drop]) (by rw [hdl];exact hL.1) (hL.2 w' hw')
  rwa [hdl] at this) _ _ _ _ hC H
 rw [htl,show n + (l.toArray.size - n) = l.toArray.size by omega] at this
 exact this
theorem wp_region_quiet_tail_drawn {id : Nat} {Q : Exit → Act → World → Prop} {a : Act} {w : World} {l : List Oper} (n : Nat) (hm : P.follows .mixedOrders = true) (hB : Region.lexTailB .any l.toArray n = true)
  (h : wpQuiet P l.toArray (fun w' => ∃ m,w' = w.drewN m) (fun a' => ∀ w',(∃ m,w' = w.drewN m) → wpList P l.toArray Q (l.drop n) a' w') (l.take n) a) : (Code.region id l.toArray true).wp P Q a w :=
 wp_region_quiet_tail n hm hB ⟨1,rfl⟩ h
end
end Go.Proofs.Ytmdoaijkaaaglaa.Hw
end
section
namespace Go.Proofs.Ytmdoaijkaaaglaa.Hw
open Go.RowKit Go.Proofs.Ytmdoaijkaaaglaa.Pr Go.Proofs.YtmdoaijkaaaglaaW.PrintWords Go.Proofs.YtmdoaijkaaaglaaW.PrintLast Go.Proofs.YtmdoaijkaaaglaaW.PrintMore Go.Proofs.Ytmdoaijkaaaglaa.E
def grow (l : List Int) (n : Nat) : List Int := l ++ List.replicate (n - l.length) 0
def putL (p : Int) (l : List Int) (i : Nat) (k : Int) : List Int := (grow l (i + 1)).set i (((grow l (i + 1)).getD i 0 + k) % p)
structure SumAt (w : World) (base g : Nat) (p : Int) (v : Value) (l : List Int) : Prop where
 blk : w.heap[g]? = some (.cells #[.int .u64 p,v] 111 (0,0))
 own : Kd.R (Kd.int .u64) 22 w base (fun _ => True) v l
 ge : base ≤ g
theorem putL_length (p : Int) (l : List Int) (i : Nat) (k : Int) : (putL p l i k).length = max l.length (i + 1) := by unfold putL grow;simp;omega
theorem grow_res {p : Int} (hp : Supp p) {l : List Int} (hl : ∀ x ∈ l,Res p x) (n : Nat) : ∀ x ∈ grow l n,Res p x := by
 intro x hx
 have := hp.bd
 rcases List.mem_append.1 hx with h|h
 ·exact hl x h
 ·rw [(List.mem_replicate.1 h).2];exact ⟨by omega,by omega⟩
theorem putL_res {p : Int} (hp : Supp p) {l : List Int} (hl : ∀ x ∈ l,Res p x) (i : Nat) (k : Int) : ∀ x ∈ putL p l i k,Res p x := by
 intro x hx
 rcases List.mem_or_eq_of_mem_set hx with h|h
 ·exact grow_res hp hl _ x h
 ·rw [h];exact Res.mod hp _
def putsL (p : Int) (m l : List Int) : Nat → List Int
 | 0 => m
 | n + 1 => putL p (putsL p m l n) n (l.getD n 0)
theorem putsL_res {p : Int} (hp : Supp p) {m l : List Int} (hm : ∀ x ∈ m,Res p x) : ∀ n,∀ x ∈ putsL p m l n,Res p x
 | 0 => hm
 | n + 1 => putL_res hp (putsL_res hp hm n) _ _
theorem putsL_length (p : Int) (m l : List Int) : ∀ n,(putsL p m l n).length = max m.length n
 | 0 => by simp [putsL]
 | n + 1 => by rw [putsL,putL_length,putsL_length p m l n];omega
def rowL (p : Int) (m : List Int) (u : Int) (b : List Int) (i : Nat) : Nat → List Int
 | 0 => m
 | n + 1 => putL p (rowL p m u b i n) (i + n) (u * rd b n % p)
def mulsL (p : Int) (a b : List Int) : Nat → List Int
 | 0 => []
 | i + 1 => rowL p (mulsL p a b i) (rd a i) b i b.length
theorem rowL_res {p : Int} (hp : Supp p) {m : List Int} (hm : ∀ x ∈ m,Res p x) (u : Int) (b : List Int) (i : Nat) : ∀ n,∀ x ∈ rowL p m u b i n,Res p x
 | 0 => hm
 | n + 1 => putL_res hp (rowL_res hp hm u b i n) _ _
theorem rowL_length (p : Int) (m : List Int) (u : Int) (b : List Int) (i : Nat) : ∀ n,(rowL p m u b i n).length ≤ max m.length (i + n)
 | 0 => by simp [rowL];omega
 | n + 1 => by have := rowL_length p m u b i n;rw [rowL,putL_length];omega
theorem mulsL_res {p : Int} (hp : Supp p) (a b : List Int) : ∀ n,∀ x ∈ mulsL p a b n,Res p x
 | 0 => fun x hx => by cases hx
 | n + 1 => rowL_res hp (mulsL_res hp a b n) _ _ _ _
theorem mulsL_length (p : Int) (a b : List Int) : ∀ n,(mulsL p a b n).length ≤ n + b.length
 | 0 => by simp [mulsL]
 | n + 1 => by have := mulsL_length p a b n;have h := rowL_length p (mulsL p a b n) (rd a n) b n b.length;rw [mulsL];omega
end Go.Proofs.Ytmdoaijkaaaglaa.Hw
end
section
namespace Go.Proofs.Ytmdoaijkaaaglaa.Pr
open Go.RowKit Go.Proofs.YtmdoaijkaaaglaaW.PrintWords Go.Proofs.YtmdoaijkaaaglaaW.PrintLast Go.Proofs.YtmdoaijkaaaglaaW.PrintMore
attribute [local go_sem] max2_int min2_int max_two min_two max_three min_three max_four min_four
open Go.Proofs.Ytmdoaijkaaaglaa.Hw
def cmp_isNaN_uint64.f (a0 : Int) : Option (Bool) := some (a0 != a0)
set_option maxHeartbeats 8000000 in
set_option maxRecDepth 100000 in
theorem cmp_isNaN_uint64.calls (a0 : Int) (r : Bool) (w : World) (h : cmp_isNaN_uint64.f a0 = some r) :
  Calls Try.prog 120 #[.int .u64 a0] w fun e w' => e = .returned (.bool r) ∧ Drawn0 w w' := by
 have H : (some (a0 != a0)) = some r := h
 clear h
 obtain rfl := Option.some.inj H
 go_enter Try.func120,Try.ntmps120
 go_wp2
 go_ret
 exact ⟨by first|rfl|(simp;done)|(simp [*];done),by repeat (first|exact Drawn0.refl _|apply Drawn0.step)⟩
def cmp_Less_uint64.f (a0 : Int) (a1 : Int) : Option (Bool) := (cmp_isNaN_uint64.f a0).bind fun t236 => (if t236 = true then ((cmp_isNaN_uint64.f a1).bind fun t237 => (if t237 = true then (some (decide (a0 < a1))) else (some true))) else (some (decide (a0 < a1))))
set_option maxHeartbeats 8000000 in
set_option maxRecDepth 100000 in
theorem cmp_Less_uint64.calls (a0 : Int) (a1 : Int) (r : Bool) (w : World) (h : cmp_Less_uint64.f a0 a1 = some r) :
  Calls Try.prog 111 #[.int .u64 a0,.int .u64 a1] w fun e w' => e = .returned (.bool r) ∧ Drawn0 w w' := by
 have H : ((cmp_isNaN_uint64.f a0).bind fun t236 => (if t236 = true then ((cmp_isNaN_uint64.f a1).bind fun t237 => (if t237 = true then (some (decide (a0 < a1))) else (some true))) else (some (decide (a0 < a1))))) = some r := h
 clear h
 replace H := Option.bind_eq_some_iff.mp H
 obtain ⟨t236,A30,H⟩ := H
 try dsimp only at H
 have A3 := am A30
 clear A30
 by_cases c4 : t236 = true
 ·subst c4
  rw [if_pos rfl] at H
  replace H := Option.bind_eq_some_iff.mp H
  obtain ⟨t237,A50,H⟩ := H
  try dsimp only at H
  have A5 := am A50
  clear A50
  by_cases c6 : t237 = true
  ·subst c6
   rw [if_pos rfl] at H
   obtain rfl := Option.some.inj H
   go_enter Try.func111,Try.ntmps111
   go_wp2_with (first|((with_reducible refine gate_callee (f := 120) rfl ?_);refine goesL_ (some 6) rfl rfl Try.func120 (by kernel_rfl) rfl #[.int .u64 a0] rfl (by (try simp only [List.map_toArray,List.map_cons,List.map_nil]);first|done|rfl|(simp only [List.length_drop,List.length_take];rfl)) ?_;(with_reducible refine (cmp_isNaN_uint64.calls a0 true _ A3.out).mono ?_);rintro e w' ⟨rfl,⟨nd,rfl⟩⟩;refine ⟨_,rfl,?_⟩)|(go_at_call 120;(with_reducible refine (cmp_isNaN_uint64.calls a1 true _ A5.out).mono ?_);rintro e w' ⟨rfl,⟨nd,rfl⟩⟩))
   go_ret
   exact ⟨by first|rfl|(simp;done)|(simp [*];done),by repeat (first|exact Drawn0.refl _|apply Drawn0.step)⟩
  ·replace c6 := Bool.eq_false_iff.mpr c6
   subst c6
   rw [if_neg (show ¬ (false = true) by decide)] at H
   obtain rfl := Option.some.inj H
   go_enter Try.func111,Try.ntmps111
   go_wp2_with (first|((with_reducible refine gate_callee (f := 120) rfl ?_);refine goesL_ (some 6) rfl rfl Try.func120 (by kernel_rfl) rfl #[.int .u64 a0] rfl (by (try simp only [List.map_toArray,List.map_cons,List.map_nil]);first|done|rfl|(simp only [List.length_drop,List.length_take];rfl)) ?_;(with_reducible refine (cmp_isNaN_uint64.calls a0 true _ A3.out).mono ?_);rintro e w' ⟨rfl,⟨nd,rfl⟩⟩;refine ⟨_,rfl,?_⟩)|(go_at_call 120;(with_reducible refine (cmp_isNaN_uint64.calls a1 false _ A5.out).mono ?_);rintro e w' ⟨rfl,⟨nd,rfl⟩⟩))
   go_ret
   exact ⟨by first|rfl|(simp;done)|(simp [*];done),by repeat (first|exact Drawn0.refl _|apply Drawn0.step)⟩
 ·replace c4 := Bool.eq_false_iff.mpr c4
  subst c4
  rw [if_neg (show ¬ (false = true) by decide)] at H
  obtain rfl := Option.some.inj H
  go_enter Try.func111,Try.ntmps111
  go_wp2_with (first|((with_reducible refine gate_callee (f := 120) rfl ?_);refine goesL_ (some 6) rfl rfl Try.func120 (by kernel_rfl) rfl #[.int .u64 a0] rfl (by (try simp only [List.map_toArray,List.map_cons,List.map_nil]);first|done|rfl|(simp only [List.length_drop,List.length_take];rfl)) ?_;(with_reducible refine (cmp_isNaN_uint64.calls a0 false _ A3.out).mono ?_);rintro e w' ⟨rfl,⟨nd,rfl⟩⟩;refine ⟨_,rfl,?_⟩))
  go_ret
  exact ⟨by first|rfl|(simp;done)|(simp [*];done),by repeat (first|exact Drawn0.refl _|apply Drawn0.step)⟩
mutual
def slices_insertionSortOrdered_uint64.l0 : Nat → List Int → Int → Int → Int → Option (List Int)
 | 0,_,_,_,_ => none
 | k + 1,x0,x1,x2,x6 => if x6 < x2 then (slices_insertionSortOrdered_uint64.l1 k x0 x1 x2 x6 x6) else (some x0)
def slices_insertionSortOrdered_uint64.l1 : Nat → List Int → Int → Int → Int → Int → Option (List Int)
 | 0,_,_,_,_,_ => none
 | k + 1,x0,x1,x2,x6,x7 => if x7 > x1 then (if 0 ≤ x7 then (if x7 < (x0.length : Int) then (if 0 ≤ (wrap64 (x7 - 1)) then (if (wrap64 (x7 - 1)) < (x0.length : Int) then ((cmp_Less_uint64.f (rd x0 x7) (rd x0 (wrap64 (x7 - 1)))).bind fun t240 => (if t240 = true then (slices_insertionSortOrdered_uint64.l1 k ((x0.set (x7 : Int).toNat (rd x0 (wrap64 (x7 - 1)))).set ((wrap64 (x7 - 1)) : Int).toNat (rd x0 x7)) x1 x2 x6 (wrap64 (x7 - 1))) else (slices_insertionSortOrdered_uint64.l0 k x0 x1 x2 (wrap64 (x6 + 1))))) else (none)) else (none)) else (none)) else (none)) else (slices_insertionSortOrdered_uint64.l0 k x0 x1 x2 (wrap64 (x6 + 1)))
end
def slices_insertionSortOrdered_uint64.f (k : Nat) (l0 : List Int) (a1 : Int) (a2 : Int) : Option (List Int) := slices_insertionSortOrdered_uint64.l0 k l0 a1 a2 (wrap64 (a1 + 1))
def slices_insertionSortOrdered_uint64.T4 : Bool × List (List Nat × List Nat) := (true,[([],[]),([],[]),([0,1],[0,1]),([2],[2]),([3],[3]),([3],[3]),([4,5,3],[3,4,5]),([6,3],[3,6]),([3],[3]),([3],[3]),([9,3],[3,9]),([8,10,3],[3,8,10]),([11,3],[3,11]),([7,12,3,3],[3,7,12]),([3,13],[3,13])])
def slices_insertionSortOrdered_uint64.B4 : List Nat := [0,0,3,7,15,15,63,127,15,15,527,1807,3855,8191,16383]
theorem slices_insertionSortOrdered_uint64.tab4 : rtab .any (opsOf Try.f105 4) = slices_insertionSortOrdered_uint64.T4 := by kernel_rfl
theorem slices_insertionSortOrdered_uint64.bits4 : waitsOk slices_insertionSortOrdered_uint64.T4.2 slices_insertionSortOrdered_uint64.B4 = true := by kernel_rfl
def slices_insertionSortOrdered_uint64.T6 : Bool × List (List Nat × List Nat) := (true,[([],[]),([],[]),([],[]),([],[]),([3],[3]),([],[]),([],[]),([6],[6]),([5,7],[5,7]),([8],[8]),([],[]),([],[]),([10,11],[10,11]),([12],[12]),([0,1,0,1,5,6,7,8,9,13],[0,1]),([14,9,0,1,5,6,7,8,9,13],[9,14]),([2,4,0,1,2,3,4,5,6,7,8,9,10,11,12,13,14,15],[2,4]),([16,13,15,0,1,2,3,4,5,6,7,8,9,10,11,12,13,14,15],[13,16])])
def slices_insertionSortOrdered_uint64.B6 : List Nat := [0,0,0,0,8,0,0,64,224,480,0,0,3072,7168,16355,32739,65535,131071]
theorem slices_insertionSortOrdered_uint64.tab6 : rtab .any (opsOf Try.f105 6) = slices_insertionSortOrdered_uint64.T6 := by kernel_rfl
theorem slices_insertionSortOrdered_uint64.bits6 : waitsOk slices_insertionSortOrdered_uint64.T6.2 slices_insertionSortOrdered_uint64.B6 = true := by kernel_rfl
set_option maxHeartbeats 8000000 in
set_option maxRecDepth 100000 in
theorem slices_insertionSortOrdered_uint64.calls (k : Nat) (P0_ : Nat → Prop) (u9000_ : Value) (l0 : List Int) (a1 : Int) (a2 : Int) (r : List Int) (w0 w : World) (hB : Below w0.heap.size w0 w) (ho0 : Kd.R (Kd.int .u64) 22 w w0.heap.size P0_ u9000_ l0) (h : slices_insertionSortOrdered_uint64.f k l0 a1 a2 = some r) :
  Calls Try.prog 105 #[u9000_,.int .i64 a1,.int .i64 a2] w fun e w' => e = .returned (.tuple #[]) ∧ Kd.R (Kd.int .u64) 22 w' w0.heap.size (fun k_ => (P0_ k_ ∨ w.heap.size ≤ k_)) u9000_ r ∧ Below w0.heap.size w0 w' ∧ Kept w w' (fun k_ => P0_ k_) := by
 have HO0 := am (show Kd.R (Kd.int .u64) 22 w w0.heap.size (fun k_ => (P0_ k_ ∨ w.heap.size ≤ k_)) u9000_ l0 from Kd.R_mono ho0 (fun k_ hk => (.inl hk)))
 have HK := am (Kept.refl w (fun k_ => P0_ k_))
 have HW0 := am hB.size
 have HB := am hB
 clear hB
 have H : (slices_insertionSortOrdered_uint64.l0 k l0 a1 a2 (wrap64 (a1 + 1))) = some r := h
 clear h
 have H' := am H
 clear H
 go_enter Try.func105,Try.ntmps105
 go_wp2
 go_loopg [6] k (fun kq v6 w' => ∃ (x0_1 : List Int) (x6_1 : Int),v6 = .int .i64 x6_1 ∧ Aside0 (slices_insertionSortOrdered_uint64.l0 kq x0_1 a1 a2 x6_1 = some r) ∧ Aside0 (kq ≤ k) ∧ Aside0 (Kd.R (Kd.int .u64) 22 w' w0.heap.size (fun k_ => (P0_ k_ ∨ w.heap.size ≤ k_)) u9000_ x0_1) ∧ Aside0 (Kept w w' (fun k_ => P0_ k_)) ∧ Aside0 (Below w0.heap.size w0 w'))
 case atStart => exact ⟨(l0),(wrap64 (a1 + 1)),(by first|rfl|(simp;done)|(simp [*];done)),H',⟨Nat.le_refl _⟩,⟨by (with_reducible repeat (first|apply Kd.R_alloc|apply Kd.R_drewN|apply Kd.R_drew));exact HO0.out⟩,⟨by repeat (first|(with_reducible first|exact HK.out|apply Kept.alloc|apply Kept.drewN|apply Kept.drew)|exact HK.out)⟩,⟨bb HB⟩⟩
 case round =>
  clear H'
  try clear c1
  try clear p2
  obtain ⟨x0_1,x6_1,rfl,HA,HK1,HO_0,HK,HB⟩ := hrel
  cases gk with
  | zero => exact absurd HA.out (by simp [slices_insertionSortOrdered_uint64.l0])
  | succ k1 =>
   have H := HA.out
   clear HA
   simp only [slices_insertionSortOrdered_uint64.l0] at H
   by_cases c4 : x6_1 < a2
   ·rw [if_pos c4] at H
    have c4b0 : decide (x6_1 < a2) = true := decide_eq_true c4
    clear c4
    have H' := am H
    clear H
    go_wp2
    go_loopg [7] k1 (fun kq v7 w' => ∃ (x0_2 : List Int) (x7_2 : Int),v7 = .int .i64 x7_2 ∧ Aside0 (slices_insertionSortOrdered_uint64.l1 kq x0_2 a1 a2 x6_1 x7_2 = some r) ∧ Aside0 (kq ≤ k1) ∧ Aside0 (Kd.R (Kd.int .u64) 22 w' w0.heap.size (fun k_ => (P0_ k_ ∨ w.heap.size ≤ k_)) u9000_ x0_2) ∧ Aside0 (Kept w w' (fun k_ => P0_ k_)) ∧ Aside0 (Below w0.heap.size w0 w'))
    case atStart => exact ⟨(x0_1),(x6_1),(by first|rfl|(simp;done)|(simp [*];done)),H',⟨Nat.le_refl _⟩,⟨by (with_reducible repeat (first|apply Kd.R_alloc|apply Kd.R_drewN|apply Kd.R_drew));exact HO_0.out⟩,⟨by repeat (first|(with_reducible first|exact HK.out|apply Kept.alloc|apply Kept.drewN|apply Kept.drew)|exact HK.out)⟩,⟨bb HB⟩⟩
    case round =>
     clear H'
     try clear c1
     try clear p2
     try clear c4
     try clear c4b0
     try clear p2
     obtain ⟨x0_2,x7_2,rfl,HA,HK2,HO_0,HK,HB⟩ := hrel
     cases gk with
     | zero => exact absurd HA.out (by simp [slices_insertionSortOrdered_uint64.l1])
     | succ k2 =>
      have H := HA.out
      clear HA
      simp only [slices_insertionSortOrdered_uint64.l1] at H
      by_cases c5 : x7_2 > a1
      ·rw [if_pos c5] at H
       have c5b0 : decide (a1 < x7_2) = true := decide_eq_true c5
       clear c5
       by_cases c6 : 0 ≤ x7_2
       ·rw [if_pos c6] at H
        have c6b0 : decide (0 ≤ x7_2) = true := decide_eq_true c6
        clear c6
        by_cases c7 : x7_2 < (x0_2.length : Int)
        ·rw [if_pos c7] at H
         have c7b0 : decide (x7_2 < (x0_2.length : Int)) = true := decide_eq_true c7
         clear c7
         obtain ⟨ji8,hji8⟩ : ∃ j_ : Int,(wrap64 (x7_2 - 1)) = j_ := ⟨_,rfl⟩
         first|rw [hji8] at H|simp only [hji8] at H
         have hji8w : (IntKind.i64.wrap (x7_2 - 1)) = ji8 := (i64_w _).trans hji8
         by_cases c9 : 0 ≤ (ji8)
         ·rw [if_pos c9] at H
          have c9b0 : decide (0 ≤ (ji8)) = true := decide_eq_true c9
          clear c9
          by_cases c10 : (ji8) < (x0_2.length : Int)
          ·rw [if_pos c10] at H
           have c10b0 : decide ((ji8) < (x0_2.length : Int)) = true := decide_eq_true c10
           clear c10
           replace H := Option.bind_eq_some_iff.mp H
           obtain ⟨t240,A110,H⟩ := H
           try dsimp only at H
           have A11 := am A110
           clear A110
           by_cases c12 : t240 = true
           ·subst c12
            rw [if_pos rfl] at H
            obtain ⟨y243,hy243⟩ : ∃ y_ : List Int,y_ = (x0_2.set (x7_2 : Int).toNat (rd x0_2 (ji8))) := ⟨_,rfl⟩
            replace H : (slices_insertionSortOrdered_uint64.l1 k2 (y243.set ((ji8) : Int).toNat (rd x0_2 x7_2)) a1 a2 x6_1 ji8) = some r := by first|(rw [hy243];with_reducible exact H)|(have H2_ := (Option.bind_some _ _).symm.trans H;rw [hy243];with_reducible exact H2_)|(have H2_ := (Option.bind_some _ _).symm.trans H;with_reducible exact H2_)|with_reducible exact H|(rw [hy243];exact H)|exact H
            have Ny243 := am hy243
            clear hy243
            obtain ⟨y244,hy244⟩ : ∃ y_ : List Int,y_ = (y243.set ((ji8) : Int).toNat (rd x0_2 x7_2)) := ⟨_,rfl⟩
            replace H : (slices_insertionSortOrdered_uint64.l1 k2 y244 a1 a2 x6_1 ji8) = some r := by first|(rw [hy244];with_reducible exact H)|(have H2_ := (Option.bind_some _ _).symm.trans H;rw [hy244];with_reducible exact H2_)|(have H2_ := (Option.bind_some _ _).symm.trans H;with_reducible exact H2_)|with_reducible exact H|(rw [hy244];exact H)|exact H
            have Ny244 := am hy244
            clear hy244
            have H' := am H
            clear H
            try go_wp2
            have n0_ := am (Kd.R_drew HO_0.out)
            have n1_ := am (Kept.drew HK.out)
            have n2_ := am (below_drew1 HB.out)
            clear HO_0
            clear HK
            clear HB
            have HO_0 := n0_
            have HK := n1_
            have HB := n2_
            clear n0_ n1_ n2_
            obtain ⟨Ao16,co16,eo16⟩ := Kd.R_slice HO_0.out
            (first|subst eo16|(injection eo16 with f1_ f2_ f3_;have f4_ := f1_.symm;have f5_ := f3_.symm;clear f1_ f2_ f3_;subst f4_;subst f5_))
            have p238 : 0 ≤ (x7_2 : Int) := od
            have q238 : x7_2 < (x0_2.length : Int) := od
            obtain ⟨ad238,e238,hx238_0⟩ := Kd.at_int (Kd.R_reads' HO_0.out).2.2 x7_2 p238 q238
            cases e238
            replace p238 := eq_true p238
            replace q238 := eq_true q238
            have p239 : 0 ≤ ((ji8) : Int) := od
            have q239 : (ji8) < (x0_2.length : Int) := od
            obtain ⟨ad239,e239,hx239_0⟩ := Kd.at_int (Kd.R_reads' HO_0.out).2.2 (ji8) p239 q239
            obtain rfl : ad238 = ad239 := (by injection e239)
            replace p239 := eq_true p239
            replace q239 := eq_true q239
            refine start_ (n := 15) (S := fun w' => w'.cell? (ad238.add (x7_2).toNat) = some (.int .u64 (rd x0_2 x7_2)) ∧ w'.cell? (ad238.add ((ji8)).toNat) = some (.int .u64 (rd x0_2 (ji8)))) (ds := []) (bz 15 0) (by kernel_rfl) rfl rfl ⟨hx238_0,hx239_0⟩ (fun hHeld => ?_);refine with_tabW slices_insertionSortOrdered_uint64.tab4 slices_insertionSortOrdered_uint64.bits4 (fun HT_ HW_ => ?_)
            generalize wr.drew = w15 at HO_0 HK HB hx238_0 hx239_0 hHeld ⊢
            refine pk 0 16 (bz 15 1) HT_ ?_
            refine pk 1 17 (bz 15 3) HT_ ?_
            refine pk 2 18 (bz 15 7) HT_ ?_
            refine pk 3 19 (bz 15 15) HT_ ?_
            refine pk 4 20 (bz 15 31) HT_ ?_
            refine pk 5 21 (bz 15 63) HT_ ?_
            refine pk 6 22 (bz 15 127) HT_ ?_
            refine pk 8 24 (bz 15 383) HT_ ?_
            refine pk 9 25 (bz 15 895) HT_ ?_
            refine pk 10 26 (bz 15 1919) HT_ ?_
            refine pk 11 27 (bz 15 3967) HT_ ?_
            refine tk 7 23 (bz 15 4095) HT_ HW_ hHeld ?_
            refine tk 12 28 (bz 15 8191) HT_ HW_ hHeld ?_
            refine on 13 29 (bz 15 16383) HT_ (fun K hK => ?_)
            refine goes_ Try.func111 (by kernel_rfl) rfl #[.int .u64 (rd x0_2 x7_2),.int .u64 (rd x0_2 (ji8))] (by rfl) rfl rfl (by (try simp only [List.map_toArray,List.map_cons,List.map_nil]);first|done|(simp only [hji8];rfl)|rfl|(simp only [List.length_drop,List.length_take];rfl)) ?_
            with_reducible refine (cmp_Less_uint64.calls (rd x0_2 x7_2) (rd x0_2 (ji8)) true _ A11.out).mono ?_
            rintro e w' ⟨rfl,⟨nd,rfl⟩⟩
            refine ⟨_,rfl,?_⟩
            refine hK.out _ _ ⟨hHeld.1,hHeld.2⟩ (fun hHeld => ?_)
            clear hK K
            refine nm 29 ?_
            refine pk 14 30 (bz 15 32767) HT_ ?_
            refine done_ (done_of HT_.out (by kernel_rfl)) ?_
            try go_wp2
            (try (rw [drewN_self w15];generalize hq_ : World.drewN w15 _ = w15;have n0_ : Aside0 (Kd.R (Kd.int .u64) 22 w15 w0.heap.size (fun k_ => (P0_ k_ ∨ w.heap.size ≤ k_)) (.slice (some ad238) x0_2.length co16) x0_2) := ⟨by rw [← hq_];exact (rr HO_0)⟩;have n1_ : Aside0 (Kept w w15 (fun k_ => P0_ k_)) := ⟨by rw [← hq_];exact (by repeat (first|(with_reducible first|exact HK.out|apply Kept.alloc|apply Kept.drewN|apply Kept.drew)|exact HK.out))⟩;have n2_ : Aside0 (Below w0.heap.size w0 w15) := ⟨by rw [← hq_];exact (bb HB)⟩;clear HO_0 HK HB hq_;have HO_0 := n0_;have HK := n1_;have HB := n2_;clear n0_ n1_ n2_))
            have n0_ := am (Kd.R_drew HO_0.out)
            have n1_ := am (Kept.drew HK.out)
            have n2_ := am (below_drew1 HB.out)
            clear HO_0
            clear HK
            clear HB
            have HO_0 := n0_
            have HK := n1_
            have HB := n2_
            clear n0_ n1_ n2_
            have p241 : 0 ≤ ((ji8) : Int) := od
            have q241 : (ji8) < (x0_2.length : Int) := od
            obtain ⟨ad241,e241,hx241_0⟩ := Kd.at_int (Kd.R_reads' HO_0.out).2.2 (ji8) p241 q241
            obtain rfl : ad238 = ad241 := (by injection e241)
            replace p241 := eq_true p241
            replace q241 := eq_true q241
            have p242 : 0 ≤ (x7_2 : Int) := od
            have q242 : x7_2 < (x0_2.length : Int) := od
            obtain ⟨ad242,e242,hx242_0⟩ := Kd.at_int (Kd.R_reads' HO_0.out).2.2 x7_2 p242 q242
            obtain rfl : ad238 = ad242 := (by injection e242)
            replace p242 := eq_true p242
            replace q242 := eq_true q242
            have p13 : 0 ≤ (x7_2 : Int) := od
            have q13 : (x7_2 : Int) < ((x0_2.length : Int) : Int) := od
            obtain ⟨go13,co13,eo13,gb13,gl13,cl13,HG13⟩ := Kd.R_form HO_0.out (by omega)
            (first|cases eo13|(injection eo13 with ea_ en_ ec_;(first|subst ea_|(injection ea_ with ea_;subst ea_));subst ec_;clear en_))
            have GB13 := am gb13
            have GG13 := am HG13
            clear gb13 gl13 HG13
            have HMgo13 := am (show (P0_ go13 ∨ w.heap.size ≤ go13) from (HO_0.out.1 _ rfl))
            (first|simp only [add_plain] at hx238_0|skip)
            (first|simp only [add_plain] at hx239_0|skip)
            (first|simp only [add_plain] at hx241_0|skip)
            (first|simp only [add_plain] at hx242_0|skip)
            obtain ⟨hx13_0,hf13_0⟩ := Kd.R_celln 0 HO_0.out (x7_2 : Int) p13 q13
            replace p13 := eq_true p13
            replace q13 := eq_true q13
            have HP18 := Kd.R_putn HO_0.out (x7_2 : Int) (rd x0_2 (ji8))
            rw [← Ny243.out] at HP18
            have HQ18 := am HP18
            clear HP18
            have p14 : 0 ≤ ((ji8) : Int) := od
            have q14 : ((ji8) : Int) < ((x0_2.length : Int) : Int) := od
            obtain ⟨hx14_0,hf14_0⟩ := Kd.R_celln 0 HQ18.out ((ji8) : Int) p14 q14
            replace p14 := eq_true p14
            replace q14 := eq_true q14
            have HP19 := Kd.R_putn HQ18.out ((ji8) : Int) (rd x0_2 x7_2)
            rw [← Ny244.out] at HP19
            have HQ19 := am HP19
            clear HP19
            refine start_ (n := 18) (S := fun w' => w'.cell? ⟨go13,((ji8)).toNat,none⟩ = some (.int .u64 (rd x0_2 (ji8))) ∧ w'.cell? ⟨go13,(x7_2).toNat,none⟩ = some (.int .u64 (rd x0_2 x7_2))) (ds := [15,17]) (bz 18 0) (by kernel_rfl) rfl rfl ⟨hx241_0,hx242_0⟩ (fun hHeld => ?_);refine with_tabW slices_insertionSortOrdered_uint64.tab6 slices_insertionSortOrdered_uint64.bits6 (fun HT_ HW_ => ?_)
            generalize w15.drew = w17 at HO_0 HK HB GG13 HQ18 HQ19 hf13_0 hf14_0 hx13_0 hx14_0 hx238_0 hx239_0 hx241_0 hx242_0 hHeld ⊢
            refine pk 0 33 (bz 18 1) HT_ ?_
            refine pk 1 34 (bz 18 3) HT_ ?_
            refine pk 2 35 (bz 18 7) HT_ ?_
            refine pk 3 36 (bz 18 15) HT_ ?_
            refine pk 4 37 (bz 18 31) HT_ ?_
            refine pk 5 38 (bz 18 63) HT_ ?_
            refine pk 6 39 (bz 18 127) HT_ ?_
            refine pk 7 40 (bz 18 255) HT_ ?_
            refine pk 8 41 (bz 18 511) HT_ ?_
            refine pk 10 43 (bz 18 1535) HT_ ?_
            refine pk 11 44 (bz 18 3583) HT_ ?_
            refine pk 12 45 (bz 18 7679) HT_ ?_
            refine tk 9 42 (bz 18 8191) HT_ HW_ hHeld ?_
            refine tk 13 46 (bz 18 16383) HT_ HW_ hHeld ?_
            refine pk 14 47 (bz 18 32767) HT_ ?_
            refine last_ (i := 15) (N := none) (bz 18 65535) rfl rfl (one_of HT_.out (by kernel_rfl)) (by decide) (fun K hK => ?_)
            refine skip_ (w1 := ?_) (by rfl) rfl ?_ ?_
            rotate_left
            ·go_simp
             rfl
            refine hK.out _ _ ?_
            clear hK K
            refine pk 16 48 (bz 18 131071) HT_ ?_
            refine last_ (i := 17) (N := none) (bz 18 262143) rfl rfl (one_of HT_.out (by kernel_rfl)) (by decide) (fun K hK => ?_)
            refine skip_ (w1 := ?_) (by rfl) rfl ?_ ?_
            rotate_left
            ·go_simp
             rfl
            refine hK.out _ _ ?_
            clear hK K
            refine done_ (done_of HT_.out (by kernel_rfl)) ?_
            try go_wp2
            go_roundg k2
            case measure => have := HK1.out;have := HK2.out;omega
            case rel => exact ⟨(y244),(ji8),(by first|rfl|(simp;done)|(simp only [← hji8] <;> (first|rfl|simp))|(simp [*];done)),H',⟨by have := HK1.out;have := HK2.out;omega⟩,⟨by (with_reducible repeat (first|apply Kd.R_alloc|apply Kd.R_drewN|apply Kd.R_drew));exact HQ19.out⟩,⟨by repeat (first|(with_reducible first|exact HK.out|apply Kept.alloc|apply Kept.drewN|apply Kept.drew|refine Kept.setCell ?_ HMgo13.out _|refine Kept.setCell ?_ HMgo13.out _)|exact HK.out)⟩,⟨by repeat (first|(with_reducible first|exact HB.out|apply below_alloc|apply pw_below_drewN|apply below_drew1|refine below_set ?_ GB13.out|refine below_set ?_ GB13.out)|exact HB.out)⟩⟩
           ·replace c12 := Bool.eq_false_iff.mpr c12
            subst c12
            rw [if_neg (show ¬ (false = true) by decide)] at H
            have H' := am H
            clear H
            try go_wp2
            have n0_ := am (Kd.R_drew HO_0.out)
            have n1_ := am (Kept.drew HK.out)
            have n2_ := am (below_drew1 HB.out)
            clear HO_0
            clear HK
            clear HB
            have HO_0 := n0_
            have HK := n1_
            have HB := n2_
            clear n0_ n1_ n2_
            obtain ⟨Ao21,co21,eo21⟩ := Kd.R_slice HO_0.out
            (first|subst eo21|(injection eo21 with f1_ f2_ f3_;have f4_ := f1_.symm;have f5_ := f3_.symm;clear f1_ f2_ f3_;subst f4_;subst f5_))
            have p238 : 0 ≤ (x7_2 : Int) := od
            have q238 : x7_2 < (x0_2.length : Int) := od
            obtain ⟨ad238,e238,hx238_0⟩ := Kd.at_int (Kd.R_reads' HO_0.out).2.2 x7_2 p238 q238
            cases e238
            replace p238 := eq_true p238
            replace q238 := eq_true q238
            have p239 : 0 ≤ ((ji8) : Int) := od
            have q239 : (ji8) < (x0_2.length : Int) := od
            obtain ⟨ad239,e239,hx239_0⟩ := Kd.at_int (Kd.R_reads' HO_0.out).2.2 (ji8) p239 q239
            obtain rfl : ad238 = ad239 := (by injection e239)
            replace p239 := eq_true p239
            replace q239 := eq_true q239
            refine start_ (n := 15) (S := fun w' => w'.cell? (ad238.add (x7_2).toNat) = some (.int .u64 (rd x0_2 x7_2)) ∧ w'.cell? (ad238.add ((ji8)).toNat) = some (.int .u64 (rd x0_2 (ji8)))) (ds := []) (bz 15 0) (by kernel_rfl) rfl rfl ⟨hx238_0,hx239_0⟩ (fun hHeld => ?_);refine with_tabW slices_insertionSortOrdered_uint64.tab4 slices_insertionSortOrdered_uint64.bits4 (fun HT_ HW_ => ?_)
            generalize wr.drew = w20 at HO_0 HK HB hx238_0 hx239_0 hHeld ⊢
            refine pk 0 16 (bz 15 1) HT_ ?_
            refine pk 1 17 (bz 15 3) HT_ ?_
            refine pk 2 18 (bz 15 7) HT_ ?_
            refine pk 3 19 (bz 15 15) HT_ ?_
            refine pk 4 20 (bz 15 31) HT_ ?_
            refine pk 5 21 (bz 15 63) HT_ ?_
            refine pk 6 22 (bz 15 127) HT_ ?_
            refine pk 8 24 (bz 15 383) HT_ ?_
            refine pk 9 25 (bz 15 895) HT_ ?_
            refine pk 10 26 (bz 15 1919) HT_ ?_
            refine pk 11 27 (bz 15 3967) HT_ ?_
            refine tk 7 23 (bz 15 4095) HT_ HW_ hHeld ?_
            refine tk 12 28 (bz 15 8191) HT_ HW_ hHeld ?_
            refine on 13 29 (bz 15 16383) HT_ (fun K hK => ?_)
            refine goes_ Try.func111 (by kernel_rfl) rfl #[.int .u64 (rd x0_2 x7_2),.int .u64 (rd x0_2 (ji8))] (by rfl) rfl rfl (by (try simp only [List.map_toArray,List.map_cons,List.map_nil]);first|done|(simp only [hji8];rfl)|rfl|(simp only [List.length_drop,List.length_take];rfl)) ?_
            with_reducible refine (cmp_Less_uint64.calls (rd x0_2 x7_2) (rd x0_2 (ji8)) false _ A11.out).mono ?_
            rintro e w' ⟨rfl,⟨nd,rfl⟩⟩
            refine ⟨_,rfl,?_⟩
            refine hK.out _ _ ⟨hHeld.1,hHeld.2⟩ (fun hHeld => ?_)
            clear hK K
            refine nm 29 ?_
            refine pk 14 30 (bz 15 32767) HT_ ?_
            refine done_ (done_of HT_.out (by kernel_rfl)) ?_
            try go_wp2
            go_roundg k2
            case measure => have := HK1.out;have := HK2.out;omega
            case rel => exact ⟨(x0_2),(wrap64 (x6_1 + 1)),(by first|rfl|(simp;done)|(simp [*];done)),H',⟨by have := HK1.out;have := HK2.out;omega⟩,⟨by (with_reducible repeat (first|apply Kd.R_alloc|apply Kd.R_drewN|apply Kd.R_drew));exact HO_0.out⟩,⟨by repeat (first|(with_reducible first|exact HK.out|apply Kept.alloc|apply Kept.drewN|apply Kept.drew)|exact HK.out)⟩,⟨bb HB⟩⟩
          ·rw [if_neg c10] at H
           exact absurd H (by simp)
         ·rw [if_neg c9] at H
          exact absurd H (by simp)
        ·rw [if_neg c7] at H
         exact absurd H (by simp)
       ·rw [if_neg c6] at H
        exact absurd H (by simp)
      ·rw [if_neg c5] at H
       have c5b0 : decide (a1 < x7_2) = false := decide_eq_false c5
       clear c5
       have H' := am H
       clear H
       try go_wp2
       have n0_ := am (Kd.R_drew HO_0.out)
       have n1_ := am (Kept.drew HK.out)
       have n2_ := am (below_drew1 HB.out)
       clear HO_0
       clear HK
       clear HB
       have HO_0 := n0_
       have HK := n1_
       have HB := n2_
       clear n0_ n1_ n2_
       refine start_ (n := 15) (S := fun w' => True) (ds := []) (bz 15 0) (by kernel_rfl) rfl rfl trivial (fun hHeld => ?_);refine with_tabW slices_insertionSortOrdered_uint64.tab4 slices_insertionSortOrdered_uint64.bits4 (fun HT_ HW_ => ?_)
       generalize wr.drew = w22 at HO_0 HK HB hHeld ⊢
       refine pk 0 16 (bz 15 1) HT_ ?_
       refine pk 1 17 (bz 15 3) HT_ ?_
       refine pk 2 18 (bz 15 7) HT_ ?_
       refine pk 3 19 (bz 15 15) HT_ ?_
       refine pz 4 20 (bz 15 31) HT_ ?_
       refine pz 5 21 (bz 15 63) HT_ ?_
       refine pz 6 22 (bz 15 127) HT_ ?_
       refine pz 7 23 (bz 15 255) HT_ ?_
       refine pz 8 24 (bz 15 511) HT_ ?_
       refine pz 9 25 (bz 15 1023) HT_ ?_
       refine pz 10 26 (bz 15 2047) HT_ ?_
       refine pz 11 27 (bz 15 4095) HT_ ?_
       refine pz 12 28 (bz 15 8191) HT_ ?_
       refine pz 13 29 (bz 15 16383) HT_ ?_
       refine pk 14 30 (bz 15 32767) HT_ ?_
       refine done_ (done_of HT_.out (by kernel_rfl)) ?_
       try go_wp2
       go_roundg k2
       case measure => have := HK1.out;have := HK2.out;omega
       case rel => exact ⟨(x0_2),(wrap64 (x6_1 + 1)),(by first|rfl|(simp;done)|(simp [*];done)),H',⟨by have := HK1.out;have := HK2.out;omega⟩,⟨by (with_reducible repeat (first|apply Kd.R_alloc|apply Kd.R_drewN|apply Kd.R_drew));exact HO_0.out⟩,⟨by repeat (first|(with_reducible first|exact HK.out|apply Kept.alloc|apply Kept.drewN|apply Kept.drew)|exact HK.out)⟩,⟨bb HB⟩⟩
   ·rw [if_neg c4] at H
    have c4b0 : decide (x6_1 < a2) = false := decide_eq_false c4
    clear c4
    obtain rfl := Option.some.inj H
    go_wp2
    first|go_end0|((try simp only [Exit.inBlock,Exit.then]);refine bodyPost_ret (results_none rfl _ _ _) rfl ?_)
    exact ⟨by first|rfl|(simp [errW_none,errW_some] <;> rfl)|(simp [*,errW_none,errW_some] <;> rfl),by (with_reducible repeat (first|apply Kd.R_alloc|apply Kd.R_drewN|apply Kd.R_drew));exact HO_0.out,by repeat (first|(with_reducible first|exact HB.out|apply below_alloc|apply pw_below_drewN|apply below_drew1)|exact HB.out),by repeat (first|(with_reducible first|exact HK.out|apply Kept.alloc|apply Kept.drewN|apply Kept.drew)|exact HK.out)⟩
mutual
def slices_siftDownOrdered_uint64.l0 : Nat → List Int → Int → Int → Int → Option (List Int)
 | 0,_,_,_,_ => none
 | k + 1,x0,x2,x3,x8 => if (wrap64 ((wrap64 (2 * x8)) + 1)) ≥ x2 then (some x0) else (if (wrap64 ((wrap64 ((wrap64 (2 * x8)) + 1)) + 1)) < x2 then (if 0 ≤ (wrap64 (x3 + (wrap64 ((wrap64 (2 * x8)) + 1)))) then (if (wrap64 (x3 + (wrap64 ((wrap64 (2 * x8)) + 1)))) < (x0.length : Int) then (if 0 ≤ (wrap64 ((wrap64 (x3 + (wrap64 ((wrap64 (2 * x8)) + 1)))) + 1)) then (if (wrap64 ((wrap64 (x3 + (wrap64 ((wrap64 (2 * x8)) + 1)))) + 1)) < (x0.length : Int) then ((cmp_Less_uint64.f (rd x0 (wrap64 (x3 + (wrap64 ((wrap64 (2 * x8)) + 1))))) (rd x0 (wrap64 ((wrap64 (x3 + (wrap64 ((wrap64 (2 * x8)) + 1)))) + 1)))).bind fun t247 => (slices_siftDownOrdered_uint64.j1 k x0 x2 x3 x8 (wrap64 ((wrap64 (2 * x8)) + 1)) t247)) else (none)) else (none)) else (none)) else (none)) else (slices_siftDownOrdered_uint64.j1 k x0 x2 x3 x8 (wrap64 ((wrap64 (2 * x8)) + 1)) false))
def slices_siftDownOrdered_uint64.j1 : Nat → List Int → Int → Int → Int → Int → Bool → Option (List Int)
 | 0,_,_,_,_,_,_ => none
 | k + 1,x0,x2,x3,x8,x9,x36 => if x36 = true then (if 0 ≤ (wrap64 (x3 + x8)) then (if (wrap64 (x3 + x8)) < (x0.length : Int) then (if 0 ≤ (wrap64 (x3 + (wrap64 (x9 + 1)))) then (if (wrap64 (x3 + (wrap64 (x9 + 1)))) < (x0.length : Int) then ((cmp_Less_uint64.f (rd x0 (wrap64 (x3 + x8))) (rd x0 (wrap64 (x3 + (wrap64 (x9 + 1)))))).bind fun t250 => (if t250 = true then (slices_siftDownOrdered_uint64.l0 k ((x0.set ((wrap64 (x3 + x8)) : Int).toNat (rd x0 (wrap64 (x3 + (wrap64 (x9 + 1)))))).set ((wrap64 (x3 + (wrap64 (x9 + 1)))) : Int).toNat (rd x0 (wrap64 (x3 + x8)))) x2 x3 (wrap64 (x9 + 1))) else (some x0))) else (none)) else (none)) else (none)) else (none)) else (if 0 ≤ (wrap64 (x3 + x8)) then (if (wrap64 (x3 + x8)) < (x0.length : Int) then (if 0 ≤ (wrap64 (x3 + x9)) then (if (wrap64 (x3 + x9)) < (x0.length : Int) then ((cmp_Less_uint64.f (rd x0 (wrap64 (x3 + x8))) (rd x0 (wrap64 (x3 + x9)))).bind fun t257 => (if t257 = true then (slices_siftDownOrdered_uint64.l0 k ((x0.set ((wrap64 (x3 + x8)) : Int).toNat (rd x0 (wrap64 (x3 + x9)))).set ((wrap64 (x3 + x9)) : Int).toNat (rd x0 (wrap64 (x3 + x8)))) x2 x3 x9) else (some x0))) else (none)) else (none)) else (none)) else (none))
end
def slices_siftDownOrdered_uint64.f (k : Nat) (l0 : List Int) (a1 : Int) (a2 : Int) (a3 : Int) : Option (List Int) := slices_siftDownOrdered_uint64.l0 k l0 a2 a3 a1
def slices_siftDownOrdered_uint64.T3 : Bool × List (List Nat × List Nat) := (true,[([],[]),([0],[0]),([],[]),([1,2],[1,2]),([3],[3]),([4],[4]),([4],[4]),([4],[4]),([6,7,4],[4,6,7]),([5,8,4],[4,5,8]),([9,4],[4,9]),([4],[4]),([4],[4]),([4],[4]),([12,13,4],[4,12,13]),([14,4],[4,14]),([11,15,4],[4,11,15]),([16,4],[4,16]),([10,17,4,4],[4,10,17]),([4,18],[4,18])])
def slices_siftDownOrdered_uint64.B3 : List Nat := [0,1,0,7,15,31,31,31,223,511,1023,31,31,31,12319,28703,63519,129055,262143,524287]
theorem slices_siftDownOrdered_uint64.tab3 : rtab .any (opsOf Try.f115 3) = slices_siftDownOrdered_uint64.T3 := by kernel_rfl
theorem slices_siftDownOrdered_uint64.bits3 : waitsOk slices_siftDownOrdered_uint64.T3.2 slices_siftDownOrdered_uint64.B3 = true := by kernel_rfl
def slices_siftDownOrdered_uint64.T5 : Bool × List (List Nat × List Nat) := (true,[([],[]),([],[]),([],[]),([1,2],[1,2]),([0,3],[0,3]),([4],[4]),([],[]),([],[]),([],[]),([7,8],[7,8]),([6,9],[6,9]),([10],[10]),([5,11],[5,11]),([12],[12])])
def slices_siftDownOrdered_uint64.B5 : List Nat := [0,0,0,6,15,31,0,0,0,384,960,1984,4095,8191]
theorem slices_siftDownOrdered_uint64.tab5 : rtab .any (opsOf Try.f115 5) = slices_siftDownOrdered_uint64.T5 := by kernel_rfl
theorem slices_siftDownOrdered_uint64.bits5 : waitsOk slices_siftDownOrdered_uint64.T5.2 slices_siftDownOrdered_uint64.B5 = true := by kernel_rfl
def slices_siftDownOrdered_uint64.T6 : Bool × List (List Nat × List Nat) := (true,[([],[]),([],[]),([],[]),([1,2],[1,2]),([],[]),([],[]),([],[]),([5,6],[5,6]),([],[]),([],[]),([],[]),([9,10],[9,10]),([8,11],[8,11]),([12],[12]),([],[]),([],[]),([],[]),([15,16],[15,16]),([14,17],[14,17]),([18],[18]),([0,3,0,1,2,3,8,9,10,11,12,13,19],[0,3]),([20,13,0,1,2,3,8,9,10,11,12,13,19],[13,20]),([4,7,0,1,2,3,4,5,6,7,8,9,10,11,12,13,14,15,16,17,18,19,20,21],[4,7]),([22,19,21,0,1,2,3,4,5,6,7,8,9,10,11,12,13,14,15,16,17,18,19,20,21],[19,22])])
def slices_siftDownOrdered_uint64.B6 : List Nat := [0,0,0,6,0,0,0,96,0,0,0,1536,3840,7936,0,0,0,98304,245760,507904,1048335,2096911,4194303,8388607]
theorem slices_siftDownOrdered_uint64.tab6 : rtab .any (opsOf Try.f115 6) = slices_siftDownOrdered_uint64.T6 := by kernel_rfl
theorem slices_siftDownOrdered_uint64.bits6 : waitsOk slices_siftDownOrdered_uint64.T6.2 slices_siftDownOrdered_uint64.B6 = true := by kernel_rfl
set_option maxHeartbeats 8000000 in
set_option maxRecDepth 100000 in
theorem slices_siftDownOrdered_uint64.calls (k : Nat) (P0_ : Nat → Prop) (u9000_ : Value) (l0 : List Int) (a1 : Int) (a2 : Int) (a3 : Int) (r : List Int) (w0 w : World) (hB : Below w0.heap.size w0 w) (ho0 : Kd.R (Kd.int .u64) 22 w w0.heap.size P0_ u9000_ l0) (h : slices_siftDownOrdered_uint64.f k l0 a1 a2 a3 = some r) :
  Calls Try.prog 115 #[u9000_,.int .i64 a1,.int .i64 a2,.int .i64 a3] w fun e w' => e = .returned (.tuple #[]) ∧ Kd.R (Kd.int .u64) 22 w' w0.heap.size (fun k_ => (P0_ k_ ∨ w.heap.size ≤ k_)) u9000_ r ∧ Below w0.heap.size w0 w' ∧ Kept w w' (fun k_ => P0_ k_) := by
 have HO0 := am (show Kd.R (Kd.int .u64) 22 w w0.heap.size (fun k_ => (P0_ k_ ∨ w.heap.size ≤ k_)) u9000_ l0 from Kd.R_mono ho0 (fun k_ hk => (.inl hk)))
 have HK := am (Kept.refl w (fun k_ => P0_ k_))
 have HW0 := am hB.size
 have HB := am hB
 clear hB
 have H : (slices_siftDownOrdered_uint64.l0 k l0 a2 a3 a1) = some r := h
 clear h
 have H' := am H
 clear H
 go_enter Try.func115,Try.ntmps115
 go_wp2
 go_loopg [8] k (fun kq v8 w' => ∃ (x0_1 : List Int) (x8_1 : Int),v8 = .int .i64 x8_1 ∧ Aside0 (slices_siftDownOrdered_uint64.l0 kq x0_1 a2 a3 x8_1 = some r) ∧ Aside0 (kq ≤ k) ∧ Aside0 (Kd.R (Kd.int .u64) 22 w' w0.heap.size (fun k_ => (P0_ k_ ∨ w.heap.size ≤ k_)) u9000_ x0_1) ∧ Aside0 (Kept w w' (fun k_ => P0_ k_)) ∧ Aside0 (Below w0.heap.size w0 w'))
 case atStart => exact ⟨(l0),(a1),(by first|rfl|(simp;done)|(simp [*];done)),H',⟨Nat.le_refl _⟩,⟨by (with_reducible repeat (first|apply Kd.R_alloc|apply Kd.R_drewN|apply Kd.R_drew));exact HO0.out⟩,⟨by repeat (first|(with_reducible first|exact HK.out|apply Kept.alloc|apply Kept.drewN|apply Kept.drew)|exact HK.out)⟩,⟨bb HB⟩⟩
 case round =>
  clear H'
  try clear c1
  try clear p2
  obtain ⟨x0_1,x8_1,rfl,HA,HK1,HO_0,HK,HB⟩ := hrel
  cases gk with
  | zero => exact absurd HA.out (by simp [slices_siftDownOrdered_uint64.l0])
  | succ k1 =>
   have H := HA.out
   clear HA
   simp only [slices_siftDownOrdered_uint64.l0] at H
   by_cases c5 : (wrap64 ((wrap64 (2 * x8_1)) + 1)) ≥ a2
   ·rw [if_pos c5] at H
    have c5b0 : decide (a2 ≤ (wrap64 ((wrap64 (2 * x8_1)) + 1))) = true := decide_eq_true c5
    clear c5
    obtain rfl := Option.some.inj H
    go_wp2
    first|go_end0|((try simp only [Exit.inBlock,Exit.then]);refine bodyPost_ret (results_none rfl _ _ _) rfl ?_)
    exact ⟨by first|rfl|(simp [errW_none,errW_some] <;> rfl)|(simp [*,errW_none,errW_some] <;> rfl),by (with_reducible repeat (first|apply Kd.R_alloc|apply Kd.R_drewN|apply Kd.R_drew));exact HO_0.out,by repeat (first|(with_reducible first|exact HB.out|apply below_alloc|apply pw_below_drewN|apply below_drew1)|exact HB.out),by repeat (first|(with_reducible first|exact HK.out|apply Kept.alloc|apply Kept.drewN|apply Kept.drew)|exact HK.out)⟩
   ·rw [if_neg c5] at H
    have c5b0 : decide (a2 ≤ (wrap64 ((wrap64 (2 * x8_1)) + 1))) = false := decide_eq_false c5
    clear c5
    have HC6 := am H
    clear H
    go_upto_region 3 with (fail)
    go_cut [36] (fun v36 wc => ∃ (kq : Nat) (x36_5 : Bool),v36 = .bool x36_5 ∧ Aside0 (slices_siftDownOrdered_uint64.j1 kq x0_1 a2 a3 x8_1 (wrap64 ((wrap64 (2 * x8_1)) + 1)) x36_5 = some r) ∧ Aside0 (kq ≤ k1) ∧ Aside0 (Kd.R (Kd.int .u64) 22 wc w0.heap.size (fun k_ => (P0_ k_ ∨ w.heap.size ≤ k_)) u9000_ x0_1) ∧ Aside0 (Kept w wc (fun k_ => P0_ k_)) ∧ Aside0 (Below w0.heap.size w0 wc))
    case first =>
     have H := HC6.out
     clear HC6
     by_cases c7 : (wrap64 ((wrap64 ((wrap64 (2 * x8_1)) + 1)) + 1)) < a2
     ·rw [if_pos c7] at H
      have c7b0 : decide ((wrap64 ((wrap64 ((wrap64 (2 * x8_1)) + 1)) + 1)) < a2) = true := decide_eq_true c7
      clear c7
      (first|rw [c7b0]|(simp only [i64_w,i32_w];rw [c7b0])|skip)
      obtain ⟨ji8,hji8⟩ : ∃ j_ : Int,(wrap64 (a3 + (wrap64 ((wrap64 (2 * x8_1)) + 1)))) = j_ := ⟨_,rfl⟩
      first|rw [hji8] at H|simp only [hji8] at H
      have hji8w : (IntKind.i64.wrap (a3 + (wrap64 ((wrap64 (2 * x8_1)) + 1)))) = ji8 := (i64_w _).trans hji8
      by_cases c9 : 0 ≤ (ji8)
      ·rw [if_pos c9] at H
       have c9b0 : decide (0 ≤ (ji8)) = true := decide_eq_true c9
       clear c9
       by_cases c10 : (ji8) < (x0_1.length : Int)
       ·rw [if_pos c10] at H
        have c10b0 : decide ((ji8) < (x0_1.length : Int)) = true := decide_eq_true c10
        clear c10
        obtain ⟨ji11,hji11⟩ : ∃ j_ : Int,(wrap64 ((ji8) + 1)) = j_ := ⟨_,rfl⟩
        first|rw [hji11] at H|simp only [hji11] at H
        have hji11w : (IntKind.i64.wrap ((ji8) + 1)) = ji11 := (i64_w _).trans hji11
        by_cases c12 : 0 ≤ (ji11)
        ·rw [if_pos c12] at H
         have c12b0 : decide (0 ≤ (ji11)) = true := decide_eq_true c12
         clear c12
         by_cases c13 : (ji11) < (x0_1.length : Int)
         ·rw [if_pos c13] at H
          have c13b0 : decide ((ji11) < (x0_1.length : Int)) = true := decide_eq_true c13
          clear c13
          replace H := Option.bind_eq_some_iff.mp H
          obtain ⟨t247,A140,H⟩ := H
          try dsimp only at H
          have A14 := am A140
          clear A140
          have H' := am H
          clear H
          try go_wp2
          have n0_ := am (Kd.R_drew HO_0.out)
          have n1_ := am (Kept.drew HK.out)
          have n2_ := am (below_drew1 HB.out)
          clear HO_0
          clear HK
          clear HB
          have HO_0 := n0_
          have HK := n1_
          have HB := n2_
          clear n0_ n1_ n2_
          obtain ⟨Ao16,co16,eo16⟩ := Kd.R_slice HO_0.out
          (first|subst eo16|(injection eo16 with f1_ f2_ f3_;have f4_ := f1_.symm;have f5_ := f3_.symm;clear f1_ f2_ f3_;subst f4_;subst f5_))
          have p245 : 0 ≤ ((ji8) : Int) := od
          have q245 : (ji8) < (x0_1.length : Int) := od
          obtain ⟨ad245,e245,hx245_0⟩ := Kd.at_int (Kd.R_reads' HO_0.out).2.2 (ji8) p245 q245
          cases e245
          replace p245 := eq_true p245
          replace q245 := eq_true q245
          have p246 : 0 ≤ ((ji11) : Int) := od
          have q246 : (ji11) < (x0_1.length : Int) := od
          obtain ⟨ad246,e246,hx246_0⟩ := Kd.at_int (Kd.R_reads' HO_0.out).2.2 (ji11) p246 q246
          obtain rfl : ad245 = ad246 := (by injection e246)
          replace p246 := eq_true p246
          replace q246 := eq_true q246
          refine start_ (n := 20) (S := fun w' => w'.cell? (ad245.add ((ji8)).toNat) = some (.int .u64 (rd x0_1 (ji8))) ∧ w'.cell? (ad245.add ((ji11)).toNat) = some (.int .u64 (rd x0_1 (ji11)))) (ds := []) (bz 20 0) (by kernel_rfl) rfl rfl ⟨hx245_0,hx246_0⟩ (fun hHeld => ?_);refine with_tabW slices_siftDownOrdered_uint64.tab3 slices_siftDownOrdered_uint64.bits3 (fun HT_ HW_ => ?_)
          generalize wr.drew = w15 at HO_0 HK HB hx245_0 hx246_0 hHeld ⊢
          refine pk 0 17 (bz 20 1) HT_ ?_
          refine pk 1 18 (bz 20 3) HT_ ?_
          refine pk 2 19 (bz 20 7) HT_ ?_
          refine pk 3 20 (bz 20 15) HT_ ?_
          refine pk 4 21 (bz 20 31) HT_ ?_
          refine pk 5 22 (bz 20 63) HT_ ?_
          refine pk 6 23 (bz 20 127) HT_ ?_
          refine pk 7 24 (bz 20 255) HT_ ?_
          refine pk 8 25 (bz 20 511) HT_ ?_
          refine pk 9 26 (bz 20 1023) HT_ ?_
          refine pk 11 28 (bz 20 3071) HT_ ?_
          refine pk 12 29 (bz 20 7167) HT_ ?_
          refine pk 13 30 (bz 20 15359) HT_ ?_
          refine pk 14 31 (bz 20 31743) HT_ ?_
          refine pk 15 32 (bz 20 64511) HT_ ?_
          refine pk 16 33 (bz 20 130047) HT_ ?_
          refine tk 10 27 (bz 20 131071) HT_ HW_ hHeld ?_
          refine tk 17 34 (bz 20 262143) HT_ HW_ hHeld ?_
          refine on 18 35 (bz 20 524287) HT_ (fun K hK => ?_)
          refine goes_ Try.func111 (by kernel_rfl) rfl #[.int .u64 (rd x0_1 (ji8)),.int .u64 (rd x0_1 (ji11))] (by rfl) rfl rfl (by (try simp only [List.map_toArray,List.map_cons,List.map_nil]);first|done|(simp only [hji11,hji8];rfl)|rfl|(simp only [List.length_drop,List.length_take];rfl)) ?_
          with_reducible refine (cmp_Less_uint64.calls (rd x0_1 (ji8)) (rd x0_1 (ji11)) t247 _ A14.out).mono ?_
          rintro e w' ⟨rfl,⟨nd,rfl⟩⟩
          refine ⟨_,rfl,?_⟩
          refine hK.out _ _ ⟨hHeld.1,hHeld.2⟩ (fun hHeld => ?_)
          clear hK K
          refine nm 35 ?_
          refine pk 19 36 (bz 20 1048575) HT_ ?_
          refine done_ (done_of HT_.out (by kernel_rfl)) ?_
          try go_wp2
          go_meet
          case rel => exact ⟨_,(t247),(by first|rfl|(simp;done)|(simp [*];done)),H',⟨by have := HK1.out;first|omega|exact Nat.le_refl _⟩,⟨by (with_reducible repeat (first|apply Kd.R_alloc|apply Kd.R_drewN|apply Kd.R_drew));exact HO_0.out⟩,⟨by repeat (first|(with_reducible first|exact HK.out|apply Kept.alloc|apply Kept.drewN|apply Kept.drew)|exact HK.out)⟩,⟨bb HB⟩⟩
         ·rw [if_neg c13] at H
          exact absurd H (by simp)
        ·rw [if_neg c12] at H
         exact absurd H (by simp)
       ·rw [if_neg c10] at H
        exact absurd H (by simp)
      ·rw [if_neg c9] at H
       exact absurd H (by simp)
     ·rw [if_neg c7] at H
      have c7b0 : decide ((wrap64 ((wrap64 ((wrap64 (2 * x8_1)) + 1)) + 1)) < a2) = false := decide_eq_false c7
      clear c7
      (first|rw [c7b0]|(simp only [i64_w,i32_w];rw [c7b0])|skip)
      have H' := am H
      clear H
      try go_wp2
      have n0_ := am (Kd.R_drew HO_0.out)
      have n1_ := am (Kept.drew HK.out)
      have n2_ := am (below_drew1 HB.out)
      clear HO_0
      clear HK
      clear HB
      have HO_0 := n0_
      have HK := n1_
      have HB := n2_
      clear n0_ n1_ n2_
      refine start_ (n := 20) (S := fun w' => True) (ds := []) (bz 20 0) (by kernel_rfl) rfl rfl trivial (fun hHeld => ?_);refine with_tabW slices_siftDownOrdered_uint64.tab3 slices_siftDownOrdered_uint64.bits3 (fun HT_ HW_ => ?_)
      generalize wr.drew = w17 at HO_0 HK HB hHeld ⊢
      refine pk 0 17 (bz 20 1) HT_ ?_
      refine pk 1 18 (bz 20 3) HT_ ?_
      refine pk 2 19 (bz 20 7) HT_ ?_
      refine pk 3 20 (bz 20 15) HT_ ?_
      refine pk 4 21 (bz 20 31) HT_ ?_
      refine pz 5 22 (bz 20 63) HT_ ?_
      refine pz 6 23 (bz 20 127) HT_ ?_
      refine pz 7 24 (bz 20 255) HT_ ?_
      refine pz 8 25 (bz 20 511) HT_ ?_
      refine pz 9 26 (bz 20 1023) HT_ ?_
      refine pz 10 27 (bz 20 2047) HT_ ?_
      refine pz 11 28 (bz 20 4095) HT_ ?_
      refine pz 12 29 (bz 20 8191) HT_ ?_
      refine pz 13 30 (bz 20 16383) HT_ ?_
      refine pz 14 31 (bz 20 32767) HT_ ?_
      refine pz 15 32 (bz 20 65535) HT_ ?_
      refine pz 16 33 (bz 20 131071) HT_ ?_
      refine pz 17 34 (bz 20 262143) HT_ ?_
      refine pz 18 35 (bz 20 524287) HT_ ?_
      refine pk 19 36 (bz 20 1048575) HT_ ?_
      refine done_ (done_of HT_.out (by kernel_rfl)) ?_
      try go_wp2
      go_meet
      case rel => exact ⟨_,(false),(by first|rfl|(simp;done)|(simp [*];done)),H',⟨by have := HK1.out;first|omega|exact Nat.le_refl _⟩,⟨by (with_reducible repeat (first|apply Kd.R_alloc|apply Kd.R_drewN|apply Kd.R_drew));exact HO_0.out⟩,⟨by repeat (first|(with_reducible first|exact HK.out|apply Kept.alloc|apply Kept.drewN|apply Kept.drew)|exact HK.out)⟩,⟨bb HB⟩⟩
    case rest =>
     clear HC6
     try clear c1
     try clear p2
     try clear q2
     try clear hx2
     try clear c5
     try clear c5b0
     try clear p6
     try clear c7
     try clear c7b0
     try clear c9
     try clear c9b0
     try clear c10
     try clear c10b0
     try clear c11
     try clear c12
     try clear c12b0
     try clear c13
     try clear c13b0
     try clear hx245_0
     try clear hx246_0
     try clear p2
     try clear p245
     try clear p246
     try clear q245
     try clear q246
     obtain ⟨kq,x36_5,rfl,HA,HJ5,HO_0,HK,HB⟩ := hcut
     cases kq with
     | zero => exact absurd HA.out (by simp [slices_siftDownOrdered_uint64.j1])
     | succ kj5 =>
      have H := HA.out
      clear HA
      simp only [slices_siftDownOrdered_uint64.j1] at H
      by_cases c18 : x36_5 = true
      ·subst c18
       rw [if_pos rfl] at H
       obtain ⟨ji19,hji19⟩ : ∃ j_ : Int,(wrap64 (a3 + x8_1)) = j_ := ⟨_,rfl⟩
       first|rw [hji19] at H|simp only [hji19] at H
       have hji19w : (IntKind.i64.wrap (a3 + x8_1)) = ji19 := (i64_w _).trans hji19
       by_cases c20 : 0 ≤ (ji19)
       ·rw [if_pos c20] at H
        have c20b0 : decide (0 ≤ (ji19)) = true := decide_eq_true c20
        clear c20
        by_cases c21 : (ji19) < (x0_1.length : Int)
        ·rw [if_pos c21] at H
         have c21b0 : decide ((ji19) < (x0_1.length : Int)) = true := decide_eq_true c21
         clear c21
         obtain ⟨ji22,hji22⟩ : ∃ j_ : Int,(wrap64 (a3 + (wrap64 ((wrap64 ((wrap64 (2 * x8_1)) + 1)) + 1)))) = j_ := ⟨_,rfl⟩
         first|rw [hji22] at H|simp only [hji22] at H
         have hji22w : (IntKind.i64.wrap (a3 + (wrap64 ((wrap64 ((wrap64 (2 * x8_1)) + 1)) + 1)))) = ji22 := (i64_w _).trans hji22
         by_cases c23 : 0 ≤ (ji22)
         ·rw [if_pos c23] at H
          have c23b0 : decide (0 ≤ (ji22)) = true := decide_eq_true c23
          clear c23
          by_cases c24 : (ji22) < (x0_1.length : Int)
          ·rw [if_pos c24] at H
           have c24b0 : decide ((ji22) < (x0_1.length : Int)) = true := decide_eq_true c24
           clear c24
           replace H := Option.bind_eq_some_iff.mp H
           obtain ⟨t250,A250,H⟩ := H
           try dsimp only at H
           have A25 := am A250
           clear A250
           by_cases c26 : t250 = true
           ·subst c26
            rw [if_pos rfl] at H
            obtain ⟨y253,hy253⟩ : ∃ y_ : List Int,y_ = (x0_1.set ((ji19) : Int).toNat (rd x0_1 (ji22))) := ⟨_,rfl⟩
            replace H : (slices_siftDownOrdered_uint64.l0 kj5 (y253.set ((ji22) : Int).toNat (rd x0_1 (ji19))) a2 a3 (wrap64 ((wrap64 ((wrap64 (2 * x8_1)) + 1)) + 1))) = some r := by first|(rw [hy253];with_reducible exact H)|(have H2_ := (Option.bind_some _ _).symm.trans H;rw [hy253];with_reducible exact H2_)|(have H2_ := (Option.bind_some _ _).symm.trans H;with_reducible exact H2_)|with_reducible exact H|(rw [hy253];exact H)|exact H
            have Ny253 := am hy253
            clear hy253
            obtain ⟨y254,hy254⟩ : ∃ y_ : List Int,y_ = (y253.set ((ji22) : Int).toNat (rd x0_1 (ji19))) := ⟨_,rfl⟩
            replace H : (slices_siftDownOrdered_uint64.l0 kj5 y254 a2 a3 (wrap64 ((wrap64 ((wrap64 (2 * x8_1)) + 1)) + 1))) = some r := by first|(rw [hy254];with_reducible exact H)|(have H2_ := (Option.bind_some _ _).symm.trans H;rw [hy254];with_reducible exact H2_)|(have H2_ := (Option.bind_some _ _).symm.trans H;with_reducible exact H2_)|with_reducible exact H|(rw [hy254];exact H)|exact H
            have Ny254 := am hy254
            clear hy254
            have H' := am H
            clear H
            try go_wp2
            have n0_ := am (Kd.R_drew HO_0.out)
            have n1_ := am (Kept.drew HK.out)
            have n2_ := am (below_drew1 HB.out)
            clear HO_0
            clear HK
            clear HB
            have HO_0 := n0_
            have HK := n1_
            have HB := n2_
            clear n0_ n1_ n2_
            obtain ⟨Ao30,co30,eo30⟩ := Kd.R_slice HO_0.out
            (first|subst eo30|(injection eo30 with f1_ f2_ f3_;have f4_ := f1_.symm;have f5_ := f3_.symm;clear f1_ f2_ f3_;subst f4_;subst f5_))
            have p248 : 0 ≤ ((ji19) : Int) := od
            have q248 : (ji19) < (x0_1.length : Int) := od
            obtain ⟨ad248,e248,hx248_0⟩ := Kd.at_int (Kd.R_reads' HO_0.out).2.2 (ji19) p248 q248
            cases e248
            replace p248 := eq_true p248
            replace q248 := eq_true q248
            have p249 : 0 ≤ ((ji22) : Int) := od
            have q249 : (ji22) < (x0_1.length : Int) := od
            obtain ⟨ad249,e249,hx249_0⟩ := Kd.at_int (Kd.R_reads' HO_0.out).2.2 (ji22) p249 q249
            obtain rfl : ad248 = ad249 := (by injection e249)
            replace p249 := eq_true p249
            replace q249 := eq_true q249
            refine start_ (n := 14) (S := fun w' => w'.cell? (ad248.add ((ji19)).toNat) = some (.int .u64 (rd x0_1 (ji19))) ∧ w'.cell? (ad248.add ((ji22)).toNat) = some (.int .u64 (rd x0_1 (ji22)))) (ds := []) (bz 14 0) (by kernel_rfl) rfl rfl ⟨hx248_0,hx249_0⟩ (fun hHeld => ?_);refine with_tabW slices_siftDownOrdered_uint64.tab5 slices_siftDownOrdered_uint64.bits5 (fun HT_ HW_ => ?_)
            generalize wc.drew = w29 at HO_0 HK HB hx248_0 hx249_0 hHeld ⊢
            refine pk 0 39 (bz 14 1) HT_ ?_
            refine pk 1 40 (bz 14 3) HT_ ?_
            refine pk 2 41 (bz 14 7) HT_ ?_
            refine pk 3 42 (bz 14 15) HT_ ?_
            refine pk 4 43 (bz 14 31) HT_ ?_
            refine pk 6 45 (bz 14 95) HT_ ?_
            refine pk 7 46 (bz 14 223) HT_ ?_
            refine pk 8 47 (bz 14 479) HT_ ?_
            refine pk 9 48 (bz 14 991) HT_ ?_
            refine pk 10 49 (bz 14 2015) HT_ ?_
            refine tk 5 44 (bz 14 2047) HT_ HW_ hHeld ?_
            refine tk 11 50 (bz 14 4095) HT_ HW_ hHeld ?_
            refine on 12 51 (bz 14 8191) HT_ (fun K hK => ?_)
            refine goes_ Try.func111 (by kernel_rfl) rfl #[.int .u64 (rd x0_1 (ji19)),.int .u64 (rd x0_1 (ji22))] (by rfl) rfl rfl (by (try simp only [List.map_toArray,List.map_cons,List.map_nil]);first|done|(simp only [hji19,hji22];rfl)|rfl|(simp only [List.length_drop,List.length_take];rfl)) ?_
            with_reducible refine (cmp_Less_uint64.calls (rd x0_1 (ji19)) (rd x0_1 (ji22)) true _ A25.out).mono ?_
            rintro e w' ⟨rfl,⟨nd,rfl⟩⟩
            refine ⟨_,rfl,?_⟩
            refine hK.out _ _ ⟨hHeld.1,hHeld.2⟩ (fun hHeld => ?_)
            clear hK K
            refine nm 51 ?_
            refine pk 13 52 (bz 14 16383) HT_ ?_
            refine done_ (done_of HT_.out (by kernel_rfl)) ?_
            try go_wp2
            (try (rw [drewN_self w29];generalize hq_ : World.drewN w29 _ = w29;have n0_ : Aside0 (Kd.R (Kd.int .u64) 22 w29 w0.heap.size (fun k_ => (P0_ k_ ∨ w.heap.size ≤ k_)) (.slice (some ad248) x0_1.length co30) x0_1) := ⟨by rw [← hq_];exact (rr HO_0)⟩;have n1_ : Aside0 (Kept w w29 (fun k_ => P0_ k_)) := ⟨by rw [← hq_];exact (by repeat (first|(with_reducible first|exact HK.out|apply Kept.alloc|apply Kept.drewN|apply Kept.drew)|exact HK.out))⟩;have n2_ : Aside0 (Below w0.heap.size w0 w29) := ⟨by rw [← hq_];exact (bb HB)⟩;clear HO_0 HK HB hq_;have HO_0 := n0_;have HK := n1_;have HB := n2_;clear n0_ n1_ n2_))
            have n0_ := am (Kd.R_drew HO_0.out)
            have n1_ := am (Kept.drew HK.out)
            have n2_ := am (below_drew1 HB.out)
            clear HO_0
            clear HK
            clear HB
            have HO_0 := n0_
            have HK := n1_
            have HB := n2_
            clear n0_ n1_ n2_
            have p251 : 0 ≤ ((ji22) : Int) := od
            have q251 : (ji22) < (x0_1.length : Int) := od
            obtain ⟨ad251,e251,hx251_0⟩ := Kd.at_int (Kd.R_reads' HO_0.out).2.2 (ji22) p251 q251
            obtain rfl : ad248 = ad251 := (by injection e251)
            replace p251 := eq_true p251
            replace q251 := eq_true q251
            have p252 : 0 ≤ ((ji19) : Int) := od
            have q252 : (ji19) < (x0_1.length : Int) := od
            obtain ⟨ad252,e252,hx252_0⟩ := Kd.at_int (Kd.R_reads' HO_0.out).2.2 (ji19) p252 q252
            obtain rfl : ad248 = ad252 := (by injection e252)
            replace p252 := eq_true p252
            replace q252 := eq_true q252
            have p27 : 0 ≤ ((ji19) : Int) := od
            have q27 : ((ji19) : Int) < ((x0_1.length : Int) : Int) := od
            obtain ⟨go27,co27,eo27,gb27,gl27,cl27,HG27⟩ := Kd.R_form HO_0.out (by omega)
            (first|cases eo27|(injection eo27 with ea_ en_ ec_;(first|subst ea_|(injection ea_ with ea_;subst ea_));subst ec_;clear en_))
            have GB27 := am gb27
            have GG27 := am HG27
            clear gb27 gl27 HG27
            have HMgo27 := am (show (P0_ go27 ∨ w.heap.size ≤ go27) from (HO_0.out.1 _ rfl))
            (first|simp only [add_plain] at hx248_0|skip)
            (first|simp only [add_plain] at hx249_0|skip)
            (first|simp only [add_plain] at hx251_0|skip)
            (first|simp only [add_plain] at hx252_0|skip)
            obtain ⟨hx27_0,hf27_0⟩ := Kd.R_celln 0 HO_0.out ((ji19) : Int) p27 q27
            replace p27 := eq_true p27
            replace q27 := eq_true q27
            have HP32 := Kd.R_putn HO_0.out ((ji19) : Int) (rd x0_1 (ji22))
            rw [← Ny253.out] at HP32
            have HQ32 := am HP32
            clear HP32
            have p28 : 0 ≤ ((ji22) : Int) := od
            have q28 : ((ji22) : Int) < ((x0_1.length : Int) : Int) := od
            obtain ⟨hx28_0,hf28_0⟩ := Kd.R_celln 0 HQ32.out ((ji22) : Int) p28 q28
            replace p28 := eq_true p28
            replace q28 := eq_true q28
            have HP33 := Kd.R_putn HQ32.out ((ji22) : Int) (rd x0_1 (ji19))
            rw [← Ny254.out] at HP33
            have HQ33 := am HP33
            clear HP33
            refine start_ (n := 24) (S := fun w' => w'.cell? ⟨go27,((ji22)).toNat,none⟩ = some (.int .u64 (rd x0_1 (ji22))) ∧ w'.cell? ⟨go27,((ji19)).toNat,none⟩ = some (.int .u64 (rd x0_1 (ji19)))) (ds := [21,23]) (bz 24 0) (by kernel_rfl) rfl rfl ⟨hx251_0,hx252_0⟩ (fun hHeld => ?_);refine with_tabW slices_siftDownOrdered_uint64.tab6 slices_siftDownOrdered_uint64.bits6 (fun HT_ HW_ => ?_)
            generalize w29.drew = w31 at HO_0 HK HB GG27 HQ32 HQ33 hf27_0 hf28_0 hx248_0 hx249_0 hx251_0 hx252_0 hx27_0 hx28_0 hHeld ⊢
            refine pk 0 53 (bz 24 1) HT_ ?_
            refine pk 1 54 (bz 24 3) HT_ ?_
            refine pk 2 55 (bz 24 7) HT_ ?_
            refine pk 3 56 (bz 24 15) HT_ ?_
            refine pk 4 57 (bz 24 31) HT_ ?_
            refine pk 5 58 (bz 24 63) HT_ ?_
            refine pk 6 59 (bz 24 127) HT_ ?_
            refine pk 7 60 (bz 24 255) HT_ ?_
            refine pk 8 61 (bz 24 511) HT_ ?_
            refine pk 9 62 (bz 24 1023) HT_ ?_
            refine pk 10 63 (bz 24 2047) HT_ ?_
            refine pk 11 64 (bz 24 4095) HT_ ?_
            refine pk 12 65 (bz 24 8191) HT_ ?_
            refine pk 14 67 (bz 24 24575) HT_ ?_
            refine pk 15 68 (bz 24 57343) HT_ ?_
            refine pk 16 69 (bz 24 122879) HT_ ?_
            refine pk 17 70 (bz 24 253951) HT_ ?_
            refine pk 18 71 (bz 24 516095) HT_ ?_
            refine tk 13 66 (bz 24 524287) HT_ HW_ hHeld ?_
            refine tk 19 72 (bz 24 1048575) HT_ HW_ hHeld ?_
            refine pk 20 73 (bz 24 2097151) HT_ ?_
            refine last_ (i := 21) (N := none) (bz 24 4194303) rfl rfl (one_of HT_.out (by kernel_rfl)) (by decide) (fun K hK => ?_)
            refine skip_ (w1 := ?_) (by rfl) rfl ?_ ?_
            rotate_left
            ·go_simp
             rfl
            refine hK.out _ _ ?_
            clear hK K
            refine pk 22 74 (bz 24 8388607) HT_ ?_
            refine last_ (i := 23) (N := none) (bz 24 16777215) rfl rfl (one_of HT_.out (by kernel_rfl)) (by decide) (fun K hK => ?_)
            refine skip_ (w1 := ?_) (by rfl) rfl ?_ ?_
            rotate_left
            ·go_simp
             rfl
            refine hK.out _ _ ?_
            clear hK K
            refine done_ (done_of HT_.out (by kernel_rfl)) ?_
            try go_wp2
            go_roundg kj5
            case measure => have := HK1.out;have := HJ5.out;omega
            case rel => exact ⟨(y254),(wrap64 ((wrap64 ((wrap64 (2 * x8_1)) + 1)) + 1)),(by first|rfl|(simp;done)|(simp [*];done)),H',⟨by have := HK1.out;have := HJ5.out;omega⟩,⟨by (with_reducible repeat (first|apply Kd.R_alloc|apply Kd.R_drewN|apply Kd.R_drew));exact HQ33.out⟩,⟨by repeat (first|(with_reducible first|exact HK.out|apply Kept.alloc|apply Kept.drewN|apply Kept.drew|refine Kept.setCell ?_ HMgo27.out _|refine Kept.setCell ?_ HMgo27.out _)|exact HK.out)⟩,⟨by repeat (first|(with_reducible first|exact HB.out|apply below_alloc|apply pw_below_drewN|apply below_drew1|refine below_set ?_ GB27.out|refine below_set ?_ GB27.out)|exact HB.out)⟩⟩
           ·replace c26 := Bool.eq_false_iff.mpr c26
            subst c26
            rw [if_neg (show ¬ (false = true) by decide)] at H
            obtain rfl := Option.some.inj H
            try go_wp2
            have n0_ := am (Kd.R_drew HO_0.out)
            have n1_ := am (Kept.drew HK.out)
            have n2_ := am (below_drew1 HB.out)
            clear HO_0
            clear HK
            clear HB
            have HO_0 := n0_
            have HK := n1_
            have HB := n2_
            clear n0_ n1_ n2_
            obtain ⟨Ao35,co35,eo35⟩ := Kd.R_slice HO_0.out
            (first|subst eo35|(injection eo35 with f1_ f2_ f3_;have f4_ := f1_.symm;have f5_ := f3_.symm;clear f1_ f2_ f3_;subst f4_;subst f5_))
            have p248 : 0 ≤ ((ji19) : Int) := od
            have q248 : (ji19) < (x0_1.length : Int) := od
            obtain ⟨ad248,e248,hx248_0⟩ := Kd.at_int (Kd.R_reads' HO_0.out).2.2 (ji19) p248 q248
            cases e248
            replace p248 := eq_true p248
            replace q248 := eq_true q248
            have p249 : 0 ≤ ((ji22) : Int) := od
            have q249 : (ji22) < (x0_1.length : Int) := od
            obtain ⟨ad249,e249,hx249_0⟩ := Kd.at_int (Kd.R_reads' HO_0.out).2.2 (ji22) p249 q249
            obtain rfl : ad248 = ad249 := (by injection e249)
            replace p249 := eq_true p249
            replace q249 := eq_true q249
            refine start_ (n := 14) (S := fun w' => w'.cell? (ad248.add ((ji19)).toNat) = some (.int .u64 (rd x0_1 (ji19))) ∧ w'.cell? (ad248.add ((ji22)).toNat) = some (.int .u64 (rd x0_1 (ji22)))) (ds := []) (bz 14 0) (by kernel_rfl) rfl rfl ⟨hx248_0,hx249_0⟩ (fun hHeld => ?_);refine with_tabW slices_siftDownOrdered_uint64.tab5 slices_siftDownOrdered_uint64.bits5 (fun HT_ HW_ => ?_)
            generalize wc.drew = w34 at HO_0 HK HB hx248_0 hx249_0 hHeld ⊢
            refine pk 0 39 (bz 14 1) HT_ ?_
            refine pk 1 40 (bz 14 3) HT_ ?_
            refine pk 2 41 (bz 14 7) HT_ ?_
            refine pk 3 42 (bz 14 15) HT_ ?_
            refine pk 4 43 (bz 14 31) HT_ ?_
            refine pk 6 45 (bz 14 95) HT_ ?_
            refine pk 7 46 (bz 14 223) HT_ ?_
            refine pk 8 47 (bz 14 479) HT_ ?_
            refine pk 9 48 (bz 14 991) HT_ ?_
            refine pk 10 49 (bz 14 2015) HT_ ?_
            refine tk 5 44 (bz 14 2047) HT_ HW_ hHeld ?_
            refine tk 11 50 (bz 14 4095) HT_ HW_ hHeld ?_
            refine on 12 51 (bz 14 8191) HT_ (fun K hK => ?_)
            refine goes_ Try.func111 (by kernel_rfl) rfl #[.int .u64 (rd x0_1 (ji19)),.int .u64 (rd x0_1 (ji22))] (by rfl) rfl rfl (by (try simp only [List.map_toArray,List.map_cons,List.map_nil]);first|done|(simp only [hji19,hji22];rfl)|rfl|(simp only [List.length_drop,List.length_take];rfl)) ?_
            with_reducible refine (cmp_Less_uint64.calls (rd x0_1 (ji19)) (rd x0_1 (ji22)) false _ A25.out).mono ?_
            rintro e w' ⟨rfl,⟨nd,rfl⟩⟩
            refine ⟨_,rfl,?_⟩
            refine hK.out _ _ ⟨hHeld.1,hHeld.2⟩ (fun hHeld => ?_)
            clear hK K
            refine nm 51 ?_
            refine pk 13 52 (bz 14 16383) HT_ ?_
            refine done_ (done_of HT_.out (by kernel_rfl)) ?_
            try go_wp2
            first|go_end0|((try simp only [Exit.inBlock,Exit.then]);refine bodyPost_ret (results_none rfl _ _ _) rfl ?_)
            exact ⟨by first|rfl|(simp [errW_none,errW_some] <;> rfl)|(simp only [← hji19,← hji22];first|rfl|(simp [errW_none,errW_some] <;> rfl))|(simp [*,errW_none,errW_some] <;> rfl),by (with_reducible repeat (first|apply Kd.R_alloc|apply Kd.R_drewN|apply Kd.R_drew));exact HO_0.out,by repeat (first|(with_reducible first|exact HB.out|apply below_alloc|apply pw_below_drewN|apply below_drew1)|exact HB.out),by repeat (first|(with_reducible first|exact HK.out|apply Kept.alloc|apply Kept.drewN|apply Kept.drew)|exact HK.out)⟩
          ·rw [if_neg c24] at H
           exact absurd H (by simp)
         ·rw [if_neg c23] at H
          exact absurd H (by simp)
        ·rw [if_neg c21] at H
         exact absurd H (by simp)
       ·rw [if_neg c20] at H
        exact absurd H (by simp)
      ·replace c18 := Bool.eq_false_iff.mpr c18
       subst c18
       rw [if_neg (show ¬ (false = true) by decide)] at H
       obtain ⟨ji36,hji36⟩ : ∃ j_ : Int,(wrap64 (a3 + x8_1)) = j_ := ⟨_,rfl⟩
       first|rw [hji36] at H|simp only [hji36] at H
       have hji36w : (IntKind.i64.wrap (a3 + x8_1)) = ji36 := (i64_w _).trans hji36
       by_cases c37 : 0 ≤ (ji36)
       ·rw [if_pos c37] at H
        have c37b0 : decide (0 ≤ (ji36)) = true := decide_eq_true c37
        clear c37
        by_cases c38 : (ji36) < (x0_1.length : Int)
        ·rw [if_pos c38] at H
         have c38b0 : decide ((ji36) < (x0_1.length : Int)) = true := decide_eq_true c38
         clear c38
         obtain ⟨ji39,hji39⟩ : ∃ j_ : Int,(wrap64 (a3 + (wrap64 ((wrap64 (2 * x8_1)) + 1)))) = j_ := ⟨_,rfl⟩
         first|rw [hji39] at H|simp only [hji39] at H
         have hji39w : (IntKind.i64.wrap (a3 + (wrap64 ((wrap64 (2 * x8_1)) + 1)))) = ji39 := (i64_w _).trans hji39
         by_cases c40 : 0 ≤ (ji39)
         ·rw [if_pos c40] at H
          have c40b0 : decide (0 ≤ (ji39)) = true := decide_eq_true c40
          clear c40
          by_cases c41 : (ji39) < (x0_1.length : Int)
          ·rw [if_pos c41] at H
           have c41b0 : decide ((ji39) < (x0_1.length : Int)) = true := decide_eq_true c41
           clear c41
           replace H := Option.bind_eq_some_iff.mp H
           obtain ⟨t257,A420,H⟩ := H
           try dsimp only at H
           have A42 := am A420
           clear A420
           by_cases c43 : t257 = true
           ·subst c43
            rw [if_pos rfl] at H
            obtain ⟨y260,hy260⟩ : ∃ y_ : List Int,y_ = (x0_1.set ((ji36) : Int).toNat (rd x0_1 (ji39))) := ⟨_,rfl⟩
            replace H : (slices_siftDownOrdered_uint64.l0 kj5 (y260.set ((ji39) : Int).toNat (rd x0_1 (ji36))) a2 a3 (wrap64 ((wrap64 (2 * x8_1)) + 1))) = some r := by first|(rw [hy260];with_reducible exact H)|(have H2_ := (Option.bind_some _ _).symm.trans H;rw [hy260];with_reducible exact H2_)|(have H2_ := (Option.bind_some _ _).symm.trans H;with_reducible exact H2_)|with_reducible exact H|(rw [hy260];exact H)|exact H
            have Ny260 := am hy260
            clear hy260
            obtain ⟨y261,hy261⟩ : ∃ y_ : List Int,y_ = (y260.set ((ji39) : Int).toNat (rd x0_1 (ji36))) := ⟨_,rfl⟩
            replace H : (slices_siftDownOrdered_uint64.l0 kj5 y261 a2 a3 (wrap64 ((wrap64 (2 * x8_1)) + 1))) = some r := by first|(rw [hy261];with_reducible exact H)|(have H2_ := (Option.bind_some _ _).symm.trans H;rw [hy261];with_reducible exact H2_)|(have H2_ := (Option.bind_some _ _).symm.trans H;with_reducible exact H2_)|with_reducible exact H|(rw [hy261];exact H)|exact H
            have Ny261 := am hy261
            clear hy261
            have H' := am H
            clear H
            try go_wp2
            have n0_ := am (Kd.R_drew HO_0.out)
            have n1_ := am (Kept.drew HK.out)
            have n2_ := am (below_drew1 HB.out)
            clear HO_0
            clear HK
            clear HB
            have HO_0 := n0_
            have HK := n1_
            have HB := n2_
            clear n0_ n1_ n2_
            obtain ⟨Ao47,co47,eo47⟩ := Kd.R_slice HO_0.out
            (first|subst eo47|(injection eo47 with f1_ f2_ f3_;have f4_ := f1_.symm;have f5_ := f3_.symm;clear f1_ f2_ f3_;subst f4_;subst f5_))
            have p255 : 0 ≤ ((ji36) : Int) := od
            have q255 : (ji36) < (x0_1.length : Int) := od
            obtain ⟨ad255,e255,hx255_0⟩ := Kd.at_int (Kd.R_reads' HO_0.out).2.2 (ji36) p255 q255
            cases e255
            replace p255 := eq_true p255
            replace q255 := eq_true q255
            have p256 : 0 ≤ ((ji39) : Int) := od
            have q256 : (ji39) < (x0_1.length : Int) := od
            obtain ⟨ad256,e256,hx256_0⟩ := Kd.at_int (Kd.R_reads' HO_0.out).2.2 (ji39) p256 q256
            obtain rfl : ad255 = ad256 := (by injection e256)
            replace p256 := eq_true p256
            replace q256 := eq_true q256
            refine start_ (n := 14) (S := fun w' => w'.cell? (ad255.add ((ji36)).toNat) = some (.int .u64 (rd x0_1 (ji36))) ∧ w'.cell? (ad255.add ((ji39)).toNat) = some (.int .u64 (rd x0_1 (ji39)))) (ds := []) (bz 14 0) (by kernel_rfl) rfl rfl ⟨hx255_0,hx256_0⟩ (fun hHeld => ?_);refine with_tabW slices_siftDownOrdered_uint64.tab5 slices_siftDownOrdered_uint64.bits5 (fun HT_ HW_ => ?_)
            generalize wc.drew = w46 at HO_0 HK HB hx255_0 hx256_0 hHeld ⊢
            refine pk 0 39 (bz 14 1) HT_ ?_
            refine pk 1 40 (bz 14 3) HT_ ?_
            refine pk 2 41 (bz 14 7) HT_ ?_
            refine pk 3 42 (bz 14 15) HT_ ?_
            refine pk 4 43 (bz 14 31) HT_ ?_
            refine pk 6 45 (bz 14 95) HT_ ?_
            refine pk 7 46 (bz 14 223) HT_ ?_
            refine pk 8 47 (bz 14 479) HT_ ?_
            refine pk 9 48 (bz 14 991) HT_ ?_
            refine pk 10 49 (bz 14 2015) HT_ ?_
            refine tk 5 44 (bz 14 2047) HT_ HW_ hHeld ?_
            refine tk 11 50 (bz 14 4095) HT_ HW_ hHeld ?_
            refine on 12 51 (bz 14 8191) HT_ (fun K hK => ?_)
            refine goes_ Try.func111 (by kernel_rfl) rfl #[.int .u64 (rd x0_1 (ji36)),.int .u64 (rd x0_1 (ji39))] (by rfl) rfl rfl (by (try simp only [List.map_toArray,List.map_cons,List.map_nil]);first|done|(simp only [hji36,hji39];rfl)|rfl|(simp only [List.length_drop,List.length_take];rfl)) ?_
            with_reducible refine (cmp_Less_uint64.calls (rd x0_1 (ji36)) (rd x0_1 (ji39)) true _ A42.out).mono ?_
            rintro e w' ⟨rfl,⟨nd,rfl⟩⟩
            refine ⟨_,rfl,?_⟩
            refine hK.out _ _ ⟨hHeld.1,hHeld.2⟩ (fun hHeld => ?_)
            clear hK K
            refine nm 51 ?_
            refine pk 13 52 (bz 14 16383) HT_ ?_
            refine done_ (done_of HT_.out (by kernel_rfl)) ?_
            try go_wp2
            (try (rw [drewN_self w46];generalize hq_ : World.drewN w46 _ = w46;have n0_ : Aside0 (Kd.R (Kd.int .u64) 22 w46 w0.heap.size (fun k_ => (P0_ k_ ∨ w.heap.size ≤ k_)) (.slice (some ad255) x0_1.length co47) x0_1) := ⟨by rw [← hq_];exact (rr HO_0)⟩;have n1_ : Aside0 (Kept w w46 (fun k_ => P0_ k_)) := ⟨by rw [← hq_];exact (by repeat (first|(with_reducible first|exact HK.out|apply Kept.alloc|apply Kept.drewN|apply Kept.drew)|exact HK.out))⟩;have n2_ : Aside0 (Below w0.heap.size w0 w46) := ⟨by rw [← hq_];exact (bb HB)⟩;clear HO_0 HK HB hq_;have HO_0 := n0_;have HK := n1_;have HB := n2_;clear n0_ n1_ n2_))
            have n0_ := am (Kd.R_drew HO_0.out)
            have n1_ := am (Kept.drew HK.out)
            have n2_ := am (below_drew1 HB.out)
            clear HO_0
            clear HK
            clear HB
            have HO_0 := n0_
            have HK := n1_
            have HB := n2_
            clear n0_ n1_ n2_
            have p258 : 0 ≤ ((ji39) : Int) := od
            have q258 : (ji39) < (x0_1.length : Int) := od
            obtain ⟨ad258,e258,hx258_0⟩ := Kd.at_int (Kd.R_reads' HO_0.out).2.2 (ji39) p258 q258
            obtain rfl : ad255 = ad258 := (by injection e258)
            replace p258 := eq_true p258
            replace q258 := eq_true q258
            have p259 : 0 ≤ ((ji36) : Int) := od
            have q259 : (ji36) < (x0_1.length : Int) := od
            obtain ⟨ad259,e259,hx259_0⟩ := Kd.at_int (Kd.R_reads' HO_0.out).2.2 (ji36) p259 q259
            obtain rfl : ad255 = ad259 := (by injection e259)
            replace p259 := eq_true p259
            replace q259 := eq_true q259
            have p44 : 0 ≤ ((ji36) : Int) := od
            have q44 : ((ji36) : Int) < ((x0_1.length : Int) : Int) := od
            obtain ⟨go44,co44,eo44,gb44,gl44,cl44,HG44⟩ := Kd.R_form HO_0.out (by omega)
            (first|cases eo44|(injection eo44 with ea_ en_ ec_;(first|subst ea_|(injection ea_ with ea_;subst ea_));subst ec_;clear en_))
            have GB44 := am gb44
            have GG44 := am HG44
            clear gb44 gl44 HG44
            have HMgo44 := am (show (P0_ go44 ∨ w.heap.size ≤ go44) from (HO_0.out.1 _ rfl))
            (first|simp only [add_plain] at hx255_0|skip)
            (first|simp only [add_plain] at hx256_0|skip)
            (first|simp only [add_plain] at hx258_0|skip)
            (first|simp only [add_plain] at hx259_0|skip)
            obtain ⟨hx44_0,hf44_0⟩ := Kd.R_celln 0 HO_0.out ((ji36) : Int) p44 q44
            replace p44 := eq_true p44
            replace q44 := eq_true q44
            have HP49 := Kd.R_putn HO_0.out ((ji36) : Int) (rd x0_1 (ji39))
            rw [← Ny260.out] at HP49
            have HQ49 := am HP49
            clear HP49
            have p45 : 0 ≤ ((ji39) : Int) := od
            have q45 : ((ji39) : Int) < ((x0_1.length : Int) : Int) := od
            obtain ⟨hx45_0,hf45_0⟩ := Kd.R_celln 0 HQ49.out ((ji39) : Int) p45 q45
            replace p45 := eq_true p45
            replace q45 := eq_true q45
            have HP50 := Kd.R_putn HQ49.out ((ji39) : Int) (rd x0_1 (ji36))
            rw [← Ny261.out] at HP50
            have HQ50 := am HP50
            clear HP50
            refine start_ (n := 24) (S := fun w' => w'.cell? ⟨go44,((ji39)).toNat,none⟩ = some (.int .u64 (rd x0_1 (ji39))) ∧ w'.cell? ⟨go44,((ji36)).toNat,none⟩ = some (.int .u64 (rd x0_1 (ji36)))) (ds := [21,23]) (bz 24 0) (by kernel_rfl) rfl rfl ⟨hx258_0,hx259_0⟩ (fun hHeld => ?_);refine with_tabW slices_siftDownOrdered_uint64.tab6 slices_siftDownOrdered_uint64.bits6 (fun HT_ HW_ => ?_)
            generalize w46.drew = w48 at HO_0 HK HB GG44 HQ49 HQ50 hf44_0 hf45_0 hx255_0 hx256_0 hx258_0 hx259_0 hx44_0 hx45_0 hHeld ⊢
            refine pk 0 53 (bz 24 1) HT_ ?_
            refine pk 1 54 (bz 24 3) HT_ ?_
            refine pk 2 55 (bz 24 7) HT_ ?_
            refine pk 3 56 (bz 24 15) HT_ ?_
            refine pk 4 57 (bz 24 31) HT_ ?_
            refine pk 5 58 (bz 24 63) HT_ ?_
            refine pk 6 59 (bz 24 127) HT_ ?_
            refine pk 7 60 (bz 24 255) HT_ ?_
            refine pk 8 61 (bz 24 511) HT_ ?_
            refine pk 9 62 (bz 24 1023) HT_ ?_
            refine pk 10 63 (bz 24 2047) HT_ ?_
            refine pk 11 64 (bz 24 4095) HT_ ?_
            refine pk 12 65 (bz 24 8191) HT_ ?_
            refine pk 14 67 (bz 24 24575) HT_ ?_
            refine pk 15 68 (bz 24 57343) HT_ ?_
            refine pk 16 69 (bz 24 122879) HT_ ?_
            refine pk 17 70 (bz 24 253951) HT_ ?_
            refine pk 18 71 (bz 24 516095) HT_ ?_
            refine tk 13 66 (bz 24 524287) HT_ HW_ hHeld ?_
            refine tk 19 72 (bz 24 1048575) HT_ HW_ hHeld ?_
            refine pk 20 73 (bz 24 2097151) HT_ ?_
            refine last_ (i := 21) (N := none) (bz 24 4194303) rfl rfl (one_of HT_.out (by kernel_rfl)) (by decide) (fun K hK => ?_)
            refine skip_ (w1 := ?_) (by rfl) rfl ?_ ?_
            rotate_left
            ·go_simp
             rfl
            refine hK.out _ _ ?_
            clear hK K
            refine pk 22 74 (bz 24 8388607) HT_ ?_
            refine last_ (i := 23) (N := none) (bz 24 16777215) rfl rfl (one_of HT_.out (by kernel_rfl)) (by decide) (fun K hK => ?_)
            refine skip_ (w1 := ?_) (by rfl) rfl ?_ ?_
            rotate_left
            ·go_simp
             rfl
            refine hK.out _ _ ?_
            clear hK K
            refine done_ (done_of HT_.out (by kernel_rfl)) ?_
            try go_wp2
            go_roundg kj5
            case measure => have := HK1.out;have := HJ5.out;omega
            case rel => exact ⟨(y261),((wrap64 ((wrap64 (2 * x8_1)) + 1))),(by first|rfl|(simp;done)|(simp [*];done)),H',⟨by have := HK1.out;have := HJ5.out;omega⟩,⟨by (with_reducible repeat (first|apply Kd.R_alloc|apply Kd.R_drewN|apply Kd.R_drew));exact HQ50.out⟩,⟨by repeat (first|(with_reducible first|exact HK.out|apply Kept.alloc|apply Kept.drewN|apply Kept.drew|refine Kept.setCell ?_ HMgo44.out _|refine Kept.setCell ?_ HMgo44.out _)|exact HK.out)⟩,⟨by repeat (first|(with_reducible first|exact HB.out|apply below_alloc|apply pw_below_drewN|apply below_drew1|refine below_set ?_ GB44.out|refine below_set ?_ GB44.out)|exact HB.out)⟩⟩
           ·replace c43 := Bool.eq_false_iff.mpr c43
            subst c43
            rw [if_neg (show ¬ (false = true) by decide)] at H
            obtain rfl := Option.some.inj H
            try go_wp2
            have n0_ := am (Kd.R_drew HO_0.out)
            have n1_ := am (Kept.drew HK.out)
            have n2_ := am (below_drew1 HB.out)
            clear HO_0
            clear HK
            clear HB
            have HO_0 := n0_
            have HK := n1_
            have HB := n2_
            clear n0_ n1_ n2_
            obtain ⟨Ao52,co52,eo52⟩ := Kd.R_slice HO_0.out
            (first|subst eo52|(injection eo52 with f1_ f2_ f3_;have f4_ := f1_.symm;have f5_ := f3_.symm;clear f1_ f2_ f3_;subst f4_;subst f5_))
            have p255 : 0 ≤ ((ji36) : Int) := od
            have q255 : (ji36) < (x0_1.length : Int) := od
            obtain ⟨ad255,e255,hx255_0⟩ := Kd.at_int (Kd.R_reads' HO_0.out).2.2 (ji36) p255 q255
            cases e255
            replace p255 := eq_true p255
            replace q255 := eq_true q255
            have p256 : 0 ≤ ((ji39) : Int) := od
            have q256 : (ji39) < (x0_1.length : Int) := od
            obtain ⟨ad256,e256,hx256_0⟩ := Kd.at_int (Kd.R_reads' HO_0.out).2.2 (ji39) p256 q256
            obtain rfl : ad255 = ad256 := (by injection e256)
            replace p256 := eq_true p256
            replace q256 := eq_true q256
            refine start_ (n := 14) (S := fun w' => w'.cell? (ad255.add ((ji36)).toNat) = some (.int .u64 (rd x0_1 (ji36))) ∧ w'.cell? (ad255.add ((ji39)).toNat) = some (.int .u64 (rd x0_1 (ji39)))) (ds := []) (bz 14 0) (by kernel_rfl) rfl rfl ⟨hx255_0,hx256_0⟩ (fun hHeld => ?_);refine with_tabW slices_siftDownOrdered_uint64.tab5 slices_siftDownOrdered_uint64.bits5 (fun HT_ HW_ => ?_)
            generalize wc.drew = w51 at HO_0 HK HB hx255_0 hx256_0 hHeld ⊢
            refine pk 0 39 (bz 14 1) HT_ ?_
            refine pk 1 40 (bz 14 3) HT_ ?_
            refine pk 2 41 (bz 14 7) HT_ ?_
            refine pk 3 42 (bz 14 15) HT_ ?_
            refine pk 4 43 (bz 14 31) HT_ ?_
            refine pk 6 45 (bz 14 95) HT_ ?_
            refine pk 7 46 (bz 14 223) HT_ ?_
            refine pk 8 47 (bz 14 479) HT_ ?_
            refine pk 9 48 (bz 14 991) HT_ ?_
            refine pk 10 49 (bz 14 2015) HT_ ?_
            refine tk 5 44 (bz 14 2047) HT_ HW_ hHeld ?_
            refine tk 11 50 (bz 14 4095) HT_ HW_ hHeld ?_
            refine on 12 51 (bz 14 8191) HT_ (fun K hK => ?_)
            refine goes_ Try.func111 (by kernel_rfl) rfl #[.int .u64 (rd x0_1 (ji36)),.int .u64 (rd x0_1 (ji39))] (by rfl) rfl rfl (by (try simp only [List.map_toArray,List.map_cons,List.map_nil]);first|done|(simp only [hji36,hji39];rfl)|rfl|(simp only [List.length_drop,List.length_take];rfl)) ?_
            with_reducible refine (cmp_Less_uint64.calls (rd x0_1 (ji36)) (rd x0_1 (ji39)) false _ A42.out).mono ?_
            rintro e w' ⟨rfl,⟨nd,rfl⟩⟩
            refine ⟨_,rfl,?_⟩
            refine hK.out _ _ ⟨hHeld.1,hHeld.2⟩ (fun hHeld => ?_)
            clear hK K
            refine nm 51 ?_
            refine pk 13 52 (bz 14 16383) HT_ ?_
            refine done_ (done_of HT_.out (by kernel_rfl)) ?_
            try go_wp2
            first|go_end0|((try simp only [Exit.inBlock,Exit.then]);refine bodyPost_ret (results_none rfl _ _ _) rfl ?_)
            exact ⟨by first|rfl|(simp [errW_none,errW_some] <;> rfl)|(simp only [← hji36,← hji39];first|rfl|(simp [errW_none,errW_some] <;> rfl))|(simp [*,errW_none,errW_some] <;> rfl),by (with_reducible repeat (first|apply Kd.R_alloc|apply Kd.R_drewN|apply Kd.R_drew));exact HO_0.out,by repeat (first|(with_reducible first|exact HB.out|apply below_alloc|apply pw_below_drewN|apply below_drew1)|exact HB.out),by repeat (first|(with_reducible first|exact HK.out|apply Kept.alloc|apply Kept.drewN|apply Kept.drew)|exact HK.out)⟩
          ·rw [if_neg c41] at H
           exact absurd H (by simp)
         ·rw [if_neg c40] at H
          exact absurd H (by simp)
        ·rw [if_neg c38] at H
         exact absurd H (by simp)
       ·rw [if_neg c37] at H
        exact absurd H (by simp)
end Go.Proofs.Ytmdoaijkaaaglaa.Pr
end
