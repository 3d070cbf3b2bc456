/- Part 1 of the proof's texts, joined in build order. -/
import Derived.Test.YtmdoaijkaaaglaaProg
import Derived.Test.YtmdoaijkaaaglaaZKK0
import Derived.KernelRfl
import Derived.WalkKit
import Derived.Tactics
import Derived.Tactics2
import Derived.OrdersHeld
import Derived.Deep.Draws
import Derived.Laws.Externs
import Derived.Laws.Rows
import Derived.Below
import Derived.Deep.AppendLies
import Derived.Maps.AppendAt
import Derived.OwnWalk
import Derived.Laws.BytesArg
import Derived.Laws.MakeOwn
import Derived.Laws.OwnMore
import Derived.Deep.OwnRows
import Derived.Lib.ConvBytes
import Derived.Laws.Slices
import Derived.RowKit3
import Derived.Deep.LoopGhost
import Derived.Deep.QuietTactic
import Derived.BigQuiet
import Derived.WideLaws
import Derived.Deep.DeepCutAuto
import Derived.Deep.CutBlock
import Derived.Deep.RegionHeld3
import Derived.Lib.AppendStr
import Derived.ArgAppend
import Derived.Laws.IdiomCopy
import Derived.Laws.BitsLemmas
import Derived.RowKit
import Derived.Laws.BitsAllLaws
import Derived.StillTail
import Derived.Lib.Hide
import Derived.Lib.SliceRun
set_option linter.unusedVariables false
set_option linter.unusedSimpArgs false
section
namespace Go.Proofs.Ytmdoaijkaaaglaa.Hw
open Go.RowKit Go.Proofs.YtmdoaijkaaaglaaW.PrintWords Go.Proofs.YtmdoaijkaaaglaaW.PrintLast Go.Proofs.YtmdoaijkaaaglaaW.PrintMore
theorem am {p : Prop} (h : p) : Aside0 p := ⟨h⟩
theorem od {p : Prop} [Decidable p] (h : decide p = true := by first|(with_reducible assumption)|assumption) : p := of_decide_eq_true h
section
variable {X : Type} {d : Kd X} {e : TypeId} {W w : World} {base : Nat} {ok : Nat → Prop} {v : Value} {xs : List X}
theorem rr (h : Aside0 (Kd.R d e W base ok v xs)) (f : Kd.R d e W base ok v xs → Kd.R d e w base ok v xs := by intro h_;(with_reducible repeat (first|apply Kd.R_alloc|apply Kd.R_drewN|apply Kd.R_drew));exact h_) : Kd.R d e w base ok v xs := f h.out
theorem cr {A : Option Addr} {n c : Nat} (h : Aside0 (Kd.R d e W base ok (.slice A n c) xs)) (f : Kd.C d W A xs.length xs → Kd.C d w A xs.length xs := by intro h_;repeat (first|exact h_|(with_reducible refine Kd.C_alloc ?_ _)|(with_reducible refine Kd.C_drewN ?_ _)|(with_reducible refine Kd.C_drew ?_))) : Kd.C d w A xs.length xs := f (Kd.R_reads' h.out).2.2
theorem rn (h : Aside0 (Kd.N d e W base ok v xs)) (f : Kd.N d e W base ok v xs → Kd.N d e w base ok v xs := by intro h_;(with_reducible repeat (first|apply Kd.N_alloc|apply Kd.N_drewN|apply Kd.N_drew));exact h_) : Kd.N d e w base ok v xs := f h.out
theorem cx {A : Option Addr} {n : Nat} (h : Aside0 (Kd.C d W A n xs)) (f : Kd.C d W A n xs → Kd.C d w A n xs := by intro h_;repeat (first|(with_reducible exact h_)|(with_reducible refine Kd.C_alloc ?_ _)|(with_reducible refine Kd.C_drewN ?_ _)|(with_reducible refine Kd.C_drew ?_)|exact h_)) : Kd.C d w A n xs := f h.out
theorem cb {A : Option Addr} {n : Nat} {w0 : World} (h : Aside0 (Kd.C d w0 A n xs)) (hb : Aside0 (Below w0.heap.size w0 W)) (f : Kd.C d W A n xs → Kd.C d w A n xs := by intro h_;repeat (first|exact h_|(with_reducible refine Kd.C_alloc ?_ _)|(with_reducible refine Kd.C_drewN ?_ _)|(with_reducible refine Kd.C_drew ?_))) : Kd.C d w A n xs := f (Kd.C_below h.out hb.out)
end
theorem bb {B : Nat} {w W W' : World} (h : Aside0 (Below B w W)) (f : Below B w W → Below B w W' := by intro h_;repeat (first|(with_reducible first|exact h_|apply below_alloc|apply pw_below_drewN|apply below_drew1)|exact h_)) : Below B w W' := f h.out
theorem bg {B : Nat} {w W W' : World} {g : Nat} (h : Aside0 (Below B w W)) (hg : Aside0 (w.heap.size ≤ g)) (f : Below B w W → w.heap.size ≤ g → Below B w W' := by intro h_ g_;repeat (first|(with_reducible first|exact h_|apply below_alloc|apply pw_below_drewN|apply below_drew1|refine below_set ?_ g_)|exact h_)) : Below B w W' := f h.out hg.out
theorem bc {w : World} {g : Nat} {t : TypeId} {cs : Array Value} (h : Aside0 (w.heap[g]? = some (.cells cs t (0,0)))) (i : Nat) {v : Value} (f : cs[i]? = some v := by rfl) : w.cell? ⟨g,i,none⟩ = some v := (blk_cell h.out i).trans f
theorem bf {w : World} {g : Nat} {t : TypeId} {cs : Array Value} (h : Aside0 (w.heap[g]? = some (.cells cs t (0,0)))) (i : Nat) : w.frozen? ⟨g,i,none⟩ = false := blk_frozen h.out i
theorem kb {w W w1 : World} {g : Nat} {o : Obj} (h : Aside0 (w.heap[g]? = some o)) (hb : Below W.heap.size W w1) (f : w.heap[g]? = some o → W.heap[g]? = some o := by intro h_;(with_reducible repeat (first|refine blk_drewN ?_ _|refine blk_drew ?_|refine blk_alloc ?_ _));exact h_) : w1.heap[g]? = some o := blk_below (f h.out) hb
theorem kx {w W : World} {g : Nat} {o : Obj} (h : Aside0 (w.heap[g]? = some o)) (f : w.heap[g]? = some o → W.heap[g]? = some o := by intro h_;(with_reducible repeat (first|refine blk_drewN ?_ _|refine blk_drew ?_|refine blk_alloc ?_ _));exact h_) : W.heap[g]? = some o := f h.out
def bz (n m : Nat) : Array Bool := ⟨(List.range n).map fun i => m.testBit i⟩
section
variable {P : Program} {ops : Array Oper} {Q : Exit → Act → World → Prop} {md : Region.Mode} {S : World → Prop} {ds : List Nat} {oi : Oper} {v : Value} {fuel : Nat} {l : Array Bool} {a a' : Act} {w : World}
theorem pu (i N : Nat) (l' : Array Bool) (h : wpAnyLast P md ops Q S ds fuel l' a' w) (hc : anyB md ops l l' i = true := by kernel_rfl)
  (hi : ops[i]? = some oi := by rfl) (hN : oi.dst = some N := by rfl) (hQ : ∀ c a w,Q (.panic c) (a.put oi.dst v) w → Q (.panic c) a w := by exact fun _ _ _ h => h) (hw : Region.wanted oi (yielded ops a.tmps) = true := by rfl)
  (hv : ∀ w',(execOp a.eval oi).run P w' = .ok (.value v) w' := by intro w';go_simp;with_reducible rfl)
  (ha : a.put (some N) v = a' := by simp only [Act.put,List.setIfInBounds_toArray,List.set_cons_zero,List.set_cons_succ,i64_w,i32_w];rfl) : wpAnyLast P md ops Q S ds (fuel + 1) l a w :=
 pure_ l' hi hN hc hQ (Or.inl ⟨hw,hv⟩) ha h
theorem pk {T : Bool × List (List Nat × List Nat)} (i N : Nat) (l' : Array Bool) (hT : Aside0 (rtab md ops = T)) (h : wpAnyLast P md ops Q S ds fuel l' a' w) (hc : anyT T l.toList l'.toList i = true := by kernel_rfl)
  (hi : ops[i]? = some oi := by rfl) (hN : oi.dst = some N := by rfl) (hQ : ∀ c a w,Q (.panic c) (a.put oi.dst v) w → Q (.panic c) a w := by exact fun _ _ _ h => h) (hw : Region.wanted oi (yielded ops a.tmps) = true := by rfl)
  (hv : ∀ w',(execOp a.eval oi).run P w' = .ok (.value v) w' := by intro w';go_simp;with_reducible rfl)
  (ha : a.put (some N) v = a' := by simp only [Act.put,List.setIfInBounds_toArray,List.set_cons_zero,List.set_cons_succ,i64_w,i32_w];rfl) : wpAnyLast P md ops Q S ds (fuel + 1) l a w :=
 pure_ l' hi hN (any_of hT.out hc) hQ (Or.inl ⟨hw,hv⟩) ha h
theorem pz {T : Bool × List (List Nat × List Nat)} (i N : Nat) (l' : Array Bool) (hT : Aside0 (rtab md ops = T)) (h : wpAnyLast P md ops Q S ds fuel l' a' w) (hc : anyT T l.toList l'.toList i = true := by kernel_rfl)
  (hi : ops[i]? = some oi := by rfl) (hN : oi.dst = some N := by rfl) (hQ : ∀ c a w,Q (.panic c) (a.put oi.dst undef) w → Q (.panic c) a w := by exact fun _ _ _ h => h) (hw : Region.wanted oi (yielded ops a.tmps) = false := by rfl)
  (ha : a.put (some N) undef = a' := by simp only [Act.put,List.setIfInBounds_toArray,List.set_cons_zero,List.set_cons_succ,i64_w,i32_w];rfl) : wpAnyLast P md ops Q S ds (fuel + 1) l a w :=
 pure_ l' hi hN (any_of hT.out hc) hQ (Or.inr ⟨hw,rfl⟩) ha h
theorem tu (i N : Nat) (l' : Array Bool) (hS : S w) (h : wpAnyLast P md ops Q S ds fuel l' a' w) (hc : takeB md ops ds l l' i = true := by kernel_rfl)
  (hi : ops[i]? = some oi := by rfl) (hN : oi.dst = some N := by rfl) (hQ : ∀ c a w,Q (.panic c) (a.put oi.dst v) w → Q (.panic c) a w := by exact fun _ _ _ h => h) (hw : Region.wanted oi (yielded ops a.tmps) = true := by rfl)
  (hv : ∀ w',S w' → (execOp a.eval oi).run P w' = .ok (.value v) w' := by intro w' s0;go_simp;with_reducible rfl)
  (ha : a.put (some N) v = a' := by simp only [Act.put,List.setIfInBounds_toArray,List.set_cons_zero,List.set_cons_succ,i64_w,i32_w];rfl) : wpAnyLast P md ops Q S ds (fuel + 1) l a w :=
 take_ l' hi hN hc hQ (Or.inl ⟨hw,hv⟩) hS ha h
theorem tk {T : Bool × List (List Nat × List Nat)} {B : List Nat} (i N : Nat) (l' : Array Bool) (hT : Aside0 (rtab md ops = T)) (hB : Aside0 (waitsOk T.2 B = true)) (hS : S w) (h : wpAnyLast P md ops Q S ds fuel l' a' w) (hc : takeW T B ds l.toList l'.toList i = true := by kernel_rfl)
  (hi : ops[i]? = some oi := by rfl) (hN : oi.dst = some N := by rfl) (hQ : ∀ c a w,Q (.panic c) (a.put oi.dst v) w → Q (.panic c) a w := by exact fun _ _ _ h => h) (hw : Region.wanted oi (yielded ops a.tmps) = true := by rfl)
  (hv : ∀ w',S w' → (execOp a.eval oi).run P w' = .ok (.value v) w' := by intro w' s0;go_simp;with_reducible rfl)
  (ha : a.put (some N) v = a' := by simp only [Act.put,List.setIfInBounds_toArray,List.set_cons_zero,List.set_cons_succ,i64_w,i32_w];rfl) : wpAnyLast P md ops Q S ds (fuel + 1) l a w :=
 take_ l' hi hN (take_ofW hT.out hB.out hc) hQ (Or.inl ⟨hw,hv⟩) hS ha h
theorem on {T : Bool × List (List Nat × List Nat)} (i N : Nat) (l' : Array Bool) (hT : Aside0 (rtab md ops = T)) (h : ∀ K : Act → World → Prop,Shut (∀ a' w',S w' → (S w' → wpAnyLast P md ops Q S ds fuel l' a' w') → K a' w') → if Region.wanted oi (yielded ops a.tmps) = true then Oper.wp P oi a w K Q else K (a.put (some N) undef) w)
  (hc : (readyT T.2 l.toList == [i] && l.toList.set i true == l'.toList) = true := by kernel_rfl) (hi : ops[i]? = some oi := by rfl) (hN : oi.dst = some N := by rfl) (hd : i ∉ ds := by decide) : wpAnyLast P md ops Q S ds (fuel + 1) l a w := one_ l' hi hN (one_of hT.out hc) hd h
theorem nm (N : Nat) (h : wpAnyLast P md ops Q S ds fuel l a' w) (ha : a.put (some N) v = a' := by simp only [Act.put,List.setIfInBounds_toArray,List.set_cons_zero,List.set_cons_succ,i64_w,i32_w];rfl) : wpAnyLast P md ops Q S ds fuel l (a.put (some N) v) w := norm_ ha h
end
section
variable {P : Program} {ops : Array Oper} {Q : Exit → Act → World → Prop}
theorem goesX_ {rest : List Oper} {oi : Oper} {a : Act} {w : World} (N : Option Tmp) (hd : oi.dst = N) (hg : oi.guard = none) {f : FuncId} {xs : Array Operand} {ts : Array TypeId} (args : Array Value)
  (hop : oi.op = .call { callee := .value (.func f),args := xs,argTypes := ts }) (hargs : xs.map a.eval = args) (v : Value) (hrun : (callFunc f args).run P w = .ok (.value v) w)
  (h : wpList P ops Q rest (a.put N v) w) : wpList P ops Q (oi :: rest) a w := by
 refine wpList_plain hg fun K hK => ?_
 have hr : (execOp a.eval oi).run P w = .ok (.value v) w := by
  unfold execOp
  simp [hop,resolve,Deferred.ofValue,invoke,Act.eval,hargs,hrun]
 unfold Oper.wp
 rw [hr,Oper.upon_value]
 subst hd
 exact hK _ _ h
end
theorem R_open {k : IntKind} {e base : Nat} {w : World} {ok : Nat → Prop} {v : Value} {xs : List Int} (h : Kd.R (Kd.int k) e w base ok v xs) (hn : 0 < xs.length) :
  ∃ b c,v = .slice (some ⟨b,0,none⟩) xs.length c ∧ base ≤ b ∧ w.ownsRow base e 1 (.slice (some ⟨b,0,none⟩) xs.length c) xs.length (nums k xs) := by
 have ho := Kd.own_of_R h
 rcases ho.2 with ⟨_,h0⟩|⟨b,c,cur,rfl,hb,_⟩
 ·omega
 ·exact ⟨b,c,rfl,hb,ho⟩
def bits_Add64.f (a0 : Int) (a1 : Int) (a2 : Int) : Option (Int × Int) :=
 if 0 ≤ a0 then (if 0 ≤ a1 then (if 0 ≤ a2 then (if a2 ≤ 1 then some ((a0 + a1 + a2) % 18446744073709551616,(a0 + a1 + a2) / 18446744073709551616) else none) else none) else none) else none
theorem bits_Add64.runs (a0 a1 a2 r1 r2 : Int) (w : World) (h : bits_Add64.f a0 a1 a2 = some (r1,r2)) :
  (callFunc 84 #[.int .u64 a0,.int .u64 a1,.int .u64 a2]).run Try.prog w = .ok (.value (.tuple #[.int .u64 r1,.int .u64 r2])) w := by
 unfold bits_Add64.f at h
 split at h
 ·split at h
  ·split at h
   ·split at h
    ·simp only [Option.some.injEq,Prod.mk.injEq] at h
     obtain ⟨rfl,rfl⟩ := h
     rw [run_callFunc_extern Try.func84 (by kernel_rfl) (by kernel_rfl) (by kernel_rfl) (e := add64Entry) (by kernel_rfl),run_add64 a0 a1 a2 (by assumption) (by assumption) (by assumption) (by assumption)]
     rfl
    ·simp at h
   ·simp at h
  ·simp at h
 ·simp at h
end Go.Proofs.Ytmdoaijkaaaglaa.Hw
end
section
namespace Go.Proofs.Ytmdoaijkaaaglaa.Pr
open Go.RowKit Go.Proofs.YtmdoaijkaaaglaaW.PrintWords Go.Proofs.YtmdoaijkaaaglaaW.PrintLast Go.Proofs.YtmdoaijkaaaglaaW.PrintMore
attribute [local go_sem] max2_int min2_int max_two min_two max_three min_three max_four min_four
open Go.Proofs.Ytmdoaijkaaaglaa.Hw
def errW : Option Int → Value
 | none => .nilIface
 | some c => .iface 0 (.int .i64 c)
theorem errW_none : errW none = .nilIface := rfl
theorem errW_some (c : Int) : errW (some c) = .iface 0 (.int .i64 c) := rfl
theorem info3 : (Try.prog.info? 3).map (fun i => (i.zero,i.size,i.bytes)) = some (some (.int .i64 0),1,8) := by kernel_rfl
theorem info4 : (Try.prog.info? 4).map (fun i => (i.zero,i.size,i.bytes)) = some (some (.bool false),1,1) := by kernel_rfl
theorem info22 : (Try.prog.info? 22).map (fun i => (i.zero,i.size,i.bytes)) = some (some (.int .u64 0),1,8) := by kernel_rfl
theorem info40 : (Try.prog.info? 40).map (fun i => (i.zero,i.size,i.bytes)) = some (some (.slice none 0 0),1,24) := by kernel_rfl
structure S56 where
 f0 : Int
 f1 : Int
def z56 : S56 := ⟨(0 : Int),(0 : Int)⟩
def k56 : Kd S56 := Kd.iso (Kd.pair (Kd.int .u64) (Kd.int .u64)) (fun x : S56 => (x.f0,x.f1))
theorem k56_open {w : World} {x : S56} {cs : List Value} (h : k56.K w x cs) : cs = [.int .u64 x.f0,.int .u64 x.f1] := by
 obtain ⟨_,_,rfl,rfl,rfl⟩ := h
 exact rfl
theorem k56_mkM (w : World) (base : Nat) (ok : Nat → Prop) (x : S56)  : k56.M w base ok x [.int .u64 x.f0,.int .u64 x.f1] := ⟨[.int .u64 x.f0],[.int .u64 x.f1],rfl,rfl,rfl⟩
def rd_T56 (xs : List S56) (i : Int) : S56 := xs.getD i.toNat z56
theorem at_T56 {w : World} {A : Option Addr} {n : Nat} {xs : List S56} (h : Kd.C k56 w A n xs) (i : Int) (h0 : 0 ≤ i) (h1 : i < n) : ∃ ad ,A = some ad ∧ w.cell? (ad.add (i.toNat * 2)) = some (.int .u64 (rd_T56 xs i).f0) ∧ w.cell? ⟨(ad.add (i.toNat * 2)).block,(ad.add (i.toNat * 2)).off + 1,none⟩ = some (.int .u64 (rd_T56 xs i).f1) := by
 obtain ⟨ad,c,e,_,hK,hc0⟩ := Kd.C_get h z56 i h0 h1
 have hc : ∀ j u,c[j]? = some u → w.cell? (ad.add (i.toNat * 2 + j)) = some u := hc0
 obtain rfl := k56_open hK
 exact ⟨ad,e,hc 0 _ rfl,by rw [← add_field _ _ 1 (by omega)];exact hc 1 _ rfl⟩
def rd_L2 (xs : List (List Int)) (i : Int) : (List Int) := xs.getD i.toNat ([] : List Int)
theorem at_L2 {w : World} {A : Option Addr} {n : Nat} {xs : List (List Int)} (h : Kd.C (Kd.slice 22 (Kd.int .u64)) w A n xs) (i : Int) (h0 : 0 ≤ i) (h1 : i < n) : ∃ ad A0 c0,A = some ad ∧ w.cell? (ad.add i.toNat) = some (.slice A0 (rd_L2 xs i).length c0) ∧ (rd_L2 xs i).length ≤ c0 ∧ (Kd.int .u64).C w A0 (rd_L2 xs i).length (rd_L2 xs i) := by
 obtain ⟨ad,c,e,_,hK,hc0⟩ := Kd.C_get h ([] : List Int) i h0 h1
 have hc : ∀ j u,c[j]? = some u → w.cell? (ad.add (i.toNat * 1 + j)) = some u := hc0
 obtain ⟨A0,c0,rfl,l0,g0⟩ := hK
 exact ⟨ad,A0,c0,e,by have hq := hc 0 _ rfl;rwa [Nat.mul_one,Nat.add_zero] at hq,l0,g0⟩
def privityref05_Same.l0 : Nat → List Int → List Int → Int → Option (Bool)
 | 0,_,_,_ => none
 | k + 1,x0,x1,x5 => if x5 < (x0.length : Int) then (if 0 ≤ x5 then (if x5 < (x1.length : Int) then (if (rd x0 x5) = (rd x1 x5) then (privityref05_Same.l0 k x0 x1 (wrap64 (x5 + 1))) else (some false)) else (none)) else (none)) else (some true)
def privityref05_Same.f (k : Nat) (l0 : List Int) (l1 : List Int) : Option (Bool) := if (l0.length : Int) = (l1.length : Int) then (privityref05_Same.l0 k l0 l1 0) else (some false)
theorem privityref05_Same.mono_l : ∀ k,(∀ y0 y1 y2,LeO (privityref05_Same.l0 k y0 y1 y2) (privityref05_Same.l0 (k + 1) y0 y1 y2))
 | 0 => fun _ _ _ r h => by simp [privityref05_Same.l0] at h
 | k + 1 => by
  have ih0 := privityref05_Same.mono_l k
  ·intro y0 y1 y2
   unfold privityref05_Same.l0
   repeat' first
   | (with_reducible exact ih0 _ _ _)
   | (with_reducible exact LeO.refl _)
   | (with_reducible exact LeO.none _)
   | (with_reducible refine LeO.ite ?_ ?_)
   | (with_reducible refine LeO.bind ?_ (fun _ => ?_))
   | exact ih0 _ _ _
   | exact LeO.none _
   | refine LeO.ite ?_ ?_
   | refine LeO.bind ?_ (fun _ => ?_)
theorem privityref05_Same.mono : ∀ a0 a1 k,LeO (privityref05_Same.f k a0 a1) (privityref05_Same.f (k + 1) a0 a1) := by
 intro a0 a1 k
 have ih0 := privityref05_Same.mono_l k
 unfold privityref05_Same.f
 repeat' first
   | (with_reducible exact ih0 _ _ _)
   | (with_reducible exact LeO.refl _)
   | (with_reducible exact LeO.none _)
   | (with_reducible refine LeO.ite ?_ ?_)
   | (with_reducible refine LeO.bind ?_ (fun _ => ?_))
   | exact ih0 _ _ _
   | exact LeO.none _
   | refine LeO.ite ?_ ?_
   | refine LeO.bind ?_ (fun _ => ?_)
set_option maxHeartbeats 8000000 in
set_option maxRecDepth 100000 in
theorem privityref05_Same.calls (k : Nat) (A0 : Option Addr) (c0 : Nat) (l0 : List Int) (A1 : Option Addr) (c1 : Nat) (l1 : List Int) (r : Bool) (w : World) (hr0 : Kd.C (Kd.int .u64) w A0 l0.length l0) (hc0 : l0.length ≤ c0) (hr1 : Kd.C (Kd.int .u64) w A1 l1.length l1) (hc1 : l1.length ≤ c1) (h : privityref05_Same.f k l0 l1 = some r) :
  Calls Try.prog 24 #[.slice A0 l0.length c0,.slice A1 l1.length c1] w fun e w' => e = .returned (.bool r) ∧ Drawn0 w w' := by
 have HR0 := am hr0
 have HC0 := am hc0
 clear hr0 hc0
 have HR1 := am hr1
 have HC1 := am hc1
 clear hr1 hc1
 have H : (if (l0.length : Int) = (l1.length : Int) then (privityref05_Same.l0 k l0 l1 0) else (some false)) = some r := h
 clear h
 by_cases c3 : (l0.length : Int) = (l1.length : Int)
 ·rw [if_pos c3] at H
  have c3b0 : ((l0.length : Int) == (l1.length : Int)) = true := beq_iff_eq.mpr c3
  have c3b1 : ((l0.length : Int) != (l1.length : Int)) = false := bne_eq_false_iff_eq.mpr c3
  have c3b2 : (l0.length == l1.length) = true := by first|simpa using c3|(simp at c3 ⊢;omega)
  clear c3
  have H' := am H
  clear H
  go_enter Try.func24,Try.ntmps24
  go_wp2
  repeat (go_quiet (fail);try go_wp2)
  go_loopg [5] k (fun kq v5 w' => ∃ (x5_1 : Int),v5 = .int .i64 x5_1 ∧ Aside0 (privityref05_Same.l0 kq l0 l1 x5_1 = some r) ∧ Aside0 (kq ≤ k) ∧ Drawn0 w w')
  case atStart => exact ⟨(0),(by first|rfl|(simp;done)|(simp [*];done)),H',⟨Nat.le_refl _⟩,by repeat (first|exact Drawn0.refl _|apply Drawn0.step)⟩
  case round =>
   clear H'
   try clear c1
   try clear c2
   try clear p2
   try clear c3
   try clear c3b0
   try clear c3b1
   try clear c3b2
   obtain ⟨x5_1,rfl,HA,HK1,⟨m1,rfl⟩⟩ := hrel
   cases gk with
   | zero => exact absurd HA.out (by simp [privityref05_Same.l0])
   | succ k1 =>
    have H := HA.out
    clear HA
    simp only [privityref05_Same.l0] at H
    by_cases c4 : x5_1 < (l0.length : Int)
    ·rw [if_pos c4] at H
     have c4b0 : decide (x5_1 < (l0.length : Int)) = true := decide_eq_true c4
     clear c4
     by_cases c5 : 0 ≤ x5_1
     ·rw [if_pos c5] at H
      have c5b0 : decide (0 ≤ x5_1) = true := decide_eq_true c5
      clear c5
      by_cases c6 : x5_1 < (l1.length : Int)
      ·rw [if_pos c6] at H
       have c6b0 : decide (x5_1 < (l1.length : Int)) = true := decide_eq_true c6
       clear c6
       by_cases c7 : (rd l0 x5_1) = (rd l1 x5_1)
       ·rw [if_pos c7] at H
        have c7b0 : ((rd l0 x5_1) == (rd l1 x5_1)) = true := beq_iff_eq.mpr c7
        have c7b1 : ((rd l0 x5_1) != (rd l1 x5_1)) = false := bne_eq_false_iff_eq.mpr c7
        clear c7
        have H' := am H
        clear H
        have p386 : 0 ≤ (x5_1 : Int) := od
        have q386 : x5_1 < (l0.length : Int) := od
        obtain ⟨ad386,e386,hx386_0⟩ := Kd.at_int HR0.out x5_1 p386 q386
        cases e386
        replace p386 := eq_true p386
        replace q386 := eq_true q386
        have p387 : 0 ≤ (x5_1 : Int) := od
        have q387 : x5_1 < (l1.length : Int) := od
        obtain ⟨ad387,e387,hx387_0⟩ := Kd.at_int HR1.out x5_1 p387 q387
        cases e387
        replace p387 := eq_true p387
        replace q387 := eq_true q387
        go_wp2
        repeat (go_quiet (fail);try go_wp2)
        go_roundg k1
        case measure => have := HK1.out;omega
        case rel => exact ⟨(wrap64 (x5_1 + 1)),(by first|rfl|(simp;done)|(simp [*];done)),H',⟨by have := HK1.out;omega⟩,by repeat (first|exact Drawn0.refl _|apply Drawn0.step)⟩
       ·rw [if_neg c7] at H
        have c7b0 : ((rd l0 x5_1) == (rd l1 x5_1)) = false := beq_eq_false_iff_ne.mpr c7
        have c7b1 : ((rd l0 x5_1) != (rd l1 x5_1)) = true := bne_iff_ne.mpr c7
        obtain rfl := Option.some.inj H
        have p386 : 0 ≤ (x5_1 : Int) := od
        have q386 : x5_1 < (l0.length : Int) := od
        obtain ⟨ad386,e386,hx386_0⟩ := Kd.at_int HR0.out x5_1 p386 q386
        cases e386
        replace p386 := eq_true p386
        replace q386 := eq_true q386
        have p387 : 0 ≤ (x5_1 : Int) := od
        have q387 : x5_1 < (l1.length : Int) := od
        obtain ⟨ad387,e387,hx387_0⟩ := Kd.at_int HR1.out x5_1 p387 q387
        cases e387
        replace p387 := eq_true p387
        replace q387 := eq_true q387
        go_wp2
        repeat (go_quiet (fail);try go_wp2)
        go_ret
        exact ⟨by first|rfl|(simp;done)|(simp [*];done),by repeat (first|exact Drawn0.refl _|apply Drawn0.step)⟩
      ·rw [if_neg c6] at H
       exact absurd H (by simp)
     ·rw [if_neg c5] at H
      exact absurd H (by simp)
    ·rw [if_neg c4] at H
     have c4b0 : decide (x5_1 < (l0.length : Int)) = false := decide_eq_false c4
     clear c4
     obtain rfl := Option.some.inj H
     go_wp2
     repeat (go_quiet (fail);try go_wp2)
     go_ret
     exact ⟨by first|rfl|(simp;done)|(simp [*];done),by repeat (first|exact Drawn0.refl _|apply Drawn0.step)⟩
 ·rw [if_neg c3] at H
  have c3b0 : ((l0.length : Int) == (l1.length : Int)) = false := beq_eq_false_iff_ne.mpr c3
  have c3b1 : ((l0.length : Int) != (l1.length : Int)) = true := bne_iff_ne.mpr c3
  have c3b2 : (l0.length == l1.length) = false := by first|simpa using c3|(simp at c3 ⊢;omega)
  obtain rfl := Option.some.inj H
  go_enter Try.func24,Try.ntmps24
  go_wp2
  repeat (go_quiet (fail);try go_wp2)
  go_ret
  exact ⟨by first|rfl|(simp;done)|(simp [*];done),by repeat (first|exact Drawn0.refl _|apply Drawn0.step)⟩
def privityref05_SameRows.l0 : Nat → List (List Int) → List (List Int) → Int → Option (Bool)
 | 0,_,_,_ => none
 | k + 1,x0,x1,x5 => if x5 < (x0.length : Int) then (if 0 ≤ x5 then (if x5 < (x1.length : Int) then ((privityref05_Same.f k (rd_L2 x0 x5) (rd_L2 x1 x5)).bind fun t390 => (if t390 = true then (privityref05_SameRows.l0 k x0 x1 (wrap64 (x5 + 1))) else (some false))) else (none)) else (none)) else (some true)
def privityref05_SameRows.f (k : Nat) (l0 : List (List Int)) (l1 : List (List Int)) : Option (Bool) := if (l0.length : Int) = (l1.length : Int) then (privityref05_SameRows.l0 k l0 l1 0) else (some false)
theorem privityref05_SameRows.mono_l : ∀ k,(∀ y0 y1 y2,LeO (privityref05_SameRows.l0 k y0 y1 y2) (privityref05_SameRows.l0 (k + 1) y0 y1 y2))
 | 0 => fun _ _ _ r h => by simp [privityref05_SameRows.l0] at h
 | k + 1 => by
  have ih0 := privityref05_SameRows.mono_l k
  ·intro y0 y1 y2
   unfold privityref05_SameRows.l0
   repeat' first
   | (with_reducible exact ih0 _ _ _)
   | (with_reducible exact privityref05_Same.mono _ _ _)
   | (with_reducible exact LeO.refl _)
   | (with_reducible exact LeO.none _)
   | (with_reducible refine LeO.ite ?_ ?_)
   | (with_reducible refine LeO.bind ?_ (fun _ => ?_))
   | exact ih0 _ _ _
   | exact privityref05_Same.mono _ _ _
   | exact LeO.none _
   | refine LeO.ite ?_ ?_
   | refine LeO.bind ?_ (fun _ => ?_)
theorem privityref05_SameRows.mono : ∀ a0 a1 k,LeO (privityref05_SameRows.f k a0 a1) (privityref05_SameRows.f (k + 1) a0 a1) := by
 intro a0 a1 k
 have ih0 := privityref05_SameRows.mono_l k
 unfold privityref05_SameRows.f
 repeat' first
   | (with_reducible exact ih0 _ _ _)
   | (with_reducible exact privityref05_Same.mono _ _ _)
   | (with_reducible exact LeO.refl _)
   | (with_reducible exact LeO.none _)
   | (with_reducible refine LeO.ite ?_ ?_)
   | (with_reducible refine LeO.bind ?_ (fun _ => ?_))
   | exact ih0 _ _ _
   | exact privityref05_Same.mono _ _ _
   | exact LeO.none _
   | refine LeO.ite ?_ ?_
   | refine LeO.bind ?_ (fun _ => ?_)
set_option maxHeartbeats 8000000 in
set_option maxRecDepth 100000 in
theorem privityref05_SameRows.calls (k : Nat) (A0 : Option Addr) (c0 : Nat) (l0 : List (List Int)) (A1 : Option Addr) (c1 : Nat) (l1 : List (List Int)) (r : Bool) (w : World) (hr0 : Kd.C (Kd.slice 22 (Kd.int .u64)) w A0 l0.length l0) (hc0 : l0.length ≤ c0) (hr1 : Kd.C (Kd.slice 22 (Kd.int .u64)) w A1 l1.length l1) (hc1 : l1.length ≤ c1) (h : privityref05_SameRows.f k l0 l1 = some r) :
  Calls Try.prog 16 #[.slice A0 l0.length c0,.slice A1 l1.length c1] w fun e w' => e = .returned (.bool r) ∧ Drawn0 w w' := by
 have HR0 := am hr0
 have HC0 := am hc0
 clear hr0 hc0
 have HR1 := am hr1
 have HC1 := am hc1
 clear hr1 hc1
 have H : (if (l0.length : Int) = (l1.length : Int) then (privityref05_SameRows.l0 k l0 l1 0) else (some false)) = some r := h
 clear h
 by_cases c3 : (l0.length : Int) = (l1.length : Int)
 ·rw [if_pos c3] at H
  have c3b0 : ((l0.length : Int) == (l1.length : Int)) = true := beq_iff_eq.mpr c3
  have c3b1 : ((l0.length : Int) != (l1.length : Int)) = false := bne_eq_false_iff_eq.mpr c3
  have c3b2 : (l0.length == l1.length) = true := by first|simpa using c3|(simp at c3 ⊢;omega)
  clear c3
  have H' := am H
  clear H
  go_enter Try.func16,Try.ntmps16
  go_wp2
  repeat (go_quiet (fail);try go_wp2)
  go_loopg [5] k (fun kq v5 w' => ∃ (x5_1 : Int),v5 = .int .i64 x5_1 ∧ Aside0 (privityref05_SameRows.l0 kq l0 l1 x5_1 = some r) ∧ Aside0 (kq ≤ k) ∧ Drawn0 w w')
  case atStart => exact ⟨(0),(by first|rfl|(simp;done)|(simp [*];done)),H',⟨Nat.le_refl _⟩,by repeat (first|exact Drawn0.refl _|apply Drawn0.step)⟩
  case round =>
   clear H'
   try clear c1
   try clear p2
   try clear c3
   try clear c3b0
   try clear c3b1
   try clear c3b2
   obtain ⟨x5_1,rfl,HA,HK1,⟨m1,rfl⟩⟩ := hrel
   cases gk with
   | zero => exact absurd HA.out (by simp [privityref05_SameRows.l0])
   | succ k1 =>
    have H := HA.out
    clear HA
    simp only [privityref05_SameRows.l0] at H
    by_cases c4 : x5_1 < (l0.length : Int)
    ·rw [if_pos c4] at H
     have c4b0 : decide (x5_1 < (l0.length : Int)) = true := decide_eq_true c4
     clear c4
     by_cases c5 : 0 ≤ x5_1
     ·rw [if_pos c5] at H
      have c5b0 : decide (0 ≤ x5_1) = true := decide_eq_true c5
      clear c5
      by_cases c6 : x5_1 < (l1.length : Int)
      ·rw [if_pos c6] at H
       have c6b0 : decide (x5_1 < (l1.length : Int)) = true := decide_eq_true c6
       clear c6
       replace H := Option.bind_eq_some_iff.mp H
       obtain ⟨t390,A70,H⟩ := H
       try dsimp only at H
       have A7 := am A70
       clear A70
       by_cases c8 : t390 = true
       ·subst c8
        rw [if_pos rfl] at H
        have H' := am H
        clear H
        have p388 : 0 ≤ (x5_1 : Int) := od
        have q388 : x5_1 < (l0.length : Int) := od
        obtain ⟨ad388,A388_0,c388_0,e388,hx388_0,hl388_0,hi388_0⟩ := at_L2 HR0.out x5_1 p388 q388
        cases e388
        have HR388_0 := am hi388_0
        have HC388_0 := am hl388_0
        clear hi388_0 hl388_0
        replace p388 := eq_true p388
        replace q388 := eq_true q388
        have p389 : 0 ≤ (x5_1 : Int) := od
        have q389 : x5_1 < (l1.length : Int) := od
        obtain ⟨ad389,A389_0,c389_0,e389,hx389_0,hl389_0,hi389_0⟩ := at_L2 HR1.out x5_1 p389 q389
        cases e389
        have HR389_0 := am hi389_0
        have HC389_0 := am hl389_0
        clear hi389_0 hl389_0
        replace p389 := eq_true p389
        replace q389 := eq_true q389
        go_wp2_with (first|(go_at_call 24;(with_reducible refine (privityref05_Same.calls k1 _ _ (rd_L2 l0 x5_1) _ _ (rd_L2 l1 x5_1) true _ ?side1 ?side2 ?side3 ?side4 A7.out).mono ?_);(case side1 => repeat (first|exact HR388_0.out|(with_reducible refine Kd.C_alloc ?_ _)|(with_reducible refine Kd.C_drewN ?_ _)|(with_reducible refine Kd.C_drew ?_)));(case side2 => exact HC388_0.out);(case side3 => repeat (first|exact HR389_0.out|(with_reducible refine Kd.C_alloc ?_ _)|(with_reducible refine Kd.C_drewN ?_ _)|(with_reducible refine Kd.C_drew ?_)));(case side4 => exact HC389_0.out);rintro e w' ⟨rfl,⟨nd,rfl⟩⟩;(try first|exact ⟨rfl,_,World.drewN_drewN _ _ _⟩|exact ⟨rfl,_,Eq.trans (World.drewN_drewN _ _ _) (congrArg (World.drewN _) (Nat.add_assoc _ _ _))⟩)))
        repeat (go_quiet (first|(go_at_call 24;(with_reducible refine (privityref05_Same.calls k1 _ _ (rd_L2 l0 x5_1) _ _ (rd_L2 l1 x5_1) true _ ?side1 ?side2 ?side3 ?side4 A7.out).mono ?_);(case side1 => repeat (first|exact HR388_0.out|(with_reducible refine Kd.C_alloc ?_ _)|(with_reducible refine Kd.C_drewN ?_ _)|(with_reducible refine Kd.C_drew ?_)));(case side2 => exact HC388_0.out);(case side3 => repeat (first|exact HR389_0.out|(with_reducible refine Kd.C_alloc ?_ _)|(with_reducible refine Kd.C_drewN ?_ _)|(with_reducible refine Kd.C_drew ?_)));(case side4 => exact HC389_0.out);rintro e w' ⟨rfl,⟨nd,rfl⟩⟩;(try first|exact ⟨rfl,_,World.drewN_drewN _ _ _⟩|exact ⟨rfl,_,Eq.trans (World.drewN_drewN _ _ _) (congrArg (World.drewN _) (Nat.add_assoc _ _ _))⟩)));try go_wp2_with (first|(go_at_call 24;(with_reducible refine (privityref05_Same.calls k1 _ _ (rd_L2 l0 x5_1) _ _ (rd_L2 l1 x5_1) true _ ?side1 ?side2 ?side3 ?side4 A7.out).mono ?_);(case side1 => repeat (first|exact HR388_0.out|(with_reducible refine Kd.C_alloc ?_ _)|(with_reducible refine Kd.C_drewN ?_ _)|(with_reducible refine Kd.C_drew ?_)));(case side2 => exact HC388_0.out);(case side3 => repeat (first|exact HR389_0.out|(with_reducible refine Kd.C_alloc ?_ _)|(with_reducible refine Kd.C_drewN ?_ _)|(with_reducible refine Kd.C_drew ?_)));(case side4 => exact HC389_0.out);rintro e w' ⟨rfl,⟨nd,rfl⟩⟩;(try first|exact ⟨rfl,_,World.drewN_drewN _ _ _⟩|exact ⟨rfl,_,Eq.trans (World.drewN_drewN _ _ _) (congrArg (World.drewN _) (Nat.add_assoc _ _ _))⟩))))
        go_roundg k1
        case measure => have := HK1.out;omega
        case rel => exact ⟨(wrap64 (x5_1 + 1)),(by first|rfl|(simp;done)|(simp [*];done)),H',⟨by have := HK1.out;omega⟩,by repeat (first|exact Drawn0.refl _|apply Drawn0.step)⟩
       ·replace c8 := Bool.eq_false_iff.mpr c8
        subst c8
        rw [if_neg (show ¬ (false = true) by decide)] at H
        obtain rfl := Option.some.inj H
        have p388 : 0 ≤ (x5_1 : Int) := od
        have q388 : x5_1 < (l0.length : Int) := od
        obtain ⟨ad388,A388_0,c388_0,e388,hx388_0,hl388_0,hi388_0⟩ := at_L2 HR0.out x5_1 p388 q388
        cases e388
        have HR388_0 := am hi388_0
        have HC388_0 := am hl388_0
        clear hi388_0 hl388_0
        replace p388 := eq_true p388
        replace q388 := eq_true q388
        have p389 : 0 ≤ (x5_1 : Int) := od
        have q389 : x5_1 < (l1.length : Int) := od
        obtain ⟨ad389,A389_0,c389_0,e389,hx389_0,hl389_0,hi389_0⟩ := at_L2 HR1.out x5_1 p389 q389
        cases e389
        have HR389_0 := am hi389_0
        have HC389_0 := am hl389_0
        clear hi389_0 hl389_0
        replace p389 := eq_true p389
        replace q389 := eq_true q389
        go_wp2_with (first|(go_at_call 24;(with_reducible refine (privityref05_Same.calls k1 _ _ (rd_L2 l0 x5_1) _ _ (rd_L2 l1 x5_1) false _ ?side1 ?side2 ?side3 ?side4 A7.out).mono ?_);(case side1 => repeat (first|exact HR388_0.out|(with_reducible refine Kd.C_alloc ?_ _)|(with_reducible refine Kd.C_drewN ?_ _)|(with_reducible refine Kd.C_drew ?_)));(case side2 => exact HC388_0.out);(case side3 => repeat (first|exact HR389_0.out|(with_reducible refine Kd.C_alloc ?_ _)|(with_reducible refine Kd.C_drewN ?_ _)|(with_reducible refine Kd.C_drew ?_)));(case side4 => exact HC389_0.out);rintro e w' ⟨rfl,⟨nd,rfl⟩⟩;(try first|exact ⟨rfl,_,World.drewN_drewN _ _ _⟩|exact ⟨rfl,_,Eq.trans (World.drewN_drewN _ _ _) (congrArg (World.drewN _) (Nat.add_assoc _ _ _))⟩)))
        repeat (go_quiet (first|(go_at_call 24;(with_reducible refine (privityref05_Same.calls k1 _ _ (rd_L2 l0 x5_1) _ _ (rd_L2 l1 x5_1) false _ ?side1 ?side2 ?side3 ?side4 A7.out).mono ?_);(case side1 => repeat (first|exact HR388_0.out|(with_reducible refine Kd.C_alloc ?_ _)|(with_reducible refine Kd.C_drewN ?_ _)|(with_reducible refine Kd.C_drew ?_)));(case side2 => exact HC388_0.out);(case side3 => repeat (first|exact HR389_0.out|(with_reducible refine Kd.C_alloc ?_ _)|(with_reducible refine Kd.C_drewN ?_ _)|(with_reducible refine Kd.C_drew ?_)));(case side4 => exact HC389_0.out);rintro e w' ⟨rfl,⟨nd,rfl⟩⟩;(try first|exact ⟨rfl,_,World.drewN_drewN _ _ _⟩|exact ⟨rfl,_,Eq.trans (World.drewN_drewN _ _ _) (congrArg (World.drewN _) (Nat.add_assoc _ _ _))⟩)));try go_wp2_with (first|(go_at_call 24;(with_reducible refine (privityref05_Same.calls k1 _ _ (rd_L2 l0 x5_1) _ _ (rd_L2 l1 x5_1) false _ ?side1 ?side2 ?side3 ?side4 A7.out).mono ?_);(case side1 => repeat (first|exact HR388_0.out|(with_reducible refine Kd.C_alloc ?_ _)|(with_reducible refine Kd.C_drewN ?_ _)|(with_reducible refine Kd.C_drew ?_)));(case side2 => exact HC388_0.out);(case side3 => repeat (first|exact HR389_0.out|(with_reducible refine Kd.C_alloc ?_ _)|(with_reducible refine Kd.C_drewN ?_ _)|(with_reducible refine Kd.C_drew ?_)));(case side4 => exact HC389_0.out);rintro e w' ⟨rfl,⟨nd,rfl⟩⟩;(try first|exact ⟨rfl,_,World.drewN_drewN _ _ _⟩|exact ⟨rfl,_,Eq.trans (World.drewN_drewN _ _ _) (congrArg (World.drewN _) (Nat.add_assoc _ _ _))⟩))))
        go_ret
        exact ⟨by first|rfl|(simp;done)|(simp [*];done),by repeat (first|exact Drawn0.refl _|apply Drawn0.step)⟩
      ·rw [if_neg c6] at H
       exact absurd H (by simp)
     ·rw [if_neg c5] at H
      exact absurd H (by simp)
    ·rw [if_neg c4] at H
     have c4b0 : decide (x5_1 < (l0.length : Int)) = false := decide_eq_false c4
     clear c4
     obtain rfl := Option.some.inj H
     go_wp2
     repeat (go_quiet (fail);try go_wp2)
     go_ret
     exact ⟨by first|rfl|(simp;done)|(simp [*];done),by repeat (first|exact Drawn0.refl _|apply Drawn0.step)⟩
 ·rw [if_neg c3] at H
  have c3b0 : ((l0.length : Int) == (l1.length : Int)) = false := beq_eq_false_iff_ne.mpr c3
  have c3b1 : ((l0.length : Int) != (l1.length : Int)) = true := bne_iff_ne.mpr c3
  have c3b2 : (l0.length == l1.length) = false := by first|simpa using c3|(simp at c3 ⊢;omega)
  obtain rfl := Option.some.inj H
  go_enter Try.func16,Try.ntmps16
  go_wp2
  repeat (go_quiet (fail);try go_wp2)
  go_ret
  exact ⟨by first|rfl|(simp;done)|(simp [*];done),by repeat (first|exact Drawn0.refl _|apply Drawn0.step)⟩
def hyperinvertible_points.l0 : Nat → Int → List Int → Int → Int → Option (List Int)
 | 0,_,_,_,_ => none
 | k + 1,x0,x5,x7,x8 => if x8 < x7 then (if x5.length < 17592186044416 then (hyperinvertible_points.l0 k x0 (x5 ++ [IntKind.u64.wrap (wrap64 (x0 + x8))]) x7 (wrap64 (x8 + 1))) else (none)) else (some x5)
def hyperinvertible_points.f (k : Nat) (a0 : Int) (a1 : Int) : Option (List Int) := hyperinvertible_points.l0 k a0 ([] : List Int) a1 0
theorem hyperinvertible_points.mono_l : ∀ k,(∀ y0 y1 y2 y3,LeO (hyperinvertible_points.l0 k y0 y1 y2 y3) (hyperinvertible_points.l0 (k + 1) y0 y1 y2 y3))
 | 0 => fun _ _ _ _ r h => by simp [hyperinvertible_points.l0] at h
 | k + 1 => by
  have ih0 := hyperinvertible_points.mono_l k
  ·intro y0 y1 y2 y3
   unfold hyperinvertible_points.l0
   repeat' first
   | (with_reducible exact ih0 _ _ _ _)
   | (with_reducible exact LeO.refl _)
   | (with_reducible exact LeO.none _)
   | (with_reducible refine LeO.ite ?_ ?_)
   | (with_reducible refine LeO.bind ?_ (fun _ => ?_))
   | exact ih0 _ _ _ _
   | exact LeO.none _
   | refine LeO.ite ?_ ?_
   | refine LeO.bind ?_ (fun _ => ?_)
theorem hyperinvertible_points.mono : ∀ a0 a1 k,LeO (hyperinvertible_points.f k a0 a1) (hyperinvertible_points.f (k + 1) a0 a1) := by
 intro a0 a1 k
 have ih0 := hyperinvertible_points.mono_l k
 unfold hyperinvertible_points.f
 repeat' first
   | (with_reducible exact ih0 _ _ _ _)
   | (with_reducible exact LeO.refl _)
   | (with_reducible exact LeO.none _)
   | (with_reducible refine LeO.ite ?_ ?_)
   | (with_reducible refine LeO.bind ?_ (fun _ => ?_))
   | exact ih0 _ _ _ _
   | exact LeO.none _
   | refine LeO.ite ?_ ?_
   | refine LeO.bind ?_ (fun _ => ?_)
set_option maxHeartbeats 8000000 in
set_option maxRecDepth 100000 in
theorem hyperinvertible_points.calls (k : Nat) (a0 : Int) (a1 : Int) (r : List Int) (w : World) (h : hyperinvertible_points.f k a0 a1 = some r) :
  Calls Try.prog 39 #[.int .i64 a0,.int .i64 a1] w fun e w' => ∃ v0_ : Value,e = .returned (v0_) ∧ Kd.R (Kd.int .u64) 22 w' w.heap.size (fun _ => True) v0_ r ∧ Below w.heap.size w w' := by
 have HB := am (Below.refl w.heap.size w)
 have H : (hyperinvertible_points.l0 k a0 ([] : List Int) a1 0) = some r := h
 clear h
 have H' := am H
 clear H
 go_enter Try.func39,Try.ntmps39
 go_wp2
 go_loopg [5,8] k (fun kq v5 v8 w' => ∃ (x5_1 : List Int) (x8_1 : Int),v8 = .int .i64 x8_1 ∧ Aside0 (hyperinvertible_points.l0 kq a0 x5_1 a1 x8_1 = some r) ∧ Aside0 (kq ≤ k) ∧ Aside0 (Kd.R (Kd.int .u64) 22 w' w.heap.size (fun _ => True) v5 x5_1) ∧ Aside0 (Below w.heap.size w w'))
 case atStart => exact ⟨(([] : List Int)),(0),(by first|rfl|(simp;done)|(simp [*];done)),H',⟨Nat.le_refl _⟩,⟨by first|exact Kd.R_nil _ _ _ _ _|exact Kd.N_nil _ _ _ _ _|exact Kd.V_nil _ _ _ _ _|exact Kd.Q_nil _ _ _ _ _|exact Kd.S_nil _ _ _ _ _⟩,⟨bb HB⟩⟩
 case round =>
  clear H'
  try clear p2
  obtain ⟨x5_1,x8_1,rfl,HA,HK1,HO_5,HB⟩ := hrel
  cases gk with
  | zero => exact absurd HA.out (by simp [hyperinvertible_points.l0])
  | succ k1 =>
   have H := HA.out
   clear HA
   simp only [hyperinvertible_points.l0] at H
   by_cases c3 : x8_1 < a1
   ·rw [if_pos c3] at H
    have c3b0 : decide (x8_1 < a1) = true := decide_eq_true c3
    clear c3
    by_cases c4 : x5_1.length < 17592186044416
    ·rw [if_pos c4] at H
     have LMc4 := am c4
     clear c4
     obtain ⟨y369,hy369⟩ : ∃ y_ : List Int,y_ = (x5_1 ++ [IntKind.u64.wrap (wrap64 (a0 + x8_1))]) := ⟨_,rfl⟩
     replace H : (hyperinvertible_points.l0 k1 a0 y369 a1 (wrap64 (x8_1 + 1))) = some r := by first|(rw [hy369];with_reducible exact H)|(have H2_ := (Option.bind_some _ _).symm.trans H;rw [hy369];with_reducible exact H2_)|(have H2_ := (Option.bind_some _ _).symm.trans H;with_reducible exact H2_)|with_reducible exact H|(rw [hy369];exact H)|exact H
     have Ny369 := am hy369
     clear hy369
     have H' := am H
     clear H
     go_wp2_with (first|((with_reducible refine gate_builtin (b := .append) (xs := #[.tmp 11,.tmp 16]) rfl ?_);at_builtin;refine Kd.R_append (Kd.int .u64) (w0 := w) w.heap.size rfl (.tmp 11) (.tmp 16) 40 22 (.int .u64 0) 8 rfl Try.underlying40 info22 rfl (by decide) (by omega) u5 x5_1 (IntKind.u64.wrap (wrap64 (a0 + x8_1))) [.int .u64 (IntKind.u64.wrap (wrap64 (a0 + x8_1)))] (fun _ => True) (fun _ => False) rfl rfl ?aP (fun _ hk => hk.elim) ?aF ?aO ?aB ?aS ?aL ?_;(case aP => exact rfl);(case aB => exact (bb HB));(case aF => exact (fun _ _ => trivial));(case aO => exact (rr HO_5));(case aS => exact (below_size (bb HB)));(case aL => have := LMc4.out;omega);intro v370 w5 ho hb hg hat;rw [← Ny369.out] at ho;have n0_ := am (hb);have n1_ := am (ho);clear HB HO_5;have HB := n0_;have HO371 := n1_;clear n0_ n1_;clear ho hb hg hat))
     go_roundg k1
     case measure => have := HK1.out;omega
     case rel => exact ⟨(y369),(wrap64 (x8_1 + 1)),(by first|rfl|(simp;done)|(simp [*];done)),H',⟨by have := HK1.out;omega⟩,⟨by (with_reducible repeat (first|apply Kd.R_alloc|apply Kd.R_drewN|apply Kd.R_drew));exact HO371.out⟩,⟨bb HB⟩⟩
    ·rw [if_neg c4] at H
     exact absurd H (by simp)
   ·rw [if_neg c3] at H
    have c3b0 : decide (x8_1 < a1) = false := decide_eq_false c3
    clear c3
    obtain rfl := Option.some.inj H
    go_wp2
    go_ret
    exact ⟨_,by first|rfl|(simp [errW_none,errW_some] <;> rfl)|(simp [*,errW_none,errW_some] <;> rfl),by (with_reducible repeat (first|apply Kd.R_alloc|apply Kd.R_drewN|apply Kd.R_drew));exact HO_5.out,bb HB⟩
def bits_Len64.j0 : Nat → Int → Int → Option (Int)
 | 0,_,_ => none
 | k + 1,x0,x2 => if x0 ≥ 65536 then (if (x0 / 65536) ≥ 256 then (if 0 ≤ (((x0 / 65536) / 256) % 256) then (if (((x0 / 65536) / 256) % 256) < 256 then (some (wrap64 ((wrap64 ((wrap64 (x2 + 16)) + 8)) + (wrap64 (bt (⟨#[0,1,2,2,3,3,3,3,4,4,4,4,4,4,4,4,5,5,5,5,5,5,5,5,5,5,5,5,5,5,5,5,6,6,6,6,6,6,6,6,6,6,6,6,6,6,6,6,6,6,6,6,6,6,6,6,6,6,6,6,6,6,6,6,7,7,7,7,7,7,7,7,7,7,7,7,7,7,7,7,7,7,7,7,7,7,7,7,7,7,7,7,7,7,7,7,7,7,7,7,7,7,7,7,7,7,7,7,7,7,7,7,7,7,7,7,7,7,7,7,7,7,7,7,7,7,7,7,8,8,8,8,8,8,8,8,8,8,8,8,8,8,8,8,8,8,8,8,8,8,8,8,8,8,8,8,8,8,8,8,8,8,8,8,8,8,8,8,8,8,8,8,8,8,8,8,8,8,8,8,8,8,8,8,8,8,8,8,8,8,8,8,8,8,8,8,8,8,8,8,8,8,8,8,8,8,8,8,8,8,8,8,8,8,8,8,8,8,8,8,8,8,8,8,8,8,8,8,8,8,8,8,8,8,8,8,8,8,8,8,8,8,8,8,8,8,8,8,8,8,8,8,8,8,8,8]⟩ : ByteArray) (((x0 / 65536) / 256) % 256)))))) else (none)) else (none)) else (if 0 ≤ ((x0 / 65536) % 256) then (if ((x0 / 65536) % 256) < 256 then (some (wrap64 ((wrap64 (x2 + 16)) + (wrap64 (bt (⟨#[0,1,2,2,3,3,3,3,4,4,4,4,4,4,4,4,5,5,5,5,5,5,5,5,5,5,5,5,5,5,5,5,6,6,6,6,6,6,6,6,6,6,6,6,6,6,6,6,6,6,6,6,6,6,6,6,6,6,6,6,6,6,6,6,7,7,7,7,7,7,7,7,7,7,7,7,7,7,7,7,7,7,7,7,7,7,7,7,7,7,7,7,7,7,7,7,7,7,7,7,7,7,7,7,7,7,7,7,7,7,7,7,7,7,7,7,7,7,7,7,7,7,7,7,7,7,7,7,8,8,8,8,8,8,8,8,8,8,8,8,8,8,8,8,8,8,8,8,8,8,8,8,8,8,8,8,8,8,8,8,8,8,8,8,8,8,8,8,8,8,8,8,8,8,8,8,8,8,8,8,8,8,8,8,8,8,8,8,8,8,8,8,8,8,8,8,8,8,8,8,8,8,8,8,8,8,8,8,8,8,8,8,8,8,8,8,8,8,8,8,8,8,8,8,8,8,8,8,8,8,8,8,8,8,8,8,8,8,8,8,8,8,8,8,8,8,8,8,8,8,8,8,8,8,8,8]⟩ : ByteArray) ((x0 / 65536) % 256)))))) else (none)) else (none))) else (if x0 ≥ 256 then (if 0 ≤ ((x0 / 256) % 256) then (if ((x0 / 256) % 256) < 256 then (some (wrap64 ((wrap64 (x2 + 8)) + (wrap64 (bt (⟨#[0,1,2,2,3,3,3,3,4,4,4,4,4,4,4,4,5,5,5,5,5,5,5,5,5,5,5,5,5,5,5,5,6,6,6,6,6,6,6,6,6,6,6,6,6,6,6,6,6,6,6,6,6,6,6,6,6,6,6,6,6,6,6,6,7,7,7,7,7,7,7,7,7,7,7,7,7,7,7,7,7,7,7,7,7,7,7,7,7,7,7,7,7,7,7,7,7,7,7,7,7,7,7,7,7,7,7,7,7,7,7,7,7,7,7,7,7,7,7,7,7,7,7,7,7,7,7,7,8,8,8,8,8,8,8,8,8,8,8,8,8,8,8,8,8,8,8,8,8,8,8,8,8,8,8,8,8,8,8,8,8,8,8,8,8,8,8,8,8,8,8,8,8,8,8,8,8,8,8,8,8,8,8,8,8,8,8,8,8,8,8,8,8,8,8,8,8,8,8,8,8,8,8,8,8,8,8,8,8,8,8,8,8,8,8,8,8,8,8,8,8,8,8,8,8,8,8,8,8,8,8,8,8,8,8,8,8,8,8,8,8,8,8,8,8,8,8,8,8,8,8,8,8,8,8,8]⟩ : ByteArray) ((x0 / 256) % 256)))))) else (none)) else (none)) else (if 0 ≤ ((x0) % 256) then (if ((x0) % 256) < 256 then (some (wrap64 (x2 + (wrap64 (bt (⟨#[0,1,2,2,3,3,3,3,4,4,4,4,4,4,4,4,5,5,5,5,5,5,5,5,5,5,5,5,5,5,5,5,6,6,6,6,6,6,6,6,6,6,6,6,6,6,6,6,6,6,6,6,6,6,6,6,6,6,6,6,6,6,6,6,7,7,7,7,7,7,7,7,7,7,7,7,7,7,7,7,7,7,7,7,7,7,7,7,7,7,7,7,7,7,7,7,7,7,7,7,7,7,7,7,7,7,7,7,7,7,7,7,7,7,7,7,7,7,7,7,7,7,7,7,7,7,7,7,8,8,8,8,8,8,8,8,8,8,8,8,8,8,8,8,8,8,8,8,8,8,8,8,8,8,8,8,8,8,8,8,8,8,8,8,8,8,8,8,8,8,8,8,8,8,8,8,8,8,8,8,8,8,8,8,8,8,8,8,8,8,8,8,8,8,8,8,8,8,8,8,8,8,8,8,8,8,8,8,8,8,8,8,8,8,8,8,8,8,8,8,8,8,8,8,8,8,8,8,8,8,8,8,8,8,8,8,8,8,8,8,8,8,8,8,8,8,8,8,8,8,8,8,8,8,8,8]⟩ : ByteArray) ((x0) % 256)))))) else (none)) else (none)))
def bits_Len64.f (k : Nat) (a0 : Int) : Option (Int) := if a0 ≥ 4294967296 then (bits_Len64.j0 k (a0 / 4294967296) 32) else (bits_Len64.j0 k a0 0)
theorem bits_Len64.mono_l : ∀ k,(∀ y0 y1,LeO (bits_Len64.j0 k y0 y1) (bits_Len64.j0 (k + 1) y0 y1))
 | 0 => fun _ _ r h => by simp [bits_Len64.j0] at h
 | k + 1 => by
  have ih0 := bits_Len64.mono_l k
  ·intro y0 y1
   unfold bits_Len64.j0
   repeat' first
   | (with_reducible exact ih0 _ _)
   | (with_reducible exact LeO.refl _)
   | (with_reducible exact LeO.none _)
   | (with_reducible refine LeO.ite ?_ ?_)
   | (with_reducible refine LeO.bind ?_ (fun _ => ?_))
   | exact ih0 _ _
   | exact LeO.none _
   | refine LeO.ite ?_ ?_
   | refine LeO.bind ?_ (fun _ => ?_)
theorem bits_Len64.mono : ∀ a0 k,LeO (bits_Len64.f k a0) (bits_Len64.f (k + 1) a0) := by
 intro a0 k
 have ih0 := bits_Len64.mono_l k
 unfold bits_Len64.f
 repeat' first
   | (with_reducible exact ih0 _ _)
   | (with_reducible exact LeO.refl _)
   | (with_reducible exact LeO.none _)
   | (with_reducible refine LeO.ite ?_ ?_)
   | (with_reducible refine LeO.bind ?_ (fun _ => ?_))
   | exact ih0 _ _
   | exact LeO.none _
   | refine LeO.ite ?_ ?_
   | refine LeO.bind ?_ (fun _ => ?_)
set_option maxHeartbeats 8000000 in
set_option maxRecDepth 100000 in
theorem bits_Len64.calls (k : Nat) (a0 : Int) (r : Int) (w : World) (h : bits_Len64.f k a0 = some r) :
  Calls Try.prog 99 #[.int .u64 a0] w fun e w' => e = .returned (.int .i64 r) ∧ Drawn0 w w' := by
 have H : (if a0 ≥ 4294967296 then (bits_Len64.j0 k (a0 / 4294967296) 32) else (bits_Len64.j0 k a0 0)) = some r := h
 clear h
 have HC2 := am H
 clear H
 go_enter Try.func99,Try.ntmps99
 go_upto_if 4 with (fail)
 go_cut [0,2] (fun v0 v2 wc => ∃ (kq : Nat) (x0_1 : Int) (x2_1 : Int),v0 = .int .u64 x0_1 ∧ v2 = .int .i64 x2_1 ∧ Aside0 (bits_Len64.j0 kq x0_1 x2_1 = some r) ∧ Aside0 (kq ≤ k) ∧ Drawn0 w wc)
 case first =>
  have H := HC2.out
  clear HC2
  by_cases c3 : a0 ≥ 4294967296
  ·rw [if_pos c3] at H
   have c3b0 : decide (4294967296 ≤ a0) = true := decide_eq_true c3
   clear c3
   (first|rw [c3b0]|(simp only [i64_w,i32_w];rw [c3b0])|skip)
   have H' := am H
   clear H
   go_wp2
   go_meet
   case rel => exact ⟨_,(a0 / 4294967296),(32),(by first|rfl|(simp;done)|(simp [*];done)),(by first|rfl|(simp;done)|(simp [*];done)),H',⟨by first|omega|exact Nat.le_refl _⟩,by repeat (first|exact Drawn0.refl _|apply Drawn0.step)⟩
  ·rw [if_neg c3] at H
   have c3b0 : decide (4294967296 ≤ a0) = false := decide_eq_false c3
   clear c3
   (first|rw [c3b0]|(simp only [i64_w,i32_w];rw [c3b0])|skip)
   have H' := am H
   clear H
   go_wp2
   go_meet
   case rel => exact ⟨_,(a0),(0),(by first|rfl|(simp;done)|(simp [*];done)),(by first|rfl|(simp;done)|(simp [*];done)),H',⟨by first|omega|exact Nat.le_refl _⟩,by repeat (first|exact Drawn0.refl _|apply Drawn0.step)⟩
 case rest =>
  clear HC2
  try clear p2
  try clear c3
  try clear c3b0
  obtain ⟨kq,x0_1,x2_1,rfl,rfl,HA,HJ1,⟨mc1,rfl⟩⟩ := hcut
  cases kq with
  | zero => exact absurd HA.out (by simp [bits_Len64.j0])
  | succ kj1 =>
   have H := HA.out
   clear HA
   simp only [bits_Len64.j0] at H
   by_cases c4 : x0_1 ≥ 65536
   ·rw [if_pos c4] at H
    have c4b0 : decide (65536 ≤ x0_1) = true := decide_eq_true c4
    clear c4
    by_cases c5 : (x0_1 / 65536) ≥ 256
    ·rw [if_pos c5] at H
     have c5b0 : decide (256 ≤ (x0_1 / 65536)) = true := decide_eq_true c5
     clear c5
     obtain ⟨ji6,hji6⟩ : ∃ j_ : Int,(((x0_1 / 65536) / 256) % 256) = j_ := ⟨_,rfl⟩
     first|rw [hji6] at H|simp only [hji6] at H
     by_cases c7 : 0 ≤ (ji6)
     ·rw [if_pos c7] at H
      have c7b0 : decide (0 ≤ (ji6)) = true := decide_eq_true c7
      clear c7
      by_cases c8 : (ji6) < 256
      ·rw [if_pos c8] at H
       have c8b0 : decide ((ji6) < 256) = true := decide_eq_true c8
       clear c8
       obtain rfl := Option.some.inj H
       have p9 : 0 ≤ ((ji6) : Int) := od
       have q9 : (ji6) < (256 : Int) := od
       have hx9 := bt_at (⟨#[0,1,2,2,3,3,3,3,4,4,4,4,4,4,4,4,5,5,5,5,5,5,5,5,5,5,5,5,5,5,5,5,6,6,6,6,6,6,6,6,6,6,6,6,6,6,6,6,6,6,6,6,6,6,6,6,6,6,6,6,6,6,6,6,7,7,7,7,7,7,7,7,7,7,7,7,7,7,7,7,7,7,7,7,7,7,7,7,7,7,7,7,7,7,7,7,7,7,7,7,7,7,7,7,7,7,7,7,7,7,7,7,7,7,7,7,7,7,7,7,7,7,7,7,7,7,7,7,8,8,8,8,8,8,8,8,8,8,8,8,8,8,8,8,8,8,8,8,8,8,8,8,8,8,8,8,8,8,8,8,8,8,8,8,8,8,8,8,8,8,8,8,8,8,8,8,8,8,8,8,8,8,8,8,8,8,8,8,8,8,8,8,8,8,8,8,8,8,8,8,8,8,8,8,8,8,8,8,8,8,8,8,8,8,8,8,8,8,8,8,8,8,8,8,8,8,8,8,8,8,8,8,8,8,8,8,8,8,8,8,8,8,8,8,8,8,8,8,8,8,8,8,8,8,8,8]⟩ : ByteArray) (ji6)
       replace p9 := eq_true p9
       replace q9 := eq_true q9
       go_wp2
       go_ret
       exact ⟨by first|rfl|(simp;done)|(simp only [← hji6] <;> (first|rfl|simp))|(simp [*];done),by repeat (first|exact Drawn0.refl _|apply Drawn0.step)⟩
      ·rw [if_neg c8] at H
       exact absurd H (by simp)
     ·rw [if_neg c7] at H
      exact absurd H (by simp)
    ·rw [if_neg c5] at H
     have c5b0 : decide (256 ≤ (x0_1 / 65536)) = false := decide_eq_false c5
     clear c5
     obtain ⟨ji10,hji10⟩ : ∃ j_ : Int,((x0_1 / 65536) % 256) = j_ := ⟨_,rfl⟩
     first|rw [hji10] at H|simp only [hji10] at H
     by_cases c11 : 0 ≤ (ji10)
     ·rw [if_pos c11] at H
      have c11b0 : decide (0 ≤ (ji10)) = true := decide_eq_true c11
      clear c11
      by_cases c12 : (ji10) < 256
      ·rw [if_pos c12] at H
       have c12b0 : decide ((ji10) < 256) = true := decide_eq_true c12
       clear c12
       obtain rfl := Option.some.inj H
       have p13 : 0 ≤ ((ji10) : Int) := od
       have q13 : (ji10) < (256 : Int) := od
       have hx13 := bt_at (⟨#[0,1,2,2,3,3,3,3,4,4,4,4,4,4,4,4,5,5,5,5,5,5,5,5,5,5,5,5,5,5,5,5,6,6,6,6,6,6,6,6,6,6,6,6,6,6,6,6,6,6,6,6,6,6,6,6,6,6,6,6,6,6,6,6,7,7,7,7,7,7,7,7,7,7,7,7,7,7,7,7,7,7,7,7,7,7,7,7,7,7,7,7,7,7,7,7,7,7,7,7,7,7,7,7,7,7,7,7,7,7,7,7,7,7,7,7,7,7,7,7,7,7,7,7,7,7,7,7,8,8,8,8,8,8,8,8,8,8,8,8,8,8,8,8,8,8,8,8,8,8,8,8,8,8,8,8,8,8,8,8,8,8,8,8,8,8,8,8,8,8,8,8,8,8,8,8,8,8,8,8,8,8,8,8,8,8,8,8,8,8,8,8,8,8,8,8,8,8,8,8,8,8,8,8,8,8,8,8,8,8,8,8,8,8,8,8,8,8,8,8,8,8,8,8,8,8,8,8,8,8,8,8,8,8,8,8,8,8,8,8,8,8,8,8,8,8,8,8,8,8,8,8,8,8,8,8]⟩ : ByteArray) (ji10)
       replace p13 := eq_true p13
       replace q13 := eq_true q13
       go_wp2
       go_ret
       exact ⟨by first|rfl|(simp;done)|(simp only [← hji10] <;> (first|rfl|simp))|(simp [*];done),by repeat (first|exact Drawn0.refl _|apply Drawn0.step)⟩
      ·rw [if_neg c12] at H
       exact absurd H (by simp)
     ·rw [if_neg c11] at H
      exact absurd H (by simp)
   ·rw [if_neg c4] at H
    have c4b0 : decide (65536 ≤ x0_1) = false := decide_eq_false c4
    clear c4
    by_cases c14 : x0_1 ≥ 256
    ·rw [if_pos c14] at H
     have c14b0 : decide (256 ≤ x0_1) = true := decide_eq_true c14
     clear c14
     obtain ⟨ji15,hji15⟩ : ∃ j_ : Int,((x0_1 / 256) % 256) = j_ := ⟨_,rfl⟩
     first|rw [hji15] at H|simp only [hji15] at H
     by_cases c16 : 0 ≤ (ji15)
     ·rw [if_pos c16] at H
      have c16b0 : decide (0 ≤ (ji15)) = true := decide_eq_true c16
      clear c16
      by_cases c17 : (ji15) < 256
      ·rw [if_pos c17] at H
       have c17b0 : decide ((ji15) < 256) = true := decide_eq_true c17
       clear c17
       obtain rfl := Option.some.inj H
       have p18 : 0 ≤ ((ji15) : Int) := od
       have q18 : (ji15) < (256 : Int) := od
       have hx18 := bt_at (⟨#[0,1,2,2,3,3,3,3,4,4,4,4,4,4,4,4,5,5,5,5,5,5,5,5,5,5,5,5,5,5,5,5,6,6,6,6,6,6,6,6,6,6,6,6,6,6,6,6,6,6,6,6,6,6,6,6,6,6,6,6,6,6,6,6,7,7,7,7,7,7,7,7,7,7,7,7,7,7,7,7,7,7,7,7,7,7,7,7,7,7,7,7,7,7,7,7,7,7,7,7,7,7,7,7,7,7,7,7,7,7,7,7,7,7,7,7,7,7,7,7,7,7,7,7,7,7,7,7,8,8,8,8,8,8,8,8,8,8,8,8,8,8,8,8,8,8,8,8,8,8,8,8,8,8,8,8,8,8,8,8,8,8,8,8,8,8,8,8,8,8,8,8,8,8,8,8,8,8,8,8,8,8,8,8,8,8,8,8,8,8,8,8,8,8,8,8,8,8,8,8,8,8,8,8,8,8,8,8,8,8,8,8,8,8,8,8,8,8,8,8,8,8,8,8,8,8,8,8,8,8,8,8,8,8,8,8,8,8,8,8,8,8,8,8,8,8,8,8,8,8,8,8,8,8,8,8]⟩ : ByteArray) (ji15)
       replace p18 := eq_true p18
       replace q18 := eq_true q18
       go_wp2
       go_ret
       exact ⟨by first|rfl|(simp;done)|(simp only [← hji15] <;> (first|rfl|simp))|(simp [*];done),by repeat (first|exact Drawn0.refl _|apply Drawn0.step)⟩
      ·rw [if_neg c17] at H
       exact absurd H (by simp)
     ·rw [if_neg c16] at H
      exact absurd H (by simp)
    ·rw [if_neg c14] at H
     have c14b0 : decide (256 ≤ x0_1) = false := decide_eq_false c14
     clear c14
     obtain ⟨ji19,hji19⟩ : ∃ j_ : Int,((x0_1) % 256) = j_ := ⟨_,rfl⟩
     first|rw [hji19] at H|simp only [hji19] at H
     by_cases c20 : 0 ≤ (ji19)
     ·rw [if_pos c20] at H
      have c20b0 : decide (0 ≤ (ji19)) = true := decide_eq_true c20
      clear c20
      by_cases c21 : (ji19) < 256
      ·rw [if_pos c21] at H
       have c21b0 : decide ((ji19) < 256) = true := decide_eq_true c21
       clear c21
       obtain rfl := Option.some.inj H
       have p22 : 0 ≤ ((ji19) : Int) := od
       have q22 : (ji19) < (256 : Int) := od
       have hx22 := bt_at (⟨#[0,1,2,2,3,3,3,3,4,4,4,4,4,4,4,4,5,5,5,5,5,5,5,5,5,5,5,5,5,5,5,5,6,6,6,6,6,6,6,6,6,6,6,6,6,6,6,6,6,6,6,6,6,6,6,6,6,6,6,6,6,6,6,6,7,7,7,7,7,7,7,7,7,7,7,7,7,7,7,7,7,7,7,7,7,7,7,7,7,7,7,7,7,7,7,7,7,7,7,7,7,7,7,7,7,7,7,7,7,7,7,7,7,7,7,7,7,7,7,7,7,7,7,7,7,7,7,7,8,8,8,8,8,8,8,8,8,8,8,8,8,8,8,8,8,8,8,8,8,8,8,8,8,8,8,8,8,8,8,8,8,8,8,8,8,8,8,8,8,8,8,8,8,8,8,8,8,8,8,8,8,8,8,8,8,8,8,8,8,8,8,8,8,8,8,8,8,8,8,8,8,8,8,8,8,8,8,8,8,8,8,8,8,8,8,8,8,8,8,8,8,8,8,8,8,8,8,8,8,8,8,8,8,8,8,8,8,8,8,8,8,8,8,8,8,8,8,8,8,8,8,8,8,8,8,8]⟩ : ByteArray) (ji19)
       replace p22 := eq_true p22
       replace q22 := eq_true q22
       go_wp2
       go_ret
       exact ⟨by first|rfl|(simp;done)|(simp only [← hji19] <;> (first|rfl|simp))|(simp [*];done),by repeat (first|exact Drawn0.refl _|apply Drawn0.step)⟩
      ·rw [if_neg c21] at H
       exact absurd H (by simp)
     ·rw [if_neg c20] at H
      exact absurd H (by simp)
def field_width.f (k : Nat) (a0 : Int) : Option (Int) := (bits_Len64.f k a0).bind fun t101 => (some (IntKind.u64.wrap (t101)))
theorem field_width.mono : ∀ a0 k,LeO (field_width.f k a0) (field_width.f (k + 1) a0) := by
 intro a0 k
 unfold field_width.f
 repeat' first
   | (with_reducible exact bits_Len64.mono _ _)
   | (with_reducible exact LeO.refl _)
   | (with_reducible exact LeO.none _)
   | (with_reducible refine LeO.ite ?_ ?_)
   | (with_reducible refine LeO.bind ?_ (fun _ => ?_))
   | exact bits_Len64.mono _ _
   | exact LeO.none _
   | refine LeO.ite ?_ ?_
   | refine LeO.bind ?_ (fun _ => ?_)
set_option maxHeartbeats 8000000 in
set_option maxRecDepth 100000 in
theorem field_width.calls (k : Nat) (a0 : Int) (r : Int) (w : World) (h : field_width.f k a0 = some r) :
  Calls Try.prog 83 #[.int .u64 a0] w fun e w' => e = .returned (.int .u64 r) ∧ Drawn0 w w' := by
 have H : ((bits_Len64.f k a0).bind fun t101 => (some (IntKind.u64.wrap (t101)))) = some r := h
 clear h
 replace H := Option.bind_eq_some_iff.mp H
 obtain ⟨t101,A20,H⟩ := H
 try dsimp only at H
 have A2 := am A20
 clear A20
 obtain rfl := Option.some.inj H
 go_enter Try.func83,Try.ntmps83
 go_wp2_with (first|((with_reducible refine gate_callee (f := 99) rfl ?_);refine goesL_ (some 4) rfl rfl Try.func99 (by kernel_rfl) rfl #[.int .u64 a0] rfl (by (try simp only [List.map_toArray,List.map_cons,List.map_nil]);first|done|rfl|(simp only [List.length_drop,List.length_take];rfl)) ?_;(with_reducible refine (bits_Len64.calls k a0 t101 _ A2.out).mono ?_);rintro e w' ⟨rfl,⟨nd,rfl⟩⟩;refine ⟨_,rfl,?_⟩))
 go_ret
 exact ⟨by first|rfl|(simp;done)|(simp [*];done),by repeat (first|exact Drawn0.refl _|apply Drawn0.step)⟩
def field_fold.l0 : Nat → Int → Int → Int → Int → Option (Int)
 | 0,_,_,_,_ => none
 | k + 1,x0,x1,x2,x7 => if x1 = 0 then (if x2 > x0 then (if 0 ≤ x7 then (if 0 ≤ (IntKind.u64.wrap (64 - x7)) then ((bits_Add64.f (Go.bits .or .u64 (shr .u64 x2 x7) (shl .u64 x1 (IntKind.u64.wrap (64 - x7)))) (Go.bits .and .u64 x2 x0) 0).bind fun bt103 => (field_fold.l0 k x0 (IntKind.u64.wrap ((shr .u64 x1 x7) + bt103.2)) bt103.1 x7)) else (none)) else (none)) else (if x2 = x0 then (some 0) else (some x2))) else (if 0 ≤ x7 then (if 0 ≤ (IntKind.u64.wrap (64 - x7)) then ((bits_Add64.f (Go.bits .or .u64 (shr .u64 x2 x7) (shl .u64 x1 (IntKind.u64.wrap (64 - x7)))) (Go.bits .and .u64 x2 x0) 0).bind fun bt105 => (field_fold.l0 k x0 (IntKind.u64.wrap ((shr .u64 x1 x7) + bt105.2)) bt105.1 x7)) else (none)) else (none))
def field_fold.f (k : Nat) (a0 : Int) (a1 : Int) (a2 : Int) : Option (Int) := (field_width.f k a0).bind fun t102 => (field_fold.l0 k a0 a1 a2 t102)
theorem field_fold.mono_l : ∀ k,(∀ y0 y1 y2 y3,LeO (field_fold.l0 k y0 y1 y2 y3) (field_fold.l0 (k + 1) y0 y1 y2 y3))
 | 0 => fun _ _ _ _ r h => by simp [field_fold.l0] at h
 | k + 1 => by
  have ih0 := field_fold.mono_l k
  ·intro y0 y1 y2 y3
   unfold field_fold.l0
   repeat' first
   | (with_reducible exact ih0 _ _ _ _)
   | (with_reducible exact field_width.mono _ _)
   | (with_reducible exact LeO.refl _)
   | (with_reducible exact LeO.none _)
   | (with_reducible refine LeO.ite ?_ ?_)
   | (with_reducible refine LeO.bind ?_ (fun _ => ?_))
   | exact ih0 _ _ _ _
   | exact field_width.mono _ _
   | exact LeO.none _
   | refine LeO.ite ?_ ?_
   | refine LeO.bind ?_ (fun _ => ?_)
theorem field_fold.mono : ∀ a0 a1 a2 k,LeO (field_fold.f k a0 a1 a2) (field_fold.f (k + 1) a0 a1 a2) := by
 intro a0 a1 a2 k
 have ih0 := field_fold.mono_l k
 unfold field_fold.f
 repeat' first
   | (with_reducible exact ih0 _ _ _ _)
   | (with_reducible exact field_width.mono _ _)
   | (with_reducible exact LeO.refl _)
   | (with_reducible exact LeO.none _)
   | (with_reducible refine LeO.ite ?_ ?_)
   | (with_reducible refine LeO.bind ?_ (fun _ => ?_))
   | exact ih0 _ _ _ _
   | exact field_width.mono _ _
   | exact LeO.none _
   | refine LeO.ite ?_ ?_
   | refine LeO.bind ?_ (fun _ => ?_)
set_option maxHeartbeats 8000000 in
set_option maxRecDepth 100000 in
theorem field_fold.calls (k : Nat) (a0 : Int) (a1 : Int) (a2 : Int) (r : Int) (w : World) (h : field_fold.f k a0 a1 a2 = some r) :
  Calls Try.prog 51 #[.int .u64 a0,.int .u64 a1,.int .u64 a2] w fun e w' => e = .returned (.int .u64 r) ∧ Drawn0 w w' := by
 have H : ((field_width.f k a0).bind fun t102 => (field_fold.l0 k a0 a1 a2 t102)) = some r := h
 clear h
 replace H := Option.bind_eq_some_iff.mp H
 obtain ⟨t102,A40,H⟩ := H
 try dsimp only at H
 have A4 := am A40
 clear A40
 have H' := am H
 clear H
 go_enter Try.func51,Try.ntmps51
 go_wp2_with (first|((with_reducible refine gate_callee (f := 83) rfl ?_);refine goesL_ (some 12) rfl rfl Try.func83 (by kernel_rfl) rfl #[.int .u64 a0] rfl (by (try simp only [List.map_toArray,List.map_cons,List.map_nil]);first|done|rfl|(simp only [List.length_drop,List.length_take];rfl)) ?_;(with_reducible refine (field_width.calls k a0 t102 _ A4.out).mono ?_);rintro e w' ⟨rfl,⟨nd,rfl⟩⟩;refine ⟨_,rfl,?_⟩))
 go_loopg [1,2] k (fun kq v1 v2 w' => ∃ (x1_1 : Int) (x2_1 : Int),v1 = .int .u64 x1_1 ∧ v2 = .int .u64 x2_1 ∧ Aside0 (field_fold.l0 kq a0 x1_1 x2_1 t102 = some r) ∧ Aside0 (kq ≤ k) ∧ Drawn0 w w')
 case atStart => exact ⟨(a1),(a2),(by first|rfl|(simp;done)|(simp [*];done)),(by first|rfl|(simp;done)|(simp [*];done)),H',⟨Nat.le_refl _⟩,by repeat (first|exact Drawn0.refl _|apply Drawn0.step)⟩
 case round =>
  clear H'
  try clear p2
  obtain ⟨x1_1,x2_1,rfl,rfl,HA,HK1,⟨m1,rfl⟩⟩ := hrel
  cases gk with
  | zero => exact absurd HA.out (by simp [field_fold.l0])
  | succ k1 =>
   have H := HA.out
   clear HA
   simp only [field_fold.l0] at H
   by_cases c5 : x1_1 = 0
   ·rw [if_pos c5] at H
    have c5b0 : (x1_1 == 0) = true := beq_iff_eq.mpr c5
    have c5b1 : (x1_1 != 0) = false := bne_eq_false_iff_eq.mpr c5
    clear c5
    by_cases c6 : x2_1 > a0
    ·rw [if_pos c6] at H
     have c6b0 : decide (a0 < x2_1) = true := decide_eq_true c6
     clear c6
     by_cases c7 : 0 ≤ t102
     ·rw [if_pos c7] at H
      have c7b0 := eq_true c7
      have c7b1 : decide (0 ≤ t102) = true := decide_eq_true c7
      clear c7
      obtain ⟨ji8,hji8⟩ : ∃ j_ : Int,(shr .u64 x2_1 t102) = j_ := ⟨_,rfl⟩
      first|rw [hji8] at H|simp only [hji8] at H
      have hji8_ : (x2_1 / 2 ^ min t102.toNat 64) = ji8 := hji8
      have hji8z : t102 ≤ 64 → (x2_1 / 2 ^ t102.toNat) = ji8 := shr_small hji8
      obtain ⟨ji9,hji9⟩ : ∃ j_ : Int,(IntKind.u64.wrap (64 - t102)) = j_ := ⟨_,rfl⟩
      first|rw [hji9] at H|simp only [hji9] at H
      by_cases c10 : 0 ≤ (ji9)
      ·rw [if_pos c10] at H
       have c10b0 := eq_true c10
       have c10b1 : decide (0 ≤ (ji9)) = true := decide_eq_true c10
       clear c10
       obtain ⟨ji11,hji11⟩ : ∃ j_ : Int,(shl .u64 x1_1 (ji9)) = j_ := ⟨_,rfl⟩
       first|rw [hji11] at H|simp only [hji11] at H
       have hji11_ : (IntKind.u64.wrap (x1_1 * 2 ^ min (ji9).toNat 64)) = ji11 := hji11
       have hji11z : (ji9) ≤ 64 → (IntKind.u64.wrap (x1_1 * 2 ^ (ji9).toNat)) = ji11 := shl_small hji11
       have c12b0 := eq_true (od : 0 ≤ t102)
       obtain ⟨ji13,hji13⟩ : ∃ j_ : Int,(shr .u64 x1_1 t102) = j_ := ⟨_,rfl⟩
       first|rw [hji13] at H|simp only [hji13] at H
       have hji13_ : (x1_1 / 2 ^ min t102.toNat 64) = ji13 := hji13
       have hji13z : t102 ≤ 64 → (x1_1 / 2 ^ t102.toNat) = ji13 := shr_small hji13
       replace H := Option.bind_eq_some_iff.mp H
       obtain ⟨⟨t103,t104⟩,A140,H⟩ := H
       try dsimp only at H
       have A14 := am A140
       clear A140
       have H' := am H
       clear H
       go_wp2_with (first|((with_reducible refine gate_callee (f := 84) rfl ?_);refine goesX_ (some 37) rfl rfl #[.int .u64 (Go.bits .or .u64 (ji8) (ji11)),.int .u64 (Go.bits .and .u64 x2_1 a0),.int .u64 0] rfl (by (try simp only [List.map_toArray,List.map_cons,List.map_nil]);first|done|(simp only [hji11,hji8];rfl)|rfl|(simp only [List.length_drop,List.length_take];rfl)) _ (bits_Add64.runs (Go.bits .or .u64 (ji8) (ji11)) (Go.bits .and .u64 x2_1 a0) 0 t103 t104 _ A14.out) ?_))
       go_roundg k1
       case measure => have := HK1.out;omega
       case rel => exact ⟨(IntKind.u64.wrap ((ji13) + t104)),(t103),(by first|rfl|(simp;done)|(simp only [← hji13] <;> (first|rfl|simp))|(simp [*];done)),(by first|rfl|(simp;done)|(simp [*];done)),H',⟨by have := HK1.out;omega⟩,by repeat (first|exact Drawn0.refl _|apply Drawn0.step)⟩
      ·rw [if_neg c10] at H
       exact absurd H (by simp)
     ·rw [if_neg c7] at H
      exact absurd H (by simp)
    ·rw [if_neg c6] at H
     have c6b0 : decide (a0 < x2_1) = false := decide_eq_false c6
     clear c6
     by_cases c15 : x2_1 = a0
     ·rw [if_pos c15] at H
      have c15b0 : (x2_1 == a0) = true := beq_iff_eq.mpr c15
      have c15b1 : (x2_1 != a0) = false := bne_eq_false_iff_eq.mpr c15
      clear c15
      obtain rfl := Option.some.inj H
      go_wp2
      go_ret
      exact ⟨by first|rfl|(simp;done)|(simp [*];done),by repeat (first|exact Drawn0.refl _|apply Drawn0.step)⟩
     ·rw [if_neg c15] at H
      have c15b0 : (x2_1 == a0) = false := beq_eq_false_iff_ne.mpr c15
      have c15b1 : (x2_1 != a0) = true := bne_iff_ne.mpr c15
      obtain rfl := Option.some.inj H
      go_wp2
      go_ret
      exact ⟨by first|rfl|(simp;done)|(simp [*];done),by repeat (first|exact Drawn0.refl _|apply Drawn0.step)⟩
   ·rw [if_neg c5] at H
    have c5b0 : (x1_1 == 0) = false := beq_eq_false_iff_ne.mpr c5
    have c5b1 : (x1_1 != 0) = true := bne_iff_ne.mpr c5
    by_cases c16 : 0 ≤ t102
    ·rw [if_pos c16] at H
     have c16b0 := eq_true c16
     have c16b1 : decide (0 ≤ t102) = true := decide_eq_true c16
     clear c16
     obtain ⟨ji17,hji17⟩ : ∃ j_ : Int,(shr .u64 x2_1 t102) = j_ := ⟨_,rfl⟩
     first|rw [hji17] at H|simp only [hji17] at H
     have hji17_ : (x2_1 / 2 ^ min t102.toNat 64) = ji17 := hji17
     have hji17z : t102 ≤ 64 → (x2_1 / 2 ^ t102.toNat) = ji17 := shr_small hji17
     obtain ⟨ji18,hji18⟩ : ∃ j_ : Int,(IntKind.u64.wrap (64 - t102)) = j_ := ⟨_,rfl⟩
     first|rw [hji18] at H|simp only [hji18] at H
     by_cases c19 : 0 ≤ (ji18)
     ·rw [if_pos c19] at H
      have c19b0 := eq_true c19
      have c19b1 : decide (0 ≤ (ji18)) = true := decide_eq_true c19
      clear c19
      obtain ⟨ji20,hji20⟩ : ∃ j_ : Int,(shl .u64 x1_1 (ji18)) = j_ := ⟨_,rfl⟩
      first|rw [hji20] at H|simp only [hji20] at H
      have hji20_ : (IntKind.u64.wrap (x1_1 * 2 ^ min (ji18).toNat 64)) = ji20 := hji20
      have hji20z : (ji18) ≤ 64 → (IntKind.u64.wrap (x1_1 * 2 ^ (ji18).toNat)) = ji20 := shl_small hji20
      have c21b0 := eq_true (od : 0 ≤ t102)
      obtain ⟨ji22,hji22⟩ : ∃ j_ : Int,(shr .u64 x1_1 t102) = j_ := ⟨_,rfl⟩
      first|rw [hji22] at H|simp only [hji22] at H
      have hji22_ : (x1_1 / 2 ^ min t102.toNat 64) = ji22 := hji22
      have hji22z : t102 ≤ 64 → (x1_1 / 2 ^ t102.toNat) = ji22 := shr_small hji22
      replace H := Option.bind_eq_some_iff.mp H
      obtain ⟨⟨t105,t106⟩,A230,H⟩ := H
      try dsimp only at H
      have A23 := am A230
      clear A230
      have H' := am H
      clear H
      go_wp2_with (first|((with_reducible refine gate_callee (f := 84) rfl ?_);refine goesX_ (some 37) rfl rfl #[.int .u64 (Go.bits .or .u64 (ji17) (ji20)),.int .u64 (Go.bits .and .u64 x2_1 a0),.int .u64 0] rfl (by (try simp only [List.map_toArray,List.map_cons,List.map_nil]);first|done|(simp only [hji17,hji20];rfl)|rfl|(simp only [List.length_drop,List.length_take];rfl)) _ (bits_Add64.runs (Go.bits .or .u64 (ji17) (ji20)) (Go.bits .and .u64 x2_1 a0) 0 t105 t106 _ A23.out) ?_))
      go_roundg k1
      case measure => have := HK1.out;omega
      case rel => exact ⟨(IntKind.u64.wrap ((ji22) + t106)),(t105),(by first|rfl|(simp;done)|(simp only [← hji22] <;> (first|rfl|simp))|(simp [*];done)),(by first|rfl|(simp;done)|(simp [*];done)),H',⟨by have := HK1.out;omega⟩,by repeat (first|exact Drawn0.refl _|apply Drawn0.step)⟩
     ·rw [if_neg c19] at H
      exact absurd H (by simp)
    ·rw [if_neg c16] at H
     exact absurd H (by simp)
def field_Add.f (k : Nat) (a0 : Int) (a1 : Int) (a2 : Int) : Option (Int) := (field_fold.f k a0 0 (IntKind.u64.wrap (a1 + a2))).bind fun t107 => (some t107)
set_option maxHeartbeats 8000000 in
set_option maxRecDepth 100000 in
theorem field_Add.calls (k : Nat) (a0 : Int) (a1 : Int) (a2 : Int) (r : Int) (w : World) (h : field_Add.f k a0 a1 a2 = some r) :
  Calls Try.prog 26 #[.int .u64 a0,.int .u64 a1,.int .u64 a2] w fun e w' => e = .returned (.int .u64 r) ∧ Drawn0 w w' := by
 have H : ((field_fold.f k a0 0 (IntKind.u64.wrap (a1 + a2))).bind fun t107 => (some t107)) = some r := h
 clear h
 replace H := Option.bind_eq_some_iff.mp H
 obtain ⟨t107,A40,H⟩ := H
 try dsimp only at H
 have A4 := am A40
 clear A40
 obtain rfl := Option.some.inj H
 go_enter Try.func26,Try.ntmps26
 go_wp2_with (first|((with_reducible refine gate_callee (f := 51) rfl ?_);refine goesL_ (some 11) rfl rfl Try.func51 (by kernel_rfl) rfl #[.int .u64 a0,.int .u64 0,.int .u64 (IntKind.u64.wrap (a1 + a2))] rfl (by (try simp only [List.map_toArray,List.map_cons,List.map_nil]);first|done|rfl|(simp only [List.length_drop,List.length_take];rfl)) ?_;(with_reducible refine (field_fold.calls k a0 0 (IntKind.u64.wrap (a1 + a2)) t107 _ A4.out).mono ?_);rintro e w' ⟨rfl,⟨nd,rfl⟩⟩;refine ⟨_,rfl,?_⟩))
 go_ret
 exact ⟨by first|rfl|(simp;done)|(simp [*];done),by repeat (first|exact Drawn0.refl _|apply Drawn0.step)⟩
def field_Neg.f (a0 : Int) (a1 : Int) : Option (Int) := if a1 = 0 then (some 0) else (some (IntKind.u64.wrap (a0 - a1)))
set_option maxHeartbeats 8000000 in
set_option maxRecDepth 100000 in
theorem field_Neg.calls (a0 : Int) (a1 : Int) (r : Int) (w : World) (h : field_Neg.f a0 a1 = some r) :
  Calls Try.prog 68 #[.int .u64 a0,.int .u64 a1] w fun e w' => e = .returned (.int .u64 r) ∧ Drawn0 w w' := by
 have H : (if a1 = 0 then (some 0) else (some (IntKind.u64.wrap (a0 - a1)))) = some r := h
 clear h
 by_cases c3 : a1 = 0
 ·rw [if_pos c3] at H
  have c3b0 : (a1 == 0) = true := beq_iff_eq.mpr c3
  have c3b1 : (a1 != 0) = false := bne_eq_false_iff_eq.mpr c3
  clear c3
  obtain rfl := Option.some.inj H
  go_enter Try.func68,Try.ntmps68
  go_wp2
  go_ret
  exact ⟨by first|rfl|(simp;done)|(simp [*];done),by repeat (first|exact Drawn0.refl _|apply Drawn0.step)⟩
 ·rw [if_neg c3] at H
  have c3b0 : (a1 == 0) = false := beq_eq_false_iff_ne.mpr c3
  have c3b1 : (a1 != 0) = true := bne_iff_ne.mpr c3
  obtain rfl := Option.some.inj H
  go_enter Try.func68,Try.ntmps68
  go_wp2
  go_ret
  exact ⟨by first|rfl|(simp;done)|(simp [*];done),by repeat (first|exact Drawn0.refl _|apply Drawn0.step)⟩
def field_Sub.f (k : Nat) (a0 : Int) (a1 : Int) (a2 : Int) : Option (Int) := (field_Neg.f a0 a2).bind fun t108 => ((field_Add.f k a0 a1 t108).bind fun t109 => (some t109))
set_option maxHeartbeats 8000000 in
set_option maxRecDepth 100000 in
theorem field_Sub.calls (k : Nat) (a0 : Int) (a1 : Int) (a2 : Int) (r : Int) (w : World) (h : field_Sub.f k a0 a1 a2 = some r) :
  Calls Try.prog 44 #[.int .u64 a0,.int .u64 a1,.int .u64 a2] w fun e w' => e = .returned (.int .u64 r) ∧ Drawn0 w w' := by
 have H : ((field_Neg.f a0 a2).bind fun t108 => ((field_Add.f k a0 a1 t108).bind fun t109 => (some t109))) = some r := h
 clear h
 replace H := Option.bind_eq_some_iff.mp H
 obtain ⟨t108,A40,H⟩ := H
 try dsimp only at H
 have A4 := am A40
 clear A40
 replace H := Option.bind_eq_some_iff.mp H
 obtain ⟨t109,A50,H⟩ := H
 try dsimp only at H
 have A5 := am A50
 clear A50
 obtain rfl := Option.some.inj H
 go_enter Try.func44,Try.ntmps44
 go_wp2_with (first|((with_reducible refine gate_callee (f := 68) rfl ?_);refine goesL_ (some 11) rfl rfl Try.func68 (by kernel_rfl) rfl #[.int .u64 a0,.int .u64 a2] rfl (by (try simp only [List.map_toArray,List.map_cons,List.map_nil]);first|done|rfl|(simp only [List.length_drop,List.length_take];rfl)) ?_;(with_reducible refine (field_Neg.calls a0 a2 t108 _ A4.out).mono ?_);rintro e w' ⟨rfl,⟨nd,rfl⟩⟩;refine ⟨_,rfl,?_⟩)|((with_reducible refine gate_callee (f := 26) rfl ?_);refine goesL_ (some 12) rfl rfl Try.func26 (by kernel_rfl) rfl #[.int .u64 a0,.int .u64 a1,.int .u64 t108] rfl (by (try simp only [List.map_toArray,List.map_cons,List.map_nil]);first|done|rfl|(simp only [List.length_drop,List.length_take];rfl)) ?_;(with_reducible refine (field_Add.calls k a0 a1 t108 t109 _ A5.out).mono ?_);rintro e w' ⟨rfl,⟨nd,rfl⟩⟩;refine ⟨_,rfl,?_⟩))
 go_ret
 exact ⟨by first|rfl|(simp;done)|(simp [*];done),by repeat (first|exact Drawn0.refl _|apply Drawn0.step)⟩
def bits_Mul64.f (a0 : Int) (a1 : Int) : Option (Int × Int) := some (IntKind.u64.wrap ((IntKind.u64.wrap ((IntKind.u64.wrap ((a0 / 4294967296) * (a1 / 4294967296))) + ((IntKind.u64.wrap ((IntKind.u64.wrap ((a0 / 4294967296) * (Go.bits .and .u64 a1 4294967295))) + ((IntKind.u64.wrap ((Go.bits .and .u64 a0 4294967295) * (Go.bits .and .u64 a1 4294967295))) / 4294967296))) / 4294967296))) + ((IntKind.u64.wrap ((Go.bits .and .u64 (IntKind.u64.wrap ((IntKind.u64.wrap ((a0 / 4294967296) * (Go.bits .and .u64 a1 4294967295))) + ((IntKind.u64.wrap ((Go.bits .and .u64 a0 4294967295) * (Go.bits .and .u64 a1 4294967295))) / 4294967296))) 4294967295) + (IntKind.u64.wrap ((Go.bits .and .u64 a0 4294967295) * (a1 / 4294967296))))) / 4294967296)),IntKind.u64.wrap (a0 * a1))
set_option maxHeartbeats 8000000 in
set_option maxRecDepth 100000 in
theorem bits_Mul64.calls (a0 : Int) (a1 : Int) (r1 : Int) (r2 : Int) (w : World) (h : bits_Mul64.f a0 a1 = some (r1,r2)) :
  Calls Try.prog 52 #[.int .u64 a0,.int .u64 a1] w fun e w' => e = .returned (.tuple #[.int .u64 r1,.int .u64 r2]) ∧ Drawn0 w w' := by
 have H : (some (IntKind.u64.wrap ((IntKind.u64.wrap ((IntKind.u64.wrap ((a0 / 4294967296) * (a1 / 4294967296))) + ((IntKind.u64.wrap ((IntKind.u64.wrap ((a0 / 4294967296) * (Go.bits .and .u64 a1 4294967295))) + ((IntKind.u64.wrap ((Go.bits .and .u64 a0 4294967295) * (Go.bits .and .u64 a1 4294967295))) / 4294967296))) / 4294967296))) + ((IntKind.u64.wrap ((Go.bits .and .u64 (IntKind.u64.wrap ((IntKind.u64.wrap ((a0 / 4294967296) * (Go.bits .and .u64 a1 4294967295))) + ((IntKind.u64.wrap ((Go.bits .and .u64 a0 4294967295) * (Go.bits .and .u64 a1 4294967295))) / 4294967296))) 4294967295) + (IntKind.u64.wrap ((Go.bits .and .u64 a0 4294967295) * (a1 / 4294967296))))) / 4294967296)),IntKind.u64.wrap (a0 * a1))) = some (r1,r2) := h
 clear h
 simp only [Option.some.injEq,Prod.mk.injEq] at H
 obtain ⟨rfl,rfl⟩ := H
 go_enter Try.func52,Try.ntmps52
 go_wp2
 go_ret2
 exact ⟨by first|rfl|(simp;done)|(simp [*];done),by repeat (first|exact Drawn0.refl _|apply Drawn0.step)⟩
def field_Mul.f (k : Nat) (a0 : Int) (a1 : Int) (a2 : Int) : Option (Int) := (bits_Mul64.f a1 a2).bind fun bt110 => ((field_fold.f k a0 bt110.1 bt110.2).bind fun t112 => (some t112))
theorem field_Mul.mono : ∀ a0 a1 a2 k,LeO (field_Mul.f k a0 a1 a2) (field_Mul.f (k + 1) a0 a1 a2) := by
 intro a0 a1 a2 k
 unfold field_Mul.f
 repeat' first
   | (with_reducible exact field_fold.mono _ _ _ _)
   | (with_reducible exact LeO.refl _)
   | (with_reducible exact LeO.none _)
   | (with_reducible refine LeO.ite ?_ ?_)
   | (with_reducible refine LeO.bind ?_ (fun _ => ?_))
   | exact field_fold.mono _ _ _ _
   | exact LeO.none _
   | refine LeO.ite ?_ ?_
   | refine LeO.bind ?_ (fun _ => ?_)
set_option maxHeartbeats 8000000 in
set_option maxRecDepth 100000 in
theorem field_Mul.calls (k : Nat) (a0 : Int) (a1 : Int) (a2 : Int) (r : Int) (w : World) (h : field_Mul.f k a0 a1 a2 = some r) :
  Calls Try.prog 27 #[.int .u64 a0,.int .u64 a1,.int .u64 a2] w fun e w' => e = .returned (.int .u64 r) ∧ Drawn0 w w' := by
 have H : ((bits_Mul64.f a1 a2).bind fun bt110 => ((field_fold.f k a0 bt110.1 bt110.2).bind fun t112 => (some t112))) = some r := h
 clear h
 replace H := Option.bind_eq_some_iff.mp H
 obtain ⟨⟨t110,t111⟩,A40,H⟩ := H
 try dsimp only at H
 have A4 := am A40
 clear A40
 replace H := Option.bind_eq_some_iff.mp H
 obtain ⟨t112,A50,H⟩ := H
 try dsimp only at H
 have A5 := am A50
 clear A50
 obtain rfl := Option.some.inj H
 go_enter Try.func27,Try.ntmps27
 go_wp2_with (first|((with_reducible refine gate_callee (f := 52) rfl ?_);refine goesL_ (some 12) rfl rfl Try.func52 (by kernel_rfl) rfl #[.int .u64 a1,.int .u64 a2] rfl (by (try simp only [List.map_toArray,List.map_cons,List.map_nil]);first|done|rfl|(simp only [List.length_drop,List.length_take];rfl)) ?_;(with_reducible refine (bits_Mul64.calls a1 a2 t110 t111 _ A4.out).mono ?_);rintro e w' ⟨rfl,⟨nd,rfl⟩⟩;refine ⟨_,rfl,?_⟩)|((with_reducible refine gate_callee (f := 51) rfl ?_);refine goesL_ (some 18) rfl rfl Try.func51 (by kernel_rfl) rfl #[.int .u64 a0,.int .u64 t110,.int .u64 t111] rfl (by (try simp only [List.map_toArray,List.map_cons,List.map_nil]);first|done|rfl|(simp only [List.length_drop,List.length_take];rfl)) ?_;(with_reducible refine (field_fold.calls k a0 t110 t111 t112 _ A5.out).mono ?_);rintro e w' ⟨rfl,⟨nd,rfl⟩⟩;refine ⟨_,rfl,?_⟩))
 go_ret
 exact ⟨by first|rfl|(simp;done)|(simp [*];done),by repeat (first|exact Drawn0.refl _|apply Drawn0.step)⟩
def field_Pow.l0 : Nat → Int → Int → Int → Int → Option (Int)
 | 0,_,_,_,_ => none
 | k + 1,x0,x1,x2,x7 => if x2 > 0 then (if (Go.bits .and .u64 x2 1) = 1 then ((field_Mul.f k x0 x7 x1).bind fun t113 => ((field_Mul.f k x0 x1 x1).bind fun t114 => (field_Pow.l0 k x0 t114 (x2 / 2) t113))) else ((field_Mul.f k x0 x1 x1).bind fun t115 => (field_Pow.l0 k x0 t115 (x2 / 2) x7))) else (some x7)
def field_Pow.f (k : Nat) (a0 : Int) (a1 : Int) (a2 : Int) : Option (Int) := field_Pow.l0 k a0 a1 a2 1
theorem field_Pow.mono_l : ∀ k,(∀ y0 y1 y2 y3,LeO (field_Pow.l0 k y0 y1 y2 y3) (field_Pow.l0 (k + 1) y0 y1 y2 y3))
 | 0 => fun _ _ _ _ r h => by simp [field_Pow.l0] at h
 | k + 1 => by
  have ih0 := field_Pow.mono_l k
  ·intro y0 y1 y2 y3
   unfold field_Pow.l0
   repeat' first
   | (with_reducible exact ih0 _ _ _ _)
   | (with_reducible exact field_Mul.mono _ _ _ _)
   | (with_reducible exact LeO.refl _)
   | (with_reducible exact LeO.none _)
   | (with_reducible refine LeO.ite ?_ ?_)
   | (with_reducible refine LeO.bind ?_ (fun _ => ?_))
   | exact ih0 _ _ _ _
   | exact field_Mul.mono _ _ _ _
   | exact LeO.none _
   | refine LeO.ite ?_ ?_
   | refine LeO.bind ?_ (fun _ => ?_)
set_option maxHeartbeats 8000000 in
set_option maxRecDepth 100000 in
theorem field_Pow.calls (k : Nat) (a0 : Int) (a1 : Int) (a2 : Int) (r : Int) (w : World) (h : field_Pow.f k a0 a1 a2 = some r) :
  Calls Try.prog 100 #[.int .u64 a0,.int .u64 a1,.int .u64 a2] w fun e w' => e = .returned (.int .u64 r) ∧ Drawn0 w w' := by
 have H : (field_Pow.l0 k a0 a1 a2 1) = some r := h
 clear h
 have H' := am H
 clear H
 go_enter Try.func100,Try.ntmps100
 go_wp2
 go_loopg [1,2,7] k (fun kq v1 v2 v7 w' => ∃ (x1_1 : Int) (x2_1 : Int) (x7_1 : Int),v1 = .int .u64 x1_1 ∧ v2 = .int .u64 x2_1 ∧ v7 = .int .u64 x7_1 ∧ Aside0 (field_Pow.l0 kq a0 x1_1 x2_1 x7_1 = some r) ∧ Aside0 (kq ≤ k) ∧ Drawn0 w w')
 case atStart => exact ⟨(a1),(a2),(1),(by first|rfl|(simp;done)|(simp [*];done)),(by first|rfl|(simp;done)|(simp [*];done)),(by first|rfl|(simp;done)|(simp [*];done)),H',⟨Nat.le_refl _⟩,by repeat (first|exact Drawn0.refl _|apply Drawn0.step)⟩
 case round =>
  clear H'
  try clear c1
  try clear p2
  obtain ⟨x1_1,x2_1,x7_1,rfl,rfl,rfl,HA,HK1,⟨m1,rfl⟩⟩ := hrel
  cases gk with
  | zero => exact absurd HA.out (by simp [field_Pow.l0])
  | succ k1 =>
   have H := HA.out
   clear HA
   simp only [field_Pow.l0] at H
   by_cases c4 : x2_1 > 0
   ·rw [if_pos c4] at H
    have c4b0 : decide (0 < x2_1) = true := decide_eq_true c4
    clear c4
    by_cases c5 : (Go.bits .and .u64 x2_1 1) = 1
    ·rw [if_pos c5] at H
     have c5b0 : ((Go.bits .and .u64 x2_1 1) == 1) = true := beq_iff_eq.mpr c5
     have c5b1 : ((Go.bits .and .u64 x2_1 1) != 1) = false := bne_eq_false_iff_eq.mpr c5
     clear c5
     replace H := Option.bind_eq_some_iff.mp H
     obtain ⟨t113,A60,H⟩ := H
     try dsimp only at H
     have A6 := am A60
     clear A60
     replace H := Option.bind_eq_some_iff.mp H
     obtain ⟨t114,A70,H⟩ := H
     try dsimp only at H
     have A7 := am A70
     clear A70
     have H' := am H
     clear H
     go_wp2_with (first|((with_reducible refine gate_callee (f := 27) rfl ?_);refine goesL_ (some 18) rfl rfl Try.func27 (by kernel_rfl) rfl #[.int .u64 a0,.int .u64 x7_1,.int .u64 x1_1] rfl (by (try simp only [List.map_toArray,List.map_cons,List.map_nil]);first|done|rfl|(simp only [List.length_drop,List.length_take];rfl)) ?_;(with_reducible refine (field_Mul.calls k1 a0 x7_1 x1_1 t113 _ A6.out).mono ?_);rintro e w' ⟨rfl,⟨nd,rfl⟩⟩;refine ⟨_,rfl,?_⟩)|((with_reducible refine gate_callee (f := 27) rfl ?_);refine goesL_ (some 22) rfl rfl Try.func27 (by kernel_rfl) rfl #[.int .u64 a0,.int .u64 x1_1,.int .u64 x1_1] rfl (by (try simp only [List.map_toArray,List.map_cons,List.map_nil]);first|done|rfl|(simp only [List.length_drop,List.length_take];rfl)) ?_;(with_reducible refine (field_Mul.calls k1 a0 x1_1 x1_1 t114 _ A7.out).mono ?_);rintro e w' ⟨rfl,⟨nd,rfl⟩⟩;refine ⟨_,rfl,?_⟩))
     go_roundg k1
     case measure => have := HK1.out;omega
     case rel => exact ⟨(t114),(x2_1 / 2),(t113),(by first|rfl|(simp;done)|(simp [*];done)),(by first|rfl|(simp;done)|(simp [*];done)),(by first|rfl|(simp;done)|(simp [*];done)),H',⟨by have := HK1.out;omega⟩,by repeat (first|exact Drawn0.refl _|apply Drawn0.step)⟩
    ·rw [if_neg c5] at H
     have c5b0 : ((Go.bits .and .u64 x2_1 1) == 1) = false := beq_eq_false_iff_ne.mpr c5
     have c5b1 : ((Go.bits .and .u64 x2_1 1) != 1) = true := bne_iff_ne.mpr c5
     replace H := Option.bind_eq_some_iff.mp H
     obtain ⟨t115,A80,H⟩ := H
     try dsimp only at H
     have A8 := am A80
     clear A80
     have H' := am H
     clear H
     go_wp2_with (first|((with_reducible refine gate_callee (f := 27) rfl ?_);refine goesL_ (some 22) rfl rfl Try.func27 (by kernel_rfl) rfl #[.int .u64 a0,.int .u64 x1_1,.int .u64 x1_1] rfl (by (try simp only [List.map_toArray,List.map_cons,List.map_nil]);first|done|rfl|(simp only [List.length_drop,List.length_take];rfl)) ?_;(with_reducible refine (field_Mul.calls k1 a0 x1_1 x1_1 t115 _ A8.out).mono ?_);rintro e w' ⟨rfl,⟨nd,rfl⟩⟩;refine ⟨_,rfl,?_⟩))
     go_roundg k1
     case measure => have := HK1.out;omega
     case rel => exact ⟨(t115),(x2_1 / 2),(x7_1),(by first|rfl|(simp;done)|(simp [*];done)),(by first|rfl|(simp;done)|(simp [*];done)),(by first|rfl|(simp;done)|(simp [*];done)),H',⟨by have := HK1.out;omega⟩,by repeat (first|exact Drawn0.refl _|apply Drawn0.step)⟩
   ·rw [if_neg c4] at H
    have c4b0 : decide (0 < x2_1) = false := decide_eq_false c4
    clear c4
    obtain rfl := Option.some.inj H
    go_wp2
    go_ret
    exact ⟨by first|rfl|(simp;done)|(simp [*];done),by repeat (first|exact Drawn0.refl _|apply Drawn0.step)⟩
def field_Inverse.f (k : Nat) (a0 : Int) (a1 : Int) : Option (Int × Int) := if a1 = 0 then (some (0,8)) else ((field_Pow.f k a0 a1 (IntKind.u64.wrap (a0 - 2))).bind fun t116 => (some (t116,0)))
set_option maxHeartbeats 8000000 in
set_option maxRecDepth 100000 in
theorem field_Inverse.calls (k : Nat) (a0 : Int) (a1 : Int) (r1 : Int) (r2 : Int) (w : World) (h : field_Inverse.f k a0 a1 = some (r1,r2)) :
  Calls Try.prog 86 #[.int .u64 a0,.int .u64 a1] w fun e w' => e = .returned (.tuple #[.int .u64 r1,.int .i64 r2]) ∧ Drawn0 w w' := by
 have H : (if a1 = 0 then (some (0,8)) else ((field_Pow.f k a0 a1 (IntKind.u64.wrap (a0 - 2))).bind fun t116 => (some (t116,0)))) = some (r1,r2) := h
 clear h
 by_cases c3 : a1 = 0
 ·rw [if_pos c3] at H
  have c3b0 : (a1 == 0) = true := beq_iff_eq.mpr c3
  have c3b1 : (a1 != 0) = false := bne_eq_false_iff_eq.mpr c3
  clear c3
  simp only [Option.some.injEq,Prod.mk.injEq] at H
  obtain ⟨rfl,rfl⟩ := H
  go_enter Try.func86,Try.ntmps86
  go_wp2
  go_ret2
  exact ⟨by first|rfl|(simp;done)|(simp [*];done),by repeat (first|exact Drawn0.refl _|apply Drawn0.step)⟩
 ·rw [if_neg c3] at H
  have c3b0 : (a1 == 0) = false := beq_eq_false_iff_ne.mpr c3
  have c3b1 : (a1 != 0) = true := bne_iff_ne.mpr c3
  replace H := Option.bind_eq_some_iff.mp H
  obtain ⟨t116,A40,H⟩ := H
  try dsimp only at H
  have A4 := am A40
  clear A40
  simp only [Option.some.injEq,Prod.mk.injEq] at H
  obtain ⟨rfl,rfl⟩ := H
  go_enter Try.func86,Try.ntmps86
  go_wp2_with (first|((with_reducible refine gate_callee (f := 100) rfl ?_);refine goesL_ (some 12) rfl rfl Try.func100 (by kernel_rfl) rfl #[.int .u64 a0,.int .u64 a1,.int .u64 (IntKind.u64.wrap (a0 - 2))] rfl (by (try simp only [List.map_toArray,List.map_cons,List.map_nil]);first|done|rfl|(simp only [List.length_drop,List.length_take];rfl)) ?_;(with_reducible refine (field_Pow.calls k a0 a1 (IntKind.u64.wrap (a0 - 2)) t116 _ A4.out).mono ?_);rintro e w' ⟨rfl,⟨nd,rfl⟩⟩;refine ⟨_,rfl,?_⟩))
  go_ret2
  exact ⟨by first|rfl|(simp;done)|(simp [*];done),by repeat (first|exact Drawn0.refl _|apply Drawn0.step)⟩
def interpolate_over.f (k : Nat) (a0 : Int) (a1 : Int) (a2 : Int) : Option (Int) := (field_Inverse.f k a0 a2).bind fun bt117 => ((field_Mul.f k a0 a1 bt117.1).bind fun t119 => (some t119))
set_option maxHeartbeats 8000000 in
set_option maxRecDepth 100000 in
theorem interpolate_over.calls (k : Nat) (a0 : Int) (a1 : Int) (a2 : Int) (r : Int) (w : World) (h : interpolate_over.f k a0 a1 a2 = some r) :
  Calls Try.prog 62 #[.int .u64 a0,.int .u64 a1,.int .u64 a2] w fun e w' => e = .returned (.int .u64 r) ∧ Drawn0 w w' := by
 have H : ((field_Inverse.f k a0 a2).bind fun bt117 => ((field_Mul.f k a0 a1 bt117.1).bind fun t119 => (some t119))) = some r := h
 clear h
 replace H := Option.bind_eq_some_iff.mp H
 obtain ⟨⟨t117,t118⟩,A40,H⟩ := H
 try dsimp only at H
 have A4 := am A40
 clear A40
 replace H := Option.bind_eq_some_iff.mp H
 obtain ⟨t119,A50,H⟩ := H
 try dsimp only at H
 have A5 := am A50
 clear A50
 obtain rfl := Option.some.inj H
 go_enter Try.func62,Try.ntmps62
 go_wp2_with (first|((with_reducible refine gate_callee (f := 86) rfl ?_);refine goesL_ (some 12) rfl rfl Try.func86 (by kernel_rfl) rfl #[.int .u64 a0,.int .u64 a2] rfl (by (try simp only [List.map_toArray,List.map_cons,List.map_nil]);first|done|rfl|(simp only [List.length_drop,List.length_take];rfl)) ?_;(with_reducible refine (field_Inverse.calls k a0 a2 t117 t118 _ A4.out).mono ?_);rintro e w' ⟨rfl,⟨nd,rfl⟩⟩;refine ⟨_,rfl,?_⟩)|((with_reducible refine gate_callee (f := 27) rfl ?_);refine goesL_ (some 18) rfl rfl Try.func27 (by kernel_rfl) rfl #[.int .u64 a0,.int .u64 a1,.int .u64 t117] rfl (by (try simp only [List.map_toArray,List.map_cons,List.map_nil]);first|done|rfl|(simp only [List.length_drop,List.length_take];rfl)) ?_;(with_reducible refine (field_Mul.calls k a0 a1 t117 t119 _ A5.out).mono ?_);rintro e w' ⟨rfl,⟨nd,rfl⟩⟩;refine ⟨_,rfl,?_⟩))
 go_ret
 exact ⟨by first|rfl|(simp;done)|(simp [*];done),by repeat (first|exact Drawn0.refl _|apply Drawn0.step)⟩
end Go.Proofs.Ytmdoaijkaaaglaa.Pr
end
section
namespace Go.Proofs.Ytmdoaijkaaaglaa.Fd
def pw (p : Nat) : Nat → Nat → Nat → Nat → Nat
 | 0,_,_,acc => acc
 | k + 1,a,n,acc => pw p k (a * a % p) (n / 2) (if n % 2 = 1 then acc * a % p else acc)
theorem pow_mod' (a n p : Nat) : (a % p) ^ n % p = a ^ n % p := (Nat.pow_mod a n p).symm
theorem pow_two_half (a n : Nat) : a ^ n = (a * a) ^ (n / 2) * a ^ (n % 2) := by
 rw [← Nat.pow_two,← Nat.pow_mul,← Nat.pow_add];congr 1;omega
theorem pw_spec (p : Nat) : ∀ (k a n acc : Nat),n < 2 ^ k → pw p k a n acc % p = acc * a ^ n % p
 | 0,a,n,acc,h => by
  have : n = 0 := by simpa using h
  subst this;simp [pw]
 | k + 1,a,n,acc,h => by
  have hn : n / 2 < 2 ^ k := by rw [Nat.pow_succ] at h;omega
  rw [pw,pw_spec p k _ _ _ hn,pow_two_half a n]
  have e1 : (a * a % p) ^ (n / 2) % p = (a * a) ^ (n / 2) % p := pow_mod' _ _ _
  rcases Nat.mod_two_eq_zero_or_one n with e|e
  ·rw [e,if_neg (by decide),Nat.pow_zero,Nat.mul_one,Nat.mul_mod,e1,← Nat.mul_mod]
  ·rw [e,if_pos rfl,Nat.pow_one,Nat.mul_mod,e1,← Nat.mul_mod,Nat.mod_mul_mod]
   congr 1
   rw [Nat.mul_assoc,Nat.mul_comm a]
def Prm (q : Nat) : Prop := 1 < q ∧ ∀ e,e ∣ q → e = 1 ∨ e = q
theorem Prm.of_below {q : Nat} (h1 : 1 < q) (h : ∀ e,e < q → e ∣ q → e = 1) : Prm q :=
 ⟨h1,fun e he => by
  rcases Nat.lt_or_ge e q with h2|h2
  ·exact .inl (h e h2 he)
  ·exact .inr (Nat.le_antisymm (Nat.le_of_dvd (by omega) he) h2)⟩
def prmB (q : Nat) : Bool := decide (1 < q) && (List.range q).all fun e => decide (e < 2) || decide (q % e ≠ 0)
theorem Prm.of_bool {q : Nat} (h : prmB q = true) : Prm q := by
 simp only [prmB,Bool.and_eq_true,decide_eq_true_eq,List.all_eq_true,List.mem_range,Bool.or_eq_true] at h
 refine .of_below h.1 fun e he hd => ?_
 rcases h.2 e he with h2|h2
 ·have : e ≠ 0 := fun e0 => by subst e0;have := Nat.eq_zero_of_zero_dvd hd;omega
  omega
 ·exact absurd (Nat.mod_eq_zero_of_dvd hd) h2
theorem Prm.dvd_mul {q a b : Nat} (h : Prm q) (hd : q ∣ a * b) : q ∣ a ∨ q ∣ b := by
 rcases h.2 (Nat.gcd q a) (Nat.gcd_dvd_left q a) with e|e
 ·exact .inr (Nat.Coprime.dvd_of_dvd_mul_left e hd)
 ·exact .inl (e ▸ Nat.gcd_dvd_right q a)
def prod : List Nat → Nat
 | [] => 1
 | x :: l => x * prod l
theorem Prm.dvd_prod {q : Nat} (h : Prm q) : ∀ l : List Nat,(∀ x ∈ l,Prm x) → q ∣ prod l → q ∈ l
 | [],_,hd => by
  have := Nat.le_of_dvd (by decide) hd
  have := h.1
  simp [prod] at *;omega
 | x :: l,hl,hd => by
  rcases h.dvd_mul hd with e|e
  ·rcases (hl x (by simp)).2 q e with e1|e1
   ·have := h.1;omega
   ·simp [e1]
  ·exact List.mem_cons_of_mem _ (h.dvd_prod l (fun y hy => hl y (List.mem_cons_of_mem _ hy)) e)
theorem prime_factor : ∀ m : Nat,1 < m → ∃ q,Prm q ∧ q ∣ m := by
 intro m
 induction m using Nat.strongRecOn with
 | _ m ih =>
  intro hm
  by_cases h : ∃ e,e < m ∧ e ∣ m ∧ e ≠ 1
  ·obtain ⟨e,he,hd,h1⟩ := h
   have : e ≠ 0 := fun e0 => by subst e0;have := Nat.eq_zero_of_zero_dvd hd;omega
   obtain ⟨q,hq,hqe⟩ := ih e he (by omega)
   exact ⟨q,hq,Nat.dvd_trans hqe hd⟩
  ·exact ⟨m,.of_below hm fun e he hd => Classical.byContradiction fun h1 => h ⟨e,he,hd,h1⟩,Nat.dvd_refl m⟩
theorem pigeon : ∀ (n : Nat) (f : Nat → Nat),(∀ i,i < n → f i < n) → (∀ i j,i < n → j < n → f i = f j → i = j) → ∀ a,a < n → ∃ i,i < n ∧ f i = a
 | 0,_,_,_,a,ha => absurd ha (by omega)
 | n + 1,f,hf,hi,a,ha => by
  refine Classical.byContradiction fun hno => ?_
  have hno' : ∀ i,i < n + 1 → f i ≠ a := fun i h e => hno ⟨i,h,e⟩
  let f' : Nat → Nat := fun i => if f i = n then a else f i
  have hlt : ∀ i,i < n + 1 → f' i < n := by
   intro i h
   have h1 := hf i h
   have h2 := hno' i h
   show (if f i = n then a else f i) < n
   split
   ·rename_i e;rw [e] at h2;omega
   ·omega
  have hinj : ∀ i j,i < n + 1 → j < n + 1 → f' i = f' j → i = j := by
   intro i j h1 h2 e
   have a1 := hno' i h1
   have a2 := hno' j h2
   refine hi i j h1 h2 ?_
   change (if f i = n then a else f i) = (if f j = n then a else f j) at e
   split at e <;> split at e <;> first|omega|(exfalso;omega)
  obtain ⟨i,h1,h2⟩ := pigeon n f' (fun i h => hlt i (by omega)) (fun i j h1 h2 => hinj i j (by omega) (by omega)) (f' n) (hlt n (by omega))
  have := hinj i n (by omega) (by omega) h2
  omega
section order
variable {p g : Nat} (hp : 1 < p)
theorem one_mul_mod {a b : Nat} (h : a % p = 1 % p) : a * b % p = b % p := by
 rw [Nat.mul_mod,h,← Nat.mul_mod,Nat.one_mul]
theorem one_pow_mod {a : Nat} (h : a % p = 1 % p) (n : Nat) : a ^ n % p = 1 % p := by
 rw [Nat.pow_mod,h,← Nat.pow_mod,Nat.one_pow]
theorem pow_mul_mod {d : Nat} (h : g ^ d % p = 1 % p) (m : Nat) : g ^ (d * m) % p = 1 % p := by
 rw [Nat.pow_mul];exact one_pow_mod h m
theorem pow_mod_step {a b : Nat} (ha : g ^ a % p = 1 % p) (hb : g ^ b % p = 1 % p) : g ^ (a % b) % p = 1 % p := by
 have h := Nat.div_add_mod a b
 rw [← h,Nat.pow_add,one_mul_mod (pow_mul_mod hb _)] at ha
 exact ha
theorem pow_gcd (a b : Nat) (ha : g ^ a % p = 1 % p) (hb : g ^ b % p = 1 % p) : g ^ (Nat.gcd a b) % p = 1 % p := by
 induction a,b using Nat.gcd.induction with
 | H0 b => simpa using hb
 | H1 a b h ih =>
  rw [Nat.gcd_rec]
  exact ih (pow_mod_step hb ha) ha
variable (hone : g ^ (p - 1) % p = 1 % p)
theorem order_full (fs : List Nat) (hfs : ∀ x ∈ fs,Prm x) (hprod : p - 1 = prod fs) (hno : ∀ q ∈ fs,g ^ ((p - 1) / q) % p ≠ 1 % p) (hone : g ^ (p - 1) % p = 1 % p)
  (i : Nat) (h0 : 0 < i) (hi : i < p - 1) : g ^ i % p ≠ 1 % p := by
 intro h
 have hg := pow_gcd i (p - 1) h hone
 have d1 := Nat.gcd_dvd_left i (p - 1)
 have d2 := Nat.gcd_dvd_right i (p - 1)
 generalize Nat.gcd i (p - 1) = d at hg d1 d2
 obtain ⟨m,hm⟩ := d2
 have hd : d ≤ i := Nat.le_of_dvd h0 d1
 have hm1 : 1 < m := by
  rcases m with _|_|m
  ·omega
  ·omega
  ·omega
 obtain ⟨q,hq,k,hk⟩ := prime_factor m hm1
 have hqm : q ∈ fs := hq.dvd_prod fs hfs (by rw [← hprod,hm,hk];exact ⟨d * k,by rw [Nat.mul_left_comm]⟩)
 refine hno q hqm ?_
 have : (p - 1) / q = d * k := by
  rw [hm,hk,Nat.mul_left_comm,Nat.mul_div_cancel_left _ (by have := hq.1;omega)]
 rw [this]
 exact pow_mul_mod hg k
include hp in
theorem all_powers (hord : ∀ i,0 < i → i < p - 1 → g ^ i % p ≠ 1 % p) (hone : g ^ (p - 1) % p = 1 % p) (a : Nat) (h0 : 0 < a) (ha : a < p) : ∃ i,g ^ i % p = a := by
 have unit : ∀ i,i ≤ p - 1 → g ^ i * g ^ (p - 1 - i) % p = 1 % p := by
  intro i hi;rw [← Nat.pow_add,show i + (p - 1 - i) = p - 1 from by omega];exact hone
 have nz : ∀ i,i < p - 1 → g ^ i % p ≠ 0 := by
  intro i hi h
  have := unit i (by omega)
  rw [Nat.mul_mod,h,Nat.zero_mul,Nat.zero_mod,Nat.mod_eq_of_lt hp] at this
  omega
 have inj : ∀ i j,i < j → j < p - 1 → g ^ i % p ≠ g ^ j % p := by
  intro i j hij hj h
  refine hord (j - i) (by omega) (by omega) ?_
  have e1 : g ^ j * g ^ (p - 1 - i) % p = 1 % p := by
   rw [Nat.mul_mod,← h,← Nat.mul_mod];exact unit i (by omega)
  have e2 : g ^ j * g ^ (p - 1 - i) = g ^ (p - 1) * g ^ (j - i) := by
   rw [← Nat.pow_add,← Nat.pow_add];congr 1;omega
  rw [e2,one_mul_mod hone] at e1
  exact e1
 obtain ⟨i,_,h2⟩ := pigeon (p - 1) (fun i => g ^ i % p - 1) (fun i h => by
   have := nz i h;have := Nat.mod_lt (g ^ i) (show 0 < p by omega);omega)
  (fun i j h1 h2 h => by
   have a1 := nz i h1
   have a2 := nz j h2
   have h : g ^ i % p = g ^ j % p := by omega
   rcases Nat.lt_trichotomy i j with h3|h3|h3
   ·exact absurd h (inj i j h3 h2)
   ·exact h3
   ·exact absurd h.symm (inj j i h3 h1)) (a - 1) (by omega)
 refine ⟨i,?_⟩
 have := nz i ‹_›
 omega
include hp in
theorem fermat_of (hord : ∀ i,0 < i → i < p - 1 → g ^ i % p ≠ 1 % p) (hone : g ^ (p - 1) % p = 1 % p) (a : Nat) (h0 : 0 < a) (ha : a < p) : a ^ (p - 1) % p = 1 % p := by
 obtain ⟨i,hi⟩ := all_powers hp hord hone a h0 ha
 rw [← hi,pow_mod',← Nat.pow_mul,Nat.mul_comm]
 exact pow_mul_mod hone i
end order
structure Good (p : Nat) : Prop where
 big : 31 ≤ p
 small : p < 2305843009213693952
 fermat : ∀ a,0 < a → a < p → a ^ (p - 1) % p = 1
def certB (p g : Nat) (fs : List Nat) : Bool :=
 decide (31 ≤ p) && decide (p < 2305843009213693952) && fs.all prmB && decide (p - 1 = prod fs) && decide (pw p 64 g (p - 1) 1 % p = 1 % p) && fs.all fun q => decide (pw p 64 g ((p - 1) / q) 1 % p ≠ 1 % p)
theorem Good.of_cert {p g : Nat} {fs : List Nat} (h : certB p g fs = true) : Good p := by
 simp only [certB,Bool.and_eq_true,decide_eq_true_eq,List.all_eq_true] at h
 obtain ⟨⟨⟨⟨⟨h1,h2⟩,h3⟩,h4⟩,h5⟩,h6⟩ := h
 have hb : ∀ n,n < p → n < 2 ^ 64 := fun n hn => by
  have : (2 : Nat) ^ 64 = 18446744073709551616 := by decide
  omega
 have hone : g ^ (p - 1) % p = 1 % p := by
  rw [pw_spec p 64 g (p - 1) 1 (hb _ (by omega)),Nat.one_mul] at h5;exact h5
 refine ⟨h1,h2,fun a h0 ha => ?_⟩
 have := fermat_of (p := p) (g := g) (by omega) (order_full fs (fun x hx => .of_bool (h3 x hx)) h4 (fun q hq => by
  have := h6 q hq
  rw [pw_spec p 64 g _ 1 (hb _ (by have := Nat.div_le_self (p - 1) q;omega)),Nat.one_mul] at this
  exact this) hone) hone a h0 ha
 rw [this,Nat.mod_eq_of_lt (by omega)]
theorem good31 : Good 31 := Good.of_cert (g := 3) (fs := [2,3,5]) (by decide +kernel)
theorem good127 : Good 127 := Good.of_cert (g := 3) (fs := [2,3,3,7]) (by decide +kernel)
theorem good8191 : Good 8191 := Good.of_cert (g := 17) (fs := [2,3,3,5,7,13]) (by decide +kernel)
theorem good131071 : Good 131071 := Good.of_cert (g := 3) (fs := [2,3,5,17,257]) (by decide +kernel)
theorem good524287 : Good 524287 := Good.of_cert (g := 3) (fs := [2,3,3,3,7,19,73]) (by decide +kernel)
theorem good2147483647 : Good 2147483647 := Good.of_cert (g := 7) (fs := [2,3,3,7,11,31,151,331]) (by decide +kernel)
theorem good2305843009213693951 : Good 2305843009213693951 := Good.of_cert (g := 37) (fs := [2,3,3,5,5,7,11,13,31,41,61,151,331,1321]) (by decide +kernel)
end Go.Proofs.Ytmdoaijkaaaglaa.Fd
end
section
namespace Go.Proofs.Ytmdoaijkaaaglaa.E
open Go.RowKit Go.Proofs.Ytmdoaijkaaaglaa.Pr Go.Proofs.Ytmdoaijkaaaglaa.Hw Go.Proofs.YtmdoaijkaaaglaaW.PrintWords Go.Proofs.YtmdoaijkaaaglaaW.PrintLast Go.Proofs.YtmdoaijkaaaglaaW.PrintMore Go.Proofs.Ytmdoaijkaaaglaa.Fd
def Sup (p : Int) (q : Nat) : Prop :=
 (p = 31 ∧ q = 5) ∨ (p = 127 ∧ q = 7) ∨ (p = 8191 ∧ q = 13) ∨ (p = 131071 ∧ q = 17) ∨ (p = 524287 ∧ q = 19) ∨ (p = 2147483647 ∧ q = 31) ∨ (p = 2305843009213693951 ∧ q = 61)
def Supp (p : Int) : Prop := ∃ q,Sup p q
theorem Sup.width {p : Int} {q : Nat} (h : Sup p q) : Ev (fun k => field_width.f k p) (q : Int) := by
 refine Ev.of (field_width.mono p) (k := 3) ?_
 rcases h with ⟨rfl,rfl⟩|⟨rfl,rfl⟩|⟨rfl,rfl⟩|⟨rfl,rfl⟩|⟨rfl,rfl⟩|⟨rfl,rfl⟩|⟨rfl,rfl⟩ <;> kernel_rfl
theorem Sup.eq {p : Int} {q : Nat} (h : Sup p q) : p = 2 ^ q - 1 := by
 rcases h with ⟨rfl,rfl⟩|⟨rfl,rfl⟩|⟨rfl,rfl⟩|⟨rfl,rfl⟩|⟨rfl,rfl⟩|⟨rfl,rfl⟩|⟨rfl,rfl⟩ <;> rfl
theorem Sup.q5 {p : Int} {q : Nat} (h : Sup p q) : 5 ≤ q ∧ q ≤ 61 := by unfold Sup at h;omega
theorem Sup.bd {p : Int} {q : Nat} (h : Sup p q) : 31 ≤ p ∧ p ≤ 2305843009213693951 := by unfold Sup at h;omega
theorem Supp.bd {p : Int} (h : Supp p) : 31 ≤ p ∧ p ≤ 2305843009213693951 := h.elim fun _ h => h.bd
theorem Supp.good {p : Int} (h : Supp p)  : Fd.Good p.toNat := by
 obtain ⟨q,h⟩ := h
 rcases h with ⟨rfl,_⟩|⟨rfl,_⟩|⟨rfl,_⟩|⟨rfl,_⟩|⟨rfl,_⟩|⟨rfl,_⟩|⟨rfl,_⟩
 ·exact good31
 ·exact good127
 ·exact good8191
 ·exact good131071
 ·exact good524287
 ·exact good2147483647
 ·exact good2305843009213693951
theorem wrapU (n : Int) : IntKind.u64.wrap n = n % 18446744073709551616 := by simp [IntKind.wrap,IntKind.bits,IntKind.signed]
theorem wrapU_id {n : Int} (h0 : 0 ≤ n) (h1 : n < 18446744073709551616) : IntKind.u64.wrap n = n := by rw [wrapU];exact Int.emod_eq_of_lt h0 h1
theorem pow_le_61 {q : Nat} (hq : q ≤ 61) : 2 ^ q ≤ 2305843009213693952 := by
 have : 2 ^ q ≤ 2 ^ 61 := Nat.pow_le_pow_right (by decide) hq
 have e : (2 : Nat) ^ 61 = 2305843009213693952 := by decide
 omega
theorem and_mask (x : Nat) (hx : x < 18446744073709551616) (q : Nat) (hq : q ≤ 61) : Go.bits .and .u64 (x : Int) ((2 ^ q - 1 : Nat) : Int) = ((x % 2 ^ q : Nat) : Int) := by
 have := pow_le_61 hq
 rw [u64_and_nat x (2 ^ q - 1) hx (by omega),Nat.and_two_pow_sub_one_eq_mod]
theorem or_part (hi lo : Nat) (h1 : hi < 18446744073709551616) (h2 : lo < 18446744073709551616) (q : Nat) (hq : 5 ≤ q) (hq' : q ≤ 61) :
  Go.bits .or .u64 ((lo / 2 ^ q : Nat) : Int) ((hi * 2 ^ (64 - q) % 18446744073709551616 : Nat) : Int) = (((hi * 18446744073709551616 + lo) / 2 ^ q % 18446744073709551616 : Nat) : Int) := by
 have e64 : (18446744073709551616 : Nat) = 2 ^ (64 - q) * 2 ^ q := by
  rw [← Nat.pow_add,show 64 - q + q = 64 from by omega]
 have hlo : lo / 2 ^ q < 2 ^ (64 - q) := by rw [Nat.div_lt_iff_lt_mul (Nat.two_pow_pos _),← e64];exact h2
 rw [u64_or_nat _ _ (by have := Nat.div_le_self lo (2 ^ q);omega) (Nat.mod_lt _ (by decide))]
 congr 1
 have e1 : hi * 2 ^ (64 - q) % 18446744073709551616 = 2 ^ (64 - q) * (hi % 2 ^ q) := by
  rw [e64,Nat.mul_comm hi,Nat.mul_mod_mul_left]
 have e2 : (hi * 18446744073709551616 + lo) / 2 ^ q = 2 ^ (64 - q) * hi + lo / 2 ^ q := by
  rw [e64,← Nat.mul_assoc,Nat.add_comm,Nat.add_mul_div_right _ _ (Nat.two_pow_pos _),Nat.add_comm,Nat.mul_comm hi]
 have hm := Nat.mod_lt hi (Nat.two_pow_pos q)
 have e3 := Nat.div_add_mod hi (2 ^ q)
 rw [e1,e2,Nat.or_comm,← Nat.two_pow_add_eq_or_of_lt hlo]
 generalize hi % 2 ^ q = m at *
 generalize lo / 2 ^ q = l at *
 have e4 : 2 ^ (64 - q) * hi + l = 18446744073709551616 * (hi / 2 ^ q) + (2 ^ (64 - q) * m + l) := by
  generalize hi / 2 ^ q = d at *
  rw [← e3,Nat.mul_add,← Nat.mul_assoc,← e64,Nat.add_assoc]
 have e5 : 2 ^ (64 - q) * m + l < 18446744073709551616 := by
  have : 2 ^ (64 - q) * (m + 1) ≤ 2 ^ (64 - q) * 2 ^ q := Nat.mul_le_mul_left _ hm
  rw [← e64,Nat.mul_add] at this
  omega
 rw [e4,Nat.mul_add_mod,Nat.mod_eq_of_lt e5]
theorem step_mod (N q : Nat) : (N / 2 ^ q + N % 2 ^ q) % (2 ^ q - 1) = N % (2 ^ q - 1) := by
 have h := Nat.div_add_mod N (2 ^ q)
 have h2 : 0 < 2 ^ q := Nat.two_pow_pos q
 generalize N / 2 ^ q = d at *
 generalize N % 2 ^ q = m at *
 have : N = (2 ^ q - 1) * d + (d + m) := by
  rw [← h,Nat.sub_mul,Nat.one_mul]
  have : d ≤ 2 ^ q * d := Nat.le_mul_of_pos_left d h2
  omega
 rw [this,Nat.mul_add_mod]
theorem shrN (x q : Nat) (hq : q ≤ 64) : shr .u64 (x : Int) (q : Int) = ((x / 2 ^ q : Nat) : Int) := by
 unfold shr
 rw [show min (q : Int).toNat IntKind.u64.bits = q from by simp [IntKind.bits];omega]
 simp
theorem shlN (x q : Nat) (hq : q ≤ 64) : shl .u64 (x : Int) (q : Int) = ((x * 2 ^ q % 18446744073709551616 : Nat) : Int) := by
 unfold shl
 rw [show min (q : Int).toNat IntKind.u64.bits = q from by simp [IntKind.bits];omega,wrapU]
 simp
theorem fold_l0 {p : Int} {q : Nat} (h : Sup p q) : ∀ (N hi lo : Nat),hi < 18446744073709551616 → lo < 18446744073709551616 → hi * 18446744073709551616 + lo = N →
  Ev (fun k => field_fold.l0 k p hi lo q) ((N % p.toNat : Nat) : Int) := by
 have hq := h.q5
 have hp := h.eq
 have hpow := pow_le_61 hq.2
 have hpn : p = ((2 ^ q - 1 : Nat) : Int) := by
  rw [hp,Int.natCast_sub (Nat.one_le_two_pow)]
  simp
 have hpn' : p.toNat = 2 ^ q - 1 := by rw [hpn];rfl
 have h32 : 2 ^ 5 ≤ 2 ^ q := Nat.pow_le_pow_right (n := 2) (by decide) hq.1
 intro N
 induction N using Nat.strongRecOn with
 | _ N ih =>
  intro hi lo h1 h2 hN
  have hround : 2 ^ q ≤ N → Ev (fun k => (bits_Add64.f (Go.bits .or .u64 (shr .u64 lo q) (shl .u64 hi (IntKind.u64.wrap (64 - q)))) (Go.bits .and .u64 lo p) 0).bind fun bt239 => (field_fold.l0 k p (IntKind.u64.wrap ((shr .u64 hi q) + bt239.2)) bt239.1 q)) ((N % p.toNat : Nat) : Int) := by
   intro hc
   have e64 : (18446744073709551616 : Nat) = 2 ^ (64 - q) * 2 ^ q := by
    rw [← Nat.pow_add,show 64 - q + q = 64 from by omega]
   have hw : IntKind.u64.wrap (64 - q) = ((64 - q : Nat) : Int) := by rw [wrapU_id (by omega) (by omega)];omega
   have eA := or_part hi lo h1 h2 q hq.1 hq.2
   have eB : lo % 2 ^ q = N % 2 ^ q := by rw [← hN,e64,← Nat.mul_assoc,Nat.mul_comm _ (2 ^ q),Nat.mul_add_mod]
   have eC : hi / 2 ^ q = N / 2 ^ q / 18446744073709551616 := by
    rw [Nat.div_div_eq_div_mul,Nat.mul_comm,← Nat.div_div_eq_div_mul,← hN,Nat.mul_comm hi,Nat.mul_add_div (by decide),Nat.div_eq_of_lt h2,Nat.add_zero]
   rw [hw,shrN lo q (by omega),shrN hi q (by omega),shlN hi _ (by omega),eA,hN,hpn,and_mask lo h2 q hq.2,eB,eC]
   have hN128 : N < 18446744073709551616 * 18446744073709551616 := by rw [← hN];omega
   have hdm := Nat.div_add_mod N (2 ^ q)
   have hmlt := Nat.mod_lt N (Nat.two_pow_pos q)
   have hstep := step_mod N q
   have hd1 : 1 ≤ N / 2 ^ q := (Nat.le_div_iff_mul_le (Nat.two_pow_pos q)).2 (by omega)
   rw [← hpn,hpn'] at *
   have hlt : N / 2 ^ q + N % 2 ^ q < N := by
    have : 2 * (N / 2 ^ q) ≤ 2 ^ q * (N / 2 ^ q) := Nat.mul_le_mul_right _ (by omega)
    omega
   rw [← hstep]
   generalize N / 2 ^ q = d at *
   generalize N % 2 ^ q = m at *
   have hb : bits_Add64.f ((d % 18446744073709551616 : Nat) : Int) (m : Int) 0 = some ((((d % 18446744073709551616 + m) % 18446744073709551616 : Nat) : Int),(((d % 18446744073709551616 + m) / 18446744073709551616 : Nat) : Int)) := by
    unfold bits_Add64.f
    rw [if_pos (by omega),if_pos (by omega),if_pos (by omega),if_pos (by omega)]
    simp
   rw [hb]
   simp only [Option.bind_some]
   have e9 : IntKind.u64.wrap (((d / 18446744073709551616 : Nat) : Int) + (((d % 18446744073709551616 + m) / 18446744073709551616 : Nat) : Int)) = (((d + m) / 18446744073709551616 : Nat) : Int) := by
    rw [wrapU_id (by omega) (by omega)];omega
   rw [e9,show (d % 18446744073709551616 + m) % 18446744073709551616 = (d + m) % 18446744073709551616 from by omega]
   have := ih (d + m) hlt ((d + m) / 18446744073709551616) ((d + m) % 18446744073709551616) (by omega) (by omega) (Nat.div_add_mod' _ _)
   rwa [hpn'] at this
  by_cases hhi : hi = 0
  ·subst hhi
   by_cases hlo : (lo : Int) > p
   ·refine Ev.step (fun k => ?_) (hround (by omega))
    simp only [field_fold.l0]
    rw [if_pos (by rfl),if_pos hlo,if_pos (by omega),if_pos (by rw [wrapU_id (by omega) (by omega)];omega)]
   ·refine Ev.of (fun k => (field_fold.mono_l k) _ _ _ _) (k := 1) ?_
    simp only [field_fold.l0]
    rw [if_pos (by rfl),if_neg hlo]
    have hN' : N = lo := by omega
    by_cases e : (lo : Int) = p
    ·rw [if_pos e,hN',show p.toNat = lo from by omega,Nat.mod_self];rfl
    ·rw [if_neg e,hN',Nat.mod_eq_of_lt (by omega)]
  ·refine Ev.step (fun k => ?_) (hround (by omega))
   simp only [field_fold.l0]
   rw [if_neg (by omega),if_pos (by omega),if_pos (by rw [wrapU_id (by omega) (by omega)];omega)]
theorem fold_ev {p : Int} (h : Supp p) (hi lo : Int) (h0 : 0 ≤ hi) (h1 : hi < 18446744073709551616) (h2 : 0 ≤ lo) (h3 : lo < 18446744073709551616) :
  Ev (fun k => field_fold.f k p hi lo) ((hi * 18446744073709551616 + lo) % p) := by
 obtain ⟨q,h⟩ := h
 have := h.bd
 refine (Ev.bind (f := fun k t => field_fold.l0 k p hi lo t) h.width (a := q) ?_).congr fun k => rfl
 have := fold_l0 h _ hi.toNat lo.toNat (by omega) (by omega) rfl
 rw [Int.toNat_of_nonneg h0,Int.toNat_of_nonneg h2] at this
 have e : (((hi.toNat * 18446744073709551616 + lo.toNat) % p.toNat : Nat) : Int) = (hi * 18446744073709551616 + lo) % p := by
  rw [Int.natCast_emod,Int.natCast_add,Int.natCast_mul,Int.toNat_of_nonneg h0,Int.toNat_of_nonneg h2,Int.toNat_of_nonneg (by omega)];rfl
 rwa [e] at this
def Res (p a : Int) : Prop := 0 ≤ a ∧ a < p
theorem Res.mod {p : Int} (h : Supp p) (a : Int) : Res p (a % p) := by
 have := h.bd
 exact ⟨Int.emod_nonneg _ (by omega),Int.emod_lt_of_pos _ (by omega)⟩
theorem Res.eq {p a : Int} (h : Res p a) : a % p = a := Int.emod_eq_of_lt h.1 h.2
theorem add_ev {p : Int} (h : Supp p) {a b : Int} (ha : Res p a) (hb : Res p b) : Ev (fun k => field_Add.f k p a b) ((a + b) % p) := by
 have := h.bd
 obtain ⟨a0,a1⟩ := ha
 obtain ⟨b0,b1⟩ := hb
 have e := fold_ev h 0 (a + b) (by omega) (by omega) (by omega) (by omega)
 rw [Int.zero_mul,Int.zero_add] at e
 refine (Ev.bind (f := fun k t => some t) e (Ev.now _)).congr fun k => ?_
 show (field_fold.f k p 0 (IntKind.u64.wrap (a + b))).bind _ = _
 rw [wrapU_id (by omega) (by omega)]
theorem neg_eq {p : Int} (h : Supp p) {a : Int} (ha : Res p a) : field_Neg.f p a = some (-a % p) := by
 have := h.bd
 obtain ⟨a0,a1⟩ := ha
 unfold field_Neg.f
 by_cases e : a = 0
 ·rw [if_pos e,e];simp
 ·rw [if_neg e,wrapU_id (by omega) (by omega),show -a = (p - a) + p * (-1) from by omega,Int.add_mul_emod_self_left,Int.emod_eq_of_lt (by omega) (by omega)]
theorem sub_ev {p : Int} (h : Supp p) {a b : Int} (ha : Res p a) (hb : Res p b) : Ev (fun k => field_Sub.f k p a b) ((a - b) % p) := by
 have e := add_ev h ha (Res.mod h (-b))
 rw [show (a + -b % p) % p = (a - b) % p from by rw [Int.add_emod,Int.emod_emod_of_dvd _ (Int.dvd_refl p),← Int.add_emod,Int.sub_eq_add_neg]] at e
 refine (Ev.bind (f := fun k t => some t) e (Ev.now _)).congr fun k => ?_
 show (field_Neg.f p b).bind _ = _
 rw [neg_eq h hb]
 rfl
theorem mul64_eq {a b : Int} (a0 : 0 ≤ a) (a1 : a < 2305843009213693952) (b0 : 0 ≤ b) (b1 : b < 2305843009213693952) :
  bits_Mul64.f a b = some (a * b / 18446744073709551616,a * b % 18446744073709551616) := by
 have hA : Go.bits .and .u64 a 4294967295 = a % 4294967296 := by
  have := and_mask a.toNat (by omega) 32 (by decide)
  rw [Int.toNat_of_nonneg a0] at this
  rw [show (4294967295 : Int) = ((2 ^ 32 - 1 : Nat) : Int) from by decide,this]
  omega
 have hB : Go.bits .and .u64 b 4294967295 = b % 4294967296 := by
  have := and_mask b.toNat (by omega) 32 (by decide)
  rw [Int.toNat_of_nonneg b0] at this
  rw [show (4294967295 : Int) = ((2 ^ 32 - 1 : Nat) : Int) from by decide,this]
  omega
 have ea : a = 4294967296 * (a / 4294967296) + a % 4294967296 := by omega
 have eb : b = 4294967296 * (b / 4294967296) + b % 4294967296 := by omega
 have x1 : 0 ≤ a / 4294967296 ∧ a / 4294967296 < 536870912 := by omega
 have y1 : 0 ≤ b / 4294967296 ∧ b / 4294967296 < 536870912 := by omega
 have x0 : 0 ≤ a % 4294967296 ∧ a % 4294967296 < 4294967296 := by omega
 have y0 : 0 ≤ b % 4294967296 ∧ b % 4294967296 < 4294967296 := by omega
 unfold bits_Mul64.f
 rw [hA,hB]
 have e : a * b = 18446744073709551616 * (a / 4294967296 * (b / 4294967296)) + 4294967296 * (a / 4294967296 * (b % 4294967296)) + 4294967296 * (a % 4294967296 * (b / 4294967296)) + a % 4294967296 * (b % 4294967296) := by
  generalize a / 4294967296 = u at *
  generalize a % 4294967296 = v at *
  generalize b / 4294967296 = s at *
  generalize b % 4294967296 = t at *
  subst ea eb
  grind
 have bd : ∀ {u v U V : Int},0 ≤ u ∧ u < U → 0 ≤ v ∧ v < V → 0 ≤ u * v ∧ u * v ≤ (U - 1) * (V - 1) := by
  intro u v U V hu hv
  exact ⟨Int.mul_nonneg hu.1 hv.1,Int.mul_le_mul (by omega) (by omega) hv.1 (by omega)⟩
 have b1 := bd x1 y1
 have b2 := bd x1 y0
 have b3 := bd x0 y1
 have b4 := bd x0 y0
 have hm : IntKind.u64.wrap (a * b) = a * b % 18446744073709551616 := wrapU _
 rw [hm]
 generalize a * b = E at *
 generalize a / 4294967296 * (b / 4294967296) = D at *
 generalize a / 4294967296 * (b % 4294967296) = B at *
 generalize a % 4294967296 * (b / 4294967296) = C at *
 generalize a % 4294967296 * (b % 4294967296) = A at *
 have m32 : ∀ x : Int,0 ≤ x → x < 18446744073709551616 → Go.bits .and .u64 x 4294967295 = x % 4294967296 := by
  intro x h0 h1
  have := and_mask x.toNat (by omega) 32 (by decide)
  rw [Int.toNat_of_nonneg h0] at this
  rw [show (4294967295 : Int) = ((2 ^ 32 - 1 : Nat) : Int) from by decide,this]
  omega
 rw [wrapU_id (n := A) (by omega) (by omega),wrapU_id (n := B) (by omega) (by omega),wrapU_id (n := C) (by omega) (by omega),wrapU_id (n := D) (by omega) (by omega)]
 rw [wrapU_id (n := B + A / 4294967296) (by omega) (by omega),m32 _ (by omega) (by omega)]
 rw [wrapU_id (n := D + (B + A / 4294967296) / 4294967296) (by omega) (by omega),wrapU_id (n := (B + A / 4294967296) % 4294967296 + C) (by omega) (by omega),wrapU_id (by omega) (by omega)]
 congr 2
 omega
theorem mul_ev {p : Int} (h : Supp p) {a b : Int} (ha : Res p a) (hb : Res p b) : Ev (fun k => field_Mul.f k p a b) (a * b % p) := by
 have := h.bd
 obtain ⟨a0,a1⟩ := ha
 obtain ⟨b0,b1⟩ := hb
 have hn := Int.mul_nonneg a0 b0
 have hl : a * b ≤ 2305843009213693951 * 2305843009213693951 := Int.mul_le_mul (by omega) (by omega) b0 (by omega)
 have e := fold_ev h (a * b / 18446744073709551616) (a * b % 18446744073709551616) (by omega) (by omega) (by omega) (by omega)
 rw [Int.mul_comm (a * b / 18446744073709551616),Int.mul_ediv_add_emod] at e
 refine (Ev.bind (f := fun k t => some t) e (Ev.now _)).congr fun k => ?_
 show (bits_Mul64.f a b).bind _ = _
 rw [mul64_eq a0 (by omega) b0 (by omega)]
 rfl
theorem and_one (n : Int) (h0 : 0 ≤ n) (h1 : n < 18446744073709551616) : Go.bits .and .u64 n 1 = n % 2 := by
 have := and_mask n.toNat (by omega) 1 (by decide)
 rw [Int.toNat_of_nonneg h0] at this
 rw [show (1 : Int) = ((2 ^ 1 - 1 : Nat) : Int) from by decide,this]
 omega
theorem mulm {p a a' b b' : Int} (h : a % p = a' % p) (k : b % p = b' % p) : a * b % p = a' * b' % p := by rw [Int.mul_emod,h,k,← Int.mul_emod]
theorem addm {p a a' b b' : Int} (h : a % p = a' % p) (k : b % p = b' % p) : (a + b) % p = (a' + b') % p := by rw [Int.add_emod,h,k,← Int.add_emod]
theorem modm (p a : Int) : a % p % p = a % p := Int.emod_emod_of_dvd _ (Int.dvd_refl p)
theorem pow_two_half (a : Int) (n : Nat) : a ^ n = (a * a) ^ (n / 2) * a ^ (n % 2) := by
 have h : a * a = a ^ 2 := by rw [Int.pow_succ,Int.pow_succ,Int.pow_zero,Int.one_mul]
 rw [h,← Int.pow_mul,← Int.pow_add];congr 1;omega
theorem pow_mod_base (a p : Int) : ∀ n : Nat,(a % p) ^ n % p = a ^ n % p
 | 0 => by rw [Int.pow_zero,Int.pow_zero]
 | n + 1 => by rw [Int.pow_succ,Int.pow_succ,Int.mul_emod,pow_mod_base a p n,Int.emod_emod_of_dvd _ (Int.dvd_refl p),← Int.mul_emod]
theorem pow_l0 {p : Int} (h : Supp p) : ∀ (n : Nat) (a out : Int),n < 18446744073709551616 → Res p a → Res p out → Ev (fun k => field_Pow.l0 k p a n out) (out * a ^ n % p) := by
 intro n
 induction n using Nat.strongRecOn with
 | _ n ih =>
  intro a out hn ha ho
  by_cases h0 : n = 0
  ·subst h0
   refine Ev.of (fun k => (field_Pow.mono_l k) _ _ _ _) (k := 1) ?_
   simp only [field_Pow.l0]
   rw [if_neg (by omega),Int.pow_zero,Int.mul_one,ho.eq]
  ·have hsq := mul_ev h ha ha
   have hrec := fun out' ho' => ih (n / 2) (by omega) (a * a % p) out' (by omega) (Res.mod h _) ho'
   have eh := pow_two_half a n
   have e1 := pow_mod_base (a * a) p (n / 2)
   by_cases hodd : n % 2 = 1
   ·refine Ev.step (f := fun k => (field_Mul.f k p out a).bind fun t244 => ((field_Mul.f k p a a).bind fun t245 => (field_Pow.l0 k p t245 ((n / 2 : Nat) : Int) t244))) (fun k => ?_) ?_
    ·simp only [field_Pow.l0]
     rw [if_pos (by omega),if_pos (by rw [and_one _ (by omega) (by omega)];omega)]
     rfl
    ·refine Ev.bind (mul_ev h ho ha) (Ev.bind hsq ?_)
     have := hrec (out * a % p) (Res.mod h _)
     rw [show out * a ^ n % p = out * a % p * (a * a % p) ^ (n / 2) % p from ?_]
     ·exact this
     ·rw [mulm (Int.emod_emod_of_dvd (out * a) (Int.dvd_refl p)) e1,eh,hodd,Int.pow_one,Int.mul_assoc,Int.mul_comm a ((a * a) ^ (n / 2))]
   ·refine Ev.step (f := fun k => (field_Mul.f k p a a).bind fun t246 => (field_Pow.l0 k p t246 ((n / 2 : Nat) : Int) out)) (fun k => ?_) ?_
    ·simp only [field_Pow.l0]
     rw [if_pos (by omega),if_neg (by rw [and_one _ (by omega) (by omega)];omega)]
     rfl
    ·refine Ev.bind hsq ?_
     have := hrec out ho
     rw [show out * a ^ n % p = out * (a * a % p) ^ (n / 2) % p from ?_]
     ·exact this
     ·rw [mulm (a := out) rfl e1,eh,show n % 2 = 0 from by omega,Int.pow_zero,Int.mul_one]
def invp (p a : Int) : Int := a ^ (p - 2).toNat % p
theorem inv_ev {p : Int} (h : Supp p) {a : Int} (ha : Res p a) (h0 : a ≠ 0) : Ev (fun k => field_Inverse.f k p a) (invp p a,0) := by
 have := h.bd
 have e := pow_l0 h (p - 2).toNat a 1 (by omega) ha ⟨by omega,by omega⟩
 rw [Int.one_mul,show ((p - 2).toNat : Int) = p - 2 from Int.toNat_of_nonneg (by omega)] at e
 refine (Ev.bind (f := fun k t => some (t,0)) e (Ev.now _)).congr fun k => ?_
 show (if a = 0 then _ else (field_Pow.f k p a (IntKind.u64.wrap (p - 2))).bind _) = _
 rw [if_neg h0,wrapU_id (by omega) (by omega)]
 rfl
theorem inv_spec {p : Int} (h : Supp p) {a : Int} (ha : Res p a) (h0 : a ≠ 0) : a * invp p a % p = 1 := by
 have := h.bd
 obtain ⟨a0,a1⟩ := ha
 have e := h.good.fermat a.toNat (by omega) (by omega)
 unfold invp
 rw [mulm rfl (modm p _),Int.mul_comm,← Int.pow_succ,show (p - 2).toNat.succ = p.toNat - 1 from by omega]
 have e2 : ((a.toNat ^ (p.toNat - 1) % p.toNat : Nat) : Int) = 1 := by rw [e];rfl
 rw [Int.natCast_emod,Int.natCast_pow,Int.toNat_of_nonneg a0,Int.toNat_of_nonneg (by omega)] at e2
 exact e2
theorem inv_res {p : Int} (h : Supp p) (a : Int) : Res p (invp p a) := Res.mod h _
theorem over_ev {p : Int} (h : Supp p) {a b : Int} (ha : Res p a) (hb : Res p b) (h0 : b ≠ 0) : Ev (fun k => interpolate_over.f k p a b) (a * invp p b % p) := by
 refine (Ev.bind (f := fun k (t : Int × Int) => (field_Mul.f k p a t.1).bind fun t119 => some t119) (inv_ev h hb h0) (Ev.bind (f := fun k t => some t) (mul_ev h ha (inv_res h b)) (Ev.now _))).congr fun k => rfl
end Go.Proofs.Ytmdoaijkaaaglaa.E
end
section
namespace Go.Proofs.Ytmdoaijkaaaglaa.Hw
open Go
section
variable {P : Program} {ops : Array Oper} {md : Region.Mode} {C : World → Prop}
def wpAnyLQ (P : Program) (md : Region.Mode) (ops : Array Oper) (C : World → Prop) (n : Nat) (L : Array Bool → Act → Prop) : Nat → Array Bool → Act → Prop
 | 0,listed,a => L listed a
 | f + 1,listed,a =>
  Region.ready md ops listed ≠ [] ∧ ∀ i ∈ Region.ready md ops listed,i < n ∧ qOp P ops C i (wpAnyLQ P md ops C n L f (listed.setIfInBounds i true)) a
theorem wpAny_of_headQ {n g : Nat} {L : Array Bool → Act → Prop} {Q' : Exit → Act → World → Prop} (hL : ∀ listed a w,C w → L listed a → wpAny P md ops Q' g listed a w) :
  ∀ (f : Nat) (listed : Array Bool) (a : Act) (w : World),C w → wpAnyLQ P md ops C n L f listed a → wpAny P md ops Q' (f + g) listed a w
 | 0,listed,a,w,hw,h => by rw [Nat.zero_add];exact hL _ _ _ hw h
 | f + 1,listed,a,w,hw,h => by
  rw [show f + 1 + g = (f + g) + 1 by omega]
  exact ⟨fun h0 => absurd h0 h.1,fun i hi => wpOp_of_qOp hw (fun a' w' hw' h' => wpAny_of_headQ hL f _ a' w' hw' h') (h.2 i hi).2⟩
theorem wpAnyLQ_first {n i : Nat} {oi : Oper} {v : Value} {L : Array Bool → Act → Prop} (hi : ops[i]? = some oi) (hsel : ∀ (j : Nat) (o : Oper) cs b,ops[j]? = some o → o.op ≠ .select cs b)
  (hs : Region.sinkB md ops n = true) (hc : Region.chainB md ops n = true) (hn : n < ops.size) (hin : i < n)
  (hdone : ∀ listed a,L listed a → ∀ j ∈ Region.ready md ops listed,n ≤ j) :
  ∀ (f : Nat) (listed : Array Bool) (a : Act),HeadInv md ops n listed →
   (∀ j oj,ops[j]? = some oj → j ≠ i → listed.getD j true = false → (∀ e ∈ oj.after,Region.binds md e = true → e.on ≠ i) → oi.apart ops oj = true) →
   i ∈ Region.ready md ops listed → YieldsIn P ops C oi v a →
   wpAnyLQ P md ops C n L f (listed.setIfInBounds i true) (a.put oi.dst v) → wpAnyLQ P md ops C n L (f + 1) listed a := by
 intro f
 induction f with
 | zero =>
  intro listed a inv _ hr hy H
  have hun := (mem_ready.1 hr).1
  refine ⟨fun h => (by rw [h] at hr;cases hr),fun j hj => ?_⟩
  have hjn : j < n := by
   rcases Nat.lt_or_ge j n with h|h
   ·exact h
   ·exact absurd hj (tail_waits hs hc hn inv _ i rfl hin hun j h)
  refine ⟨hjn,?_⟩
  by_cases hji : j = i
  ·subst hji;exact hy.qOp hi H
  ·have := hdone _ _ H j (ready_mono hj hji)
   omega
 | succ f ih =>
  intro listed a inv hfree hr hy H
  have hun := (mem_ready.1 hr).1
  refine ⟨fun h => (by rw [h] at hr;cases hr),fun j hj => ?_⟩
  have hjn : j < n := by
   rcases Nat.lt_or_ge j n with h|h
   ·exact h
   ·exact absurd hj (tail_waits hs hc hn inv _ i rfl hin hun j h)
  refine ⟨hjn,?_⟩
  by_cases hji : j = i
  ·subst hji;exact hy.qOp hi H
  ·have h1 := (H.2 j (ready_mono hj hji)).2
   obtain ⟨hjun,oj,hoj,hall⟩ := mem_ready.1 hj
   have hnot : ∀ e ∈ oj.after,Region.binds md e = true → e.on ≠ i := fun e he hb heq => by
    have h1 := hall e he hb
    rw [heq,getD_both hun] at h1
    cases h1
   have h2 := qOp_put hoj (hfree j oj hoj hji hjun hnot) (fun cs b => hsel i oi cs b hi) (fun cs b => hsel j oj cs b hoj) hy h1
   have hfree' : ∀ k ok,ops[k]? = some ok → k ≠ i → (listed.setIfInBounds j true).getD k true = false →
     (∀ e ∈ ok.after,Region.binds md e = true → e.on ≠ i) → oi.apart ops ok = true := fun k ok hk hki hun hno => by
    refine hfree k ok hk hki ?_ hno
    by_cases hjk : j = k
    ·subst hjk;exact hjun
    ·rw [getD_set_ne true hjk] at hun;exact hun
   refine qOp_mono (fun a' h3 => ih (listed.setIfInBounds j true) a' (inv.set hj hjn) hfree' (ready_mono hr (Ne.symm hji)) h3.1 ?_) h2
   rw [Array.setIfInBounds_comm _ _ hji]
   exact h3.2
theorem wpAnyLQ_lex {n g : Nat} {Lq : Act → Prop} (hsel : Region.noSelect ops = true) (hs : Region.sinkB md ops n = true) (hc : Region.chainB md ops n = true) (hn : n < ops.size) :
  ∀ (l : List Oper) (k : Nat) (listed : Array Bool) (a : Act),(∀ j,j < l.length → l[j]? = ops[k + j]?) → k + l.length = n → HeadInv md ops n listed →
  Region.lexHead md ops g l.length k listed = true → wpQuiet P ops C Lq l a →
  wpAnyLQ P md ops C n (fun listed' a' => Region.seqB md ops g n listed' = true ∧ Lq a') l.length listed a
 | [],k,listed,a,_,hk,_,hB,h => by
  have : k = n := by simpa using hk
  subst this
  exact ⟨by simpa [Region.lexHead] using hB,h⟩
 | o :: l,k,listed,a,hl,hk,inv,hB,h => by
  have h0 : ops[k]? = some o := by simpa using (hl 0 (by simp)).symm
  simp only [List.length_cons,Region.lexHead,Bool.and_eq_true] at hB
  obtain ⟨⟨hr,hf⟩,hB'⟩ := hB
  have hkn : k < n := by simp only [List.length_cons] at hk;omega
  have hr' : k ∈ Region.ready md ops listed := by simpa using hr
  have hst : qOp P ops C k (wpQuiet P ops C Lq l) a := by unfold qOp;simp only [h0];exact h
  obtain ⟨v,hy,hK⟩ := yieldsIn_of_qOp h0 hst
  exact wpAnyLQ_first h0 (Region.noSelect_spec hsel) hs hc hn hkn (fun listed' a' hL => seqB_ready hL.1) l.length listed a inv (Region.free_spec h0 hf) hr' hy
   (wpAnyLQ_lex hsel hs hc hn l (k + 1) _ _ (fun j hj => by have := hl (j + 1) (by simp;omega);simpa [Nat.add_assoc,Nat.add_comm 1 j] using this) (by simp only [List.length_cons] at hk;omega) (inv.set hr' hkn) hB' hK)
theorem wp_region_quiet_tail {id : Nat} {Q : Exit → Act → World → Prop} {a : Act} {w : World} {l : List Oper} (n : Nat) (hm : P.follows .mixedOrders = true) (hB : Region.lexTailB .any l.toArray n = true)
  (hC : C { w with drawn := w.drawn + 1 })
  (h : wpQuiet P l.toArray C (fun a' => ∀ w',C w' → wpList P l.toArray Q (l.drop n) a' w') (l.take n) a) : (Code.region id l.toArray true).wp P Q a w := by
 simp only [Region.lexTailB,Bool.and_eq_true,decide_eq_true_eq] at hB
 obtain ⟨⟨⟨⟨hsel,hn⟩,hs⟩,hc⟩,hlex⟩ := hB
 have hn' : n < l.length := by simpa using hn
 have htl : (l.take n).length = n := by simp;omega
 have hdl : (l.drop n).length = l.toArray.size - n := by simp
 have inv0 : HeadInv .any l.toArray n (Array.replicate l.toArray.size false) :=
  ⟨by simp,fun j oj _ hl => (by rw [getD_replicate_false] at hl;cases hl),fun t _ ht => getD_in (by simpa using ht) (getD_replicate_false _ _)⟩
 have H := wpAnyLQ_lex (md := .any) (g := l.toArray.size - n) hsel hs hc hn (l.take n) 0 _ a (fun j hj => by
  have hj' : j < n := by rw [htl] at hj;exact hj
  simp [hj']) (by simpa using htl) inv0 (by rw [htl];exact hlex) h
 refine wp_region_any hm ?_
 have := wpAny_of_headQ (Q' := Q) (g := l.toArray.size - n) (fun listed a' w' hw' hL => by
  have := wpAny_of_seq (md := .any) (Q' := Q) (l.drop n) n listed a' w' (fun j => by simp [List.getElem?_drop]) (by rw [hdl];exact hL.1) (hL.2 w' hw')
  rwa [hdl] at this) _ _ _ _ hC H
 rw [htl,show n + (l.toArray.size - n) = l.toArray.size by omega] at this
 exact this
theorem wp_region_quiet_tail_drawn {id : Nat} {Q : Exit → Act → World → Prop} {a : Act} {w : World} {l : List Oper} (n : Nat) (hm : P.follows .mixedOrders = true) (hB : Region.lexTailB .any l.toArray n = true)
  (h : wpQuiet P l.toArray (fun w' => ∃ m,w' = w.drewN m) (fun a' => ∀ w',(∃ m,w' = w.drewN m) → wpList P l.toArray Q (l.drop n) a' w') (l.take n) a) : (Code.region id l.toArray true).wp P Q a w :=
 wp_region_quiet_tail n hm hB ⟨1,rfl⟩ h
end
end Go.Proofs.Ytmdoaijkaaaglaa.Hw
end
section
namespace Go.Proofs.Ytmdoaijkaaaglaa.Hw
open Go.RowKit Go.Proofs.Ytmdoaijkaaaglaa.Pr Go.Proofs.YtmdoaijkaaaglaaW.PrintWords Go.Proofs.YtmdoaijkaaaglaaW.PrintLast Go.Proofs.YtmdoaijkaaaglaaW.PrintMore Go.Proofs.Ytmdoaijkaaaglaa.E
structure SumAt (w : World) (base g : Nat) (p : Int) (v : Value) (l : List Int) : Prop where
 blk : w.heap[g]? = some (.cells #[.int .u64 p,v] 111 (0,0))
 own : Kd.R (Kd.int .u64) 22 w base (fun _ => True) v l
 ge : base ≤ g

end Go.Proofs.Ytmdoaijkaaaglaa.Hw
end
section
namespace Go.Proofs.Ytmdoaijkaaaglaa.Pr
open Go.RowKit Go.Proofs.YtmdoaijkaaaglaaW.PrintWords Go.Proofs.YtmdoaijkaaaglaaW.PrintLast Go.Proofs.YtmdoaijkaaaglaaW.PrintMore
attribute [local go_sem] max2_int min2_int max_two min_two max_three min_three max_four min_four
open Go.Proofs.Ytmdoaijkaaaglaa.Hw
def cmp_isNaN_uint64.f (a0 : Int) : Option (Bool) := some (a0 != a0)
set_option maxHeartbeats 8000000 in
set_option maxRecDepth 100000 in
theorem cmp_isNaN_uint64.calls (a0 : Int) (r : Bool) (w : World) (h : cmp_isNaN_uint64.f a0 = some r) :
  Calls Try.prog 120 #[.int .u64 a0] w fun e w' => e = .returned (.bool r) ∧ Drawn0 w w' := by
 have H : (some (a0 != a0)) = some r := h
 clear h
 obtain rfl := Option.some.inj H
 go_enter Try.func120,Try.ntmps120
 go_wp2
 go_ret
 exact ⟨by first|rfl|(simp;done)|(simp [*];done),by repeat (first|exact Drawn0.refl _|apply Drawn0.step)⟩
def cmp_Less_uint64.f (a0 : Int) (a1 : Int) : Option (Bool) := (cmp_isNaN_uint64.f a0).bind fun t236 => (if t236 = true then ((cmp_isNaN_uint64.f a1).bind fun t237 => (if t237 = true then (some (decide (a0 < a1))) else (some true))) else (some (decide (a0 < a1))))
set_option maxHeartbeats 8000000 in
set_option maxRecDepth 100000 in
theorem cmp_Less_uint64.calls (a0 : Int) (a1 : Int) (r : Bool) (w : World) (h : cmp_Less_uint64.f a0 a1 = some r) :
  Calls Try.prog 111 #[.int .u64 a0,.int .u64 a1] w fun e w' => e = .returned (.bool r) ∧ Drawn0 w w' := by
 have H : ((cmp_isNaN_uint64.f a0).bind fun t236 => (if t236 = true then ((cmp_isNaN_uint64.f a1).bind fun t237 => (if t237 = true then (some (decide (a0 < a1))) else (some true))) else (some (decide (a0 < a1))))) = some r := h
 clear h
 replace H := Option.bind_eq_some_iff.mp H
 obtain ⟨t236,A30,H⟩ := H
 try dsimp only at H
 have A3 := am A30
 clear A30
 by_cases c4 : t236 = true
 ·subst c4
  rw [if_pos rfl] at H
  replace H := Option.bind_eq_some_iff.mp H
  obtain ⟨t237,A50,H⟩ := H
  try dsimp only at H
  have A5 := am A50
  clear A50
  by_cases c6 : t237 = true
  ·subst c6
   rw [if_pos rfl] at H
   obtain rfl := Option.some.inj H
   go_enter Try.func111,Try.ntmps111
   go_wp2_with (first|((with_reducible refine gate_callee (f := 120) rfl ?_);refine goesL_ (some 6) rfl rfl Try.func120 (by kernel_rfl) rfl #[.int .u64 a0] rfl (by (try simp only [List.map_toArray,List.map_cons,List.map_nil]);first|done|rfl|(simp only [List.length_drop,List.length_take];rfl)) ?_;(with_reducible refine (cmp_isNaN_uint64.calls a0 true _ A3.out).mono ?_);rintro e w' ⟨rfl,⟨nd,rfl⟩⟩;refine ⟨_,rfl,?_⟩)|(go_at_call 120;(with_reducible refine (cmp_isNaN_uint64.calls a1 true _ A5.out).mono ?_);rintro e w' ⟨rfl,⟨nd,rfl⟩⟩))
   go_ret
   exact ⟨by first|rfl|(simp;done)|(simp [*];done),by repeat (first|exact Drawn0.refl _|apply Drawn0.step)⟩
  ·replace c6 := Bool.eq_false_iff.mpr c6
   subst c6
   rw [if_neg (show ¬ (false = true) by decide)] at H
   obtain rfl := Option.some.inj H
   go_enter Try.func111,Try.ntmps111
   go_wp2_with (first|((with_reducible refine gate_callee (f := 120) rfl ?_);refine goesL_ (some 6) rfl rfl Try.func120 (by kernel_rfl) rfl #[.int .u64 a0] rfl (by (try simp only [List.map_toArray,List.map_cons,List.map_nil]);first|done|rfl|(simp only [List.length_drop,List.length_take];rfl)) ?_;(with_reducible refine (cmp_isNaN_uint64.calls a0 true _ A3.out).mono ?_);rintro e w' ⟨rfl,⟨nd,rfl⟩⟩;refine ⟨_,rfl,?_⟩)|(go_at_call 120;(with_reducible refine (cmp_isNaN_uint64.calls a1 false _ A5.out).mono ?_);rintro e w' ⟨rfl,⟨nd,rfl⟩⟩))
   go_ret
   exact ⟨by first|rfl|(simp;done)|(simp [*];done),by repeat (first|exact Drawn0.refl _|apply Drawn0.step)⟩
 ·replace c4 := Bool.eq_false_iff.mpr c4
  subst c4
  rw [if_neg (show ¬ (false = true) by decide)] at H
  obtain rfl := Option.some.inj H
  go_enter Try.func111,Try.ntmps111
  go_wp2_with (first|((with_reducible refine gate_callee (f := 120) rfl ?_);refine goesL_ (some 6) rfl rfl Try.func120 (by kernel_rfl) rfl #[.int .u64 a0] rfl (by (try simp only [List.map_toArray,List.map_cons,List.map_nil]);first|done|rfl|(simp only [List.length_drop,List.length_take];rfl)) ?_;(with_reducible refine (cmp_isNaN_uint64.calls a0 false _ A3.out).mono ?_);rintro e w' ⟨rfl,⟨nd,rfl⟩⟩;refine ⟨_,rfl,?_⟩))
  go_ret
  exact ⟨by first|rfl|(simp;done)|(simp [*];done),by repeat (first|exact Drawn0.refl _|apply Drawn0.step)⟩
mutual
def slices_insertionSortOrdered_uint64.l0 : Nat → List Int → Int → Int → Int → Option (List Int)
 | 0,_,_,_,_ => none
 | k + 1,x0,x1,x2,x6 => if x6 < x2 then (slices_insertionSortOrdered_uint64.l1 k x0 x1 x2 x6 x6) else (some x0)
def slices_insertionSortOrdered_uint64.l1 : Nat → List Int → Int → Int → Int → Int → Option (List Int)
 | 0,_,_,_,_,_ => none
 | k + 1,x0,x1,x2,x6,x7 => if x7 > x1 then (if 0 ≤ x7 then (if x7 < (x0.length : Int) then (if 0 ≤ (wrap64 (x7 - 1)) then (if (wrap64 (x7 - 1)) < (x0.length : Int) then ((cmp_Less_uint64.f (rd x0 x7) (rd x0 (wrap64 (x7 - 1)))).bind fun t240 => (if t240 = true then (slices_insertionSortOrdered_uint64.l1 k ((x0.set (x7 : Int).toNat (rd x0 (wrap64 (x7 - 1)))).set ((wrap64 (x7 - 1)) : Int).toNat (rd x0 x7)) x1 x2 x6 (wrap64 (x7 - 1))) else (slices_insertionSortOrdered_uint64.l0 k x0 x1 x2 (wrap64 (x6 + 1))))) else (none)) else (none)) else (none)) else (none)) else (slices_insertionSortOrdered_uint64.l0 k x0 x1 x2 (wrap64 (x6 + 1)))
end
def slices_insertionSortOrdered_uint64.f (k : Nat) (l0 : List Int) (a1 : Int) (a2 : Int) : Option (List Int) := slices_insertionSortOrdered_uint64.l0 k l0 a1 a2 (wrap64 (a1 + 1))
def slices_insertionSortOrdered_uint64.T4 : Bool × List (List Nat × List Nat) := (true,[([],[]),([],[]),([0,1],[0,1]),([2],[2]),([3],[3]),([3],[3]),([4,5,3],[3,4,5]),([6,3],[3,6]),([3],[3]),([3],[3]),([9,3],[3,9]),([8,10,3],[3,8,10]),([11,3],[3,11]),([7,12,3,3],[3,7,12]),([3,13],[3,13])])
def slices_insertionSortOrdered_uint64.B4 : List Nat := [0,0,3,7,15,15,63,127,15,15,527,1807,3855,8191,16383]
theorem slices_insertionSortOrdered_uint64.tab4 : rtab .any (opsOf Try.f105 4) = slices_insertionSortOrdered_uint64.T4 := by kernel_rfl
theorem slices_insertionSortOrdered_uint64.bits4 : waitsOk slices_insertionSortOrdered_uint64.T4.2 slices_insertionSortOrdered_uint64.B4 = true := by kernel_rfl
def slices_insertionSortOrdered_uint64.T6 : Bool × List (List Nat × List Nat) := (true,[([],[]),([],[]),([],[]),([],[]),([3],[3]),([],[]),([],[]),([6],[6]),([5,7],[5,7]),([8],[8]),([],[]),([],[]),([10,11],[10,11]),([12],[12]),([0,1,0,1,5,6,7,8,9,13],[0,1]),([14,9,0,1,5,6,7,8,9,13],[9,14]),([2,4,0,1,2,3,4,5,6,7,8,9,10,11,12,13,14,15],[2,4]),([16,13,15,0,1,2,3,4,5,6,7,8,9,10,11,12,13,14,15],[13,16])])
def slices_insertionSortOrdered_uint64.B6 : List Nat := [0,0,0,0,8,0,0,64,224,480,0,0,3072,7168,16355,32739,65535,131071]
theorem slices_insertionSortOrdered_uint64.tab6 : rtab .any (opsOf Try.f105 6) = slices_insertionSortOrdered_uint64.T6 := by kernel_rfl
theorem slices_insertionSortOrdered_uint64.bits6 : waitsOk slices_insertionSortOrdered_uint64.T6.2 slices_insertionSortOrdered_uint64.B6 = true := by kernel_rfl
set_option maxHeartbeats 8000000 in
set_option maxRecDepth 100000 in
theorem slices_insertionSortOrdered_uint64.calls (k : Nat) (P0_ : Nat → Prop) (u9000_ : Value) (l0 : List Int) (a1 : Int) (a2 : Int) (r : List Int) (w0 w : World) (hB : Below w0.heap.size w0 w) (ho0 : Kd.R (Kd.int .u64) 22 w w0.heap.size P0_ u9000_ l0) (h : slices_insertionSortOrdered_uint64.f k l0 a1 a2 = some r) :
  Calls Try.prog 105 #[u9000_,.int .i64 a1,.int .i64 a2] w fun e w' => e = .returned (.tuple #[]) ∧ Kd.R (Kd.int .u64) 22 w' w0.heap.size (fun k_ => (P0_ k_ ∨ w.heap.size ≤ k_)) u9000_ r ∧ Below w0.heap.size w0 w' ∧ Kept w w' (fun k_ => P0_ k_) := by
 have HO0 := am (show Kd.R (Kd.int .u64) 22 w w0.heap.size (fun k_ => (P0_ k_ ∨ w.heap.size ≤ k_)) u9000_ l0 from Kd.R_mono ho0 (fun k_ hk => (.inl hk)))
 have HK := am (Kept.refl w (fun k_ => P0_ k_))
 have HW0 := am hB.size
 have HB := am hB
 clear hB
 have H : (slices_insertionSortOrdered_uint64.l0 k l0 a1 a2 (wrap64 (a1 + 1))) = some r := h
 clear h
 have H' := am H
 clear H
 go_enter Try.func105,Try.ntmps105
 go_wp2
 go_loopg [6] k (fun kq v6 w' => ∃ (x0_1 : List Int) (x6_1 : Int),v6 = .int .i64 x6_1 ∧ Aside0 (slices_insertionSortOrdered_uint64.l0 kq x0_1 a1 a2 x6_1 = some r) ∧ Aside0 (kq ≤ k) ∧ Aside0 (Kd.R (Kd.int .u64) 22 w' w0.heap.size (fun k_ => (P0_ k_ ∨ w.heap.size ≤ k_)) u9000_ x0_1) ∧ Aside0 (Kept w w' (fun k_ => P0_ k_)) ∧ Aside0 (Below w0.heap.size w0 w'))
 case atStart => exact ⟨(l0),(wrap64 (a1 + 1)),(by first|rfl|(simp;done)|(simp [*];done)),H',⟨Nat.le_refl _⟩,⟨by (with_reducible repeat (first|apply Kd.R_alloc|apply Kd.R_drewN|apply Kd.R_drew));exact HO0.out⟩,⟨by repeat (first|(with_reducible first|exact HK.out|apply Kept.alloc|apply Kept.drewN|apply Kept.drew)|exact HK.out)⟩,⟨bb HB⟩⟩
 case round =>
  clear H'
  try clear c1
  try clear p2
  obtain ⟨x0_1,x6_1,rfl,HA,HK1,HO_0,HK,HB⟩ := hrel
  cases gk with
  | zero => exact absurd HA.out (by simp [slices_insertionSortOrdered_uint64.l0])
  | succ k1 =>
   have H := HA.out
   clear HA
   simp only [slices_insertionSortOrdered_uint64.l0] at H
   by_cases c4 : x6_1 < a2
   ·rw [if_pos c4] at H
    have c4b0 : decide (x6_1 < a2) = true := decide_eq_true c4
    clear c4
    have H' := am H
    clear H
    go_wp2
    go_loopg [7] k1 (fun kq v7 w' => ∃ (x0_2 : List Int) (x7_2 : Int),v7 = .int .i64 x7_2 ∧ Aside0 (slices_insertionSortOrdered_uint64.l1 kq x0_2 a1 a2 x6_1 x7_2 = some r) ∧ Aside0 (kq ≤ k1) ∧ Aside0 (Kd.R (Kd.int .u64) 22 w' w0.heap.size (fun k_ => (P0_ k_ ∨ w.heap.size ≤ k_)) u9000_ x0_2) ∧ Aside0 (Kept w w' (fun k_ => P0_ k_)) ∧ Aside0 (Below w0.heap.size w0 w'))
    case atStart => exact ⟨(x0_1),(x6_1),(by first|rfl|(simp;done)|(simp [*];done)),H',⟨Nat.le_refl _⟩,⟨by (with_reducible repeat (first|apply Kd.R_alloc|apply Kd.R_drewN|apply Kd.R_drew));exact HO_0.out⟩,⟨by repeat (first|(with_reducible first|exact HK.out|apply Kept.alloc|apply Kept.drewN|apply Kept.drew)|exact HK.out)⟩,⟨bb HB⟩⟩
    case round =>
     clear H'
     try clear c1
     try clear p2
     try clear c4
     try clear c4b0
     try clear p2
     obtain ⟨x0_2,x7_2,rfl,HA,HK2,HO_0,HK,HB⟩ := hrel
     cases gk with
     | zero => exact absurd HA.out (by simp [slices_insertionSortOrdered_uint64.l1])
     | succ k2 =>
      have H := HA.out
      clear HA
      simp only [slices_insertionSortOrdered_uint64.l1] at H
      by_cases c5 : x7_2 > a1
      ·rw [if_pos c5] at H
       have c5b0 : decide (a1 < x7_2) = true := decide_eq_true c5
       clear c5
       by_cases c6 : 0 ≤ x7_2
       ·rw [if_pos c6] at H
        have c6b0 : decide (0 ≤ x7_2) = true := decide_eq_true c6
        clear c6
        by_cases c7 : x7_2 < (x0_2.length : Int)
        ·rw [if_pos c7] at H
         have c7b0 : decide (x7_2 < (x0_2.length : Int)) = true := decide_eq_true c7
         clear c7
         obtain ⟨ji8,hji8⟩ : ∃ j_ : Int,(wrap64 (x7_2 - 1)) = j_ := ⟨_,rfl⟩
         first|rw [hji8] at H|simp only [hji8] at H
         have hji8w : (IntKind.i64.wrap (x7_2 - 1)) = ji8 := (i64_w _).trans hji8
         by_cases c9 : 0 ≤ (ji8)
         ·rw [if_pos c9] at H
          have c9b0 : decide (0 ≤ (ji8)) = true := decide_eq_true c9
          clear c9
          by_cases c10 : (ji8) < (x0_2.length : Int)
          ·rw [if_pos c10] at H
           have c10b0 : decide ((ji8) < (x0_2.length : Int)) = true := decide_eq_true c10
           clear c10
           replace H := Option.bind_eq_some_iff.mp H
           obtain ⟨t240,A110,H⟩ := H
           try dsimp only at H
           have A11 := am A110
           clear A110
           by_cases c12 : t240 = true
           ·subst c12
            rw [if_pos rfl] at H
            obtain ⟨y243,hy243⟩ : ∃ y_ : List Int,y_ = (x0_2.set (x7_2 : Int).toNat (rd x0_2 (ji8))) := ⟨_,rfl⟩
            replace H : (slices_insertionSortOrdered_uint64.l1 k2 (y243.set ((ji8) : Int).toNat (rd x0_2 x7_2)) a1 a2 x6_1 ji8) = some r := by first|(rw [hy243];with_reducible exact H)|(have H2_ := (Option.bind_some _ _).symm.trans H;rw [hy243];with_reducible exact H2_)|(have H2_ := (Option.bind_some _ _).symm.trans H;with_reducible exact H2_)|with_reducible exact H|(rw [hy243];exact H)|exact H
            have Ny243 := am hy243
            clear hy243
            obtain ⟨y244,hy244⟩ : ∃ y_ : List Int,y_ = (y243.set ((ji8) : Int).toNat (rd x0_2 x7_2)) := ⟨_,rfl⟩
            replace H : (slices_insertionSortOrdered_uint64.l1 k2 y244 a1 a2 x6_1 ji8) = some r := by first|(rw [hy244];with_reducible exact H)|(have H2_ := (Option.bind_some _ _).symm.trans H;rw [hy244];with_reducible exact H2_)|(have H2_ := (Option.bind_some _ _).symm.trans H;with_reducible exact H2_)|with_reducible exact H|(rw [hy244];exact H)|exact H
            have Ny244 := am hy244
            clear hy244
            have H' := am H
            clear H
            try go_wp2
            have n0_ := am (Kd.R_drew HO_0.out)
            have n1_ := am (Kept.drew HK.out)
            have n2_ := am (below_drew1 HB.out)
            clear HO_0
            clear HK
            clear HB
            have HO_0 := n0_
            have HK := n1_
            have HB := n2_
            clear n0_ n1_ n2_
            obtain ⟨Ao16,co16,eo16⟩ := Kd.R_slice HO_0.out
            (first|subst eo16|(injection eo16 with f1_ f2_ f3_;have f4_ := f1_.symm;have f5_ := f3_.symm;clear f1_ f2_ f3_;subst f4_;subst f5_))
            have p238 : 0 ≤ (x7_2 : Int) := od
            have q238 : x7_2 < (x0_2.length : Int) := od
            obtain ⟨ad238,e238,hx238_0⟩ := Kd.at_int (Kd.R_reads' HO_0.out).2.2 x7_2 p238 q238
            cases e238
            replace p238 := eq_true p238
            replace q238 := eq_true q238
            have p239 : 0 ≤ ((ji8) : Int) := od
            have q239 : (ji8) < (x0_2.length : Int) := od
            obtain ⟨ad239,e239,hx239_0⟩ := Kd.at_int (Kd.R_reads' HO_0.out).2.2 (ji8) p239 q239
            obtain rfl : ad238 = ad239 := (by injection e239)
            replace p239 := eq_true p239
            replace q239 := eq_true q239
            refine start_ (n := 15) (S := fun w' => w'.cell? (ad238.add (x7_2).toNat) = some (.int .u64 (rd x0_2 x7_2)) ∧ w'.cell? (ad238.add ((ji8)).toNat) = some (.int .u64 (rd x0_2 (ji8)))) (ds := []) (bz 15 0) (by kernel_rfl) rfl rfl ⟨hx238_0,hx239_0⟩ (fun hHeld => ?_);refine with_tabW slices_insertionSortOrdered_uint64.tab4 slices_insertionSortOrdered_uint64.bits4 (fun HT_ HW_ => ?_)
            generalize wr.drew = w15 at HO_0 HK HB hx238_0 hx239_0 hHeld ⊢
            refine pk 0 16 (bz 15 1) HT_ ?_
            refine pk 1 17 (bz 15 3) HT_ ?_
            refine pk 2 18 (bz 15 7) HT_ ?_
            refine pk 3 19 (bz 15 15) HT_ ?_
            refine pk 4 20 (bz 15 31) HT_ ?_
            refine pk 5 21 (bz 15 63) HT_ ?_
            refine pk 6 22 (bz 15 127) HT_ ?_
            refine pk 8 24 (bz 15 383) HT_ ?_
            refine pk 9 25 (bz 15 895) HT_ ?_
            refine pk 10 26 (bz 15 1919) HT_ ?_
            refine pk 11 27 (bz 15 3967) HT_ ?_
            refine tk 7 23 (bz 15 4095) HT_ HW_ hHeld ?_
            refine tk 12 28 (bz 15 8191) HT_ HW_ hHeld ?_
            refine on 13 29 (bz 15 16383) HT_ (fun K hK => ?_)
            refine goes_ Try.func111 (by kernel_rfl) rfl #[.int .u64 (rd x0_2 x7_2),.int .u64 (rd x0_2 (ji8))] (by rfl) rfl rfl (by (try simp only [List.map_toArray,List.map_cons,List.map_nil]);first|done|(simp only [hji8];rfl)|rfl|(simp only [List.length_drop,List.length_take];rfl)) ?_
            with_reducible refine (cmp_Less_uint64.calls (rd x0_2 x7_2) (rd x0_2 (ji8)) true _ A11.out).mono ?_
            rintro e w' ⟨rfl,⟨nd,rfl⟩⟩
            refine ⟨_,rfl,?_⟩
            refine hK.out _ _ ⟨hHeld.1,hHeld.2⟩ (fun hHeld => ?_)
            clear hK K
            refine nm 29 ?_
            refine pk 14 30 (bz 15 32767) HT_ ?_
            refine done_ (done_of HT_.out (by kernel_rfl)) ?_
            try go_wp2
            (try (rw [drewN_self w15];generalize hq_ : World.drewN w15 _ = w15;have n0_ : Aside0 (Kd.R (Kd.int .u64) 22 w15 w0.heap.size (fun k_ => (P0_ k_ ∨ w.heap.size ≤ k_)) (.slice (some ad238) x0_2.length co16) x0_2) := ⟨by rw [← hq_];exact (rr HO_0)⟩;have n1_ : Aside0 (Kept w w15 (fun k_ => P0_ k_)) := ⟨by rw [← hq_];exact (by repeat (first|(with_reducible first|exact HK.out|apply Kept.alloc|apply Kept.drewN|apply Kept.drew)|exact HK.out))⟩;have n2_ : Aside0 (Below w0.heap.size w0 w15) := ⟨by rw [← hq_];exact (bb HB)⟩;clear HO_0 HK HB hq_;have HO_0 := n0_;have HK := n1_;have HB := n2_;clear n0_ n1_ n2_))
            have n0_ := am (Kd.R_drew HO_0.out)
            have n1_ := am (Kept.drew HK.out)
            have n2_ := am (below_drew1 HB.out)
            clear HO_0
            clear HK
            clear HB
            have HO_0 := n0_
            have HK := n1_
            have HB := n2_
            clear n0_ n1_ n2_
            have p241 : 0 ≤ ((ji8) : Int) := od
            have q241 : (ji8) < (x0_2.length : Int) := od
            obtain ⟨ad241,e241,hx241_0⟩ := Kd.at_int (Kd.R_reads' HO_0.out).2.2 (ji8) p241 q241
            obtain rfl : ad238 = ad241 := (by injection e241)
            replace p241 := eq_true p241
            replace q241 := eq_true q241
            have p242 : 0 ≤ (x7_2 : Int) := od
            have q242 : x7_2 < (x0_2.length : Int) := od
            obtain ⟨ad242,e242,hx242_0⟩ := Kd.at_int (Kd.R_reads' HO_0.out).2.2 x7_2 p242 q242
            obtain rfl : ad238 = ad242 := (by injection e242)
            replace p242 := eq_true p242
            replace q242 := eq_true q242
            have p13 : 0 ≤ (x7_2 : Int) := od
            have q13 : (x7_2 : Int) < ((x0_2.length : Int) : Int) := od
            obtain ⟨go13,co13,eo13,gb13,gl13,cl13,HG13⟩ := Kd.R_form HO_0.out (by omega)
            (first|cases eo13|(injection eo13 with ea_ en_ ec_;(first|subst ea_|(injection ea_ with ea_;subst ea_));subst ec_;clear en_))
            have GB13 := am gb13
            have GG13 := am HG13
            clear gb13 gl13 HG13
            have HMgo13 := am (show (P0_ go13 ∨ w.heap.size ≤ go13) from (HO_0.out.1 _ rfl))
            (first|simp only [add_plain] at hx238_0|skip)
            (first|simp only [add_plain] at hx239_0|skip)
            (first|simp only [add_plain] at hx241_0|skip)
            (first|simp only [add_plain] at hx242_0|skip)
            obtain ⟨hx13_0,hf13_0⟩ := Kd.R_celln 0 HO_0.out (x7_2 : Int) p13 q13
            replace p13 := eq_true p13
            replace q13 := eq_true q13
            have HP18 := Kd.R_putn HO_0.out (x7_2 : Int) (rd x0_2 (ji8))
            rw [← Ny243.out] at HP18
            have HQ18 := am HP18
            clear HP18
            have p14 : 0 ≤ ((ji8) : Int) := od
            have q14 : ((ji8) : Int) < ((x0_2.length : Int) : Int) := od
            obtain ⟨hx14_0,hf14_0⟩ := Kd.R_celln 0 HQ18.out ((ji8) : Int) p14 q14
            replace p14 := eq_true p14
            replace q14 := eq_true q14
            have HP19 := Kd.R_putn HQ18.out ((ji8) : Int) (rd x0_2 x7_2)
            rw [← Ny244.out] at HP19
            have HQ19 := am HP19
            clear HP19
            refine start_ (n := 18) (S := fun w' => w'.cell? ⟨go13,((ji8)).toNat,none⟩ = some (.int .u64 (rd x0_2 (ji8))) ∧ w'.cell? ⟨go13,(x7_2).toNat,none⟩ = some (.int .u64 (rd x0_2 x7_2))) (ds := [15,17]) (bz 18 0) (by kernel_rfl) rfl rfl ⟨hx241_0,hx242_0⟩ (fun hHeld => ?_);refine with_tabW slices_insertionSortOrdered_uint64.tab6 slices_insertionSortOrdered_uint64.bits6 (fun HT_ HW_ => ?_)
            generalize w15.drew = w17 at HO_0 HK HB GG13 HQ18 HQ19 hf13_0 hf14_0 hx13_0 hx14_0 hx238_0 hx239_0 hx241_0 hx242_0 hHeld ⊢
            refine pk 0 33 (bz 18 1) HT_ ?_
            refine pk 1 34 (bz 18 3) HT_ ?_
            refine pk 2 35 (bz 18 7) HT_ ?_
            refine pk 3 36 (bz 18 15) HT_ ?_
            refine pk 4 37 (bz 18 31) HT_ ?_
            refine pk 5 38 (bz 18 63) HT_ ?_
            refine pk 6 39 (bz 18 127) HT_ ?_
            refine pk 7 40 (bz 18 255) HT_ ?_
            refine pk 8 41 (bz 18 511) HT_ ?_
            refine pk 10 43 (bz 18 1535) HT_ ?_
            refine pk 11 44 (bz 18 3583) HT_ ?_
            refine pk 12 45 (bz 18 7679) HT_ ?_
            refine tk 9 42 (bz 18 8191) HT_ HW_ hHeld ?_
            refine tk 13 46 (bz 18 16383) HT_ HW_ hHeld ?_
            refine pk 14 47 (bz 18 32767) HT_ ?_
            refine last_ (i := 15) (N := none) (bz 18 65535) rfl rfl (one_of HT_.out (by kernel_rfl)) (by decide) (fun K hK => ?_)
            refine skip_ (w1 := ?_) (by rfl) rfl ?_ ?_
            rotate_left
            ·go_simp
             rfl
            refine hK.out _ _ ?_
            clear hK K
            refine pk 16 48 (bz 18 131071) HT_ ?_
            refine last_ (i := 17) (N := none) (bz 18 262143) rfl rfl (one_of HT_.out (by kernel_rfl)) (by decide) (fun K hK => ?_)
            refine skip_ (w1 := ?_) (by rfl) rfl ?_ ?_
            rotate_left
            ·go_simp
             rfl
            refine hK.out _ _ ?_
            clear hK K
            refine done_ (done_of HT_.out (by kernel_rfl)) ?_
            try go_wp2
            go_roundg k2
            case measure => have := HK1.out;have := HK2.out;omega
            case rel => exact ⟨(y244),(ji8),(by first|rfl|(simp;done)|(simp only [← hji8] <;> (first|rfl|simp))|(simp [*];done)),H',⟨by have := HK1.out;have := HK2.out;omega⟩,⟨by (with_reducible repeat (first|apply Kd.R_alloc|apply Kd.R_drewN|apply Kd.R_drew));exact HQ19.out⟩,⟨by repeat (first|(with_reducible first|exact HK.out|apply Kept.alloc|apply Kept.drewN|apply Kept.drew|refine Kept.setCell ?_ HMgo13.out _|refine Kept.setCell ?_ HMgo13.out _)|exact HK.out)⟩,⟨by repeat (first|(with_reducible first|exact HB.out|apply below_alloc|apply pw_below_drewN|apply below_drew1|refine below_set ?_ GB13.out|refine below_set ?_ GB13.out)|exact HB.out)⟩⟩
           ·replace c12 := Bool.eq_false_iff.mpr c12
            subst c12
            rw [if_neg (show ¬ (false = true) by decide)] at H
            have H' := am H
            clear H
            try go_wp2
            have n0_ := am (Kd.R_drew HO_0.out)
            have n1_ := am (Kept.drew HK.out)
            have n2_ := am (below_drew1 HB.out)
            clear HO_0
            clear HK
            clear HB
            have HO_0 := n0_
            have HK := n1_
            have HB := n2_
            clear n0_ n1_ n2_
            obtain ⟨Ao21,co21,eo21⟩ := Kd.R_slice HO_0.out
            (first|subst eo21|(injection eo21 with f1_ f2_ f3_;have f4_ := f1_.symm;have f5_ := f3_.symm;clear f1_ f2_ f3_;subst f4_;subst f5_))
            have p238 : 0 ≤ (x7_2 : Int) := od
            have q238 : x7_2 < (x0_2.length : Int) := od
            obtain ⟨ad238,e238,hx238_0⟩ := Kd.at_int (Kd.R_reads' HO_0.out).2.2 x7_2 p238 q238
            cases e238
            replace p238 := eq_true p238
            replace q238 := eq_true q238
            have p239 : 0 ≤ ((ji8) : Int) := od
            have q239 : (ji8) < (x0_2.length : Int) := od
            obtain ⟨ad239,e239,hx239_0⟩ := Kd.at_int (Kd.R_reads' HO_0.out).2.2 (ji8) p239 q239
            obtain rfl : ad238 = ad239 := (by injection e239)
            replace p239 := eq_true p239
            replace q239 := eq_true q239
            refine start_ (n := 15) (S := fun w' => w'.cell? (ad238.add (x7_2).toNat) = some (.int .u64 (rd x0_2 x7_2)) ∧ w'.cell? (ad238.add ((ji8)).toNat) = some (.int .u64 (rd x0_2 (ji8)))) (ds := []) (bz 15 0) (by kernel_rfl) rfl rfl ⟨hx238_0,hx239_0⟩ (fun hHeld => ?_);refine with_tabW slices_insertionSortOrdered_uint64.tab4 slices_insertionSortOrdered_uint64.bits4 (fun HT_ HW_ => ?_)
            generalize wr.drew = w20 at HO_0 HK HB hx238_0 hx239_0 hHeld ⊢
            refine pk 0 16 (bz 15 1) HT_ ?_
            refine pk 1 17 (bz 15 3) HT_ ?_
            refine pk 2 18 (bz 15 7) HT_ ?_
            refine pk 3 19 (bz 15 15) HT_ ?_
            refine pk 4 20 (bz 15 31) HT_ ?_
            refine pk 5 21 (bz 15 63) HT_ ?_
            refine pk 6 22 (bz 15 127) HT_ ?_
            refine pk 8 24 (bz 15 383) HT_ ?_
            refine pk 9 25 (bz 15 895) HT_ ?_
            refine pk 10 26 (bz 15 1919) HT_ ?_
            refine pk 11 27 (bz 15 3967) HT_ ?_
            refine tk 7 23 (bz 15 4095) HT_ HW_ hHeld ?_
            refine tk 12 28 (bz 15 8191) HT_ HW_ hHeld ?_
            refine on 13 29 (bz 15 16383) HT_ (fun K hK => ?_)
            refine goes_ Try.func111 (by kernel_rfl) rfl #[.int .u64 (rd x0_2 x7_2),.int .u64 (rd x0_2 (ji8))] (by rfl) rfl rfl (by (try simp only [List.map_toArray,List.map_cons,List.map_nil]);first|done|(simp only [hji8];rfl)|rfl|(simp only [List.length_drop,List.length_take];rfl)) ?_
            with_reducible refine (cmp_Less_uint64.calls (rd x0_2 x7_2) (rd x0_2 (ji8)) false _ A11.out).mono ?_
            rintro e w' ⟨rfl,⟨nd,rfl⟩⟩
            refine ⟨_,rfl,?_⟩
            refine hK.out _ _ ⟨hHeld.1,hHeld.2⟩ (fun hHeld => ?_)
            clear hK K
            refine nm 29 ?_
            refine pk 14 30 (bz 15 32767) HT_ ?_
            refine done_ (done_of HT_.out (by kernel_rfl)) ?_
            try go_wp2
            go_roundg k2
            case measure => have := HK1.out;have := HK2.out;omega
            case rel => exact ⟨(x0_2),(wrap64 (x6_1 + 1)),(by first|rfl|(simp;done)|(simp [*];done)),H',⟨by have := HK1.out;have := HK2.out;omega⟩,⟨by (with_reducible repeat (first|apply Kd.R_alloc|apply Kd.R_drewN|apply Kd.R_drew));exact HO_0.out⟩,⟨by repeat (first|(with_reducible first|exact HK.out|apply Kept.alloc|apply Kept.drewN|apply Kept.drew)|exact HK.out)⟩,⟨bb HB⟩⟩
          ·rw [if_neg c10] at H
           exact absurd H (by simp)
         ·rw [if_neg c9] at H
          exact absurd H (by simp)
        ·rw [if_neg c7] at H
         exact absurd H (by simp)
       ·rw [if_neg c6] at H
        exact absurd H (by simp)
      ·rw [if_neg c5] at H
       have c5b0 : decide (a1 < x7_2) = false := decide_eq_false c5
       clear c5
       have H' := am H
       clear H
       try go_wp2
       have n0_ := am (Kd.R_drew HO_0.out)
       have n1_ := am (Kept.drew HK.out)
       have n2_ := am (below_drew1 HB.out)
       clear HO_0
       clear HK
       clear HB
       have HO_0 := n0_
       have HK := n1_
       have HB := n2_
       clear n0_ n1_ n2_
       refine start_ (n := 15) (S := fun w' => True) (ds := []) (bz 15 0) (by kernel_rfl) rfl rfl trivial (fun hHeld => ?_);refine with_tabW slices_insertionSortOrdered_uint64.tab4 slices_insertionSortOrdered_uint64.bits4 (fun HT_ HW_ => ?_)
       generalize wr.drew = w22 at HO_0 HK HB hHeld ⊢
       refine pk 0 16 (bz 15 1) HT_ ?_
       refine pk 1 17 (bz 15 3) HT_ ?_
       refine pk 2 18 (bz 15 7) HT_ ?_
       refine pk 3 19 (bz 15 15) HT_ ?_
       refine pz 4 20 (bz 15 31) HT_ ?_
       refine pz 5 21 (bz 15 63) HT_ ?_
       refine pz 6 22 (bz 15 127) HT_ ?_
       refine pz 7 23 (bz 15 255) HT_ ?_
       refine pz 8 24 (bz 15 511) HT_ ?_
       refine pz 9 25 (bz 15 1023) HT_ ?_
       refine pz 10 26 (bz 15 2047) HT_ ?_
       refine pz 11 27 (bz 15 4095) HT_ ?_
       refine pz 12 28 (bz 15 8191) HT_ ?_
       refine pz 13 29 (bz 15 16383) HT_ ?_
       refine pk 14 30 (bz 15 32767) HT_ ?_
       refine done_ (done_of HT_.out (by kernel_rfl)) ?_
       try go_wp2
       go_roundg k2
       case measure => have := HK1.out;have := HK2.out;omega
       case rel => exact ⟨(x0_2),(wrap64 (x6_1 + 1)),(by first|rfl|(simp;done)|(simp [*];done)),H',⟨by have := HK1.out;have := HK2.out;omega⟩,⟨by (with_reducible repeat (first|apply Kd.R_alloc|apply Kd.R_drewN|apply Kd.R_drew));exact HO_0.out⟩,⟨by repeat (first|(with_reducible first|exact HK.out|apply Kept.alloc|apply Kept.drewN|apply Kept.drew)|exact HK.out)⟩,⟨bb HB⟩⟩
   ·rw [if_neg c4] at H
    have c4b0 : decide (x6_1 < a2) = false := decide_eq_false c4
    clear c4
    obtain rfl := Option.some.inj H
    go_wp2
    first|go_end0|((try simp only [Exit.inBlock,Exit.then]);refine bodyPost_ret (results_none rfl _ _ _) rfl ?_)
    exact ⟨by first|rfl|(simp [errW_none,errW_some] <;> rfl)|(simp [*,errW_none,errW_some] <;> rfl),by (with_reducible repeat (first|apply Kd.R_alloc|apply Kd.R_drewN|apply Kd.R_drew));exact HO_0.out,by repeat (first|(with_reducible first|exact HB.out|apply below_alloc|apply pw_below_drewN|apply below_drew1)|exact HB.out),by repeat (first|(with_reducible first|exact HK.out|apply Kept.alloc|apply Kept.drewN|apply Kept.drew)|exact HK.out)⟩

def bits_Len.f (k : Nat) (a0 : Int) : Option (Int) := (bits_Len64.f k a0).bind fun t268 => (some t268)
set_option maxHeartbeats 8000000 in
set_option maxRecDepth 100000 in
theorem bits_Len.calls (k : Nat) (a0 : Int) (r : Int) (w : World) (h : bits_Len.f k a0 = some r) :
  Calls Try.prog 103 #[.int .u64 a0] w fun e w' => e = .returned (.int .i64 r) ∧ Drawn0 w w' := by
 have H : ((bits_Len64.f k a0).bind fun t268 => (some t268)) = some r := h
 clear h
 replace H := Option.bind_eq_some_iff.mp H
 obtain ⟨t268,A20,H⟩ := H
 try dsimp only at H
 have A2 := am A20
 clear A20
 obtain rfl := Option.some.inj H
 go_enter Try.func103,Try.ntmps103
 go_wp2_with (first|((with_reducible refine gate_callee (f := 99) rfl ?_);refine goesL_ (some 7) rfl rfl Try.func99 (by kernel_rfl) rfl #[.int .u64 a0] rfl (by (try simp only [List.map_toArray,List.map_cons,List.map_nil]);first|done|rfl|(simp only [List.length_drop,List.length_take];rfl)) ?_;(with_reducible refine (bits_Len64.calls k a0 t268 _ A2.out).mono ?_);rintro e w' ⟨rfl,⟨nd,rfl⟩⟩;refine ⟨_,rfl,?_⟩))
 go_ret
 exact ⟨by first|rfl|(simp;done)|(simp [*];done),by repeat (first|exact Drawn0.refl _|apply Drawn0.step)⟩
end Go.Proofs.Ytmdoaijkaaaglaa.Pr
end
section
namespace Go.Proofs.Ytmdoaijkaaaglaa.Hw
open Go.RowKit Go.Proofs.Ytmdoaijkaaaglaa.Pr Go.Proofs.YtmdoaijkaaaglaaW.PrintWords Go.Proofs.YtmdoaijkaaaglaaW.PrintLast Go.Proofs.YtmdoaijkaaaglaaW.PrintMore Go.Proofs.Ytmdoaijkaaaglaa.E
theorem wrapI_id {n : Int} (h0 : -9223372036854775808 ≤ n) (h1 : n < 9223372036854775808) : IntKind.i64.wrap n = n := by rw [IntKind.wrap_i64];omega
theorem C_none {k : IntKind} {w : World} {xs : List Int} (h : Kd.C (Kd.int k) w none xs.length xs) : xs = [] := by
 rcases xs with _|⟨x,xs⟩
 ·rfl
 ·obtain ⟨ad,e,_⟩ := Kd.at_int h 0 (by omega) (by simp)
  cases e
set_option maxHeartbeats 1000000 in
set_option maxRecDepth 100000 in
theorem clone_u64 (A : Option Addr) (c : Nat) (l : List Int) (w : World) (hr : Kd.C (Kd.int .u64) w A l.length l) (hc : l.length ≤ c) (hl : l.length ≤ 1099511627776) :
  Calls Try.prog 76 #[.slice A l.length c] w fun e w' => ∃ v0_ : Value,e = .returned (v0_) ∧ Kd.R (Kd.int .u64) 22 w' w.heap.size (fun _ => True) v0_ l ∧ Below w.heap.size w w' := by
 have HR := Aside0.mk hr
 clear hr
 rcases A with _|a
 ·obtain rfl := C_none HR.out
  have heq : ∀ W : World,(binOp .eql 40 (.slice none 0 c) (.slice none 0 0)).run Try.prog W = .ok (.bool true) W := fun W => Lib.run_eql_slice_nil W 40 22 none 0 c 0 0 Try.underlying40
  go_enter Try.func76,Try.ntmps76
  go_wp2
  go_ret
  exact ⟨_,rfl,Kd.R_nil _ _ _ _ _,Below.refl _ _⟩
 ·have heq : ∀ W : World,(binOp .eql 40 (.slice (some a) l.length c) (.slice none 0 0)).run Try.prog W = .ok (.bool false) W := fun W => Lib.run_eql_slice_nil W 40 22 (some a) l.length c 0 0 Try.underlying40
  go_enter Try.func76,Try.ntmps76
  go_wp2_with (first
   | ((with_reducible refine gate_dst (N := 5) rfl ?_);refine Kd.R_lit (Kd.int .u64) _ 22 ?hg (N := 5) ?hd (xs := ([] : List Int)) (inner := []) (ok := fun _ => True) (okp := fun _ => True) ?hr ?hp (fun _ hk => hk) trivial (Below.refl _ _) (Nat.le_refl _) (by simp) ?_;(case hd => rfl);(case hg => rfl);(case hr => first|(go_simp;done)|(go_simp;rfl));(case hp => exact (Reps.none _ _));intro v1 w1 ho1 hb1 hg1 hn1;clear hg1 hn1;have HO1 := Aside0.mk ho1;have HB1 := Aside0.mk hb1;clear ho1 hb1)
   | ((with_reducible refine gate_builtin (b := .append) (xs := #[.tmp 5,.tmp 6]) rfl ?_);at_builtin;refine Kd.R_append_rows (Kd.int .u64) (w0 := w) w.heap.size rfl (.tmp 5) (.tmp 6) 40 22 (.int .u64 0) 8 rfl Try.underlying40 info22 rfl (by decide) (by omega) v1 [] l _ _ _ (fun _ => True) (fun _ => False) rfl rfl HO1.out (Kd.C_below HR.out HB1.out) (fun _ _ h => h) (fun _ h => h.elim) (fun _ _ => trivial) HB1.out (below_size HB1.out) (by simp;omega) ?_;intro v2 w2 ho2 hb2 hg2 ha2;clear hg2 ha2;have HO2 := Aside0.mk ho2;have HB2 := Aside0.mk hb2;clear ho2 hb2))
  go_ret
  exact ⟨_,rfl,by simpa using HO2.out,HB2.out⟩
set_option maxHeartbeats 1000000 in
set_option maxRecDepth 100000 in
theorem pdq_small (k : Nat) (P0_ : Nat → Prop) (v : Value) (l r : List Int) (L : Int) (hl : l.length ≤ 12) (w0 w : World) (hB : Below w0.heap.size w0 w) (ho : Kd.R (Kd.int .u64) 22 w w0.heap.size P0_ v l)
  (h : slices_insertionSortOrdered_uint64.f k l 0 (l.length : Int) = some r) :
  Calls Try.prog 102 #[v,.int .i64 0,.int .i64 (l.length : Int),.int .i64 L] w fun e w' => e = .returned (.tuple #[]) ∧ Kd.R (Kd.int .u64) 22 w' w0.heap.size (fun k_ => (P0_ k_ ∨ w.heap.size ≤ k_)) v r ∧ Below w0.heap.size w0 w' ∧ Kept w w' (fun k_ => P0_ k_) := by
 have hc := Aside0.mk (slices_insertionSortOrdered_uint64.calls k P0_ v l 0 (l.length : Int) r w0 w hB ho h)
 have hle : decide ((l.length : Int) ≤ 12) = true := decide_eq_true (by omega)
 have hle' : decide (l.length ≤ 12) = true := decide_eq_true hl
 clear hB ho h
 go_enter Try.func102,Try.ntmps102
 go_wp2
 go_loopg [1,2] 0 (fun kq v1 v2 w' => v1 = .int .i64 0 ∧ v2 = .int .i64 (l.length : Int) ∧ w' = w)
 case atStart => exact ⟨rfl,rfl,rfl⟩
 case round =>
  obtain ⟨rfl,rfl,rfl⟩ := hrel
  go_wp2_with (first|(go_at_call 105;(with_reducible refine hc.out.mono ?_);rintro e w' ⟨rfl,h1,h2,h3⟩;have H1 := Aside0.mk h1;have H2 := Aside0.mk h2;have H3 := Aside0.mk h3;clear h1 h2 h3))
  first|go_end0|((try simp only [Exit.inBlock,Exit.then]);refine bodyPost_ret (results_none rfl _ _ _) rfl ?_)
  exact ⟨rfl,H1.out,H2.out,H3.out⟩
set_option maxHeartbeats 1000000 in
set_option maxRecDepth 100000 in
theorem sort_small (k k2 : Nat) (P0_ : Nat → Prop) (A : Option Addr) (c : Nat) (l r : List Int) (L : Int) (hl : l.length ≤ 12) (w0 w : World) (hB : Below w0.heap.size w0 w) (ho : Kd.R (Kd.int .u64) 22 w w0.heap.size P0_ (.slice A l.length c) l)
  (h : slices_insertionSortOrdered_uint64.f k l 0 (l.length : Int) = some r) (hL : bits_Len.f k2 (l.length : Int) = some L) :
  Calls Try.prog 89 #[.slice A l.length c] w fun e w' => e = .returned (.tuple #[]) ∧ Kd.R (Kd.int .u64) 22 w' w0.heap.size (fun _ => True) (.slice A l.length c) r ∧ Below w0.heap.size w0 w' := by
 have HL := Aside0.mk hL
 have HO := Aside0.mk ho
 have HB := Aside0.mk hB
 have HH := Aside0.mk h
 clear hL ho hB h
 go_enter Try.func89,Try.ntmps89
 go_wp2_with (first
  | (go_at_call 103;(refine (bits_Len.calls k2 _ L _ HL.out).mono ?_);rintro e w' ⟨rfl,⟨nd,rfl⟩⟩;have hc := Aside0.mk (pdq_small k P0_ _ l r L hl w0 (w.drewN nd) (pw_below_drewN HB.out nd) (Kd.R_drewN HO.out nd) HH.out))
  | (go_at_call 102;(with_reducible refine hc.out.mono ?_);rintro e w' ⟨rfl,h1,h2,h3⟩;clear h3;have H1 := Aside0.mk h1;have H2 := Aside0.mk h2;clear h1 h2))
 first|go_end0|((try simp only [Exit.inBlock,Exit.then]);refine bodyPost_ret (results_none rfl _ _ _) rfl ?_)
 exact ⟨rfl,Kd.R_mono H1.out (fun _ _ => trivial),H2.out⟩
theorem below_cells {B : Nat} {w W : World} (h : Below B w W) {b : Nat} (hb : B ≤ b) : ∀ (vs : List Value) (o : Nat),Below B w (W.setCells b o vs) := by
 intro vs
 induction vs generalizing W with
 | nil => intro o;exact h
 | cons v vs ih => intro o;exact ih (h.setCell (p := ⟨b,o,none⟩) hb v) _
def Diff (l : List Int) (n : Nat) : Prop := ∀ i,i + 1 < n → rd l ((i : Int) + 1) ≠ rd l (i : Int)
set_option maxHeartbeats 1000000 in
set_option maxRecDepth 100000 in
theorem compact_u64 (A : Option Addr) (c : Nat) (l : List Int) (hl : l.length ≤ 1099511627776) (w0 w : World) (hB : Below w0.heap.size w0 w) (ho : Kd.R (Kd.int .u64) 22 w w0.heap.size (fun _ => True) (.slice A l.length c) l) :
  Calls Try.prog 90 #[.slice A l.length c] w fun e w' => Aside0 (∃ A' m c',e = .returned (.slice A' m c') ∧ (m = l.length ↔ Diff l l.length)) ∧ Below w0.heap.size w0 w' := by
 have HO := Aside0.mk ho
 have HB := Aside0.mk hB
 clear ho hB
 by_cases h2 : l.length < 2
 ·have hd : decide (l.length < 2) = true := decide_eq_true h2
  have hd' : decide ((l.length : Int) < 2) = true := decide_eq_true (by omega)
  go_enter Try.func90,Try.ntmps90
  go_wp2
  first|go_ret|((try simp only [Exit.inBlock,Exit.then]);refine bodyPost_ret (results_tmp rfl _ _ rfl) rfl ?_)
  exact ⟨⟨_,_,_,rfl,⟨fun _ i hi => absurd hi (by omega),fun _ => rfl⟩⟩,HB.out⟩
 ·have hd : decide (l.length < 2) = false := decide_eq_false h2
  have hd' : decide ((l.length : Int) < 2) = false := decide_eq_false (by omega)
  obtain ⟨b,q,hv,hb0,how⟩ := R_open HO.out (by omega)
  cases hv
  have HW := Aside0.mk how
  clear how
  have hcl := own_le HW.out
  go_enter Try.func90,Try.ntmps90
  go_wp2
  go_loopg [3] l.length (fun kq v3 w' => ∃ (j nd : Nat),v3 = .int .i64 ((j + 1 : Nat) : Int) ∧ Aside0 (kq + j + 1 = l.length + 1) ∧ Aside0 (j + 1 ≤ l.length ∧ Diff l (j + 1)) ∧ w' = w.drewN nd)
  case atStart => exact ⟨0,0,rfl,⟨by omega⟩,⟨by omega,fun i hi => absurd hi (by omega)⟩,rfl⟩
  case round =>
   obtain ⟨j,nd,rfl,HK,HD,rfl⟩ := hrel
   by_cases hlt : j + 1 < l.length
   ·have c1 := (own_at HW.out (j : Int) (by omega) (by omega)).1
    have c2 := (own_at HW.out ((j : Int) + 1) (by omega) (by omega)).1
    rw [Int.toNat_natCast] at c1
    rw [show ((j : Int) + 1).toNat = j + 1 from by omega] at c2
    have t1 : decide ((j : Int) + 1 < (l.length : Int)) = true := decide_eq_true (by omega)
    have p1 : ((0 : Int) ≤ (j : Int)) = True := eq_true (by omega)
    have p2 : ((j : Int) < (l.length : Int)) = True := eq_true (by omega)
    have p3 : ((0 : Int) ≤ (j : Int) + 1) = True := eq_true (by omega)
    have p4 : ((j : Int) + 1 < (l.length : Int)) = True := eq_true (by omega)
    by_cases he : rd l ((j : Int) + 1) = rd l (j : Int)
    ·have e1 : (rd l ((j : Int) + 1) == rd l (j : Int)) = true := beq_iff_eq.mpr he
     have HE := Aside0.mk he
     clear he
     go_wp2_with fail
     go_quiet (fail)
     go_wp2
     obtain ⟨N2,hN2⟩ : ∃ y,y = l.length - (j + 1) := ⟨_,rfl⟩
     obtain ⟨C2,hC2⟩ : ∃ y,y = c - (j + 1) := ⟨_,rfl⟩
     rw [← hN2,← hC2]
     have HN := Aside0.mk hN2
     have HC := Aside0.mk hC2
     clear hN2 hC2 c1 c2 t1 p1 p2 p3 p4 e1
     go_loopg [3,5] N2 (fun kq v3 v5 w' => ∃ (k m : Nat) (l' : List Int),v3 = .int .i64 (k : Int) ∧ v5 = .int .i64 ((m + 1 : Nat) : Int) ∧ Aside0 (kq + m = N2) ∧ Aside0 (1 ≤ k ∧ k ≤ j + 1 + m ∧ m + 1 ≤ N2) ∧ Aside0 (w'.ownsRow w0.heap.size 22 1 (.slice (some ⟨b,0,none⟩) l.length c) l.length (nums .u64 l')) ∧ Aside0 (Below w0.heap.size w0 w'))
     case atStart => exact ⟨j + 1,0,l,rfl,rfl,⟨by omega⟩,⟨by omega,by omega,by have := HN.out;omega⟩,⟨pw_own_drewN HW.out _⟩,⟨pw_below_drewN HB.out _⟩⟩
     case round =>
      obtain ⟨k,m,l',rfl,rfl,HK2,HM,HW2,HB2⟩ := hrel
      have hk1 := HM.out.1
      have hk2 := HM.out.2.1
      have hm2 := HM.out.2.2
      have hn2 := HN.out
      by_cases hlt2 : m + 1 < N2
      ·have c1 := (own_at HW2.out ((j + 1 + (m + 1) : Nat) : Int) (by omega) (by omega)).1
       have c2 := (own_at HW2.out ((j + 1 + m : Nat) : Int) (by omega) (by omega)).1
       obtain ⟨c3,f3⟩ := own_at HW2.out (k : Int) (by omega) (by omega)
       rw [Int.toNat_natCast] at c1 c2 c3 f3
       have t1 : decide ((m : Int) + 1 < (N2 : Int)) = true := decide_eq_true (by omega)
       have t2 : decide (m + 1 < N2) = true := decide_eq_true (by omega)
       have p1 : ((0 : Int) ≤ (m : Int)) = True := eq_true (by omega)
       have p2 : ((m : Int) < (N2 : Int)) = True := eq_true (by omega)
       have p3 : ((0 : Int) ≤ (m : Int) + 1) = True := eq_true (by omega)
       have p4 : ((m : Int) + 1 < (N2 : Int)) = True := eq_true (by omega)
       have p5 : ((0 : Int) ≤ (k : Int)) = True := eq_true (by omega)
       have p6 : ((k : Int) < (l.length : Int)) = True := eq_true (by omega)
       obtain ⟨x,hx⟩ : ∃ x,rd l' ((j + 1 + (m + 1) : Nat) : Int) = x := ⟨_,rfl⟩
       obtain ⟨y,hy⟩ : ∃ y,rd l' ((j + 1 + m : Nat) : Int) = y := ⟨_,rfl⟩
       rw [hx] at c1
       rw [hy] at c2
       have hwm := wrapI_id (n := (m : Int)) (by omega) (by omega)
       have hN2b : N2 ≤ 1099511627776 := by omega
       have hkb : k < l.length := by omega
       clear hx hy hn2
       by_cases he : x = y
       ·have e1 : (x != y) = false := bne_eq_false_iff_eq.mpr he
        clear he
        go_wp2_with fail
        go_quiet (fail)
        clear hwm
        go_wp2
        go_roundg (N2 - (m + 1))
        case measure => have := HK2.out;omega
        case rel => exact ⟨k,m + 1,l',rfl,by go_num,⟨by omega⟩,⟨by omega,by omega,by omega⟩,⟨pw_own_drewN HW2.out _⟩,⟨pw_below_drewN HB2.out _⟩⟩
       ·have e1 : (x != y) = true := bne_iff_ne.mpr he
        clear he
        go_wp2_with fail
        go_quiet (fail)
        clear hwm
        go_wp2
        go_roundg (N2 - (m + 1))
        case measure => have := HK2.out;omega
        case rel => exact ⟨k + 1,m + 1,l'.set k x,by go_num,by go_num,⟨by omega⟩,⟨by omega,by omega,by omega⟩,⟨(own_store (pw_own_drewN HW2.out nq) (k : Int) x).1⟩,⟨(pw_below_drewN HB2.out nq).setCell hb0 _⟩⟩
      ·have t1 : decide ((m : Int) + 1 < (N2 : Int)) = false := decide_eq_false (by omega)
       have t2 : decide (m + 1 < N2) = false := decide_eq_false (by omega)
       have hclr : ∀ ty,(Builtin.clear_ #[40] ty #[.slice (some ⟨b,k,none⟩) (l.length - k) (c - k)]).run Try.prog wr = .ok (.tuple #[]) (wr.setCells b k (List.replicate (l.length - k) (.int .u64 0))) := fun ty =>
        Lib.run_clear_slice wr 40 22 ty (.int .u64 0) Try.underlying40 Try.zeroValue22 rfl rfl b k (l.length - k) (c - k) (by omega)
         (fun j hj => by rw [show k + j = ((k + j : Nat) : Int).toNat from rfl,(own_at HW2.out ((k + j : Nat) : Int) (by omega) (by omega)).1];rfl)
         (fun j hj => by rw [show k + j = ((k + j : Nat) : Int).toNat from rfl,(own_at HW2.out ((k + j : Nat) : Int) (by omega) (by omega)).2])
       go_wp2
       first|go_ret|((try simp only [Exit.inBlock,Exit.then]);refine bodyPost_ret (results_tmp rfl _ _ rfl) rfl ?_)
       refine ⟨⟨_,_,_,rfl,⟨fun h => by omega,fun h => absurd HE.out (h j (by omega))⟩⟩,?_⟩
       exact below_cells HB2.out hb0 _ _
    ·have e1 : (rd l ((j : Int) + 1) == rd l (j : Int)) = false := beq_eq_false_iff_ne.mpr he
     have HE := Aside0.mk he
     clear he
     go_wp2_with fail
     go_quiet (fail)
     go_wp2
     go_roundg (l.length - (j + 1))
     case measure => have := HK.out;omega
     case rel =>
      refine ⟨j + 1,nd + nq,by go_num,⟨by omega⟩,⟨by omega,fun i hi => ?_⟩,by simp [World.drewN_drewN]⟩
      by_cases hij : i = j
      ·rw [hij];exact HE.out
      ·exact HD.out.2 i (by omega)
   ·have t1 : decide ((j : Int) + 1 < (l.length : Int)) = false := decide_eq_false (by omega)
    go_wp2
    first|go_ret|((try simp only [Exit.inBlock,Exit.then]);refine bodyPost_ret (results_tmp rfl _ _ rfl) rfl ?_)
    exact ⟨⟨_,_,_,rfl,⟨fun _ => by rw [show l.length = j + 1 from by have := HD.out.1;omega];exact HD.out.2,fun _ => rfl⟩⟩,pw_below_drewN HB.out nd⟩
theorem less_eq (a b : Int) : cmp_Less_uint64.f a b = some (decide (a < b)) := by
 unfold cmp_Less_uint64.f cmp_isNaN_uint64.f
 simp
theorem w64 {n : Int} (h0 : -9223372036854775808 ≤ n) (h1 : n < 9223372036854775808) : wrap64 n = n := by unfold wrap64;omega
theorem rd_nat (l : List Int) (i : Nat) : rd l (i : Int) = l.getD i 0 := by unfold rd;rw [Int.toNat_natCast]
theorem getD_in (l : List Int) (i : Nat) (h : i < l.length) : l.getD i 0 = l[i] := by rw [List.getD_eq_getElem?_getD,List.getElem?_eq_getElem h];rfl
theorem getD_set (l : List Int) (i j : Nat) (v : Int) (h : j < l.length) : (l.set i v).getD j 0 = if i = j then v else l.getD j 0 := by
 rw [getD_in _ _ (by simpa using h),List.getElem_set,getD_in _ _ h]
def Ord (l : List Int) (i j : Nat) : Prop := ∀ p q,p < q → q ≤ i → q ≠ j → l.getD p 0 ≤ l.getD q 0
theorem ins_ends : ∀ (m i j : Nat) (x : List Int),x.length ≤ 1099511627776 → i < x.length → j ≤ i → Ord x i j → (x.length - i) * (x.length + 2) + j < m →
  ∃ k r,slices_insertionSortOrdered_uint64.l1 k x 0 (x.length : Int) (i : Int) (j : Int) = some r ∧ r.Perm x ∧ (∀ p q,p < q → q < r.length → r.getD p 0 ≤ r.getD q 0) := by
 intro m
 induction m with
 | zero => intro i j x _ _ _ _ h;omega
 | succ m ih =>
  intro i j x hx hi hj ho hm
  have next : (∀ p q,p < q → q ≤ i → x.getD p 0 ≤ x.getD q 0) → ∃ k r,slices_insertionSortOrdered_uint64.l0 k x 0 (x.length : Int) (wrap64 ((i : Int) + 1)) = some r ∧ r.Perm x ∧ (∀ p q,p < q → q < r.length → r.getD p 0 ≤ r.getD q 0) := by
   intro hs
   rw [w64 (by omega) (by omega)]
   by_cases hlt : i + 1 < x.length
   ·obtain ⟨k,r,h1,h2,h3⟩ := ih (i + 1) (i + 1) x hx hlt (Nat.le_refl _) (fun p q hpq hq hne => hs p q hpq (by omega)) (by
     have : (x.length - (i + 1)) * (x.length + 2) + (x.length + 2) = (x.length - i) * (x.length + 2) := by
      rw [← Nat.succ_mul];congr 1;omega
     omega)
    refine ⟨k + 1,r,?_,h2,h3⟩
    simp only [slices_insertionSortOrdered_uint64.l0]
    rw [if_pos (by omega),show (i : Int) + 1 = ((i + 1 : Nat) : Int) from by omega]
    exact h1
   ·refine ⟨1,x,?_,List.Perm.refl _,fun p q hpq hq => hs p q hpq (by omega)⟩
    simp only [slices_insertionSortOrdered_uint64.l0]
    rw [if_neg (by omega)]
  by_cases hj0 : j = 0
  ·subst hj0
   obtain ⟨k,r,h1,h2,h3⟩ := next (fun p q hpq hq => ho p q hpq hq (by omega))
   refine ⟨k + 1,r,?_,h2,h3⟩
   simp only [slices_insertionSortOrdered_uint64.l1]
   rw [if_neg (by omega)]
   exact h1
  ·obtain ⟨t,rfl⟩ : ∃ t,j = t + 1 := ⟨j - 1,by omega⟩
   have e1 : wrap64 (((t + 1 : Nat) : Int) - 1) = (t : Int) := by rw [w64 (by omega) (by omega)];omega
   by_cases hlt : x.getD (t + 1) 0 < x.getD t 0
   ·have hl2 : ((x.set (t + 1) (x.getD t 0)).set t (x.getD (t + 1) 0)).length = x.length := by simp
    have hg : ∀ p,p < x.length → ((x.set (t + 1) (x.getD t 0)).set t (x.getD (t + 1) 0)).getD p 0 = if p = t then x.getD (t + 1) 0 else if p = t + 1 then x.getD t 0 else x.getD p 0 := by
     intro p hp
     rw [getD_set _ _ _ _ (by simpa using hp),getD_set _ _ _ _ hp]
     by_cases a : t = p
     ·subst a;rw [if_pos rfl,if_pos rfl]
     ·have a' : ¬ p = t := fun h => a h.symm
      rw [if_neg a,if_neg a']
      by_cases b : t + 1 = p
      ·subst b;rw [if_pos rfl]
      ·have b' : ¬ p = t + 1 := fun h => b h.symm
       rw [if_neg b,if_neg b']
    obtain ⟨k,r,h1,h2,h3⟩ := ih i t ((x.set (t + 1) (x.getD t 0)).set t (x.getD (t + 1) 0)) (by rw [hl2];exact hx) (by rw [hl2];exact hi) (by omega) (by
     intro p q hpq hq hne
     rw [hg p (by omega),hg q (by omega)]
     have o1 := ho t (t + 1)
     by_cases a : p = t
     ·rw [if_pos a]
      rw [if_neg hne]
      by_cases b : q = t + 1
      ·rw [if_pos b];omega
      ·rw [if_neg b];exact ho (t + 1) q (by omega) hq b
     ·rw [if_neg a,if_neg hne]
      by_cases a2 : p = t + 1
      ·rw [if_pos a2,if_neg (by omega)];exact ho t q (by omega) hq (by omega)
      ·rw [if_neg a2]
       by_cases b : q = t + 1
       ·rw [if_pos b];exact ho p t (by omega) (by omega) (by omega)
       ·rw [if_neg b];exact ho p q hpq hq b) (by rw [hl2];omega)
    rw [hl2] at h1
    refine ⟨k + 1,r,?_,h2.trans ?_,h3⟩
    ·simp only [slices_insertionSortOrdered_uint64.l1]
     rw [e1,if_pos (by omega),if_pos (by omega),if_pos (by omega),if_pos (by omega),if_pos (by omega),less_eq,rd_nat,rd_nat]
     simp only [Option.bind_some]
     rw [if_pos (by simpa using hlt),Int.toNat_natCast,Int.toNat_natCast]
     exact h1
    ·rw [getD_in _ _ (by omega : t < x.length),getD_in _ _ (by omega : t + 1 < x.length)]
     exact List.set_set_perm (by omega) (by omega)
   ·obtain ⟨k,r,h1,h2,h3⟩ := next (fun p q hpq hq => by
     by_cases a : q = t + 1
     ·subst a
      by_cases b : p = t
      ·subst b;omega
      ·have := ho p t (by omega) (by omega) (by omega);omega
     ·exact ho p q hpq hq a)
    refine ⟨k + 1,r,?_,h2,h3⟩
    simp only [slices_insertionSortOrdered_uint64.l1]
    rw [e1,if_pos (by omega),if_pos (by omega),if_pos (by omega),if_pos (by omega),if_pos (by omega),less_eq,rd_nat,rd_nat]
    simp only [Option.bind_some]
    rw [if_neg (by simpa using hlt)]
    exact h1
theorem ins_sorts (x : List Int) (hx : x.length ≤ 1099511627776) : ∃ k r,slices_insertionSortOrdered_uint64.f k x 0 (x.length : Int) = some r ∧ r.Perm x ∧ (∀ p q,p < q → q < r.length → r.getD p 0 ≤ r.getD q 0) := by
 unfold slices_insertionSortOrdered_uint64.f
 rw [w64 (by omega) (by omega)]
 by_cases h : 1 < x.length
 ·obtain ⟨k,r,h1,h2,h3⟩ := ins_ends _ 1 1 x hx h (Nat.le_refl _) (fun p q hpq hq hne => by omega) (Nat.lt_succ_self _)
  refine ⟨k + 1,r,?_,h2,h3⟩
  simp only [slices_insertionSortOrdered_uint64.l0]
  rw [if_pos (by omega)]
  exact h1
 ·refine ⟨1,x,?_,List.Perm.refl _,fun p q hpq hq => by omega⟩
  simp only [slices_insertionSortOrdered_uint64.l0]
  rw [if_neg (by omega)]
theorem diff_iff {r : List Int} (hs : ∀ p q,p < q → q < r.length → r.getD p 0 ≤ r.getD q 0) : Diff r r.length ↔ r.Nodup := by
 constructor
 ·intro h
  rw [List.nodup_iff_pairwise_ne,List.pairwise_iff_getElem]
  intro i j hi hj hij
  have h1 := h i (by omega)
  rw [show (i : Int) + 1 = ((i + 1 : Nat) : Int) from by omega,rd_nat,rd_nat] at h1
  have h2 := hs i (i + 1) (by omega) (by omega)
  rw [← getD_in _ _ hi,← getD_in _ _ hj]
  by_cases e : j = i + 1
  ·subst e;omega
  ·have := hs (i + 1) j (by omega) hj;omega
 ·intro h i hi
  rw [List.nodup_iff_pairwise_ne,List.pairwise_iff_getElem] at h
  rw [show (i : Int) + 1 = ((i + 1 : Nat) : Int) from by omega,rd_nat,rd_nat,getD_in _ _ hi,getD_in _ _ (by omega : i < r.length)]
  exact fun e => h i (i + 1) (by omega) hi (by omega) e.symm
set_option maxHeartbeats 1000000 in
set_option maxRecDepth 100000 in
theorem unlike_calls (A : Option Addr) (c : Nat) (l : List Int) (w : World) (hr : Kd.C (Kd.int .u64) w A l.length l) (hc : l.length ≤ c) (hl : l.length ≤ 12) :
  Calls Try.prog 59 #[.slice A l.length c] w fun e w' => e = .returned (.bool (decide l.Nodup)) ∧ Below w.heap.size w w' := by
 obtain ⟨k,r,h1,h2,h3⟩ := ins_sorts l (by omega)
 have hlen : bits_Len.f 3 (l.length : Int) = some (([0,1,2,2,3,3,3,3,4,4,4,4,4] : List Int).getD l.length 0) := by
  have h : l.length = 0 ∨ l.length = 1 ∨ l.length = 2 ∨ l.length = 3 ∨ l.length = 4 ∨ l.length = 5 ∨ l.length = 6 ∨ l.length = 7 ∨ l.length = 8 ∨ l.length = 9 ∨ l.length = 10 ∨ l.length = 11 ∨ l.length = 12 := by omega
  rcases h with h|h|h|h|h|h|h|h|h|h|h|h|h <;> rw [h] <;> exact (by first|rfl|decide +kernel)
 have hrl : r.length = l.length := h2.length_eq
 have HD := Aside0.mk ((diff_iff h3).trans h2.nodup_iff)
 have HR := Aside0.mk hrl
 have HL := Aside0.mk hlen
 have H1 := Aside0.mk h1
 have hcl := Aside0.mk (clone_u64 A c l w hr hc (by omega))
 clear h1 h2 h3 hr hrl hlen
 obtain ⟨b,hb⟩ : ∃ b : Bool,b = decide l.Nodup := ⟨_,rfl⟩
 rw [← hb]
 have HBb := Aside0.mk hb
 clear hb
 go_enter Try.func59,Try.ntmps59
 go_wp2_with (first
  | (go_at_call 76;(with_reducible refine hcl.out.mono ?_);rintro e w1 ⟨v0,rfl,ho,hb1⟩;obtain ⟨A1,c1,rfl⟩ := Kd.R_slice ho;have hso := Aside0.mk (sort_small k 3 (fun _ => True) A1 c1 l r _ hl w w1 hb1 ho H1.out HL.out);clear ho hb1)
  | (go_at_call 89;(with_reducible refine hso.out.mono ?_);rintro e w2 ⟨rfl,ho,hb2⟩;rw [← HR.out] at ho;have hco := Aside0.mk (compact_u64 A1 c1 r (by rw [HR.out];omega) w w2 hb2 ho);rw [HR.out] at hco;clear ho hb2)
  | (go_at_call 90;(with_reducible refine hco.out.mono ?_);rintro e w3 ⟨hex,hb3⟩;obtain ⟨⟨A3,m,c3,rfl,hm⟩⟩ := hex;have HM := Aside0.mk hm;have HB3 := Aside0.mk hb3;clear hm hb3))
 go_ret
 refine ⟨?_,HB3.out⟩
 have e : ((m : Int) == (l.length : Int)) = b := by
  rw [HBb.out,Bool.eq_iff_iff,beq_iff_eq,decide_eq_true_iff,← HD.out,HR.out,← HM.out]
  omega
 rw [e]
 rfl
theorem rd_res' {p : Int} {l : List Int} (hl : ∀ x ∈ l,Res p x) (i : Nat) (hi : i < l.length) : Res p (rd l i) := by
 have e : rd l i = l[i] := by unfold rd;rw [Int.toNat_natCast,List.getD_eq_getElem?_getD,List.getElem?_eq_getElem hi];rfl
 rw [e];exact hl _ (List.getElem_mem _)
theorem mul_ne' {p : Int} (hp : Supp p) {a b : Int} (ha : Res p a) (h0 : a ≠ 0) (hb : Res p b) (h1 : b ≠ 0) : a * b % p ≠ 0 := by
 intro h
 have e := inv_spec hp ha h0
 have e2 : invp p a * (a * b) % p = b := by
  rw [← Int.mul_assoc,Int.mul_comm (invp p a),mulm (a' := 1) (b' := b) (by rw [e];have := hp.bd;exact (Int.emod_eq_of_lt (by omega) (by omega)).symm) rfl,Int.one_mul,hb.eq]
 rw [mulm (a := invp p a) (b := a * b) (b' := 0) rfl (by rw [h];simp),Int.mul_zero,Int.zero_emod] at e2
 exact h1 e2.symm
theorem sub_ne' {p : Int} (hp : Supp p) {a b : Int} (ha : Res p a) (hb : Res p b) (h : a ≠ b) : (a - b) % p ≠ 0 := by
 intro h0
 have h2 := Int.emod_emod_of_dvd
 have hd : p ∣ a - b := Int.dvd_of_emod_eq_zero h0
 obtain ⟨k,hk⟩ := hd
 obtain ⟨a0,a1⟩ := ha
 obtain ⟨b0,b1⟩ := hb
 have hk0 : k = 0 := by
  rcases Int.lt_trichotomy k 0 with h3|h3|h3
  ·have : p * k ≤ p * (-1) := Int.mul_le_mul_of_nonneg_left (by omega) (by omega)
   omega
  ·exact h3
  ·have : p * 1 ≤ p * k := Int.mul_le_mul_of_nonneg_left (by omega) (by omega)
   omega
 subst hk0
 simp at hk
 omega
def Box (w : World) (b : Nat) (x : Int) : Prop := w.heap[b]? = some (.cells #[.int .u64 x] 22 (0,0))
theorem Box.cell {w : World} {b : Nat} {x : Int} (h : Box w b x) : w.cell? ⟨b,0,none⟩ = some (.int .u64 x) := blk_cell h 0
theorem Box.frozen {w : World} {b : Nat} {x : Int} (h : Box w b x) : w.frozen? ⟨b,0,none⟩ = false := blk_frozen h 0
theorem Box.drewN {w : World} {b : Nat} {x : Int} (h : Box w b x) (n : Nat) : Box (w.drewN n) b x := h
theorem Box.far {w : World} {b : Nat} {x : Int} (h : Box w b x) {g : Nat} (hne : b ≠ g) (v : Value) : Box (w.setCell ⟨g,0,none⟩ v) b x := blk_far (p := ⟨g,0,none⟩) h hne v
theorem Box.put {w : World} {b : Nat} {x : Int} (h : Box w b x) (y : Int) : Box (w.setCell ⟨b,0,none⟩ (.int .u64 y)) b y := blk_put h 0 _ rfl
set_option maxHeartbeats 1000000 in
theorem lagc_calls {p : Int} (hp : Supp p) {n a d x o : Int} (hn : Res p n) (ha : Res p a) (hd : Res p d) (hx : Res p x) (ho : Res p o) (bp bn ba bd bx : Nat) (w : World)
  (hbp : Box w bp p) (hbn : Box w bn n) (hba : Box w ba a) (hbd : Box w bd d) (hbx : Box w bx x) (n1 : bp ≠ bn) (n2 : bp ≠ bd) (n3 : ba ≠ bn) (n5 : bx ≠ bn) (n7 : bn ≠ bd) :
  Calls Try.prog 61 #[.int .u64 o,.pointer (some ⟨bp,0,none⟩),.pointer (some ⟨bn,0,none⟩),.pointer (some ⟨ba,0,none⟩),.pointer (some ⟨bd,0,none⟩),.pointer (some ⟨bx,0,none⟩)] w
   fun e w' => e = .returned (.tuple #[]) ∧ ∃ i j,w' = (((w.drewN i).setCell ⟨bn,0,none⟩ (.int .u64 (n * ((a - o) % p) % p))).drewN j).setCell ⟨bd,0,none⟩ (.int .u64 (d * ((x - o) % p) % p)) := by
 obtain ⟨k1,hk1⟩ := (sub_ev hp ha ho).rounds
 obtain ⟨k2,hk2⟩ := (mul_ev hp hn (Res.mod hp (a - o))).rounds
 obtain ⟨k3,hk3⟩ := (sub_ev hp hx ho).rounds
 obtain ⟨k4,hk4⟩ := (mul_ev hp hd (Res.mod hp (x - o))).rounds
 have HK1 := Aside0.mk hk1
 have HK2 := Aside0.mk hk2
 have HK3 := Aside0.mk hk3
 have HK4 := Aside0.mk hk4
 have c1 := hbp.cell
 have c2 := hbn.cell
 have c3 := hba.cell
 have f2 := hbn.frozen
 clear hk1 hk2 hk3 hk4
 go_enter Try.func61,Try.ntmps61
 go_wp2
 refine wp_region_quiet_tail_drawn 7 (by kernel_rfl) (by kernel_rfl) ?_
 simp only [List.take_succ_cons,List.take_zero,List.drop_succ_cons,List.drop_zero]
 repeat (quiet_step (first|(go_at_call 44;refine Calls.quiet_of ((field_Sub.calls k1 _ _ _ ((a - o) % p) _ HK1.out).mono fun e w' h => ⟨h.1,h.2.out⟩))|(go_at_call 27;refine Calls.quiet_of ((field_Mul.calls k2 _ _ _ (n * ((a - o) % p) % p) _ HK2.out).mono fun e w' h => ⟨h.1,h.2.out⟩))))
 refine wpQuiet_nil ?_
 rintro _ ⟨nq,rfl⟩
 go_wp2
 have hW : ∃ W,W = (w.drewN nq).setCell ⟨bn,0,none⟩ (.int .u64 (n * ((a - o) % p) % p)) := ⟨_,rfl⟩
 obtain ⟨W,hW⟩ := hW
 rw [← hW]
 have d1 : W.cell? ⟨bp,0,none⟩ = some (.int .u64 p) := by rw [hW];exact ((hbp.drewN nq).far n1 _).cell
 have d4 : W.cell? ⟨bd,0,none⟩ = some (.int .u64 d) := by rw [hW];exact ((hbd.drewN nq).far (Ne.symm n7) _).cell
 have d5 : W.cell? ⟨bx,0,none⟩ = some (.int .u64 x) := by rw [hW];exact ((hbx.drewN nq).far n5 _).cell
 have g4 : W.frozen? ⟨bd,0,none⟩ = false := by rw [hW];exact ((hbd.drewN nq).far (Ne.symm n7) _).frozen
 have HW := Aside0.mk hW
 clear hW c1 c2 c3 f2
 refine wp_region_quiet_tail_drawn 7 (by kernel_rfl) (by kernel_rfl) ?_
 simp only [List.take_succ_cons,List.take_zero,List.drop_succ_cons,List.drop_zero]
 repeat (quiet_step (first|(go_at_call 44;refine Calls.quiet_of ((field_Sub.calls k3 _ _ _ ((x - o) % p) _ HK3.out).mono fun e w' h => ⟨h.1,h.2.out⟩))|(go_at_call 27;refine Calls.quiet_of ((field_Mul.calls k4 _ _ _ (d * ((x - o) % p) % p) _ HK4.out).mono fun e w' h => ⟨h.1,h.2.out⟩))))
 refine wpQuiet_nil ?_
 rintro _ ⟨nr,rfl⟩
 go_wp2
 go_end0
 rw [HW.out]
 exact ⟨rfl,nq,nr,rfl⟩
def othersN (xs : List Int) (but : Nat) : Nat → List Int
 | 0 => []
 | n + 1 => if n = but then othersN xs but n else othersN xs but n ++ [rd xs n]
set_option maxHeartbeats 1000000 in
theorem others_lag {σ : Type} (I : σ → World → Prop) (step : σ → Int → σ) (bp bn ba bd bx : Nat) (A : Option Addr) (c : Nat) (xs : List Int) (but : Nat) (hb : but < 1099511627776) (hl : xs.length ≤ 1099511627776)
  (hread : ∀ s w,I s w → Kd.C (Kd.int .u64) w A xs.length xs)
  (hcall : ∀ s w i,i < xs.length → i ≠ but → I s w → Calls Try.prog 61 #[.int .u64 (rd xs i),.pointer (some ⟨bp,0,none⟩),.pointer (some ⟨bn,0,none⟩),.pointer (some ⟨ba,0,none⟩),.pointer (some ⟨bd,0,none⟩),.pointer (some ⟨bx,0,none⟩)] w fun e w' => e = .returned (.tuple #[]) ∧ Aside0 (I (step s (rd xs i)) w'))
  (s : σ) (w : World) (hI : I s w) :
  Calls Try.prog 60 #[.slice A xs.length c,.int .i64 (but : Int),.func (.func 61) #[] #[.pointer (some ⟨bp,0,none⟩),.pointer (some ⟨bn,0,none⟩),.pointer (some ⟨ba,0,none⟩),.pointer (some ⟨bd,0,none⟩),.pointer (some ⟨bx,0,none⟩)]] w
   fun e w' => e = .returned (.tuple #[]) ∧ Aside0 (I ((othersN xs but xs.length).foldl step s) w') := by
 have HI := Aside0.mk hI
 have HR := Aside0.mk hread
 have HC := Aside0.mk hcall
 clear hI hread hcall
 go_enter Try.func60,Try.ntmps60
 go_wp2
 go_loopg [10] xs.length (fun kq v10 w' => ∃ (n : Nat),v10 = .int .i64 n ∧ Aside0 (kq + n = xs.length) ∧ Aside0 (I ((othersN xs but n).foldl step s) w'))
 case atStart => exact ⟨0,rfl,⟨rfl⟩,HI⟩
 case round =>
  obtain ⟨n,rfl,HK,HS⟩ := hrel
  clear HI
  by_cases hlt : n < xs.length
  ·have p1 : ((0 : Int) ≤ (n : Int)) = True := eq_true (by omega)
   have q1 : ((n : Int) < (xs.length : Int)) = True := eq_true (by omega)
   obtain ⟨ad,e1,hx⟩ := Kd.at_int (HR.out _ _ HS.out) (n : Int) (by omega) (by omega)
   cases e1
   rw [Int.toNat_natCast] at hx
   by_cases hnb : n = but
   ·have t1 : ((n : Int) != (but : Int)) = false := by rw [hnb];simp
    have HNB := Aside0.mk hnb
    clear hnb
    go_wp2
    go_roundg (xs.length - (n + 1))
    case measure => have := HK.out;omega
    case rel =>
     refine ⟨n + 1,by go_num,⟨by omega⟩,⟨?_⟩⟩
     rw [othersN,if_pos HNB.out];exact HS.out
   ·have t1 : ((n : Int) != (but : Int)) = true := by rw [bne_iff_ne];omega
    have hc := Aside0.mk (HC.out _ _ n hlt hnb HS.out)
    go_wp2_with (first|(go_at_call 61;(with_reducible refine hc.out.mono ?_);rintro e w' ⟨rfl,HS2⟩))
    go_roundg (xs.length - (n + 1))
    case measure => have := HK.out;omega
    case rel =>
     refine ⟨n + 1,by go_num,⟨by omega⟩,⟨?_⟩⟩
     rw [othersN,if_neg hnb,List.foldl_append];exact HS2.out
  ·have hd : decide ((n : Int) < (xs.length : Int)) = false := decide_eq_false (by omega)
   have hn : n = xs.length := by have := HK.out;omega
   subst hn
   go_wp2
   go_end0
   exact ⟨rfl,HS⟩
end Go.Proofs.Ytmdoaijkaaaglaa.Hw
end
