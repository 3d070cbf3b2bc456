/- Part 1 of the proof's texts, joined in build order. -/
import Derived.Test.YtjnkkfdlcbcelaaProg
import Derived.Test.YtjnkkfdlcbcelaaZISL0
import Derived.KernelRfl
import Derived.WalkKit
import Derived.Tactics
import Derived.Tactics2
import Derived.OrdersHeld
import Derived.Deep.Draws
import Derived.Laws.Externs
import Derived.Laws.Rows
import Derived.Below
import Derived.Deep.AppendLies
import Derived.Maps.AppendAt
import Derived.OwnWalk
import Derived.Laws.BytesArg
import Derived.Laws.MakeOwn
import Derived.Laws.OwnMore
import Derived.Deep.OwnRows
import Derived.Lib.ConvBytes
import Derived.Laws.Slices
import Derived.RowKit3
import Derived.Deep.LoopGhost
import Derived.Deep.QuietTactic
import Derived.BigQuiet
import Derived.WideLaws
import Derived.Deep.DeepCutAuto
import Derived.Deep.CutBlock
import Derived.Deep.RegionHeld3
import Derived.Lib.AppendStr
import Derived.ArgAppend
import Derived.Laws.IdiomCopy
import Derived.Laws.BitsLemmas
import Derived.RowKit
import Derived.Laws.BitsAllLaws
import Derived.StillTail
import Derived.Lib.Hide
set_option linter.unusedVariables false
set_option linter.unusedSimpArgs false
section
namespace Go.Proofs.Ytjnkkfdlcbcelaa.Hw
open Go.RowKit Go.Proofs.YtjnkkfdlcbcelaaW.PrintWords Go.Proofs.YtjnkkfdlcbcelaaW.PrintLast Go.Proofs.YtjnkkfdlcbcelaaW.PrintMore
theorem am {p : Prop} (h : p) : Aside0 p := ⟨h⟩
theorem od {p : Prop} [Decidable p] (h : decide p = true := by first|(with_reducible assumption)|assumption) : p := of_decide_eq_true h
section
variable {X : Type} {d : Kd X} {e : TypeId} {W w : World} {base : Nat} {ok : Nat → Prop} {v : Value} {xs : List X}
theorem rr (h : Aside0 (Kd.R d e W base ok v xs)) (f : Kd.R d e W base ok v xs → Kd.R d e w base ok v xs := by intro h_;(with_reducible repeat (first|apply Kd.R_alloc|apply Kd.R_drewN|apply Kd.R_drew));exact h_) : Kd.R d e w base ok v xs := f h.out
theorem cr {A : Option Addr} {n c : Nat} (h : Aside0 (Kd.R d e W base ok (.slice A n c) xs)) (f : Kd.C d W A xs.length xs → Kd.C d w A xs.length xs := by intro h_;repeat (first|exact h_|(with_reducible refine Kd.C_alloc ?_ _)|(with_reducible refine Kd.C_drewN ?_ _)|(with_reducible refine Kd.C_drew ?_))) : Kd.C d w A xs.length xs := f (Kd.R_reads' h.out).2.2
theorem rn (h : Aside0 (Kd.N d e W base ok v xs)) (f : Kd.N d e W base ok v xs → Kd.N d e w base ok v xs := by intro h_;(with_reducible repeat (first|apply Kd.N_alloc|apply Kd.N_drewN|apply Kd.N_drew));exact h_) : Kd.N d e w base ok v xs := f h.out
theorem cx {A : Option Addr} {n : Nat} (h : Aside0 (Kd.C d W A n xs)) (f : Kd.C d W A n xs → Kd.C d w A n xs := by intro h_;repeat (first|(with_reducible exact h_)|(with_reducible refine Kd.C_alloc ?_ _)|(with_reducible refine Kd.C_drewN ?_ _)|(with_reducible refine Kd.C_drew ?_)|exact h_)) : Kd.C d w A n xs := f h.out
theorem cb {A : Option Addr} {n : Nat} {w0 : World} (h : Aside0 (Kd.C d w0 A n xs)) (hb : Aside0 (Below w0.heap.size w0 W)) (f : Kd.C d W A n xs → Kd.C d w A n xs := by intro h_;repeat (first|exact h_|(with_reducible refine Kd.C_alloc ?_ _)|(with_reducible refine Kd.C_drewN ?_ _)|(with_reducible refine Kd.C_drew ?_))) : Kd.C d w A n xs := f (Kd.C_below h.out hb.out)
end
theorem bb {B : Nat} {w W W' : World} (h : Aside0 (Below B w W)) (f : Below B w W → Below B w W' := by intro h_;repeat (first|(with_reducible first|exact h_|apply below_alloc|apply pw_below_drewN|apply below_drew1)|exact h_)) : Below B w W' := f h.out
theorem bg {B : Nat} {w W W' : World} {g : Nat} (h : Aside0 (Below B w W)) (hg : Aside0 (w.heap.size ≤ g)) (f : Below B w W → w.heap.size ≤ g → Below B w W' := by intro h_ g_;repeat (first|(with_reducible first|exact h_|apply below_alloc|apply pw_below_drewN|apply below_drew1|refine below_set ?_ g_)|exact h_)) : Below B w W' := f h.out hg.out
theorem bc {w : World} {g : Nat} {t : TypeId} {cs : Array Value} (h : Aside0 (w.heap[g]? = some (.cells cs t (0,0)))) (i : Nat) {v : Value} (f : cs[i]? = some v := by rfl) : w.cell? ⟨g,i,none⟩ = some v := (blk_cell h.out i).trans f
theorem bf {w : World} {g : Nat} {t : TypeId} {cs : Array Value} (h : Aside0 (w.heap[g]? = some (.cells cs t (0,0)))) (i : Nat) : w.frozen? ⟨g,i,none⟩ = false := blk_frozen h.out i
theorem kb {w W w1 : World} {g : Nat} {o : Obj} (h : Aside0 (w.heap[g]? = some o)) (hb : Below W.heap.size W w1) (f : w.heap[g]? = some o → W.heap[g]? = some o := by intro h_;(with_reducible repeat (first|refine blk_drewN ?_ _|refine blk_drew ?_|refine blk_alloc ?_ _));exact h_) : w1.heap[g]? = some o := blk_below (f h.out) hb
theorem kx {w W : World} {g : Nat} {o : Obj} (h : Aside0 (w.heap[g]? = some o)) (f : w.heap[g]? = some o → W.heap[g]? = some o := by intro h_;(with_reducible repeat (first|refine blk_drewN ?_ _|refine blk_drew ?_|refine blk_alloc ?_ _));exact h_) : W.heap[g]? = some o := f h.out
def bz (n m : Nat) : Array Bool := ⟨(List.range n).map fun i => m.testBit i⟩
section
variable {P : Program} {ops : Array Oper} {Q : Exit → Act → World → Prop} {md : Region.Mode} {S : World → Prop} {ds : List Nat} {oi : Oper} {v : Value} {fuel : Nat} {l : Array Bool} {a a' : Act} {w : World}
theorem pu (i N : Nat) (l' : Array Bool) (h : wpAnyLast P md ops Q S ds fuel l' a' w) (hc : anyB md ops l l' i = true := by kernel_rfl)
  (hi : ops[i]? = some oi := by rfl) (hN : oi.dst = some N := by rfl) (hQ : ∀ c a w,Q (.panic c) (a.put oi.dst v) w → Q (.panic c) a w := by exact fun _ _ _ h => h) (hw : Region.wanted oi (yielded ops a.tmps) = true := by rfl)
  (hv : ∀ w',(execOp a.eval oi).run P w' = .ok (.value v) w' := by intro w';go_simp;with_reducible rfl)
  (ha : a.put (some N) v = a' := by simp only [Act.put,List.setIfInBounds_toArray,List.set_cons_zero,List.set_cons_succ,i64_w,i32_w];rfl) : wpAnyLast P md ops Q S ds (fuel + 1) l a w :=
 pure_ l' hi hN hc hQ (Or.inl ⟨hw,hv⟩) ha h
theorem pk {T : Bool × List (List Nat × List Nat)} (i N : Nat) (l' : Array Bool) (hT : Aside0 (rtab md ops = T)) (h : wpAnyLast P md ops Q S ds fuel l' a' w) (hc : anyT T l.toList l'.toList i = true := by kernel_rfl)
  (hi : ops[i]? = some oi := by rfl) (hN : oi.dst = some N := by rfl) (hQ : ∀ c a w,Q (.panic c) (a.put oi.dst v) w → Q (.panic c) a w := by exact fun _ _ _ h => h) (hw : Region.wanted oi (yielded ops a.tmps) = true := by rfl)
  (hv : ∀ w',(execOp a.eval oi).run P w' = .ok (.value v) w' := by intro w';go_simp;with_reducible rfl)
  (ha : a.put (some N) v = a' := by simp only [Act.put,List.setIfInBounds_toArray,List.set_cons_zero,List.set_cons_succ,i64_w,i32_w];rfl) : wpAnyLast P md ops Q S ds (fuel + 1) l a w :=
 pure_ l' hi hN (any_of hT.out hc) hQ (Or.inl ⟨hw,hv⟩) ha h
theorem pz {T : Bool × List (List Nat × List Nat)} (i N : Nat) (l' : Array Bool) (hT : Aside0 (rtab md ops = T)) (h : wpAnyLast P md ops Q S ds fuel l' a' w) (hc : anyT T l.toList l'.toList i = true := by kernel_rfl)
  (hi : ops[i]? = some oi := by rfl) (hN : oi.dst = some N := by rfl) (hQ : ∀ c a w,Q (.panic c) (a.put oi.dst undef) w → Q (.panic c) a w := by exact fun _ _ _ h => h) (hw : Region.wanted oi (yielded ops a.tmps) = false := by rfl)
  (ha : a.put (some N) undef = a' := by simp only [Act.put,List.setIfInBounds_toArray,List.set_cons_zero,List.set_cons_succ,i64_w,i32_w];rfl) : wpAnyLast P md ops Q S ds (fuel + 1) l a w :=
 pure_ l' hi hN (any_of hT.out hc) hQ (Or.inr ⟨hw,rfl⟩) ha h
theorem tu (i N : Nat) (l' : Array Bool) (hS : S w) (h : wpAnyLast P md ops Q S ds fuel l' a' w) (hc : takeB md ops ds l l' i = true := by kernel_rfl)
  (hi : ops[i]? = some oi := by rfl) (hN : oi.dst = some N := by rfl) (hQ : ∀ c a w,Q (.panic c) (a.put oi.dst v) w → Q (.panic c) a w := by exact fun _ _ _ h => h) (hw : Region.wanted oi (yielded ops a.tmps) = true := by rfl)
  (hv : ∀ w',S w' → (execOp a.eval oi).run P w' = .ok (.value v) w' := by intro w' s0;go_simp;with_reducible rfl)
  (ha : a.put (some N) v = a' := by simp only [Act.put,List.setIfInBounds_toArray,List.set_cons_zero,List.set_cons_succ,i64_w,i32_w];rfl) : wpAnyLast P md ops Q S ds (fuel + 1) l a w :=
 take_ l' hi hN hc hQ (Or.inl ⟨hw,hv⟩) hS ha h
theorem tk {T : Bool × List (List Nat × List Nat)} {B : List Nat} (i N : Nat) (l' : Array Bool) (hT : Aside0 (rtab md ops = T)) (hB : Aside0 (waitsOk T.2 B = true)) (hS : S w) (h : wpAnyLast P md ops Q S ds fuel l' a' w) (hc : takeW T B ds l.toList l'.toList i = true := by kernel_rfl)
  (hi : ops[i]? = some oi := by rfl) (hN : oi.dst = some N := by rfl) (hQ : ∀ c a w,Q (.panic c) (a.put oi.dst v) w → Q (.panic c) a w := by exact fun _ _ _ h => h) (hw : Region.wanted oi (yielded ops a.tmps) = true := by rfl)
  (hv : ∀ w',S w' → (execOp a.eval oi).run P w' = .ok (.value v) w' := by intro w' s0;go_simp;with_reducible rfl)
  (ha : a.put (some N) v = a' := by simp only [Act.put,List.setIfInBounds_toArray,List.set_cons_zero,List.set_cons_succ,i64_w,i32_w];rfl) : wpAnyLast P md ops Q S ds (fuel + 1) l a w :=
 take_ l' hi hN (take_ofW hT.out hB.out hc) hQ (Or.inl ⟨hw,hv⟩) hS ha h
theorem on {T : Bool × List (List Nat × List Nat)} (i N : Nat) (l' : Array Bool) (hT : Aside0 (rtab md ops = T)) (h : ∀ K : Act → World → Prop,Shut (∀ a' w',S w' → (S w' → wpAnyLast P md ops Q S ds fuel l' a' w') → K a' w') → if Region.wanted oi (yielded ops a.tmps) = true then Oper.wp P oi a w K Q else K (a.put (some N) undef) w)
  (hc : (readyT T.2 l.toList == [i] && l.toList.set i true == l'.toList) = true := by kernel_rfl) (hi : ops[i]? = some oi := by rfl) (hN : oi.dst = some N := by rfl) (hd : i ∉ ds := by decide) : wpAnyLast P md ops Q S ds (fuel + 1) l a w := one_ l' hi hN (one_of hT.out hc) hd h
theorem nm (N : Nat) (h : wpAnyLast P md ops Q S ds fuel l a' w) (ha : a.put (some N) v = a' := by simp only [Act.put,List.setIfInBounds_toArray,List.set_cons_zero,List.set_cons_succ,i64_w,i32_w];rfl) : wpAnyLast P md ops Q S ds fuel l (a.put (some N) v) w := norm_ ha h
end
section
variable {P : Program} {ops : Array Oper} {Q : Exit → Act → World → Prop}
theorem goesX_ {rest : List Oper} {oi : Oper} {a : Act} {w : World} (N : Option Tmp) (hd : oi.dst = N) (hg : oi.guard = none) {f : FuncId} {xs : Array Operand} {ts : Array TypeId} (args : Array Value)
  (hop : oi.op = .call { callee := .value (.func f),args := xs,argTypes := ts }) (hargs : xs.map a.eval = args) (v : Value) (hrun : (callFunc f args).run P w = .ok (.value v) w)
  (h : wpList P ops Q rest (a.put N v) w) : wpList P ops Q (oi :: rest) a w := by
 refine wpList_plain hg fun K hK => ?_
 have hr : (execOp a.eval oi).run P w = .ok (.value v) w := by
  unfold execOp
  simp [hop,resolve,Deferred.ofValue,invoke,Act.eval,hargs,hrun]
 unfold Oper.wp
 rw [hr,Oper.upon_value]
 subst hd
 exact hK _ _ h
end
theorem cut_cast {α : Type} {R : α → List Value → Prop} {sz : Nat} {w : World} {A : Option Addr} {n m : Nat} {xs : List α} (e : n = m) (h : ReadsRow R sz w A n xs) : ReadsRow R sz w A m xs := e ▸ h
theorem R_open {k : IntKind} {e base : Nat} {w : World} {ok : Nat → Prop} {v : Value} {xs : List Int} (h : Kd.R (Kd.int k) e w base ok v xs) (hn : 0 < xs.length) :
  ∃ b c,v = .slice (some ⟨b,0,none⟩) xs.length c ∧ base ≤ b ∧ w.ownsRow base e 1 (.slice (some ⟨b,0,none⟩) xs.length c) xs.length (nums k xs) := by
 have ho := Kd.own_of_R h
 rcases ho.2 with ⟨_,h0⟩|⟨b,c,cur,rfl,hb,_⟩
 ·omega
 ·exact ⟨b,c,rfl,hb,ho⟩
theorem R_made {k : IntKind} {e base : Nat} {w : World} {ok : Nat → Prop} {v : Value} {xs : List Int} (h : w.ownsRow base e 1 v xs.length (nums k xs)) (hok : ∀ b,v.ownBlock = some b → ok b) : Kd.R (Kd.int k) e w base ok v xs := Kd.R_of_own h hok
def bits_Add64.f (a0 : Int) (a1 : Int) (a2 : Int) : Option (Int × Int) :=
 if 0 ≤ a0 then (if 0 ≤ a1 then (if 0 ≤ a2 then (if a2 ≤ 1 then some ((a0 + a1 + a2) % 18446744073709551616,(a0 + a1 + a2) / 18446744073709551616) else none) else none) else none) else none
theorem bits_Add64.runs (a0 a1 a2 r1 r2 : Int) (w : World) (h : bits_Add64.f a0 a1 a2 = some (r1,r2)) :
  (callFunc 61 #[.int .u64 a0,.int .u64 a1,.int .u64 a2]).run Try.prog w = .ok (.value (.tuple #[.int .u64 r1,.int .u64 r2])) w := by
 unfold bits_Add64.f at h
 split at h
 ·split at h
  ·split at h
   ·split at h
    ·simp only [Option.some.injEq,Prod.mk.injEq] at h
     obtain ⟨rfl,rfl⟩ := h
     rw [run_callFunc_extern Try.func61 (by kernel_rfl) (by kernel_rfl) (by kernel_rfl) (e := add64Entry) (by kernel_rfl),run_add64 a0 a1 a2 (by assumption) (by assumption) (by assumption) (by assumption)]
     rfl
    ·simp at h
   ·simp at h
  ·simp at h
 ·simp at h
theorem R_setfar {α : Type} {d : Kd α} {e base g i : Nat} {ok : Nat → Prop} {w : World} {v u : Value} {xs : List α} (h : d.R e w base ok v xs) (hok : ∀ k,ok k → k ≠ g) : d.R e (w.setCell ⟨g,i,none⟩ u) base ok v xs :=
 Kd.R_move h fun k hk => heap_setCell_other _ ⟨g,i,none⟩ k _ (hok k hk)
end Go.Proofs.Ytjnkkfdlcbcelaa.Hw
end
section
namespace Go.Proofs.Ytjnkkfdlcbcelaa.Pr
open Go.RowKit Go.Proofs.YtjnkkfdlcbcelaaW.PrintWords Go.Proofs.YtjnkkfdlcbcelaaW.PrintLast Go.Proofs.YtjnkkfdlcbcelaaW.PrintMore
attribute [local go_sem] max2_int min2_int max_two min_two max_three min_three max_four min_four
open Go.Proofs.Ytjnkkfdlcbcelaa.Hw
def errW : Option Int → Value
 | none => .nilIface
 | some c => .iface 0 (.int .i64 c)
theorem errW_none : errW none = .nilIface := rfl
theorem errW_some (c : Int) : errW (some c) = .iface 0 (.int .i64 c) := rfl
theorem info22 : (Try.prog.info? 22).map (fun i => (i.zero,i.size,i.bytes)) = some (some (.int .u64 0),1,8) := by kernel_rfl
theorem info41 : (Try.prog.info? 41).map (fun i => (i.zero,i.size,i.bytes)) = some (some (.slice none 0 0),1,24) := by kernel_rfl
theorem info49 : (Try.prog.info? 49).map (fun i => (i.zero,i.size,i.bytes)) = some (some (.agg #[(.int .u64 0),(.int .u64 0)]),2,16) := by kernel_rfl
def rd_L1 (xs : List (List Int)) (i : Int) : (List Int) := xs.getD i.toNat ([] : List Int)
theorem at_L1 {w : World} {A : Option Addr} {n : Nat} {xs : List (List Int)} (h : Kd.C (Kd.slice 22 (Kd.int .u64)) w A n xs) (i : Int) (h0 : 0 ≤ i) (h1 : i < n) : ∃ ad A0 c0,A = some ad ∧ w.cell? (ad.add i.toNat) = some (.slice A0 (rd_L1 xs i).length c0) ∧ (rd_L1 xs i).length ≤ c0 ∧ (Kd.int .u64).C w A0 (rd_L1 xs i).length (rd_L1 xs i) := by
 obtain ⟨ad,c,e,_,hK,hc0⟩ := Kd.C_get h ([] : List Int) i h0 h1
 have hc : ∀ j u,c[j]? = some u → w.cell? (ad.add (i.toNat * 1 + j)) = some u := hc0
 obtain ⟨A0,c0,rfl,l0,g0⟩ := hK
 exact ⟨ad,A0,c0,e,by have hq := hc 0 _ rfl;rwa [Nat.mul_one,Nat.add_zero] at hq,l0,g0⟩
structure S49 where
 f0 : Int
 f1 : Int
def z49 : S49 := ⟨(0 : Int),(0 : Int)⟩
def k49 : Kd S49 := Kd.iso (Kd.pair (Kd.int .u64) (Kd.int .u64)) (fun x : S49 => (x.f0,x.f1))
theorem k49_open {w : World} {x : S49} {cs : List Value} (h : k49.K w x cs) : cs = [.int .u64 x.f0,.int .u64 x.f1] := by
 obtain ⟨_,_,rfl,rfl,rfl⟩ := h
 exact rfl
theorem k49_mk (w : World) (x : S49)  : k49.K w x [.int .u64 x.f0,.int .u64 x.f1] := ⟨[.int .u64 x.f0],[.int .u64 x.f1],rfl,rfl,rfl⟩
theorem k49_mkM (w : World) (base : Nat) (ok : Nat → Prop) (x : S49)  : k49.M w base ok x [.int .u64 x.f0,.int .u64 x.f1] := ⟨[.int .u64 x.f0],[.int .u64 x.f1],rfl,rfl,rfl⟩
def rd_T49 (xs : List S49) (i : Int) : S49 := xs.getD i.toNat z49
theorem at_T49 {w : World} {A : Option Addr} {n : Nat} {xs : List S49} (h : Kd.C k49 w A n xs) (i : Int) (h0 : 0 ≤ i) (h1 : i < n) : ∃ ad ,A = some ad ∧ w.cell? (ad.add (i.toNat * 2)) = some (.int .u64 (rd_T49 xs i).f0) ∧ w.cell? ⟨(ad.add (i.toNat * 2)).block,(ad.add (i.toNat * 2)).off + 1,none⟩ = some (.int .u64 (rd_T49 xs i).f1) := by
 obtain ⟨ad,c,e,_,hK,hc0⟩ := Kd.C_get h z49 i h0 h1
 have hc : ∀ j u,c[j]? = some u → w.cell? (ad.add (i.toNat * 2 + j)) = some u := hc0
 obtain rfl := k49_open hK
 exact ⟨ad,e,hc 0 _ rfl,by rw [← add_field _ _ 1 (by omega)];exact hc 1 _ rfl⟩
def rd_L5 (xs : List (List (List Int))) (i : Int) : (List (List Int)) := xs.getD i.toNat ([] : List (List Int))
theorem at_L5 {w : World} {A : Option Addr} {n : Nat} {xs : List (List (List Int))} (h : Kd.C (Kd.slice 41 (Kd.slice 22 (Kd.int .u64))) w A n xs) (i : Int) (h0 : 0 ≤ i) (h1 : i < n) : ∃ ad A0 c0,A = some ad ∧ w.cell? (ad.add i.toNat) = some (.slice A0 (rd_L5 xs i).length c0) ∧ (rd_L5 xs i).length ≤ c0 ∧ (Kd.slice 22 (Kd.int .u64)).C w A0 (rd_L5 xs i).length (rd_L5 xs i) := by
 obtain ⟨ad,c,e,_,hK,hc0⟩ := Kd.C_get h ([] : List (List Int)) i h0 h1
 have hc : ∀ j u,c[j]? = some u → w.cell? (ad.add (i.toNat * 1 + j)) = some u := hc0
 obtain ⟨A0,c0,rfl,l0,g0⟩ := hK
 exact ⟨ad,A0,c0,e,by have hq := hc 0 _ rfl;rwa [Nat.mul_one,Nat.add_zero] at hq,l0,g0⟩
def bits_Len64.j0 : Nat → Int → Int → Option (Int)
 | 0,_,_ => none
 | k + 1,x0,x2 => if x0 ≥ 65536 then (if (x0 / 65536) ≥ 256 then (if 0 ≤ (((x0 / 65536) / 256) % 256) then (if (((x0 / 65536) / 256) % 256) < 256 then (some (wrap64 ((wrap64 ((wrap64 (x2 + 16)) + 8)) + (wrap64 (bt (⟨#[0,1,2,2,3,3,3,3,4,4,4,4,4,4,4,4,5,5,5,5,5,5,5,5,5,5,5,5,5,5,5,5,6,6,6,6,6,6,6,6,6,6,6,6,6,6,6,6,6,6,6,6,6,6,6,6,6,6,6,6,6,6,6,6,7,7,7,7,7,7,7,7,7,7,7,7,7,7,7,7,7,7,7,7,7,7,7,7,7,7,7,7,7,7,7,7,7,7,7,7,7,7,7,7,7,7,7,7,7,7,7,7,7,7,7,7,7,7,7,7,7,7,7,7,7,7,7,7,8,8,8,8,8,8,8,8,8,8,8,8,8,8,8,8,8,8,8,8,8,8,8,8,8,8,8,8,8,8,8,8,8,8,8,8,8,8,8,8,8,8,8,8,8,8,8,8,8,8,8,8,8,8,8,8,8,8,8,8,8,8,8,8,8,8,8,8,8,8,8,8,8,8,8,8,8,8,8,8,8,8,8,8,8,8,8,8,8,8,8,8,8,8,8,8,8,8,8,8,8,8,8,8,8,8,8,8,8,8,8,8,8,8,8,8,8,8,8,8,8,8,8,8,8,8,8,8]⟩ : ByteArray) (((x0 / 65536) / 256) % 256)))))) else (none)) else (none)) else (if 0 ≤ ((x0 / 65536) % 256) then (if ((x0 / 65536) % 256) < 256 then (some (wrap64 ((wrap64 (x2 + 16)) + (wrap64 (bt (⟨#[0,1,2,2,3,3,3,3,4,4,4,4,4,4,4,4,5,5,5,5,5,5,5,5,5,5,5,5,5,5,5,5,6,6,6,6,6,6,6,6,6,6,6,6,6,6,6,6,6,6,6,6,6,6,6,6,6,6,6,6,6,6,6,6,7,7,7,7,7,7,7,7,7,7,7,7,7,7,7,7,7,7,7,7,7,7,7,7,7,7,7,7,7,7,7,7,7,7,7,7,7,7,7,7,7,7,7,7,7,7,7,7,7,7,7,7,7,7,7,7,7,7,7,7,7,7,7,7,8,8,8,8,8,8,8,8,8,8,8,8,8,8,8,8,8,8,8,8,8,8,8,8,8,8,8,8,8,8,8,8,8,8,8,8,8,8,8,8,8,8,8,8,8,8,8,8,8,8,8,8,8,8,8,8,8,8,8,8,8,8,8,8,8,8,8,8,8,8,8,8,8,8,8,8,8,8,8,8,8,8,8,8,8,8,8,8,8,8,8,8,8,8,8,8,8,8,8,8,8,8,8,8,8,8,8,8,8,8,8,8,8,8,8,8,8,8,8,8,8,8,8,8,8,8,8,8]⟩ : ByteArray) ((x0 / 65536) % 256)))))) else (none)) else (none))) else (if x0 ≥ 256 then (if 0 ≤ ((x0 / 256) % 256) then (if ((x0 / 256) % 256) < 256 then (some (wrap64 ((wrap64 (x2 + 8)) + (wrap64 (bt (⟨#[0,1,2,2,3,3,3,3,4,4,4,4,4,4,4,4,5,5,5,5,5,5,5,5,5,5,5,5,5,5,5,5,6,6,6,6,6,6,6,6,6,6,6,6,6,6,6,6,6,6,6,6,6,6,6,6,6,6,6,6,6,6,6,6,7,7,7,7,7,7,7,7,7,7,7,7,7,7,7,7,7,7,7,7,7,7,7,7,7,7,7,7,7,7,7,7,7,7,7,7,7,7,7,7,7,7,7,7,7,7,7,7,7,7,7,7,7,7,7,7,7,7,7,7,7,7,7,7,8,8,8,8,8,8,8,8,8,8,8,8,8,8,8,8,8,8,8,8,8,8,8,8,8,8,8,8,8,8,8,8,8,8,8,8,8,8,8,8,8,8,8,8,8,8,8,8,8,8,8,8,8,8,8,8,8,8,8,8,8,8,8,8,8,8,8,8,8,8,8,8,8,8,8,8,8,8,8,8,8,8,8,8,8,8,8,8,8,8,8,8,8,8,8,8,8,8,8,8,8,8,8,8,8,8,8,8,8,8,8,8,8,8,8,8,8,8,8,8,8,8,8,8,8,8,8,8]⟩ : ByteArray) ((x0 / 256) % 256)))))) else (none)) else (none)) else (if 0 ≤ ((x0) % 256) then (if ((x0) % 256) < 256 then (some (wrap64 (x2 + (wrap64 (bt (⟨#[0,1,2,2,3,3,3,3,4,4,4,4,4,4,4,4,5,5,5,5,5,5,5,5,5,5,5,5,5,5,5,5,6,6,6,6,6,6,6,6,6,6,6,6,6,6,6,6,6,6,6,6,6,6,6,6,6,6,6,6,6,6,6,6,7,7,7,7,7,7,7,7,7,7,7,7,7,7,7,7,7,7,7,7,7,7,7,7,7,7,7,7,7,7,7,7,7,7,7,7,7,7,7,7,7,7,7,7,7,7,7,7,7,7,7,7,7,7,7,7,7,7,7,7,7,7,7,7,8,8,8,8,8,8,8,8,8,8,8,8,8,8,8,8,8,8,8,8,8,8,8,8,8,8,8,8,8,8,8,8,8,8,8,8,8,8,8,8,8,8,8,8,8,8,8,8,8,8,8,8,8,8,8,8,8,8,8,8,8,8,8,8,8,8,8,8,8,8,8,8,8,8,8,8,8,8,8,8,8,8,8,8,8,8,8,8,8,8,8,8,8,8,8,8,8,8,8,8,8,8,8,8,8,8,8,8,8,8,8,8,8,8,8,8,8,8,8,8,8,8,8,8,8,8,8,8]⟩ : ByteArray) ((x0) % 256)))))) else (none)) else (none)))
def bits_Len64.f (k : Nat) (a0 : Int) : Option (Int) := if a0 ≥ 4294967296 then (bits_Len64.j0 k (a0 / 4294967296) 32) else (bits_Len64.j0 k a0 0)
theorem bits_Len64.mono_l : ∀ k,(∀ y0 y1,LeO (bits_Len64.j0 k y0 y1) (bits_Len64.j0 (k + 1) y0 y1))
 | 0 => fun _ _ r h => by simp [bits_Len64.j0] at h
 | k + 1 => by
  have ih0 := bits_Len64.mono_l k
  ·intro y0 y1
   unfold bits_Len64.j0
   repeat' first
   | (with_reducible exact ih0 _ _)
   | (with_reducible exact LeO.refl _)
   | (with_reducible exact LeO.none _)
   | (with_reducible refine LeO.ite ?_ ?_)
   | (with_reducible refine LeO.bind ?_ (fun _ => ?_))
   | exact ih0 _ _
   | exact LeO.none _
   | refine LeO.ite ?_ ?_
   | refine LeO.bind ?_ (fun _ => ?_)
theorem bits_Len64.mono : ∀ a0 k,LeO (bits_Len64.f k a0) (bits_Len64.f (k + 1) a0) := by
 intro a0 k
 have ih0 := bits_Len64.mono_l k
 unfold bits_Len64.f
 repeat' first
   | (with_reducible exact ih0 _ _)
   | (with_reducible exact LeO.refl _)
   | (with_reducible exact LeO.none _)
   | (with_reducible refine LeO.ite ?_ ?_)
   | (with_reducible refine LeO.bind ?_ (fun _ => ?_))
   | exact ih0 _ _
   | exact LeO.none _
   | refine LeO.ite ?_ ?_
   | refine LeO.bind ?_ (fun _ => ?_)
set_option maxHeartbeats 8000000 in
set_option maxRecDepth 100000 in
theorem bits_Len64.calls (k : Nat) (a0 : Int) (r : Int) (w : World) (h : bits_Len64.f k a0 = some r) :
  Calls Try.prog 72 #[.int .u64 a0] w fun e w' => e = .returned (.int .i64 r) ∧ Drawn0 w w' := by
 have H : (if a0 ≥ 4294967296 then (bits_Len64.j0 k (a0 / 4294967296) 32) else (bits_Len64.j0 k a0 0)) = some r := h
 clear h
 have HC2 := am H
 clear H
 go_enter Try.func72,Try.ntmps72
 go_upto_if 4 with (fail)
 go_cut [0,2] (fun v0 v2 wc => ∃ (kq : Nat) (x0_1 : Int) (x2_1 : Int),v0 = .int .u64 x0_1 ∧ v2 = .int .i64 x2_1 ∧ Aside0 (bits_Len64.j0 kq x0_1 x2_1 = some r) ∧ Aside0 (kq ≤ k) ∧ Drawn0 w wc)
 case first =>
  have H := HC2.out
  clear HC2
  by_cases c3 : a0 ≥ 4294967296
  ·rw [if_pos c3] at H
   have c3b0 : decide (4294967296 ≤ a0) = true := decide_eq_true c3
   clear c3
   (first|rw [c3b0]|(simp only [i64_w,i32_w];rw [c3b0])|skip)
   have H' := am H
   clear H
   go_wp2
   go_meet
   case rel => exact ⟨_,(a0 / 4294967296),(32),(by first|rfl|(simp;done)|(simp [*];done)),(by first|rfl|(simp;done)|(simp [*];done)),H',⟨by first|omega|exact Nat.le_refl _⟩,by repeat (first|exact Drawn0.refl _|apply Drawn0.step)⟩
  ·rw [if_neg c3] at H
   have c3b0 : decide (4294967296 ≤ a0) = false := decide_eq_false c3
   clear c3
   (first|rw [c3b0]|(simp only [i64_w,i32_w];rw [c3b0])|skip)
   have H' := am H
   clear H
   go_wp2
   go_meet
   case rel => exact ⟨_,(a0),(0),(by first|rfl|(simp;done)|(simp [*];done)),(by first|rfl|(simp;done)|(simp [*];done)),H',⟨by first|omega|exact Nat.le_refl _⟩,by repeat (first|exact Drawn0.refl _|apply Drawn0.step)⟩
 case rest =>
  clear HC2
  try clear p2
  try clear c3
  try clear c3b0
  obtain ⟨kq,x0_1,x2_1,rfl,rfl,HA,HJ1,⟨mc1,rfl⟩⟩ := hcut
  cases kq with
  | zero => exact absurd HA.out (by simp [bits_Len64.j0])
  | succ kj1 =>
   have H := HA.out
   clear HA
   simp only [bits_Len64.j0] at H
   by_cases c4 : x0_1 ≥ 65536
   ·rw [if_pos c4] at H
    have c4b0 : decide (65536 ≤ x0_1) = true := decide_eq_true c4
    clear c4
    by_cases c5 : (x0_1 / 65536) ≥ 256
    ·rw [if_pos c5] at H
     have c5b0 : decide (256 ≤ (x0_1 / 65536)) = true := decide_eq_true c5
     clear c5
     obtain ⟨ji6,hji6⟩ : ∃ j_ : Int,(((x0_1 / 65536) / 256) % 256) = j_ := ⟨_,rfl⟩
     first|rw [hji6] at H|simp only [hji6] at H
     by_cases c7 : 0 ≤ (ji6)
     ·rw [if_pos c7] at H
      have c7b0 : decide (0 ≤ (ji6)) = true := decide_eq_true c7
      clear c7
      by_cases c8 : (ji6) < 256
      ·rw [if_pos c8] at H
       have c8b0 : decide ((ji6) < 256) = true := decide_eq_true c8
       clear c8
       obtain rfl := Option.some.inj H
       have p9 : 0 ≤ ((ji6) : Int) := od
       have q9 : (ji6) < (256 : Int) := od
       have hx9 := bt_at (⟨#[0,1,2,2,3,3,3,3,4,4,4,4,4,4,4,4,5,5,5,5,5,5,5,5,5,5,5,5,5,5,5,5,6,6,6,6,6,6,6,6,6,6,6,6,6,6,6,6,6,6,6,6,6,6,6,6,6,6,6,6,6,6,6,6,7,7,7,7,7,7,7,7,7,7,7,7,7,7,7,7,7,7,7,7,7,7,7,7,7,7,7,7,7,7,7,7,7,7,7,7,7,7,7,7,7,7,7,7,7,7,7,7,7,7,7,7,7,7,7,7,7,7,7,7,7,7,7,7,8,8,8,8,8,8,8,8,8,8,8,8,8,8,8,8,8,8,8,8,8,8,8,8,8,8,8,8,8,8,8,8,8,8,8,8,8,8,8,8,8,8,8,8,8,8,8,8,8,8,8,8,8,8,8,8,8,8,8,8,8,8,8,8,8,8,8,8,8,8,8,8,8,8,8,8,8,8,8,8,8,8,8,8,8,8,8,8,8,8,8,8,8,8,8,8,8,8,8,8,8,8,8,8,8,8,8,8,8,8,8,8,8,8,8,8,8,8,8,8,8,8,8,8,8,8,8,8]⟩ : ByteArray) (ji6)
       replace p9 := eq_true p9
       replace q9 := eq_true q9
       go_wp2
       go_ret
       exact ⟨by first|rfl|(simp;done)|(simp only [← hji6] <;> (first|rfl|simp))|(simp [*];done),by repeat (first|exact Drawn0.refl _|apply Drawn0.step)⟩
      ·rw [if_neg c8] at H
       exact absurd H (by simp)
     ·rw [if_neg c7] at H
      exact absurd H (by simp)
    ·rw [if_neg c5] at H
     have c5b0 : decide (256 ≤ (x0_1 / 65536)) = false := decide_eq_false c5
     clear c5
     obtain ⟨ji10,hji10⟩ : ∃ j_ : Int,((x0_1 / 65536) % 256) = j_ := ⟨_,rfl⟩
     first|rw [hji10] at H|simp only [hji10] at H
     by_cases c11 : 0 ≤ (ji10)
     ·rw [if_pos c11] at H
      have c11b0 : decide (0 ≤ (ji10)) = true := decide_eq_true c11
      clear c11
      by_cases c12 : (ji10) < 256
      ·rw [if_pos c12] at H
       have c12b0 : decide ((ji10) < 256) = true := decide_eq_true c12
       clear c12
       obtain rfl := Option.some.inj H
       have p13 : 0 ≤ ((ji10) : Int) := od
       have q13 : (ji10) < (256 : Int) := od
       have hx13 := bt_at (⟨#[0,1,2,2,3,3,3,3,4,4,4,4,4,4,4,4,5,5,5,5,5,5,5,5,5,5,5,5,5,5,5,5,6,6,6,6,6,6,6,6,6,6,6,6,6,6,6,6,6,6,6,6,6,6,6,6,6,6,6,6,6,6,6,6,7,7,7,7,7,7,7,7,7,7,7,7,7,7,7,7,7,7,7,7,7,7,7,7,7,7,7,7,7,7,7,7,7,7,7,7,7,7,7,7,7,7,7,7,7,7,7,7,7,7,7,7,7,7,7,7,7,7,7,7,7,7,7,7,8,8,8,8,8,8,8,8,8,8,8,8,8,8,8,8,8,8,8,8,8,8,8,8,8,8,8,8,8,8,8,8,8,8,8,8,8,8,8,8,8,8,8,8,8,8,8,8,8,8,8,8,8,8,8,8,8,8,8,8,8,8,8,8,8,8,8,8,8,8,8,8,8,8,8,8,8,8,8,8,8,8,8,8,8,8,8,8,8,8,8,8,8,8,8,8,8,8,8,8,8,8,8,8,8,8,8,8,8,8,8,8,8,8,8,8,8,8,8,8,8,8,8,8,8,8,8,8]⟩ : ByteArray) (ji10)
       replace p13 := eq_true p13
       replace q13 := eq_true q13
       go_wp2
       go_ret
       exact ⟨by first|rfl|(simp;done)|(simp only [← hji10] <;> (first|rfl|simp))|(simp [*];done),by repeat (first|exact Drawn0.refl _|apply Drawn0.step)⟩
      ·rw [if_neg c12] at H
       exact absurd H (by simp)
     ·rw [if_neg c11] at H
      exact absurd H (by simp)
   ·rw [if_neg c4] at H
    have c4b0 : decide (65536 ≤ x0_1) = false := decide_eq_false c4
    clear c4
    by_cases c14 : x0_1 ≥ 256
    ·rw [if_pos c14] at H
     have c14b0 : decide (256 ≤ x0_1) = true := decide_eq_true c14
     clear c14
     obtain ⟨ji15,hji15⟩ : ∃ j_ : Int,((x0_1 / 256) % 256) = j_ := ⟨_,rfl⟩
     first|rw [hji15] at H|simp only [hji15] at H
     by_cases c16 : 0 ≤ (ji15)
     ·rw [if_pos c16] at H
      have c16b0 : decide (0 ≤ (ji15)) = true := decide_eq_true c16
      clear c16
      by_cases c17 : (ji15) < 256
      ·rw [if_pos c17] at H
       have c17b0 : decide ((ji15) < 256) = true := decide_eq_true c17
       clear c17
       obtain rfl := Option.some.inj H
       have p18 : 0 ≤ ((ji15) : Int) := od
       have q18 : (ji15) < (256 : Int) := od
       have hx18 := bt_at (⟨#[0,1,2,2,3,3,3,3,4,4,4,4,4,4,4,4,5,5,5,5,5,5,5,5,5,5,5,5,5,5,5,5,6,6,6,6,6,6,6,6,6,6,6,6,6,6,6,6,6,6,6,6,6,6,6,6,6,6,6,6,6,6,6,6,7,7,7,7,7,7,7,7,7,7,7,7,7,7,7,7,7,7,7,7,7,7,7,7,7,7,7,7,7,7,7,7,7,7,7,7,7,7,7,7,7,7,7,7,7,7,7,7,7,7,7,7,7,7,7,7,7,7,7,7,7,7,7,7,8,8,8,8,8,8,8,8,8,8,8,8,8,8,8,8,8,8,8,8,8,8,8,8,8,8,8,8,8,8,8,8,8,8,8,8,8,8,8,8,8,8,8,8,8,8,8,8,8,8,8,8,8,8,8,8,8,8,8,8,8,8,8,8,8,8,8,8,8,8,8,8,8,8,8,8,8,8,8,8,8,8,8,8,8,8,8,8,8,8,8,8,8,8,8,8,8,8,8,8,8,8,8,8,8,8,8,8,8,8,8,8,8,8,8,8,8,8,8,8,8,8,8,8,8,8,8,8]⟩ : ByteArray) (ji15)
       replace p18 := eq_true p18
       replace q18 := eq_true q18
       go_wp2
       go_ret
       exact ⟨by first|rfl|(simp;done)|(simp only [← hji15] <;> (first|rfl|simp))|(simp [*];done),by repeat (first|exact Drawn0.refl _|apply Drawn0.step)⟩
      ·rw [if_neg c17] at H
       exact absurd H (by simp)
     ·rw [if_neg c16] at H
      exact absurd H (by simp)
    ·rw [if_neg c14] at H
     have c14b0 : decide (256 ≤ x0_1) = false := decide_eq_false c14
     clear c14
     obtain ⟨ji19,hji19⟩ : ∃ j_ : Int,((x0_1) % 256) = j_ := ⟨_,rfl⟩
     first|rw [hji19] at H|simp only [hji19] at H
     by_cases c20 : 0 ≤ (ji19)
     ·rw [if_pos c20] at H
      have c20b0 : decide (0 ≤ (ji19)) = true := decide_eq_true c20
      clear c20
      by_cases c21 : (ji19) < 256
      ·rw [if_pos c21] at H
       have c21b0 : decide ((ji19) < 256) = true := decide_eq_true c21
       clear c21
       obtain rfl := Option.some.inj H
       have p22 : 0 ≤ ((ji19) : Int) := od
       have q22 : (ji19) < (256 : Int) := od
       have hx22 := bt_at (⟨#[0,1,2,2,3,3,3,3,4,4,4,4,4,4,4,4,5,5,5,5,5,5,5,5,5,5,5,5,5,5,5,5,6,6,6,6,6,6,6,6,6,6,6,6,6,6,6,6,6,6,6,6,6,6,6,6,6,6,6,6,6,6,6,6,7,7,7,7,7,7,7,7,7,7,7,7,7,7,7,7,7,7,7,7,7,7,7,7,7,7,7,7,7,7,7,7,7,7,7,7,7,7,7,7,7,7,7,7,7,7,7,7,7,7,7,7,7,7,7,7,7,7,7,7,7,7,7,7,8,8,8,8,8,8,8,8,8,8,8,8,8,8,8,8,8,8,8,8,8,8,8,8,8,8,8,8,8,8,8,8,8,8,8,8,8,8,8,8,8,8,8,8,8,8,8,8,8,8,8,8,8,8,8,8,8,8,8,8,8,8,8,8,8,8,8,8,8,8,8,8,8,8,8,8,8,8,8,8,8,8,8,8,8,8,8,8,8,8,8,8,8,8,8,8,8,8,8,8,8,8,8,8,8,8,8,8,8,8,8,8,8,8,8,8,8,8,8,8,8,8,8,8,8,8,8,8]⟩ : ByteArray) (ji19)
       replace p22 := eq_true p22
       replace q22 := eq_true q22
       go_wp2
       go_ret
       exact ⟨by first|rfl|(simp;done)|(simp only [← hji19] <;> (first|rfl|simp))|(simp [*];done),by repeat (first|exact Drawn0.refl _|apply Drawn0.step)⟩
      ·rw [if_neg c21] at H
       exact absurd H (by simp)
     ·rw [if_neg c20] at H
      exact absurd H (by simp)
def field_width.f (k : Nat) (a0 : Int) : Option (Int) := (bits_Len64.f k a0).bind fun t101 => (some (IntKind.u64.wrap (t101)))
theorem field_width.mono : ∀ a0 k,LeO (field_width.f k a0) (field_width.f (k + 1) a0) := by
 intro a0 k
 unfold field_width.f
 repeat' first
   | (with_reducible exact bits_Len64.mono _ _)
   | (with_reducible exact LeO.refl _)
   | (with_reducible exact LeO.none _)
   | (with_reducible refine LeO.ite ?_ ?_)
   | (with_reducible refine LeO.bind ?_ (fun _ => ?_))
   | exact bits_Len64.mono _ _
   | exact LeO.none _
   | refine LeO.ite ?_ ?_
   | refine LeO.bind ?_ (fun _ => ?_)
set_option maxHeartbeats 8000000 in
set_option maxRecDepth 100000 in
theorem field_width.calls (k : Nat) (a0 : Int) (r : Int) (w : World) (h : field_width.f k a0 = some r) :
  Calls Try.prog 60 #[.int .u64 a0] w fun e w' => e = .returned (.int .u64 r) ∧ Drawn0 w w' := by
 have H : ((bits_Len64.f k a0).bind fun t101 => (some (IntKind.u64.wrap (t101)))) = some r := h
 clear h
 replace H := Option.bind_eq_some_iff.mp H
 obtain ⟨t101,A20,H⟩ := H
 try dsimp only at H
 have A2 := am A20
 clear A20
 obtain rfl := Option.some.inj H
 go_enter Try.func60,Try.ntmps60
 go_wp2_with (first|((with_reducible refine gate_callee (f := 72) rfl ?_);refine goesL_ (some 4) rfl rfl Try.func72 (by kernel_rfl) rfl #[.int .u64 a0] rfl (by (try simp only [List.map_toArray,List.map_cons,List.map_nil]);first|done|rfl|(simp only [List.length_drop,List.length_take];rfl)) ?_;(with_reducible refine (bits_Len64.calls k a0 t101 _ A2.out).mono ?_);rintro e w' ⟨rfl,⟨nd,rfl⟩⟩;refine ⟨_,rfl,?_⟩))
 go_ret
 exact ⟨by first|rfl|(simp;done)|(simp [*];done),by repeat (first|exact Drawn0.refl _|apply Drawn0.step)⟩
def field_fold.l0 : Nat → Int → Int → Int → Int → Option (Int)
 | 0,_,_,_,_ => none
 | k + 1,x0,x1,x2,x7 => if x1 = 0 then (if x2 > x0 then (if 0 ≤ x7 then (if 0 ≤ (IntKind.u64.wrap (64 - x7)) then ((bits_Add64.f (Go.bits .or .u64 (shr .u64 x2 x7) (shl .u64 x1 (IntKind.u64.wrap (64 - x7)))) (Go.bits .and .u64 x2 x0) 0).bind fun bt103 => (field_fold.l0 k x0 (IntKind.u64.wrap ((shr .u64 x1 x7) + bt103.2)) bt103.1 x7)) else (none)) else (none)) else (if x2 = x0 then (some 0) else (some x2))) else (if 0 ≤ x7 then (if 0 ≤ (IntKind.u64.wrap (64 - x7)) then ((bits_Add64.f (Go.bits .or .u64 (shr .u64 x2 x7) (shl .u64 x1 (IntKind.u64.wrap (64 - x7)))) (Go.bits .and .u64 x2 x0) 0).bind fun bt105 => (field_fold.l0 k x0 (IntKind.u64.wrap ((shr .u64 x1 x7) + bt105.2)) bt105.1 x7)) else (none)) else (none))
def field_fold.f (k : Nat) (a0 : Int) (a1 : Int) (a2 : Int) : Option (Int) := (field_width.f k a0).bind fun t102 => (field_fold.l0 k a0 a1 a2 t102)
theorem field_fold.mono_l : ∀ k,(∀ y0 y1 y2 y3,LeO (field_fold.l0 k y0 y1 y2 y3) (field_fold.l0 (k + 1) y0 y1 y2 y3))
 | 0 => fun _ _ _ _ r h => by simp [field_fold.l0] at h
 | k + 1 => by
  have ih0 := field_fold.mono_l k
  ·intro y0 y1 y2 y3
   unfold field_fold.l0
   repeat' first
   | (with_reducible exact ih0 _ _ _ _)
   | (with_reducible exact field_width.mono _ _)
   | (with_reducible exact LeO.refl _)
   | (with_reducible exact LeO.none _)
   | (with_reducible refine LeO.ite ?_ ?_)
   | (with_reducible refine LeO.bind ?_ (fun _ => ?_))
   | exact ih0 _ _ _ _
   | exact field_width.mono _ _
   | exact LeO.none _
   | refine LeO.ite ?_ ?_
   | refine LeO.bind ?_ (fun _ => ?_)
theorem field_fold.mono : ∀ a0 a1 a2 k,LeO (field_fold.f k a0 a1 a2) (field_fold.f (k + 1) a0 a1 a2) := by
 intro a0 a1 a2 k
 have ih0 := field_fold.mono_l k
 unfold field_fold.f
 repeat' first
   | (with_reducible exact ih0 _ _ _ _)
   | (with_reducible exact field_width.mono _ _)
   | (with_reducible exact LeO.refl _)
   | (with_reducible exact LeO.none _)
   | (with_reducible refine LeO.ite ?_ ?_)
   | (with_reducible refine LeO.bind ?_ (fun _ => ?_))
   | exact ih0 _ _ _ _
   | exact field_width.mono _ _
   | exact LeO.none _
   | refine LeO.ite ?_ ?_
   | refine LeO.bind ?_ (fun _ => ?_)
set_option maxHeartbeats 8000000 in
set_option maxRecDepth 100000 in
theorem field_fold.calls (k : Nat) (a0 : Int) (a1 : Int) (a2 : Int) (r : Int) (w : World) (h : field_fold.f k a0 a1 a2 = some r) :
  Calls Try.prog 43 #[.int .u64 a0,.int .u64 a1,.int .u64 a2] w fun e w' => e = .returned (.int .u64 r) ∧ Drawn0 w w' := by
 have H : ((field_width.f k a0).bind fun t102 => (field_fold.l0 k a0 a1 a2 t102)) = some r := h
 clear h
 replace H := Option.bind_eq_some_iff.mp H
 obtain ⟨t102,A40,H⟩ := H
 try dsimp only at H
 have A4 := am A40
 clear A40
 have H' := am H
 clear H
 go_enter Try.func43,Try.ntmps43
 go_wp2_with (first|((with_reducible refine gate_callee (f := 60) rfl ?_);refine goesL_ (some 12) rfl rfl Try.func60 (by kernel_rfl) rfl #[.int .u64 a0] rfl (by (try simp only [List.map_toArray,List.map_cons,List.map_nil]);first|done|rfl|(simp only [List.length_drop,List.length_take];rfl)) ?_;(with_reducible refine (field_width.calls k a0 t102 _ A4.out).mono ?_);rintro e w' ⟨rfl,⟨nd,rfl⟩⟩;refine ⟨_,rfl,?_⟩))
 go_loopg [1,2] k (fun kq v1 v2 w' => ∃ (x1_1 : Int) (x2_1 : Int),v1 = .int .u64 x1_1 ∧ v2 = .int .u64 x2_1 ∧ Aside0 (field_fold.l0 kq a0 x1_1 x2_1 t102 = some r) ∧ Aside0 (kq ≤ k) ∧ Drawn0 w w')
 case atStart => exact ⟨(a1),(a2),(by first|rfl|(simp;done)|(simp [*];done)),(by first|rfl|(simp;done)|(simp [*];done)),H',⟨Nat.le_refl _⟩,by repeat (first|exact Drawn0.refl _|apply Drawn0.step)⟩
 case round =>
  clear H'
  try clear p2
  try clear c4
  obtain ⟨x1_1,x2_1,rfl,rfl,HA,HK1,⟨m1,rfl⟩⟩ := hrel
  cases gk with
  | zero => exact absurd HA.out (by simp [field_fold.l0])
  | succ k1 =>
   have H := HA.out
   clear HA
   simp only [field_fold.l0] at H
   by_cases c5 : x1_1 = 0
   ·rw [if_pos c5] at H
    have c5b0 : (x1_1 == 0) = true := beq_iff_eq.mpr c5
    have c5b1 : (x1_1 != 0) = false := bne_eq_false_iff_eq.mpr c5
    clear c5
    by_cases c6 : x2_1 > a0
    ·rw [if_pos c6] at H
     have c6b0 : decide (a0 < x2_1) = true := decide_eq_true c6
     clear c6
     by_cases c7 : 0 ≤ t102
     ·rw [if_pos c7] at H
      have c7b0 := eq_true c7
      have c7b1 : decide (0 ≤ t102) = true := decide_eq_true c7
      clear c7
      obtain ⟨ji8,hji8⟩ : ∃ j_ : Int,(shr .u64 x2_1 t102) = j_ := ⟨_,rfl⟩
      first|rw [hji8] at H|simp only [hji8] at H
      have hji8_ : (x2_1 / 2 ^ min t102.toNat 64) = ji8 := hji8
      have hji8z : t102 ≤ 64 → (x2_1 / 2 ^ t102.toNat) = ji8 := shr_small hji8
      obtain ⟨ji9,hji9⟩ : ∃ j_ : Int,(IntKind.u64.wrap (64 - t102)) = j_ := ⟨_,rfl⟩
      first|rw [hji9] at H|simp only [hji9] at H
      by_cases c10 : 0 ≤ (ji9)
      ·rw [if_pos c10] at H
       have c10b0 := eq_true c10
       have c10b1 : decide (0 ≤ (ji9)) = true := decide_eq_true c10
       clear c10
       obtain ⟨ji11,hji11⟩ : ∃ j_ : Int,(shl .u64 x1_1 (ji9)) = j_ := ⟨_,rfl⟩
       first|rw [hji11] at H|simp only [hji11] at H
       have hji11_ : (IntKind.u64.wrap (x1_1 * 2 ^ min (ji9).toNat 64)) = ji11 := hji11
       have hji11z : (ji9) ≤ 64 → (IntKind.u64.wrap (x1_1 * 2 ^ (ji9).toNat)) = ji11 := shl_small hji11
       have c12b0 := eq_true (od : 0 ≤ t102)
       obtain ⟨ji13,hji13⟩ : ∃ j_ : Int,(shr .u64 x1_1 t102) = j_ := ⟨_,rfl⟩
       first|rw [hji13] at H|simp only [hji13] at H
       have hji13_ : (x1_1 / 2 ^ min t102.toNat 64) = ji13 := hji13
       have hji13z : t102 ≤ 64 → (x1_1 / 2 ^ t102.toNat) = ji13 := shr_small hji13
       replace H := Option.bind_eq_some_iff.mp H
       obtain ⟨⟨t103,t104⟩,A140,H⟩ := H
       try dsimp only at H
       have A14 := am A140
       clear A140
       have H' := am H
       clear H
       go_wp2_with (first|((with_reducible refine gate_callee (f := 61) rfl ?_);refine goesX_ (some 37) rfl rfl #[.int .u64 (Go.bits .or .u64 (ji8) (ji11)),.int .u64 (Go.bits .and .u64 x2_1 a0),.int .u64 0] rfl (by (try simp only [List.map_toArray,List.map_cons,List.map_nil]);first|done|(simp only [hji11,hji8];rfl)|rfl|(simp only [List.length_drop,List.length_take];rfl)) _ (bits_Add64.runs (Go.bits .or .u64 (ji8) (ji11)) (Go.bits .and .u64 x2_1 a0) 0 t103 t104 _ A14.out) ?_))
       go_roundg k1
       case measure => have := HK1.out;omega
       case rel => exact ⟨(IntKind.u64.wrap ((ji13) + t104)),(t103),(by first|rfl|(simp;done)|(simp only [← hji13] <;> (first|rfl|simp))|(simp [*];done)),(by first|rfl|(simp;done)|(simp [*];done)),H',⟨by have := HK1.out;omega⟩,by repeat (first|exact Drawn0.refl _|apply Drawn0.step)⟩
      ·rw [if_neg c10] at H
       exact absurd H (by simp)
     ·rw [if_neg c7] at H
      exact absurd H (by simp)
    ·rw [if_neg c6] at H
     have c6b0 : decide (a0 < x2_1) = false := decide_eq_false c6
     clear c6
     by_cases c15 : x2_1 = a0
     ·rw [if_pos c15] at H
      have c15b0 : (x2_1 == a0) = true := beq_iff_eq.mpr c15
      have c15b1 : (x2_1 != a0) = false := bne_eq_false_iff_eq.mpr c15
      clear c15
      obtain rfl := Option.some.inj H
      go_wp2
      go_ret
      exact ⟨by first|rfl|(simp;done)|(simp [*];done),by repeat (first|exact Drawn0.refl _|apply Drawn0.step)⟩
     ·rw [if_neg c15] at H
      have c15b0 : (x2_1 == a0) = false := beq_eq_false_iff_ne.mpr c15
      have c15b1 : (x2_1 != a0) = true := bne_iff_ne.mpr c15
      obtain rfl := Option.some.inj H
      go_wp2
      go_ret
      exact ⟨by first|rfl|(simp;done)|(simp [*];done),by repeat (first|exact Drawn0.refl _|apply Drawn0.step)⟩
   ·rw [if_neg c5] at H
    have c5b0 : (x1_1 == 0) = false := beq_eq_false_iff_ne.mpr c5
    have c5b1 : (x1_1 != 0) = true := bne_iff_ne.mpr c5
    by_cases c16 : 0 ≤ t102
    ·rw [if_pos c16] at H
     have c16b0 := eq_true c16
     have c16b1 : decide (0 ≤ t102) = true := decide_eq_true c16
     clear c16
     obtain ⟨ji17,hji17⟩ : ∃ j_ : Int,(shr .u64 x2_1 t102) = j_ := ⟨_,rfl⟩
     first|rw [hji17] at H|simp only [hji17] at H
     have hji17_ : (x2_1 / 2 ^ min t102.toNat 64) = ji17 := hji17
     have hji17z : t102 ≤ 64 → (x2_1 / 2 ^ t102.toNat) = ji17 := shr_small hji17
     obtain ⟨ji18,hji18⟩ : ∃ j_ : Int,(IntKind.u64.wrap (64 - t102)) = j_ := ⟨_,rfl⟩
     first|rw [hji18] at H|simp only [hji18] at H
     by_cases c19 : 0 ≤ (ji18)
     ·rw [if_pos c19] at H
      have c19b0 := eq_true c19
      have c19b1 : decide (0 ≤ (ji18)) = true := decide_eq_true c19
      clear c19
      obtain ⟨ji20,hji20⟩ : ∃ j_ : Int,(shl .u64 x1_1 (ji18)) = j_ := ⟨_,rfl⟩
      first|rw [hji20] at H|simp only [hji20] at H
      have hji20_ : (IntKind.u64.wrap (x1_1 * 2 ^ min (ji18).toNat 64)) = ji20 := hji20
      have hji20z : (ji18) ≤ 64 → (IntKind.u64.wrap (x1_1 * 2 ^ (ji18).toNat)) = ji20 := shl_small hji20
      have c21b0 := eq_true (od : 0 ≤ t102)
      obtain ⟨ji22,hji22⟩ : ∃ j_ : Int,(shr .u64 x1_1 t102) = j_ := ⟨_,rfl⟩
      first|rw [hji22] at H|simp only [hji22] at H
      have hji22_ : (x1_1 / 2 ^ min t102.toNat 64) = ji22 := hji22
      have hji22z : t102 ≤ 64 → (x1_1 / 2 ^ t102.toNat) = ji22 := shr_small hji22
      replace H := Option.bind_eq_some_iff.mp H
      obtain ⟨⟨t105,t106⟩,A230,H⟩ := H
      try dsimp only at H
      have A23 := am A230
      clear A230
      have H' := am H
      clear H
      go_wp2_with (first|((with_reducible refine gate_callee (f := 61) rfl ?_);refine goesX_ (some 37) rfl rfl #[.int .u64 (Go.bits .or .u64 (ji17) (ji20)),.int .u64 (Go.bits .and .u64 x2_1 a0),.int .u64 0] rfl (by (try simp only [List.map_toArray,List.map_cons,List.map_nil]);first|done|(simp only [hji17,hji20];rfl)|rfl|(simp only [List.length_drop,List.length_take];rfl)) _ (bits_Add64.runs (Go.bits .or .u64 (ji17) (ji20)) (Go.bits .and .u64 x2_1 a0) 0 t105 t106 _ A23.out) ?_))
      go_roundg k1
      case measure => have := HK1.out;omega
      case rel => exact ⟨(IntKind.u64.wrap ((ji22) + t106)),(t105),(by first|rfl|(simp;done)|(simp only [← hji22] <;> (first|rfl|simp))|(simp [*];done)),(by first|rfl|(simp;done)|(simp [*];done)),H',⟨by have := HK1.out;omega⟩,by repeat (first|exact Drawn0.refl _|apply Drawn0.step)⟩
     ·rw [if_neg c19] at H
      exact absurd H (by simp)
    ·rw [if_neg c16] at H
     exact absurd H (by simp)
def field_Add.f (k : Nat) (a0 : Int) (a1 : Int) (a2 : Int) : Option (Int) := (field_fold.f k a0 0 (IntKind.u64.wrap (a1 + a2))).bind fun t107 => (some t107)
theorem field_Add.mono : ∀ a0 a1 a2 k,LeO (field_Add.f k a0 a1 a2) (field_Add.f (k + 1) a0 a1 a2) := by
 intro a0 a1 a2 k
 unfold field_Add.f
 repeat' first
   | (with_reducible exact field_fold.mono _ _ _ _)
   | (with_reducible exact LeO.refl _)
   | (with_reducible exact LeO.none _)
   | (with_reducible refine LeO.ite ?_ ?_)
   | (with_reducible refine LeO.bind ?_ (fun _ => ?_))
   | exact field_fold.mono _ _ _ _
   | exact LeO.none _
   | refine LeO.ite ?_ ?_
   | refine LeO.bind ?_ (fun _ => ?_)
set_option maxHeartbeats 8000000 in
set_option maxRecDepth 100000 in
theorem field_Add.calls (k : Nat) (a0 : Int) (a1 : Int) (a2 : Int) (r : Int) (w : World) (h : field_Add.f k a0 a1 a2 = some r) :
  Calls Try.prog 26 #[.int .u64 a0,.int .u64 a1,.int .u64 a2] w fun e w' => e = .returned (.int .u64 r) ∧ Drawn0 w w' := by
 have H : ((field_fold.f k a0 0 (IntKind.u64.wrap (a1 + a2))).bind fun t107 => (some t107)) = some r := h
 clear h
 replace H := Option.bind_eq_some_iff.mp H
 obtain ⟨t107,A40,H⟩ := H
 try dsimp only at H
 have A4 := am A40
 clear A40
 obtain rfl := Option.some.inj H
 go_enter Try.func26,Try.ntmps26
 go_wp2_with (first|((with_reducible refine gate_callee (f := 43) rfl ?_);refine goesL_ (some 11) rfl rfl Try.func43 (by kernel_rfl) rfl #[.int .u64 a0,.int .u64 0,.int .u64 (IntKind.u64.wrap (a1 + a2))] rfl (by (try simp only [List.map_toArray,List.map_cons,List.map_nil]);first|done|rfl|(simp only [List.length_drop,List.length_take];rfl)) ?_;(with_reducible refine (field_fold.calls k a0 0 (IntKind.u64.wrap (a1 + a2)) t107 _ A4.out).mono ?_);rintro e w' ⟨rfl,⟨nd,rfl⟩⟩;refine ⟨_,rfl,?_⟩))
 go_ret
 exact ⟨by first|rfl|(simp;done)|(simp [*];done),by repeat (first|exact Drawn0.refl _|apply Drawn0.step)⟩
def field_Neg.f (a0 : Int) (a1 : Int) : Option (Int) := if a1 = 0 then (some 0) else (some (IntKind.u64.wrap (a0 - a1)))
set_option maxHeartbeats 8000000 in
set_option maxRecDepth 100000 in
theorem field_Neg.calls (a0 : Int) (a1 : Int) (r : Int) (w : World) (h : field_Neg.f a0 a1 = some r) :
  Calls Try.prog 42 #[.int .u64 a0,.int .u64 a1] w fun e w' => e = .returned (.int .u64 r) ∧ Drawn0 w w' := by
 have H : (if a1 = 0 then (some 0) else (some (IntKind.u64.wrap (a0 - a1)))) = some r := h
 clear h
 by_cases c3 : a1 = 0
 ·rw [if_pos c3] at H
  have c3b0 : (a1 == 0) = true := beq_iff_eq.mpr c3
  have c3b1 : (a1 != 0) = false := bne_eq_false_iff_eq.mpr c3
  clear c3
  obtain rfl := Option.some.inj H
  go_enter Try.func42,Try.ntmps42
  go_wp2
  go_ret
  exact ⟨by first|rfl|(simp;done)|(simp [*];done),by repeat (first|exact Drawn0.refl _|apply Drawn0.step)⟩
 ·rw [if_neg c3] at H
  have c3b0 : (a1 == 0) = false := beq_eq_false_iff_ne.mpr c3
  have c3b1 : (a1 != 0) = true := bne_iff_ne.mpr c3
  obtain rfl := Option.some.inj H
  go_enter Try.func42,Try.ntmps42
  go_wp2
  go_ret
  exact ⟨by first|rfl|(simp;done)|(simp [*];done),by repeat (first|exact Drawn0.refl _|apply Drawn0.step)⟩
def field_Sub.f (k : Nat) (a0 : Int) (a1 : Int) (a2 : Int) : Option (Int) := (field_Neg.f a0 a2).bind fun t108 => ((field_Add.f k a0 a1 t108).bind fun t109 => (some t109))
set_option maxHeartbeats 8000000 in
set_option maxRecDepth 100000 in
theorem field_Sub.calls (k : Nat) (a0 : Int) (a1 : Int) (a2 : Int) (r : Int) (w : World) (h : field_Sub.f k a0 a1 a2 = some r) :
  Calls Try.prog 25 #[.int .u64 a0,.int .u64 a1,.int .u64 a2] w fun e w' => e = .returned (.int .u64 r) ∧ Drawn0 w w' := by
 have H : ((field_Neg.f a0 a2).bind fun t108 => ((field_Add.f k a0 a1 t108).bind fun t109 => (some t109))) = some r := h
 clear h
 replace H := Option.bind_eq_some_iff.mp H
 obtain ⟨t108,A40,H⟩ := H
 try dsimp only at H
 have A4 := am A40
 clear A40
 replace H := Option.bind_eq_some_iff.mp H
 obtain ⟨t109,A50,H⟩ := H
 try dsimp only at H
 have A5 := am A50
 clear A50
 obtain rfl := Option.some.inj H
 go_enter Try.func25,Try.ntmps25
 go_wp2_with (first|((with_reducible refine gate_callee (f := 42) rfl ?_);refine goesL_ (some 11) rfl rfl Try.func42 (by kernel_rfl) rfl #[.int .u64 a0,.int .u64 a2] rfl (by (try simp only [List.map_toArray,List.map_cons,List.map_nil]);first|done|rfl|(simp only [List.length_drop,List.length_take];rfl)) ?_;(with_reducible refine (field_Neg.calls a0 a2 t108 _ A4.out).mono ?_);rintro e w' ⟨rfl,⟨nd,rfl⟩⟩;refine ⟨_,rfl,?_⟩)|((with_reducible refine gate_callee (f := 26) rfl ?_);refine goesL_ (some 12) rfl rfl Try.func26 (by kernel_rfl) rfl #[.int .u64 a0,.int .u64 a1,.int .u64 t108] rfl (by (try simp only [List.map_toArray,List.map_cons,List.map_nil]);first|done|rfl|(simp only [List.length_drop,List.length_take];rfl)) ?_;(with_reducible refine (field_Add.calls k a0 a1 t108 t109 _ A5.out).mono ?_);rintro e w' ⟨rfl,⟨nd,rfl⟩⟩;refine ⟨_,rfl,?_⟩))
 go_ret
 exact ⟨by first|rfl|(simp;done)|(simp [*];done),by repeat (first|exact Drawn0.refl _|apply Drawn0.step)⟩
def bits_Mul64.f (a0 : Int) (a1 : Int) : Option (Int × Int) := some (IntKind.u64.wrap ((IntKind.u64.wrap ((IntKind.u64.wrap ((a0 / 4294967296) * (a1 / 4294967296))) + ((IntKind.u64.wrap ((IntKind.u64.wrap ((a0 / 4294967296) * (Go.bits .and .u64 a1 4294967295))) + ((IntKind.u64.wrap ((Go.bits .and .u64 a0 4294967295) * (Go.bits .and .u64 a1 4294967295))) / 4294967296))) / 4294967296))) + ((IntKind.u64.wrap ((Go.bits .and .u64 (IntKind.u64.wrap ((IntKind.u64.wrap ((a0 / 4294967296) * (Go.bits .and .u64 a1 4294967295))) + ((IntKind.u64.wrap ((Go.bits .and .u64 a0 4294967295) * (Go.bits .and .u64 a1 4294967295))) / 4294967296))) 4294967295) + (IntKind.u64.wrap ((Go.bits .and .u64 a0 4294967295) * (a1 / 4294967296))))) / 4294967296)),IntKind.u64.wrap (a0 * a1))
set_option maxHeartbeats 8000000 in
set_option maxRecDepth 100000 in
theorem bits_Mul64.calls (a0 : Int) (a1 : Int) (r1 : Int) (r2 : Int) (w : World) (h : bits_Mul64.f a0 a1 = some (r1,r2)) :
  Calls Try.prog 44 #[.int .u64 a0,.int .u64 a1] w fun e w' => e = .returned (.tuple #[.int .u64 r1,.int .u64 r2]) ∧ Drawn0 w w' := by
 have H : (some (IntKind.u64.wrap ((IntKind.u64.wrap ((IntKind.u64.wrap ((a0 / 4294967296) * (a1 / 4294967296))) + ((IntKind.u64.wrap ((IntKind.u64.wrap ((a0 / 4294967296) * (Go.bits .and .u64 a1 4294967295))) + ((IntKind.u64.wrap ((Go.bits .and .u64 a0 4294967295) * (Go.bits .and .u64 a1 4294967295))) / 4294967296))) / 4294967296))) + ((IntKind.u64.wrap ((Go.bits .and .u64 (IntKind.u64.wrap ((IntKind.u64.wrap ((a0 / 4294967296) * (Go.bits .and .u64 a1 4294967295))) + ((IntKind.u64.wrap ((Go.bits .and .u64 a0 4294967295) * (Go.bits .and .u64 a1 4294967295))) / 4294967296))) 4294967295) + (IntKind.u64.wrap ((Go.bits .and .u64 a0 4294967295) * (a1 / 4294967296))))) / 4294967296)),IntKind.u64.wrap (a0 * a1))) = some (r1,r2) := h
 clear h
 simp only [Option.some.injEq,Prod.mk.injEq] at H
 obtain ⟨rfl,rfl⟩ := H
 go_enter Try.func44,Try.ntmps44
 go_wp2
 go_ret2
 exact ⟨by first|rfl|(simp;done)|(simp [*];done),by repeat (first|exact Drawn0.refl _|apply Drawn0.step)⟩
def field_Mul.f (k : Nat) (a0 : Int) (a1 : Int) (a2 : Int) : Option (Int) := (bits_Mul64.f a1 a2).bind fun bt110 => ((field_fold.f k a0 bt110.1 bt110.2).bind fun t112 => (some t112))
theorem field_Mul.mono : ∀ a0 a1 a2 k,LeO (field_Mul.f k a0 a1 a2) (field_Mul.f (k + 1) a0 a1 a2) := by
 intro a0 a1 a2 k
 unfold field_Mul.f
 repeat' first
   | (with_reducible exact field_fold.mono _ _ _ _)
   | (with_reducible exact LeO.refl _)
   | (with_reducible exact LeO.none _)
   | (with_reducible refine LeO.ite ?_ ?_)
   | (with_reducible refine LeO.bind ?_ (fun _ => ?_))
   | exact field_fold.mono _ _ _ _
   | exact LeO.none _
   | refine LeO.ite ?_ ?_
   | refine LeO.bind ?_ (fun _ => ?_)
set_option maxHeartbeats 8000000 in
set_option maxRecDepth 100000 in
theorem field_Mul.calls (k : Nat) (a0 : Int) (a1 : Int) (a2 : Int) (r : Int) (w : World) (h : field_Mul.f k a0 a1 a2 = some r) :
  Calls Try.prog 27 #[.int .u64 a0,.int .u64 a1,.int .u64 a2] w fun e w' => e = .returned (.int .u64 r) ∧ Drawn0 w w' := by
 have H : ((bits_Mul64.f a1 a2).bind fun bt110 => ((field_fold.f k a0 bt110.1 bt110.2).bind fun t112 => (some t112))) = some r := h
 clear h
 replace H := Option.bind_eq_some_iff.mp H
 obtain ⟨⟨t110,t111⟩,A40,H⟩ := H
 try dsimp only at H
 have A4 := am A40
 clear A40
 replace H := Option.bind_eq_some_iff.mp H
 obtain ⟨t112,A50,H⟩ := H
 try dsimp only at H
 have A5 := am A50
 clear A50
 obtain rfl := Option.some.inj H
 go_enter Try.func27,Try.ntmps27
 go_wp2_with (first|((with_reducible refine gate_callee (f := 44) rfl ?_);refine goesL_ (some 12) rfl rfl Try.func44 (by kernel_rfl) rfl #[.int .u64 a1,.int .u64 a2] rfl (by (try simp only [List.map_toArray,List.map_cons,List.map_nil]);first|done|rfl|(simp only [List.length_drop,List.length_take];rfl)) ?_;(with_reducible refine (bits_Mul64.calls a1 a2 t110 t111 _ A4.out).mono ?_);rintro e w' ⟨rfl,⟨nd,rfl⟩⟩;refine ⟨_,rfl,?_⟩)|((with_reducible refine gate_callee (f := 43) rfl ?_);refine goesL_ (some 18) rfl rfl Try.func43 (by kernel_rfl) rfl #[.int .u64 a0,.int .u64 t110,.int .u64 t111] rfl (by (try simp only [List.map_toArray,List.map_cons,List.map_nil]);first|done|rfl|(simp only [List.length_drop,List.length_take];rfl)) ?_;(with_reducible refine (field_fold.calls k a0 t110 t111 t112 _ A5.out).mono ?_);rintro e w' ⟨rfl,⟨nd,rfl⟩⟩;refine ⟨_,rfl,?_⟩))
 go_ret
 exact ⟨by first|rfl|(simp;done)|(simp [*];done),by repeat (first|exact Drawn0.refl _|apply Drawn0.step)⟩
def field_Pow.l0 : Nat → Int → Int → Int → Int → Option (Int)
 | 0,_,_,_,_ => none
 | k + 1,x0,x1,x2,x7 => if x2 > 0 then (if (Go.bits .and .u64 x2 1) = 1 then ((field_Mul.f k x0 x7 x1).bind fun t113 => ((field_Mul.f k x0 x1 x1).bind fun t114 => (field_Pow.l0 k x0 t114 (x2 / 2) t113))) else ((field_Mul.f k x0 x1 x1).bind fun t115 => (field_Pow.l0 k x0 t115 (x2 / 2) x7))) else (some x7)
def field_Pow.f (k : Nat) (a0 : Int) (a1 : Int) (a2 : Int) : Option (Int) := field_Pow.l0 k a0 a1 a2 1
theorem field_Pow.mono_l : ∀ k,(∀ y0 y1 y2 y3,LeO (field_Pow.l0 k y0 y1 y2 y3) (field_Pow.l0 (k + 1) y0 y1 y2 y3))
 | 0 => fun _ _ _ _ r h => by simp [field_Pow.l0] at h
 | k + 1 => by
  have ih0 := field_Pow.mono_l k
  ·intro y0 y1 y2 y3
   unfold field_Pow.l0
   repeat' first
   | (with_reducible exact ih0 _ _ _ _)
   | (with_reducible exact field_Mul.mono _ _ _ _)
   | (with_reducible exact LeO.refl _)
   | (with_reducible exact LeO.none _)
   | (with_reducible refine LeO.ite ?_ ?_)
   | (with_reducible refine LeO.bind ?_ (fun _ => ?_))
   | exact ih0 _ _ _ _
   | exact field_Mul.mono _ _ _ _
   | exact LeO.none _
   | refine LeO.ite ?_ ?_
   | refine LeO.bind ?_ (fun _ => ?_)
set_option maxHeartbeats 8000000 in
set_option maxRecDepth 100000 in
theorem field_Pow.calls (k : Nat) (a0 : Int) (a1 : Int) (a2 : Int) (r : Int) (w : World) (h : field_Pow.f k a0 a1 a2 = some r) :
  Calls Try.prog 81 #[.int .u64 a0,.int .u64 a1,.int .u64 a2] w fun e w' => e = .returned (.int .u64 r) ∧ Drawn0 w w' := by
 have H : (field_Pow.l0 k a0 a1 a2 1) = some r := h
 clear h
 have H' := am H
 clear H
 go_enter Try.func81,Try.ntmps81
 go_wp2
 go_loopg [1,2,7] k (fun kq v1 v2 v7 w' => ∃ (x1_1 : Int) (x2_1 : Int) (x7_1 : Int),v1 = .int .u64 x1_1 ∧ v2 = .int .u64 x2_1 ∧ v7 = .int .u64 x7_1 ∧ Aside0 (field_Pow.l0 kq a0 x1_1 x2_1 x7_1 = some r) ∧ Aside0 (kq ≤ k) ∧ Drawn0 w w')
 case atStart => exact ⟨(a1),(a2),(1),(by first|rfl|(simp;done)|(simp [*];done)),(by first|rfl|(simp;done)|(simp [*];done)),(by first|rfl|(simp;done)|(simp [*];done)),H',⟨Nat.le_refl _⟩,by repeat (first|exact Drawn0.refl _|apply Drawn0.step)⟩
 case round =>
  clear H'
  try clear p2
  obtain ⟨x1_1,x2_1,x7_1,rfl,rfl,rfl,HA,HK1,⟨m1,rfl⟩⟩ := hrel
  cases gk with
  | zero => exact absurd HA.out (by simp [field_Pow.l0])
  | succ k1 =>
   have H := HA.out
   clear HA
   simp only [field_Pow.l0] at H
   by_cases c4 : x2_1 > 0
   ·rw [if_pos c4] at H
    have c4b0 : decide (0 < x2_1) = true := decide_eq_true c4
    clear c4
    by_cases c5 : (Go.bits .and .u64 x2_1 1) = 1
    ·rw [if_pos c5] at H
     have c5b0 : ((Go.bits .and .u64 x2_1 1) == 1) = true := beq_iff_eq.mpr c5
     have c5b1 : ((Go.bits .and .u64 x2_1 1) != 1) = false := bne_eq_false_iff_eq.mpr c5
     clear c5
     replace H := Option.bind_eq_some_iff.mp H
     obtain ⟨t113,A60,H⟩ := H
     try dsimp only at H
     have A6 := am A60
     clear A60
     replace H := Option.bind_eq_some_iff.mp H
     obtain ⟨t114,A70,H⟩ := H
     try dsimp only at H
     have A7 := am A70
     clear A70
     have H' := am H
     clear H
     go_wp2_with (first|((with_reducible refine gate_callee (f := 27) rfl ?_);refine goesL_ (some 18) rfl rfl Try.func27 (by kernel_rfl) rfl #[.int .u64 a0,.int .u64 x7_1,.int .u64 x1_1] rfl (by (try simp only [List.map_toArray,List.map_cons,List.map_nil]);first|done|rfl|(simp only [List.length_drop,List.length_take];rfl)) ?_;(with_reducible refine (field_Mul.calls k1 a0 x7_1 x1_1 t113 _ A6.out).mono ?_);rintro e w' ⟨rfl,⟨nd,rfl⟩⟩;refine ⟨_,rfl,?_⟩)|((with_reducible refine gate_callee (f := 27) rfl ?_);refine goesL_ (some 22) rfl rfl Try.func27 (by kernel_rfl) rfl #[.int .u64 a0,.int .u64 x1_1,.int .u64 x1_1] rfl (by (try simp only [List.map_toArray,List.map_cons,List.map_nil]);first|done|rfl|(simp only [List.length_drop,List.length_take];rfl)) ?_;(with_reducible refine (field_Mul.calls k1 a0 x1_1 x1_1 t114 _ A7.out).mono ?_);rintro e w' ⟨rfl,⟨nd,rfl⟩⟩;refine ⟨_,rfl,?_⟩))
     go_roundg k1
     case measure => have := HK1.out;omega
     case rel => exact ⟨(t114),(x2_1 / 2),(t113),(by first|rfl|(simp;done)|(simp [*];done)),(by first|rfl|(simp;done)|(simp [*];done)),(by first|rfl|(simp;done)|(simp [*];done)),H',⟨by have := HK1.out;omega⟩,by repeat (first|exact Drawn0.refl _|apply Drawn0.step)⟩
    ·rw [if_neg c5] at H
     have c5b0 : ((Go.bits .and .u64 x2_1 1) == 1) = false := beq_eq_false_iff_ne.mpr c5
     have c5b1 : ((Go.bits .and .u64 x2_1 1) != 1) = true := bne_iff_ne.mpr c5
     replace H := Option.bind_eq_some_iff.mp H
     obtain ⟨t115,A80,H⟩ := H
     try dsimp only at H
     have A8 := am A80
     clear A80
     have H' := am H
     clear H
     go_wp2_with (first|((with_reducible refine gate_callee (f := 27) rfl ?_);refine goesL_ (some 22) rfl rfl Try.func27 (by kernel_rfl) rfl #[.int .u64 a0,.int .u64 x1_1,.int .u64 x1_1] rfl (by (try simp only [List.map_toArray,List.map_cons,List.map_nil]);first|done|rfl|(simp only [List.length_drop,List.length_take];rfl)) ?_;(with_reducible refine (field_Mul.calls k1 a0 x1_1 x1_1 t115 _ A8.out).mono ?_);rintro e w' ⟨rfl,⟨nd,rfl⟩⟩;refine ⟨_,rfl,?_⟩))
     go_roundg k1
     case measure => have := HK1.out;omega
     case rel => exact ⟨(t115),(x2_1 / 2),(x7_1),(by first|rfl|(simp;done)|(simp [*];done)),(by first|rfl|(simp;done)|(simp [*];done)),(by first|rfl|(simp;done)|(simp [*];done)),H',⟨by have := HK1.out;omega⟩,by repeat (first|exact Drawn0.refl _|apply Drawn0.step)⟩
   ·rw [if_neg c4] at H
    have c4b0 : decide (0 < x2_1) = false := decide_eq_false c4
    clear c4
    obtain rfl := Option.some.inj H
    go_wp2
    go_ret
    exact ⟨by first|rfl|(simp;done)|(simp [*];done),by repeat (first|exact Drawn0.refl _|apply Drawn0.step)⟩
def field_Inverse.f (k : Nat) (a0 : Int) (a1 : Int) : Option (Int × Int) := if a1 = 0 then (some (0,8)) else ((field_Pow.f k a0 a1 (IntKind.u64.wrap (a0 - 2))).bind fun t116 => (some (t116,0)))
set_option maxHeartbeats 8000000 in
set_option maxRecDepth 100000 in
theorem field_Inverse.calls (k : Nat) (a0 : Int) (a1 : Int) (r1 : Int) (r2 : Int) (w : World) (h : field_Inverse.f k a0 a1 = some (r1,r2)) :
  Calls Try.prog 71 #[.int .u64 a0,.int .u64 a1] w fun e w' => e = .returned (.tuple #[.int .u64 r1,.int .i64 r2]) ∧ Drawn0 w w' := by
 have H : (if a1 = 0 then (some (0,8)) else ((field_Pow.f k a0 a1 (IntKind.u64.wrap (a0 - 2))).bind fun t116 => (some (t116,0)))) = some (r1,r2) := h
 clear h
 by_cases c3 : a1 = 0
 ·rw [if_pos c3] at H
  have c3b0 : (a1 == 0) = true := beq_iff_eq.mpr c3
  have c3b1 : (a1 != 0) = false := bne_eq_false_iff_eq.mpr c3
  clear c3
  simp only [Option.some.injEq,Prod.mk.injEq] at H
  obtain ⟨rfl,rfl⟩ := H
  go_enter Try.func71,Try.ntmps71
  go_wp2
  go_ret2
  exact ⟨by first|rfl|(simp;done)|(simp [*];done),by repeat (first|exact Drawn0.refl _|apply Drawn0.step)⟩
 ·rw [if_neg c3] at H
  have c3b0 : (a1 == 0) = false := beq_eq_false_iff_ne.mpr c3
  have c3b1 : (a1 != 0) = true := bne_iff_ne.mpr c3
  replace H := Option.bind_eq_some_iff.mp H
  obtain ⟨t116,A40,H⟩ := H
  try dsimp only at H
  have A4 := am A40
  clear A40
  simp only [Option.some.injEq,Prod.mk.injEq] at H
  obtain ⟨rfl,rfl⟩ := H
  go_enter Try.func71,Try.ntmps71
  go_wp2_with (first|((with_reducible refine gate_callee (f := 81) rfl ?_);refine goesL_ (some 12) rfl rfl Try.func81 (by kernel_rfl) rfl #[.int .u64 a0,.int .u64 a1,.int .u64 (IntKind.u64.wrap (a0 - 2))] rfl (by (try simp only [List.map_toArray,List.map_cons,List.map_nil]);first|done|rfl|(simp only [List.length_drop,List.length_take];rfl)) ?_;(with_reducible refine (field_Pow.calls k a0 a1 (IntKind.u64.wrap (a0 - 2)) t116 _ A4.out).mono ?_);rintro e w' ⟨rfl,⟨nd,rfl⟩⟩;refine ⟨_,rfl,?_⟩))
  go_ret2
  exact ⟨by first|rfl|(simp;done)|(simp [*];done),by repeat (first|exact Drawn0.refl _|apply Drawn0.step)⟩
def interpolate_over.f (k : Nat) (a0 : Int) (a1 : Int) (a2 : Int) : Option (Int) := (field_Inverse.f k a0 a2).bind fun bt117 => ((field_Mul.f k a0 a1 bt117.1).bind fun t119 => (some t119))
set_option maxHeartbeats 8000000 in
set_option maxRecDepth 100000 in
theorem interpolate_over.calls (k : Nat) (a0 : Int) (a1 : Int) (a2 : Int) (r : Int) (w : World) (h : interpolate_over.f k a0 a1 a2 = some r) :
  Calls Try.prog 58 #[.int .u64 a0,.int .u64 a1,.int .u64 a2] w fun e w' => e = .returned (.int .u64 r) ∧ Drawn0 w w' := by
 have H : ((field_Inverse.f k a0 a2).bind fun bt117 => ((field_Mul.f k a0 a1 bt117.1).bind fun t119 => (some t119))) = some r := h
 clear h
 replace H := Option.bind_eq_some_iff.mp H
 obtain ⟨⟨t117,t118⟩,A40,H⟩ := H
 try dsimp only at H
 have A4 := am A40
 clear A40
 replace H := Option.bind_eq_some_iff.mp H
 obtain ⟨t119,A50,H⟩ := H
 try dsimp only at H
 have A5 := am A50
 clear A50
 obtain rfl := Option.some.inj H
 go_enter Try.func58,Try.ntmps58
 go_wp2_with (first|((with_reducible refine gate_callee (f := 71) rfl ?_);refine goesL_ (some 12) rfl rfl Try.func71 (by kernel_rfl) rfl #[.int .u64 a0,.int .u64 a2] rfl (by (try simp only [List.map_toArray,List.map_cons,List.map_nil]);first|done|rfl|(simp only [List.length_drop,List.length_take];rfl)) ?_;(with_reducible refine (field_Inverse.calls k a0 a2 t117 t118 _ A4.out).mono ?_);rintro e w' ⟨rfl,⟨nd,rfl⟩⟩;refine ⟨_,rfl,?_⟩)|((with_reducible refine gate_callee (f := 27) rfl ?_);refine goesL_ (some 18) rfl rfl Try.func27 (by kernel_rfl) rfl #[.int .u64 a0,.int .u64 a1,.int .u64 t117] rfl (by (try simp only [List.map_toArray,List.map_cons,List.map_nil]);first|done|rfl|(simp only [List.length_drop,List.length_take];rfl)) ?_;(with_reducible refine (field_Mul.calls k a0 a1 t117 t119 _ A5.out).mono ?_);rintro e w' ⟨rfl,⟨nd,rfl⟩⟩;refine ⟨_,rfl,?_⟩))
 go_ret
 exact ⟨by first|rfl|(simp;done)|(simp [*];done),by repeat (first|exact Drawn0.refl _|apply Drawn0.step)⟩
def poly_Degree.l0 : Nat → List Int → Int → Option (Int)
 | 0,_,_ => none
 | k + 1,x0,x3 => if x3 ≥ 0 then (if 0 ≤ x3 then (if x3 < (x0.length : Int) then (if (rd x0 x3) = 0 then (poly_Degree.l0 k x0 (wrap64 (x3 - 1))) else (some x3)) else (none)) else (none)) else (some (-1))
def poly_Degree.f (k : Nat) (l0 : List Int) : Option (Int) := poly_Degree.l0 k l0 (wrap64 ((l0.length : Int) - 1))
theorem poly_Degree.mono_l : ∀ k,(∀ y0 y1,LeO (poly_Degree.l0 k y0 y1) (poly_Degree.l0 (k + 1) y0 y1))
 | 0 => fun _ _ r h => by simp [poly_Degree.l0] at h
 | k + 1 => by
  have ih0 := poly_Degree.mono_l k
  ·intro y0 y1
   unfold poly_Degree.l0
   repeat' first
   | (with_reducible exact ih0 _ _)
   | (with_reducible exact LeO.refl _)
   | (with_reducible exact LeO.none _)
   | (with_reducible refine LeO.ite ?_ ?_)
   | (with_reducible refine LeO.bind ?_ (fun _ => ?_))
   | exact ih0 _ _
   | exact LeO.none _
   | refine LeO.ite ?_ ?_
   | refine LeO.bind ?_ (fun _ => ?_)
theorem poly_Degree.mono : ∀ a0 k,LeO (poly_Degree.f k a0) (poly_Degree.f (k + 1) a0) := by
 intro a0 k
 have ih0 := poly_Degree.mono_l k
 unfold poly_Degree.f
 repeat' first
   | (with_reducible exact ih0 _ _)
   | (with_reducible exact LeO.refl _)
   | (with_reducible exact LeO.none _)
   | (with_reducible refine LeO.ite ?_ ?_)
   | (with_reducible refine LeO.bind ?_ (fun _ => ?_))
   | exact ih0 _ _
   | exact LeO.none _
   | refine LeO.ite ?_ ?_
   | refine LeO.bind ?_ (fun _ => ?_)
set_option maxHeartbeats 8000000 in
set_option maxRecDepth 100000 in
theorem poly_Degree.calls (k : Nat) (A0 : Option Addr) (c0 : Nat) (l0 : List Int) (r : Int) (w : World) (hr0 : Kd.C (Kd.int .u64) w A0 l0.length l0) (hc0 : l0.length ≤ c0) (h : poly_Degree.f k l0 = some r) :
  Calls Try.prog 40 #[.slice A0 l0.length c0] w fun e w' => e = .returned (.int .i64 r) ∧ Drawn0 w w' := by
 have HR0 := am hr0
 have HC0 := am hc0
 clear hr0 hc0
 have H : (poly_Degree.l0 k l0 (wrap64 ((l0.length : Int) - 1))) = some r := h
 clear h
 have H' := am H
 clear H
 go_enter Try.func40,Try.ntmps40
 go_wp2
 go_loopg [3] k (fun kq v3 w' => ∃ (x3_1 : Int),v3 = .int .i64 x3_1 ∧ Aside0 (poly_Degree.l0 kq l0 x3_1 = some r) ∧ Aside0 (kq ≤ k) ∧ Drawn0 w w')
 case atStart => exact ⟨(wrap64 ((l0.length : Int) - 1)),(by first|rfl|(simp;done)|(simp [*];done)),H',⟨Nat.le_refl _⟩,by repeat (first|exact Drawn0.refl _|apply Drawn0.step)⟩
 case round =>
  clear H'
  obtain ⟨x3_1,rfl,HA,HK1,⟨m1,rfl⟩⟩ := hrel
  cases gk with
  | zero => exact absurd HA.out (by simp [poly_Degree.l0])
  | succ k1 =>
   have H := HA.out
   clear HA
   simp only [poly_Degree.l0] at H
   by_cases c2 : x3_1 ≥ 0
   ·rw [if_pos c2] at H
    have c2b0 : decide (0 ≤ x3_1) = true := decide_eq_true c2
    clear c2
    by_cases c3 : 0 ≤ x3_1
    ·rw [if_pos c3] at H
     have c3b0 : decide (0 ≤ x3_1) = true := decide_eq_true c3
     clear c3
     by_cases c4 : x3_1 < (l0.length : Int)
     ·rw [if_pos c4] at H
      have c4b0 : decide (x3_1 < (l0.length : Int)) = true := decide_eq_true c4
      clear c4
      by_cases c5 : (rd l0 x3_1) = 0
      ·rw [if_pos c5] at H
       have c5b0 : ((rd l0 x3_1) == 0) = true := beq_iff_eq.mpr c5
       have c5b1 : ((rd l0 x3_1) != 0) = false := bne_eq_false_iff_eq.mpr c5
       clear c5
       have H' := am H
       clear H
       have p120 : 0 ≤ (x3_1 : Int) := od
       have q120 : x3_1 < (l0.length : Int) := od
       obtain ⟨ad120,e120,hx120_0⟩ := Kd.at_int HR0.out x3_1 p120 q120
       cases e120
       replace p120 := eq_true p120
       replace q120 := eq_true q120
       go_wp2
       go_roundg k1
       case measure => have := HK1.out;omega
       case rel => exact ⟨(wrap64 (x3_1 - 1)),(by first|rfl|(simp;done)|(simp [*];done)),H',⟨by have := HK1.out;omega⟩,by repeat (first|exact Drawn0.refl _|apply Drawn0.step)⟩
      ·rw [if_neg c5] at H
       have c5b0 : ((rd l0 x3_1) == 0) = false := beq_eq_false_iff_ne.mpr c5
       have c5b1 : ((rd l0 x3_1) != 0) = true := bne_iff_ne.mpr c5
       obtain rfl := Option.some.inj H
       have p120 : 0 ≤ (x3_1 : Int) := od
       have q120 : x3_1 < (l0.length : Int) := od
       obtain ⟨ad120,e120,hx120_0⟩ := Kd.at_int HR0.out x3_1 p120 q120
       cases e120
       replace p120 := eq_true p120
       replace q120 := eq_true q120
       go_wp2
       go_ret
       exact ⟨by first|rfl|(simp;done)|(simp [*];done),by repeat (first|exact Drawn0.refl _|apply Drawn0.step)⟩
     ·rw [if_neg c4] at H
      exact absurd H (by simp)
    ·rw [if_neg c3] at H
     exact absurd H (by simp)
   ·rw [if_neg c2] at H
    have c2b0 : decide (0 ≤ x3_1) = false := decide_eq_false c2
    clear c2
    obtain rfl := Option.some.inj H
    go_wp2
    go_ret
    exact ⟨by first|rfl|(simp;done)|(simp [*];done),by repeat (first|exact Drawn0.refl _|apply Drawn0.step)⟩
def poly_Trim.f (k : Nat) (l0 : List Int) : Option (List Int) := (poly_Degree.f k l0).bind fun t121 => (if 0 ≤ (wrap64 (t121 + 1)) then (if (wrap64 (t121 + 1)) ≤ (l0.length : Int) then (if ([] : List Int).length + (l0.take ((wrap64 (t121 + 1)) : Int).toNat).length < 17592186044416 then (some (([] : List Int) ++ (l0.take ((wrap64 (t121 + 1)) : Int).toNat))) else (none)) else (none)) else (none))
set_option maxHeartbeats 8000000 in
set_option maxRecDepth 100000 in
theorem poly_Trim.calls (k : Nat) (A0 : Option Addr) (c0 : Nat) (l0 : List Int) (r : List Int) (w : World) (hr0 : Kd.C (Kd.int .u64) w A0 l0.length l0) (hc0 : l0.length ≤ c0) (h : poly_Trim.f k l0 = some r) :
  Calls Try.prog 59 #[.slice A0 l0.length c0] w fun e w' => ∃ v0_ : Value,e = .returned (v0_) ∧ Kd.R (Kd.int .u64) 22 w' w.heap.size (fun _ => True) v0_ r ∧ Below w.heap.size w w' := by
 have HR0 := am hr0
 have HC0 := am hc0
 clear hr0 hc0
 have HB := am (Below.refl w.heap.size w)
 have H : ((poly_Degree.f k l0).bind fun t121 => (if 0 ≤ (wrap64 (t121 + 1)) then (if (wrap64 (t121 + 1)) ≤ (l0.length : Int) then (if ([] : List Int).length + (l0.take ((wrap64 (t121 + 1)) : Int).toNat).length < 17592186044416 then (some (([] : List Int) ++ (l0.take ((wrap64 (t121 + 1)) : Int).toNat))) else (none)) else (none)) else (none))) = some r := h
 clear h
 replace H := Option.bind_eq_some_iff.mp H
 obtain ⟨t121,A20,H⟩ := H
 try dsimp only at H
 have A2 := am A20
 clear A20
 obtain ⟨ji3,hji3⟩ : ∃ j_ : Int,(wrap64 (t121 + 1)) = j_ := ⟨_,rfl⟩
 first|rw [hji3] at H|simp only [hji3] at H
 (try rw [hji3] at A2)
 have hji3w : (IntKind.i64.wrap (t121 + 1)) = ji3 := (i64_w _).trans hji3
 by_cases c4 : 0 ≤ (ji3)
 ·rw [if_pos c4] at H
  have c4b0 := eq_true c4
  have c4b1 : decide (0 ≤ (ji3)) = true := decide_eq_true c4
  clear c4
  by_cases c5 : (ji3) ≤ (l0.length : Int)
  ·rw [if_pos c5] at H
   have c5b0 := eq_true c5
   have c5b1 : decide ((ji3) ≤ (l0.length : Int)) = true := decide_eq_true c5
   clear c5
   by_cases c6 : ([] : List Int).length + (l0.take ((ji3) : Int).toNat).length < 17592186044416
   ·rw [if_pos c6] at H
    have LMc6 := am c6
    clear c6
    obtain ⟨y123,hy123⟩ : ∃ y_ : List Int,y_ = (([] : List Int) ++ (l0.take ((ji3) : Int).toNat)) := ⟨_,rfl⟩
    replace H : (some y123) = some r := by first|(rw [hy123];with_reducible exact H)|(have H2_ := (Option.bind_some _ _).symm.trans H;rw [hy123];with_reducible exact H2_)|(have H2_ := (Option.bind_some _ _).symm.trans H;with_reducible exact H2_)|with_reducible exact H|(rw [hy123];exact H)|exact H
    have Ny123 := am hy123
    clear hy123
    obtain rfl := Option.some.inj H
    go_enter Try.func59,Try.ntmps59
    go_wp2_with (first|((with_reducible refine gate_callee (f := 40) rfl ?_);refine goesL_ (some 5) rfl rfl Try.func40 (by kernel_rfl) rfl #[.slice A0 l0.length c0] rfl (by (try simp only [List.map_toArray,List.map_cons,List.map_nil]);first|done|rfl|(simp only [List.length_drop,List.length_take];rfl)) ?_;(with_reducible refine (poly_Degree.calls k _ _ l0 t121 _ ?side1 ?side2 A2.out).mono ?_);(case side1 => repeat (first|exact HR0.out|(with_reducible refine Kd.C_alloc ?_ _)|(with_reducible refine Kd.C_drewN ?_ _)|(with_reducible refine Kd.C_drew ?_)));(case side2 => exact HC0.out);rintro e w' ⟨rfl,⟨nd,rfl⟩⟩;refine ⟨_,rfl,?_⟩;obtain ⟨i07,hi07,_,hsz7,_⟩ := info_parts info22;obtain ⟨hcut7,hA7,hC7⟩ := print_take_of (P := Try.prog) (Value.int .u64) 0 41 22 .i64 Try.underlying41 hi07 hsz7 A0 c0 l0 (ji3) (od) (od) HC0.out;have HR122 := am (Kd.C_of_reads (h1 := fun _ => rfl) (hA7 _ (Kd.reads_of_C HR0.out)));have HC122 := am hC7;clear hA7 hC7 hi07 hsz7)|((with_reducible refine gate_builtin (b := .append) (xs := #[.const (Value.slice none 0 0),.tmp 9]) rfl ?_);at_builtin;refine Kd.R_append_rows (Kd.int .u64) (w0 := w) w.heap.size rfl (.const (Value.slice none 0 0)) (.tmp 9) 41 22 (.int .u64 0) 8 rfl Try.underlying41 info22 rfl (by decide) (by omega) (.slice none 0 0) ([] : List Int) (l0.take ((ji3) : Int).toNat) _ _ _ (fun _ => True) (fun _ => False) rfl rfl ?aO ?aR (fun _ _ h => h) (fun _ h => h.elim) ?aF ?aB ?aS ?aL ?_;(case aR => first|(refine cut_cast (show (l0.take ((ji3) : Int).toNat).length = (ji3).toNat from (by rw [List.length_take];have h_ : ((ji3) : Int) ≤ (l0.length : Int) := od;omega)) ?_;repeat (first|exact HR122.out|(with_reducible refine Kd.C_alloc ?_ _)|(with_reducible refine Kd.C_drewN ?_ _)|(with_reducible refine Kd.C_drew ?_)))|(repeat (first|exact HR122.out|(with_reducible refine Kd.C_alloc ?_ _)|(with_reducible refine Kd.C_drewN ?_ _)|(with_reducible refine Kd.C_drew ?_))));(case aB => exact (bb HB));(case aF => exact (fun _ _ => trivial));(case aO => exact ((Kd.R_nil _ _ _ _ (fun _ => True))));(case aS => exact (below_size (bb HB)));(case aL => have := LMc6.out;have hlx_ := (show (l0.take ((ji3) : Int).toNat).length = (ji3).toNat from (by rw [List.length_take];have h_ : ((ji3) : Int) ≤ (l0.length : Int) := od;omega));omega);intro v124 w8 ho hb hg hat;rw [← Ny123.out] at ho;have n0_ := am (hb);have n1_ := am (ho);clear HB;have HB := n0_;have HO125 := n1_;clear n0_ n1_;clear ho hb hg hat))
    go_ret
    exact ⟨_,by first|rfl|(simp [errW_none,errW_some] <;> rfl)|(simp only [← hji3];first|rfl|(simp [errW_none,errW_some] <;> rfl))|(simp [*,errW_none,errW_some] <;> rfl),by (with_reducible repeat (first|apply Kd.R_alloc|apply Kd.R_drewN|apply Kd.R_drew));exact HO125.out,bb HB⟩
   ·rw [if_neg c6] at H
    exact absurd H (by simp)
  ·rw [if_neg c5] at H
   exact absurd H (by simp)
 ·rw [if_neg c4] at H
  exact absurd H (by simp)
def poly_Scale.l0 : Nat → Int → Int → List Int → List Int → Int → Int → Option (List Int)
 | 0,_,_,_,_,_,_ => none
 | k + 1,x0,x1,x7,x13,x14,x15 => if x15 < x14 then (if 0 ≤ x15 then (if x15 < (x13.length : Int) then ((field_Mul.f k x0 x1 (rd x13 x15)).bind fun t130 => (if x15 < (x7.length : Int) then (poly_Scale.l0 k x0 x1 (x7.set (x15 : Int).toNat t130) x13 x14 (wrap64 (x15 + 1))) else (none))) else (none)) else (none)) else ((poly_Trim.f k x7).bind fun t132 => (some t132))
def poly_Scale.f (k : Nat) (a0 : Int) (a1 : Int) (l2 : List Int) : Option (List Int) := if 0 ≤ (l2.length : Int) then (if ((l2.length : Int) : Int).toNat ≤ 35184372088832 then (poly_Scale.l0 k a0 a1 (List.replicate ((l2.length : Int) : Int).toNat 0) l2 (l2.length : Int) 0) else (none)) else (none)
set_option maxHeartbeats 8000000 in
set_option maxRecDepth 100000 in
theorem poly_Scale.calls (k : Nat) (a0 : Int) (a1 : Int) (A2 : Option Addr) (c2 : Nat) (l2 : List Int) (r : List Int) (w : World) (hr2 : Kd.C (Kd.int .u64) w A2 l2.length l2) (hc2 : l2.length ≤ c2) (h : poly_Scale.f k a0 a1 l2 = some r) :
  Calls Try.prog 57 #[.int .u64 a0,.int .u64 a1,.slice A2 l2.length c2] w fun e w' => ∃ v0_ : Value,e = .returned (v0_) ∧ Kd.R (Kd.int .u64) 22 w' w.heap.size (fun _ => True) v0_ r ∧ Below w.heap.size w w' := by
 have HR2 := am hr2
 have HC2 := am hc2
 clear hr2 hc2
 have HB := am (Below.refl w.heap.size w)
 have H : (if 0 ≤ (l2.length : Int) then (if ((l2.length : Int) : Int).toNat ≤ 35184372088832 then (poly_Scale.l0 k a0 a1 (List.replicate ((l2.length : Int) : Int).toNat 0) l2 (l2.length : Int) 0) else (none)) else (none)) = some r := h
 clear h
 by_cases c4 : 0 ≤ (l2.length : Int)
 ·rw [if_pos c4] at H
  have c4b0 := eq_true c4
  have c4b1 : decide (0 ≤ (l2.length : Int)) = true := decide_eq_true c4
  clear c4
  by_cases c5 : ((l2.length : Int) : Int).toNat ≤ 35184372088832
  ·rw [if_pos c5] at H
   have c5b0 := eq_true c5
   have c5b1 : decide (((l2.length : Int) : Int).toNat ≤ 35184372088832) = true := decide_eq_true c5
   clear c5
   obtain ⟨y126,hy126⟩ : ∃ y_ : List Int,y_ = (List.replicate ((l2.length : Int) : Int).toNat 0) := ⟨_,rfl⟩
   replace H : (poly_Scale.l0 k a0 a1 y126 l2 (l2.length : Int) 0) = some r := by first|(rw [hy126];with_reducible exact H)|(have H2_ := (Option.bind_some _ _).symm.trans H;rw [hy126];with_reducible exact H2_)|(have H2_ := (Option.bind_some _ _).symm.trans H;with_reducible exact H2_)|with_reducible exact H|(rw [hy126];exact H)|exact H
   have Ny126 := am hy126
   clear hy126
   have H' := am H
   clear H
   go_enter Try.func57,Try.ntmps57
   go_wp2_with (first|((with_reducible refine gate_dst (N := 12) rfl ?_);refine Kd.R_make (Kd.int .u64) _ 22 rfl (N := 12) rfl 41 _ _ rfl (l2.length : Int) rfl rfl Try.underlying41 (.int .u64 0) 8 info22 rfl (by decide) (by omega) 0 (ok := fun _ => True) (okp := fun _ => True) rfl (fun _ hk => hk) trivial (od) (Nat.le_trans (Nat.mul_le_mul_right _ (od : (l2.length : Int).toNat ≤ 35184372088832)) (by omega)) (Below.refl _ _) (Nat.le_refl _) ?_;intro v127 w6 ho7 hb hg_ hnew_;clear hg_ hnew_;(first|rw [← Ny126.out] at ho7|(simp only [Int.reduceToNat] at ho7;rw [← Ny126.out] at ho7));have n0_ := am (Kd.R_lower ho7 (below_size (bb HB)));have n1_ := am (below_step (bb HB) hb);clear HB;have HO128 := n0_;have HB := n1_;clear n0_ n1_;clear hb ho7))
   go_loopg [15] k (fun kq v15 w' => ∃ (x7_1 : List Int) (x15_1 : Int),v15 = .int .i64 x15_1 ∧ Aside0 (poly_Scale.l0 kq a0 a1 x7_1 l2 (l2.length : Int) x15_1 = some r) ∧ Aside0 (kq ≤ k) ∧ Aside0 (Kd.R (Kd.int .u64) 22 w' w.heap.size (fun _ => True) v127 x7_1) ∧ Aside0 (Below w.heap.size w w'))
   case atStart => exact ⟨(y126),(0),(by first|rfl|(simp;done)|(simp [*];done)),H',⟨Nat.le_refl _⟩,⟨by (with_reducible repeat (first|apply Kd.R_alloc|apply Kd.R_drewN|apply Kd.R_drew));exact HO128.out⟩,⟨bb HB⟩⟩
   case round =>
    clear H'
    try clear c2
    try clear p2
    try clear c4
    try clear c4b0
    try clear c4b1
    try clear c5
    try clear c5b0
    try clear c5b1
    obtain ⟨x7_1,x15_1,rfl,HA,HK1,HO_7,HB⟩ := hrel
    cases gk with
    | zero => exact absurd HA.out (by simp [poly_Scale.l0])
    | succ k1 =>
     have H := HA.out
     clear HA
     simp only [poly_Scale.l0] at H
     by_cases c8 : x15_1 < (l2.length : Int)
     ·rw [if_pos c8] at H
      have c8b0 : decide (x15_1 < (l2.length : Int)) = true := decide_eq_true c8
      clear c8
      by_cases c9 : 0 ≤ x15_1
      ·rw [if_pos c9] at H
       have c9b0 : decide (0 ≤ x15_1) = true := decide_eq_true c9
       clear c9
       by_cases c10 : x15_1 < (l2.length : Int)
       ·rw [if_pos c10] at H
        have c10b0 : decide (x15_1 < (l2.length : Int)) = true := decide_eq_true c10
        clear c10
        replace H := Option.bind_eq_some_iff.mp H
        obtain ⟨t130,A110,H⟩ := H
        try dsimp only at H
        have A11 := am A110
        clear A110
        by_cases c12 : x15_1 < (x7_1.length : Int)
        ·rw [if_pos c12] at H
         have c12b0 : decide (x15_1 < (x7_1.length : Int)) = true := decide_eq_true c12
         clear c12
         obtain ⟨y131,hy131⟩ : ∃ y_ : List Int,y_ = (x7_1.set (x15_1 : Int).toNat t130) := ⟨_,rfl⟩
         replace H : (poly_Scale.l0 k1 a0 a1 y131 l2 (l2.length : Int) (wrap64 (x15_1 + 1))) = some r := by first|(rw [hy131];with_reducible exact H)|(have H2_ := (Option.bind_some _ _).symm.trans H;rw [hy131];with_reducible exact H2_)|(have H2_ := (Option.bind_some _ _).symm.trans H;with_reducible exact H2_)|with_reducible exact H|(rw [hy131];exact H)|exact H
         have Ny131 := am hy131
         clear hy131
         have H' := am H
         clear H
         have p129 : 0 ≤ (x15_1 : Int) := od
         have q129 : x15_1 < (l2.length : Int) := od
         obtain ⟨ad129,e129,hx129_0⟩ := Kd.at_int HR2.out x15_1 p129 q129
         cases e129
         replace hx129_0 := (HB.out.cell (World.block_lt_of_cell? w _ hx129_0)).trans hx129_0
         replace p129 := eq_true p129
         replace q129 := eq_true q129
         go_wp2_with (first|((with_reducible refine gate_callee (f := 27) rfl ?_);refine goesL_ (some 25) rfl rfl Try.func27 (by kernel_rfl) rfl #[.int .u64 a0,.int .u64 a1,.int .u64 (rd l2 x15_1)] rfl (by (try simp only [List.map_toArray,List.map_cons,List.map_nil]);first|done|rfl|(simp only [List.length_drop,List.length_take];rfl)) ?_;(with_reducible refine (field_Mul.calls k1 a0 a1 (rd l2 x15_1) t130 _ A11.out).mono ?_);rintro e w' ⟨rfl,⟨nd,rfl⟩⟩;refine ⟨_,rfl,?_⟩;(try (rw [drewN_self wr];generalize hq_ : World.drewN wr _ = wr;have n0_ : Aside0 (Kd.R (Kd.int .u64) 22 wr w.heap.size (fun _ => True) v127 x7_1) := ⟨by rw [← hq_];exact (rr HO_7)⟩;have n1_ : Aside0 (Below w.heap.size w wr) := ⟨by rw [← hq_];exact (bb HB)⟩;clear HO_7 HB hq_;have HO_7 := n0_;have HB := n1_;clear n0_ n1_));have p13 : 0 ≤ (x15_1 : Int) := od;have q13 : (x15_1 : Int) < ((x7_1.length : Int) : Int) := od;obtain ⟨go13,co13,eo13,gb13,gl13,cl13,HG13⟩ := Kd.R_form HO_7.out (by omega);(first|cases eo13|(injection eo13 with ea_ en_ ec_;(first|subst ea_|(injection ea_ with ea_;subst ea_));subst ec_;clear en_));have GB13 := am gb13;have GG13 := am HG13;clear gb13 gl13 HG13;obtain ⟨hx13_0,hf13_0⟩ := Kd.R_celln 0 HO_7.out (x15_1 : Int) p13 q13;replace p13 := eq_true p13;replace q13 := eq_true q13;obtain ⟨hy14_,hz14_⟩ := Kd.R_celln 0 HO_7.out (x15_1 : Int) (od) (od);have HP14 := Kd.R_putg HO_7.out (x15_1 : Int) t130)|((with_reducible refine gate_store (t := 22) (p := 26) rfl ?_);refine store_event (t := 22) (p := 26) (v := ?vo_w15) (w1 := (wr.setCell ⟨go13,(x15_1 : Int).toNat,none⟩ (.int .u64 t130))) ?hg ?ho ?hn ?hr ?_;(case ho => rfl);(case hg => rfl);(case hn => rfl);(case hr => first|(go_simp;done)|(go_simp;rfl));intro w15 hw;have hg : wr.grownBy w15 (some go13) := (by rw [hw];exact HP14.2);have hp_ : Kd.R (Kd.int .u64) 22 w15 w.heap.size (fun _ => True) (.slice (some ⟨go13,0,none⟩) x7_1.length co13) y131 := (by rw [hw,Ny131.out];exact HP14.1);clear HP14;have n0_ := am (hp_);have n1_ := am ((by rw [hw];exact below_set (HB.out) GB13.out : Below w.heap.size w w15));clear HO_7 HB;have HO_7 := n0_;have HB := n1_;clear n0_ n1_;clear hg hw hp_))
         go_roundg k1
         case measure => have := HK1.out;omega
         case rel => exact ⟨(y131),(wrap64 (x15_1 + 1)),(by first|rfl|(simp;done)|(simp [*];done)),H',⟨by have := HK1.out;omega⟩,⟨by (with_reducible repeat (first|apply Kd.R_alloc|apply Kd.R_drewN|apply Kd.R_drew));exact HO_7.out⟩,⟨bb HB⟩⟩
        ·rw [if_neg c12] at H
         exact absurd H (by simp)
       ·rw [if_neg c10] at H
        exact absurd H (by simp)
      ·rw [if_neg c9] at H
       exact absurd H (by simp)
     ·rw [if_neg c8] at H
      have c8b0 : decide (x15_1 < (l2.length : Int)) = false := decide_eq_false c8
      clear c8
      replace H := Option.bind_eq_some_iff.mp H
      obtain ⟨t132,A160,H⟩ := H
      try dsimp only at H
      have A16 := am A160
      clear A160
      obtain rfl := Option.some.inj H
      obtain ⟨Ao17,co17,eo17⟩ := Kd.R_slice HO_7.out
      subst eo17
      go_wp2_with (first|((with_reducible refine gate_callee (f := 59) rfl ?_);refine goesL_ (some 29) rfl rfl Try.func59 (by kernel_rfl) rfl #[.slice Ao17 x7_1.length co17] rfl (by (try simp only [List.map_toArray,List.map_cons,List.map_nil]);first|done|rfl|(simp only [List.length_drop,List.length_take];rfl)) ?_;(with_reducible refine (poly_Trim.calls k1 _ _ x7_1 t132 _ ?side1 ?side2 A16.out).mono ?_);(case side1 => exact cr HO_7);(case side2 => exact (Kd.R_reads' HO_7.out).2.1);rintro e w18 ⟨v133,rfl,ho0,hb⟩;refine ⟨_,rfl,?_⟩;have n0_ := am (Kd.R_elder' (rr HO_7) (Kd.R_base ho0) hb);have n1_ := am (Kd.R_lower (Kd.R_new' ho0 (Kd.R_lt (rr HO_7))) (below_size (bb HB)));have n2_ := am (below_step (bb HB) hb);clear HO_7 HB;have HO_7 := n0_;have HO134 := n1_;have HB := n2_;clear n0_ n1_ n2_;(try clear hb);(try clear hb2);(try clear hk);(try clear hi);(try clear ho0)))
      go_ret
      exact ⟨_,by first|rfl|(simp [errW_none,errW_some] <;> rfl)|(simp [*,errW_none,errW_some] <;> rfl),by (with_reducible repeat (first|apply Kd.R_alloc|apply Kd.R_drewN|apply Kd.R_drew));exact Kd.R_mono HO134.out (fun _ hk => trivial),bb HB⟩
  ·rw [if_neg c5] at H
   exact absurd H (by simp)
 ·rw [if_neg c4] at H
  exact absurd H (by simp)
end Go.Proofs.Ytjnkkfdlcbcelaa.Pr
end
section
namespace Go.Proofs.Ytjnkkfdlcbcelaa.Fd
def pw (p : Nat) : Nat → Nat → Nat → Nat → Nat
 | 0,_,_,acc => acc
 | k + 1,a,n,acc => pw p k (a * a % p) (n / 2) (if n % 2 = 1 then acc * a % p else acc)
theorem pow_mod' (a n p : Nat) : (a % p) ^ n % p = a ^ n % p := (Nat.pow_mod a n p).symm
theorem pow_two_half (a n : Nat) : a ^ n = (a * a) ^ (n / 2) * a ^ (n % 2) := by
 rw [← Nat.pow_two,← Nat.pow_mul,← Nat.pow_add];congr 1;omega
theorem pw_spec (p : Nat) : ∀ (k a n acc : Nat),n < 2 ^ k → pw p k a n acc % p = acc * a ^ n % p
 | 0,a,n,acc,h => by
  have : n = 0 := by simpa using h
  subst this;simp [pw]
 | k + 1,a,n,acc,h => by
  have hn : n / 2 < 2 ^ k := by rw [Nat.pow_succ] at h;omega
  rw [pw,pw_spec p k _ _ _ hn,pow_two_half a n]
  have e1 : (a * a % p) ^ (n / 2) % p = (a * a) ^ (n / 2) % p := pow_mod' _ _ _
  rcases Nat.mod_two_eq_zero_or_one n with e|e
  ·rw [e,if_neg (by decide),Nat.pow_zero,Nat.mul_one,Nat.mul_mod,e1,← Nat.mul_mod]
  ·rw [e,if_pos rfl,Nat.pow_one,Nat.mul_mod,e1,← Nat.mul_mod,Nat.mod_mul_mod]
   congr 1
   rw [Nat.mul_assoc,Nat.mul_comm a]
def Prm (q : Nat) : Prop := 1 < q ∧ ∀ e,e ∣ q → e = 1 ∨ e = q
theorem Prm.of_below {q : Nat} (h1 : 1 < q) (h : ∀ e,e < q → e ∣ q → e = 1) : Prm q :=
 ⟨h1,fun e he => by
  rcases Nat.lt_or_ge e q with h2|h2
  ·exact .inl (h e h2 he)
  ·exact .inr (Nat.le_antisymm (Nat.le_of_dvd (by omega) he) h2)⟩
def prmB (q : Nat) : Bool := decide (1 < q) && (List.range q).all fun e => decide (e < 2) || decide (q % e ≠ 0)
theorem Prm.of_bool {q : Nat} (h : prmB q = true) : Prm q := by
 simp only [prmB,Bool.and_eq_true,decide_eq_true_eq,List.all_eq_true,List.mem_range,Bool.or_eq_true] at h
 refine .of_below h.1 fun e he hd => ?_
 rcases h.2 e he with h2|h2
 ·have : e ≠ 0 := fun e0 => by subst e0;have := Nat.eq_zero_of_zero_dvd hd;omega
  omega
 ·exact absurd (Nat.mod_eq_zero_of_dvd hd) h2
theorem Prm.dvd_mul {q a b : Nat} (h : Prm q) (hd : q ∣ a * b) : q ∣ a ∨ q ∣ b := by
 rcases h.2 (Nat.gcd q a) (Nat.gcd_dvd_left q a) with e|e
 ·exact .inr (Nat.Coprime.dvd_of_dvd_mul_left e hd)
 ·exact .inl (e ▸ Nat.gcd_dvd_right q a)
def prod : List Nat → Nat
 | [] => 1
 | x :: l => x * prod l
theorem Prm.dvd_prod {q : Nat} (h : Prm q) : ∀ l : List Nat,(∀ x ∈ l,Prm x) → q ∣ prod l → q ∈ l
 | [],_,hd => by
  have := Nat.le_of_dvd (by decide) hd
  have := h.1
  simp [prod] at *;omega
 | x :: l,hl,hd => by
  rcases h.dvd_mul hd with e|e
  ·rcases (hl x (by simp)).2 q e with e1|e1
   ·have := h.1;omega
   ·simp [e1]
  ·exact List.mem_cons_of_mem _ (h.dvd_prod l (fun y hy => hl y (List.mem_cons_of_mem _ hy)) e)
theorem prime_factor : ∀ m : Nat,1 < m → ∃ q,Prm q ∧ q ∣ m := by
 intro m
 induction m using Nat.strongRecOn with
 | _ m ih =>
  intro hm
  by_cases h : ∃ e,e < m ∧ e ∣ m ∧ e ≠ 1
  ·obtain ⟨e,he,hd,h1⟩ := h
   have : e ≠ 0 := fun e0 => by subst e0;have := Nat.eq_zero_of_zero_dvd hd;omega
   obtain ⟨q,hq,hqe⟩ := ih e he (by omega)
   exact ⟨q,hq,Nat.dvd_trans hqe hd⟩
  ·exact ⟨m,.of_below hm fun e he hd => Classical.byContradiction fun h1 => h ⟨e,he,hd,h1⟩,Nat.dvd_refl m⟩
theorem pigeon : ∀ (n : Nat) (f : Nat → Nat),(∀ i,i < n → f i < n) → (∀ i j,i < n → j < n → f i = f j → i = j) → ∀ a,a < n → ∃ i,i < n ∧ f i = a
 | 0,_,_,_,a,ha => absurd ha (by omega)
 | n + 1,f,hf,hi,a,ha => by
  refine Classical.byContradiction fun hno => ?_
  have hno' : ∀ i,i < n + 1 → f i ≠ a := fun i h e => hno ⟨i,h,e⟩
  let f' : Nat → Nat := fun i => if f i = n then a else f i
  have hlt : ∀ i,i < n + 1 → f' i < n := by
   intro i h
   have h1 := hf i h
   have h2 := hno' i h
   show (if f i = n then a else f i) < n
   split
   ·rename_i e;rw [e] at h2;omega
   ·omega
  have hinj : ∀ i j,i < n + 1 → j < n + 1 → f' i = f' j → i = j := by
   intro i j h1 h2 e
   have a1 := hno' i h1
   have a2 := hno' j h2
   refine hi i j h1 h2 ?_
   change (if f i = n then a else f i) = (if f j = n then a else f j) at e
   split at e <;> split at e <;> first|omega|(exfalso;omega)
  obtain ⟨i,h1,h2⟩ := pigeon n f' (fun i h => hlt i (by omega)) (fun i j h1 h2 => hinj i j (by omega) (by omega)) (f' n) (hlt n (by omega))
  have := hinj i n (by omega) (by omega) h2
  omega
section order
variable {p g : Nat} (hp : 1 < p)
theorem one_mul_mod {a b : Nat} (h : a % p = 1 % p) : a * b % p = b % p := by
 rw [Nat.mul_mod,h,← Nat.mul_mod,Nat.one_mul]
theorem one_pow_mod {a : Nat} (h : a % p = 1 % p) (n : Nat) : a ^ n % p = 1 % p := by
 rw [Nat.pow_mod,h,← Nat.pow_mod,Nat.one_pow]
theorem pow_mul_mod {d : Nat} (h : g ^ d % p = 1 % p) (m : Nat) : g ^ (d * m) % p = 1 % p := by
 rw [Nat.pow_mul];exact one_pow_mod h m
theorem pow_mod_step {a b : Nat} (ha : g ^ a % p = 1 % p) (hb : g ^ b % p = 1 % p) : g ^ (a % b) % p = 1 % p := by
 have h := Nat.div_add_mod a b
 rw [← h,Nat.pow_add,one_mul_mod (pow_mul_mod hb _)] at ha
 exact ha
theorem pow_gcd (a b : Nat) (ha : g ^ a % p = 1 % p) (hb : g ^ b % p = 1 % p) : g ^ (Nat.gcd a b) % p = 1 % p := by
 induction a,b using Nat.gcd.induction with
 | H0 b => simpa using hb
 | H1 a b h ih =>
  rw [Nat.gcd_rec]
  exact ih (pow_mod_step hb ha) ha
variable (hone : g ^ (p - 1) % p = 1 % p)
theorem order_full (fs : List Nat) (hfs : ∀ x ∈ fs,Prm x) (hprod : p - 1 = prod fs) (hno : ∀ q ∈ fs,g ^ ((p - 1) / q) % p ≠ 1 % p) (hone : g ^ (p - 1) % p = 1 % p)
  (i : Nat) (h0 : 0 < i) (hi : i < p - 1) : g ^ i % p ≠ 1 % p := by
 intro h
 have hg := pow_gcd i (p - 1) h hone
 have d1 := Nat.gcd_dvd_left i (p - 1)
 have d2 := Nat.gcd_dvd_right i (p - 1)
 generalize Nat.gcd i (p - 1) = d at hg d1 d2
 obtain ⟨m,hm⟩ := d2
 have hd : d ≤ i := Nat.le_of_dvd h0 d1
 have hm1 : 1 < m := by
  rcases m with _|_|m
  ·omega
  ·omega
  ·omega
 obtain ⟨q,hq,k,hk⟩ := prime_factor m hm1
 have hqm : q ∈ fs := hq.dvd_prod fs hfs (by rw [← hprod,hm,hk];exact ⟨d * k,by rw [Nat.mul_left_comm]⟩)
 refine hno q hqm ?_
 have : (p - 1) / q = d * k := by
  rw [hm,hk,Nat.mul_left_comm,Nat.mul_div_cancel_left _ (by have := hq.1;omega)]
 rw [this]
 exact pow_mul_mod hg k
include hp in
theorem all_powers (hord : ∀ i,0 < i → i < p - 1 → g ^ i % p ≠ 1 % p) (hone : g ^ (p - 1) % p = 1 % p) (a : Nat) (h0 : 0 < a) (ha : a < p) : ∃ i,g ^ i % p = a := by
 have unit : ∀ i,i ≤ p - 1 → g ^ i * g ^ (p - 1 - i) % p = 1 % p := by
  intro i hi;rw [← Nat.pow_add,show i + (p - 1 - i) = p - 1 from by omega];exact hone
 have nz : ∀ i,i < p - 1 → g ^ i % p ≠ 0 := by
  intro i hi h
  have := unit i (by omega)
  rw [Nat.mul_mod,h,Nat.zero_mul,Nat.zero_mod,Nat.mod_eq_of_lt hp] at this
  omega
 have inj : ∀ i j,i < j → j < p - 1 → g ^ i % p ≠ g ^ j % p := by
  intro i j hij hj h
  refine hord (j - i) (by omega) (by omega) ?_
  have e1 : g ^ j * g ^ (p - 1 - i) % p = 1 % p := by
   rw [Nat.mul_mod,← h,← Nat.mul_mod];exact unit i (by omega)
  have e2 : g ^ j * g ^ (p - 1 - i) = g ^ (p - 1) * g ^ (j - i) := by
   rw [← Nat.pow_add,← Nat.pow_add];congr 1;omega
  rw [e2,one_mul_mod hone] at e1
  exact e1
 obtain ⟨i,_,h2⟩ := pigeon (p - 1) (fun i => g ^ i % p - 1) (fun i h => by
   have := nz i h;have := Nat.mod_lt (g ^ i) (show 0 < p by omega);omega)
  (fun i j h1 h2 h => by
   have a1 := nz i h1
   have a2 := nz j h2
   have h : g ^ i % p = g ^ j % p := by omega
   rcases Nat.lt_trichotomy i j with h3|h3|h3
   ·exact absurd h (inj i j h3 h2)
   ·exact h3
   ·exact absurd h.symm (inj j i h3 h1)) (a - 1) (by omega)
 refine ⟨i,?_⟩
 have := nz i ‹_›
 omega
include hp in
theorem fermat_of (hord : ∀ i,0 < i → i < p - 1 → g ^ i % p ≠ 1 % p) (hone : g ^ (p - 1) % p = 1 % p) (a : Nat) (h0 : 0 < a) (ha : a < p) : a ^ (p - 1) % p = 1 % p := by
 obtain ⟨i,hi⟩ := all_powers hp hord hone a h0 ha
 rw [← hi,pow_mod',← Nat.pow_mul,Nat.mul_comm]
 exact pow_mul_mod hone i
end order
structure Good (p : Nat) : Prop where
 big : 31 ≤ p
 small : p < 2305843009213693952
 fermat : ∀ a,0 < a → a < p → a ^ (p - 1) % p = 1
def certB (p g : Nat) (fs : List Nat) : Bool :=
 decide (31 ≤ p) && decide (p < 2305843009213693952) && fs.all prmB && decide (p - 1 = prod fs) && decide (pw p 64 g (p - 1) 1 % p = 1 % p) && fs.all fun q => decide (pw p 64 g ((p - 1) / q) 1 % p ≠ 1 % p)
theorem Good.of_cert {p g : Nat} {fs : List Nat} (h : certB p g fs = true) : Good p := by
 simp only [certB,Bool.and_eq_true,decide_eq_true_eq,List.all_eq_true] at h
 obtain ⟨⟨⟨⟨⟨h1,h2⟩,h3⟩,h4⟩,h5⟩,h6⟩ := h
 have hb : ∀ n,n < p → n < 2 ^ 64 := fun n hn => by
  have : (2 : Nat) ^ 64 = 18446744073709551616 := by decide
  omega
 have hone : g ^ (p - 1) % p = 1 % p := by
  rw [pw_spec p 64 g (p - 1) 1 (hb _ (by omega)),Nat.one_mul] at h5;exact h5
 refine ⟨h1,h2,fun a h0 ha => ?_⟩
 have := fermat_of (p := p) (g := g) (by omega) (order_full fs (fun x hx => .of_bool (h3 x hx)) h4 (fun q hq => by
  have := h6 q hq
  rw [pw_spec p 64 g _ 1 (hb _ (by have := Nat.div_le_self (p - 1) q;omega)),Nat.one_mul] at this
  exact this) hone) hone a h0 ha
 rw [this,Nat.mod_eq_of_lt (by omega)]
theorem good31 : Good 31 := Good.of_cert (g := 3) (fs := [2,3,5]) (by decide +kernel)
theorem good127 : Good 127 := Good.of_cert (g := 3) (fs := [2,3,3,7]) (by decide +kernel)
theorem good8191 : Good 8191 := Good.of_cert (g := 17) (fs := [2,3,3,5,7,13]) (by decide +kernel)
theorem good131071 : Good 131071 := Good.of_cert (g := 3) (fs := [2,3,5,17,257]) (by decide +kernel)
theorem good524287 : Good 524287 := Good.of_cert (g := 3) (fs := [2,3,3,3,7,19,73]) (by decide +kernel)
theorem good2147483647 : Good 2147483647 := Good.of_cert (g := 7) (fs := [2,3,3,7,11,31,151,331]) (by decide +kernel)
theorem good2305843009213693951 : Good 2305843009213693951 := Good.of_cert (g := 37) (fs := [2,3,3,5,5,7,11,13,31,41,61,151,331,1321]) (by decide +kernel)
end Go.Proofs.Ytjnkkfdlcbcelaa.Fd
end
section
namespace Go.Proofs.Ytjnkkfdlcbcelaa.E
open Go.RowKit Go.Proofs.Ytjnkkfdlcbcelaa.Pr Go.Proofs.Ytjnkkfdlcbcelaa.Hw Go.Proofs.YtjnkkfdlcbcelaaW.PrintWords Go.Proofs.YtjnkkfdlcbcelaaW.PrintLast Go.Proofs.YtjnkkfdlcbcelaaW.PrintMore Go.Proofs.Ytjnkkfdlcbcelaa.Fd
def Sup (p : Int) (q : Nat) : Prop :=
 (p = 31 ∧ q = 5) ∨ (p = 127 ∧ q = 7) ∨ (p = 8191 ∧ q = 13) ∨ (p = 131071 ∧ q = 17) ∨ (p = 524287 ∧ q = 19) ∨ (p = 2147483647 ∧ q = 31) ∨ (p = 2305843009213693951 ∧ q = 61)
def Supp (p : Int) : Prop := ∃ q,Sup p q
theorem Sup.width {p : Int} {q : Nat} (h : Sup p q) : Ev (fun k => field_width.f k p) (q : Int) := by
 refine Ev.of (field_width.mono p) (k := 3) ?_
 rcases h with ⟨rfl,rfl⟩|⟨rfl,rfl⟩|⟨rfl,rfl⟩|⟨rfl,rfl⟩|⟨rfl,rfl⟩|⟨rfl,rfl⟩|⟨rfl,rfl⟩ <;> kernel_rfl
theorem Sup.eq {p : Int} {q : Nat} (h : Sup p q) : p = 2 ^ q - 1 := by
 rcases h with ⟨rfl,rfl⟩|⟨rfl,rfl⟩|⟨rfl,rfl⟩|⟨rfl,rfl⟩|⟨rfl,rfl⟩|⟨rfl,rfl⟩|⟨rfl,rfl⟩ <;> rfl
theorem Sup.q5 {p : Int} {q : Nat} (h : Sup p q) : 5 ≤ q ∧ q ≤ 61 := by unfold Sup at h;omega
theorem Sup.bd {p : Int} {q : Nat} (h : Sup p q) : 31 ≤ p ∧ p ≤ 2305843009213693951 := by unfold Sup at h;omega
theorem Supp.bd {p : Int} (h : Supp p) : 31 ≤ p ∧ p ≤ 2305843009213693951 := h.elim fun _ h => h.bd
theorem Supp.good {p : Int} (h : Supp p)  : Fd.Good p.toNat := by
 obtain ⟨q,h⟩ := h
 rcases h with ⟨rfl,_⟩|⟨rfl,_⟩|⟨rfl,_⟩|⟨rfl,_⟩|⟨rfl,_⟩|⟨rfl,_⟩|⟨rfl,_⟩
 ·exact good31
 ·exact good127
 ·exact good8191
 ·exact good131071
 ·exact good524287
 ·exact good2147483647
 ·exact good2305843009213693951
theorem wrapU (n : Int) : IntKind.u64.wrap n = n % 18446744073709551616 := by simp [IntKind.wrap,IntKind.bits,IntKind.signed]
theorem wrapU_id {n : Int} (h0 : 0 ≤ n) (h1 : n < 18446744073709551616) : IntKind.u64.wrap n = n := by rw [wrapU];exact Int.emod_eq_of_lt h0 h1
theorem pow_le_61 {q : Nat} (hq : q ≤ 61) : 2 ^ q ≤ 2305843009213693952 := by
 have : 2 ^ q ≤ 2 ^ 61 := Nat.pow_le_pow_right (by decide) hq
 have e : (2 : Nat) ^ 61 = 2305843009213693952 := by decide
 omega
theorem and_mask (x : Nat) (hx : x < 18446744073709551616) (q : Nat) (hq : q ≤ 61) : Go.bits .and .u64 (x : Int) ((2 ^ q - 1 : Nat) : Int) = ((x % 2 ^ q : Nat) : Int) := by
 have := pow_le_61 hq
 rw [u64_and_nat x (2 ^ q - 1) hx (by omega),Nat.and_two_pow_sub_one_eq_mod]
theorem or_part (hi lo : Nat) (h1 : hi < 18446744073709551616) (h2 : lo < 18446744073709551616) (q : Nat) (hq : 5 ≤ q) (hq' : q ≤ 61) :
  Go.bits .or .u64 ((lo / 2 ^ q : Nat) : Int) ((hi * 2 ^ (64 - q) % 18446744073709551616 : Nat) : Int) = (((hi * 18446744073709551616 + lo) / 2 ^ q % 18446744073709551616 : Nat) : Int) := by
 have e64 : (18446744073709551616 : Nat) = 2 ^ (64 - q) * 2 ^ q := by
  rw [← Nat.pow_add,show 64 - q + q = 64 from by omega]
 have hlo : lo / 2 ^ q < 2 ^ (64 - q) := by rw [Nat.div_lt_iff_lt_mul (Nat.two_pow_pos _),← e64];exact h2
 rw [u64_or_nat _ _ (by have := Nat.div_le_self lo (2 ^ q);omega) (Nat.mod_lt _ (by decide))]
 congr 1
 have e1 : hi * 2 ^ (64 - q) % 18446744073709551616 = 2 ^ (64 - q) * (hi % 2 ^ q) := by
  rw [e64,Nat.mul_comm hi,Nat.mul_mod_mul_left]
 have e2 : (hi * 18446744073709551616 + lo) / 2 ^ q = 2 ^ (64 - q) * hi + lo / 2 ^ q := by
  rw [e64,← Nat.mul_assoc,Nat.add_comm,Nat.add_mul_div_right _ _ (Nat.two_pow_pos _),Nat.add_comm,Nat.mul_comm hi]
 have hm := Nat.mod_lt hi (Nat.two_pow_pos q)
 have e3 := Nat.div_add_mod hi (2 ^ q)
 rw [e1,e2,Nat.or_comm,← Nat.two_pow_add_eq_or_of_lt hlo]
 generalize hi % 2 ^ q = m at *
 generalize lo / 2 ^ q = l at *
 have e4 : 2 ^ (64 - q) * hi + l = 18446744073709551616 * (hi / 2 ^ q) + (2 ^ (64 - q) * m + l) := by
  generalize hi / 2 ^ q = d at *
  rw [← e3,Nat.mul_add,← Nat.mul_assoc,← e64,Nat.add_assoc]
 have e5 : 2 ^ (64 - q) * m + l < 18446744073709551616 := by
  have : 2 ^ (64 - q) * (m + 1) ≤ 2 ^ (64 - q) * 2 ^ q := Nat.mul_le_mul_left _ hm
  rw [← e64,Nat.mul_add] at this
  omega
 rw [e4,Nat.mul_add_mod,Nat.mod_eq_of_lt e5]
theorem step_mod (N q : Nat) : (N / 2 ^ q + N % 2 ^ q) % (2 ^ q - 1) = N % (2 ^ q - 1) := by
 have h := Nat.div_add_mod N (2 ^ q)
 have h2 : 0 < 2 ^ q := Nat.two_pow_pos q
 generalize N / 2 ^ q = d at *
 generalize N % 2 ^ q = m at *
 have : N = (2 ^ q - 1) * d + (d + m) := by
  rw [← h,Nat.sub_mul,Nat.one_mul]
  have : d ≤ 2 ^ q * d := Nat.le_mul_of_pos_left d h2
  omega
 rw [this,Nat.mul_add_mod]
theorem shrN (x q : Nat) (hq : q ≤ 64) : shr .u64 (x : Int) (q : Int) = ((x / 2 ^ q : Nat) : Int) := by
 unfold shr
 rw [show min (q : Int).toNat IntKind.u64.bits = q from by simp [IntKind.bits];omega]
 simp
theorem shlN (x q : Nat) (hq : q ≤ 64) : shl .u64 (x : Int) (q : Int) = ((x * 2 ^ q % 18446744073709551616 : Nat) : Int) := by
 unfold shl
 rw [show min (q : Int).toNat IntKind.u64.bits = q from by simp [IntKind.bits];omega,wrapU]
 simp
theorem fold_l0 {p : Int} {q : Nat} (h : Sup p q) : ∀ (N hi lo : Nat),hi < 18446744073709551616 → lo < 18446744073709551616 → hi * 18446744073709551616 + lo = N →
  Ev (fun k => field_fold.l0 k p hi lo q) ((N % p.toNat : Nat) : Int) := by
 have hq := h.q5
 have hp := h.eq
 have hpow := pow_le_61 hq.2
 have hpn : p = ((2 ^ q - 1 : Nat) : Int) := by
  rw [hp,Int.natCast_sub (Nat.one_le_two_pow)]
  simp
 have hpn' : p.toNat = 2 ^ q - 1 := by rw [hpn];rfl
 have h32 : 2 ^ 5 ≤ 2 ^ q := Nat.pow_le_pow_right (n := 2) (by decide) hq.1
 intro N
 induction N using Nat.strongRecOn with
 | _ N ih =>
  intro hi lo h1 h2 hN
  have hround : 2 ^ q ≤ N → Ev (fun k => (bits_Add64.f (Go.bits .or .u64 (shr .u64 lo q) (shl .u64 hi (IntKind.u64.wrap (64 - q)))) (Go.bits .and .u64 lo p) 0).bind fun bt239 => (field_fold.l0 k p (IntKind.u64.wrap ((shr .u64 hi q) + bt239.2)) bt239.1 q)) ((N % p.toNat : Nat) : Int) := by
   intro hc
   have e64 : (18446744073709551616 : Nat) = 2 ^ (64 - q) * 2 ^ q := by
    rw [← Nat.pow_add,show 64 - q + q = 64 from by omega]
   have hw : IntKind.u64.wrap (64 - q) = ((64 - q : Nat) : Int) := by rw [wrapU_id (by omega) (by omega)];omega
   have eA := or_part hi lo h1 h2 q hq.1 hq.2
   have eB : lo % 2 ^ q = N % 2 ^ q := by rw [← hN,e64,← Nat.mul_assoc,Nat.mul_comm _ (2 ^ q),Nat.mul_add_mod]
   have eC : hi / 2 ^ q = N / 2 ^ q / 18446744073709551616 := by
    rw [Nat.div_div_eq_div_mul,Nat.mul_comm,← Nat.div_div_eq_div_mul,← hN,Nat.mul_comm hi,Nat.mul_add_div (by decide),Nat.div_eq_of_lt h2,Nat.add_zero]
   rw [hw,shrN lo q (by omega),shrN hi q (by omega),shlN hi _ (by omega),eA,hN,hpn,and_mask lo h2 q hq.2,eB,eC]
   have hN128 : N < 18446744073709551616 * 18446744073709551616 := by rw [← hN];omega
   have hdm := Nat.div_add_mod N (2 ^ q)
   have hmlt := Nat.mod_lt N (Nat.two_pow_pos q)
   have hstep := step_mod N q
   have hd1 : 1 ≤ N / 2 ^ q := (Nat.le_div_iff_mul_le (Nat.two_pow_pos q)).2 (by omega)
   rw [← hpn,hpn'] at *
   have hlt : N / 2 ^ q + N % 2 ^ q < N := by
    have : 2 * (N / 2 ^ q) ≤ 2 ^ q * (N / 2 ^ q) := Nat.mul_le_mul_right _ (by omega)
    omega
   rw [← hstep]
   generalize N / 2 ^ q = d at *
   generalize N % 2 ^ q = m at *
   have hb : bits_Add64.f ((d % 18446744073709551616 : Nat) : Int) (m : Int) 0 = some ((((d % 18446744073709551616 + m) % 18446744073709551616 : Nat) : Int),(((d % 18446744073709551616 + m) / 18446744073709551616 : Nat) : Int)) := by
    unfold bits_Add64.f
    rw [if_pos (by omega),if_pos (by omega),if_pos (by omega),if_pos (by omega)]
    simp
   rw [hb]
   simp only [Option.bind_some]
   have e9 : IntKind.u64.wrap (((d / 18446744073709551616 : Nat) : Int) + (((d % 18446744073709551616 + m) / 18446744073709551616 : Nat) : Int)) = (((d + m) / 18446744073709551616 : Nat) : Int) := by
    rw [wrapU_id (by omega) (by omega)];omega
   rw [e9,show (d % 18446744073709551616 + m) % 18446744073709551616 = (d + m) % 18446744073709551616 from by omega]
   have := ih (d + m) hlt ((d + m) / 18446744073709551616) ((d + m) % 18446744073709551616) (by omega) (by omega) (Nat.div_add_mod' _ _)
   rwa [hpn'] at this
  by_cases hhi : hi = 0
  ·subst hhi
   by_cases hlo : (lo : Int) > p
   ·refine Ev.step (fun k => ?_) (hround (by omega))
    simp only [field_fold.l0]
    rw [if_pos (by rfl),if_pos hlo,if_pos (by omega),if_pos (by rw [wrapU_id (by omega) (by omega)];omega)]
   ·refine Ev.of (fun k => (field_fold.mono_l k) _ _ _ _) (k := 1) ?_
    simp only [field_fold.l0]
    rw [if_pos (by rfl),if_neg hlo]
    have hN' : N = lo := by omega
    by_cases e : (lo : Int) = p
    ·rw [if_pos e,hN',show p.toNat = lo from by omega,Nat.mod_self];rfl
    ·rw [if_neg e,hN',Nat.mod_eq_of_lt (by omega)]
  ·refine Ev.step (fun k => ?_) (hround (by omega))
   simp only [field_fold.l0]
   rw [if_neg (by omega),if_pos (by omega),if_pos (by rw [wrapU_id (by omega) (by omega)];omega)]
theorem fold_ev {p : Int} (h : Supp p) (hi lo : Int) (h0 : 0 ≤ hi) (h1 : hi < 18446744073709551616) (h2 : 0 ≤ lo) (h3 : lo < 18446744073709551616) :
  Ev (fun k => field_fold.f k p hi lo) ((hi * 18446744073709551616 + lo) % p) := by
 obtain ⟨q,h⟩ := h
 have := h.bd
 refine (Ev.bind (f := fun k t => field_fold.l0 k p hi lo t) h.width (a := q) ?_).congr fun k => rfl
 have := fold_l0 h _ hi.toNat lo.toNat (by omega) (by omega) rfl
 rw [Int.toNat_of_nonneg h0,Int.toNat_of_nonneg h2] at this
 have e : (((hi.toNat * 18446744073709551616 + lo.toNat) % p.toNat : Nat) : Int) = (hi * 18446744073709551616 + lo) % p := by
  rw [Int.natCast_emod,Int.natCast_add,Int.natCast_mul,Int.toNat_of_nonneg h0,Int.toNat_of_nonneg h2,Int.toNat_of_nonneg (by omega)];rfl
 rwa [e] at this
def Res (p a : Int) : Prop := 0 ≤ a ∧ a < p
theorem Res.mod {p : Int} (h : Supp p) (a : Int) : Res p (a % p) := by
 have := h.bd
 exact ⟨Int.emod_nonneg _ (by omega),Int.emod_lt_of_pos _ (by omega)⟩
theorem Res.eq {p a : Int} (h : Res p a) : a % p = a := Int.emod_eq_of_lt h.1 h.2
theorem add_ev {p : Int} (h : Supp p) {a b : Int} (ha : Res p a) (hb : Res p b) : Ev (fun k => field_Add.f k p a b) ((a + b) % p) := by
 have := h.bd
 obtain ⟨a0,a1⟩ := ha
 obtain ⟨b0,b1⟩ := hb
 have e := fold_ev h 0 (a + b) (by omega) (by omega) (by omega) (by omega)
 rw [Int.zero_mul,Int.zero_add] at e
 refine (Ev.bind (f := fun k t => some t) e (Ev.now _)).congr fun k => ?_
 show (field_fold.f k p 0 (IntKind.u64.wrap (a + b))).bind _ = _
 rw [wrapU_id (by omega) (by omega)]
theorem neg_eq {p : Int} (h : Supp p) {a : Int} (ha : Res p a) : field_Neg.f p a = some (-a % p) := by
 have := h.bd
 obtain ⟨a0,a1⟩ := ha
 unfold field_Neg.f
 by_cases e : a = 0
 ·rw [if_pos e,e];simp
 ·rw [if_neg e,wrapU_id (by omega) (by omega),show -a = (p - a) + p * (-1) from by omega,Int.add_mul_emod_self_left,Int.emod_eq_of_lt (by omega) (by omega)]
theorem sub_ev {p : Int} (h : Supp p) {a b : Int} (ha : Res p a) (hb : Res p b) : Ev (fun k => field_Sub.f k p a b) ((a - b) % p) := by
 have e := add_ev h ha (Res.mod h (-b))
 rw [show (a + -b % p) % p = (a - b) % p from by rw [Int.add_emod,Int.emod_emod_of_dvd _ (Int.dvd_refl p),← Int.add_emod,Int.sub_eq_add_neg]] at e
 refine (Ev.bind (f := fun k t => some t) e (Ev.now _)).congr fun k => ?_
 show (field_Neg.f p b).bind _ = _
 rw [neg_eq h hb]
 rfl
theorem mul64_eq {a b : Int} (a0 : 0 ≤ a) (a1 : a < 2305843009213693952) (b0 : 0 ≤ b) (b1 : b < 2305843009213693952) :
  bits_Mul64.f a b = some (a * b / 18446744073709551616,a * b % 18446744073709551616) := by
 have hA : Go.bits .and .u64 a 4294967295 = a % 4294967296 := by
  have := and_mask a.toNat (by omega) 32 (by decide)
  rw [Int.toNat_of_nonneg a0] at this
  rw [show (4294967295 : Int) = ((2 ^ 32 - 1 : Nat) : Int) from by decide,this]
  omega
 have hB : Go.bits .and .u64 b 4294967295 = b % 4294967296 := by
  have := and_mask b.toNat (by omega) 32 (by decide)
  rw [Int.toNat_of_nonneg b0] at this
  rw [show (4294967295 : Int) = ((2 ^ 32 - 1 : Nat) : Int) from by decide,this]
  omega
 have ea : a = 4294967296 * (a / 4294967296) + a % 4294967296 := by omega
 have eb : b = 4294967296 * (b / 4294967296) + b % 4294967296 := by omega
 have x1 : 0 ≤ a / 4294967296 ∧ a / 4294967296 < 536870912 := by omega
 have y1 : 0 ≤ b / 4294967296 ∧ b / 4294967296 < 536870912 := by omega
 have x0 : 0 ≤ a % 4294967296 ∧ a % 4294967296 < 4294967296 := by omega
 have y0 : 0 ≤ b % 4294967296 ∧ b % 4294967296 < 4294967296 := by omega
 unfold bits_Mul64.f
 rw [hA,hB]
 have e : a * b = 18446744073709551616 * (a / 4294967296 * (b / 4294967296)) + 4294967296 * (a / 4294967296 * (b % 4294967296)) + 4294967296 * (a % 4294967296 * (b / 4294967296)) + a % 4294967296 * (b % 4294967296) := by
  generalize a / 4294967296 = u at *
  generalize a % 4294967296 = v at *
  generalize b / 4294967296 = s at *
  generalize b % 4294967296 = t at *
  subst ea eb
  grind
 have bd : ∀ {u v U V : Int},0 ≤ u ∧ u < U → 0 ≤ v ∧ v < V → 0 ≤ u * v ∧ u * v ≤ (U - 1) * (V - 1) := by
  intro u v U V hu hv
  exact ⟨Int.mul_nonneg hu.1 hv.1,Int.mul_le_mul (by omega) (by omega) hv.1 (by omega)⟩
 have b1 := bd x1 y1
 have b2 := bd x1 y0
 have b3 := bd x0 y1
 have b4 := bd x0 y0
 have hm : IntKind.u64.wrap (a * b) = a * b % 18446744073709551616 := wrapU _
 rw [hm]
 generalize a * b = E at *
 generalize a / 4294967296 * (b / 4294967296) = D at *
 generalize a / 4294967296 * (b % 4294967296) = B at *
 generalize a % 4294967296 * (b / 4294967296) = C at *
 generalize a % 4294967296 * (b % 4294967296) = A at *
 have m32 : ∀ x : Int,0 ≤ x → x < 18446744073709551616 → Go.bits .and .u64 x 4294967295 = x % 4294967296 := by
  intro x h0 h1
  have := and_mask x.toNat (by omega) 32 (by decide)
  rw [Int.toNat_of_nonneg h0] at this
  rw [show (4294967295 : Int) = ((2 ^ 32 - 1 : Nat) : Int) from by decide,this]
  omega
 rw [wrapU_id (n := A) (by omega) (by omega),wrapU_id (n := B) (by omega) (by omega),wrapU_id (n := C) (by omega) (by omega),wrapU_id (n := D) (by omega) (by omega)]
 rw [wrapU_id (n := B + A / 4294967296) (by omega) (by omega),m32 _ (by omega) (by omega)]
 rw [wrapU_id (n := D + (B + A / 4294967296) / 4294967296) (by omega) (by omega),wrapU_id (n := (B + A / 4294967296) % 4294967296 + C) (by omega) (by omega),wrapU_id (by omega) (by omega)]
 congr 2
 omega
theorem mul_ev {p : Int} (h : Supp p) {a b : Int} (ha : Res p a) (hb : Res p b) : Ev (fun k => field_Mul.f k p a b) (a * b % p) := by
 have := h.bd
 obtain ⟨a0,a1⟩ := ha
 obtain ⟨b0,b1⟩ := hb
 have hn := Int.mul_nonneg a0 b0
 have hl : a * b ≤ 2305843009213693951 * 2305843009213693951 := Int.mul_le_mul (by omega) (by omega) b0 (by omega)
 have e := fold_ev h (a * b / 18446744073709551616) (a * b % 18446744073709551616) (by omega) (by omega) (by omega) (by omega)
 rw [Int.mul_comm (a * b / 18446744073709551616),Int.mul_ediv_add_emod] at e
 refine (Ev.bind (f := fun k t => some t) e (Ev.now _)).congr fun k => ?_
 show (bits_Mul64.f a b).bind _ = _
 rw [mul64_eq a0 (by omega) b0 (by omega)]
 rfl
theorem and_one (n : Int) (h0 : 0 ≤ n) (h1 : n < 18446744073709551616) : Go.bits .and .u64 n 1 = n % 2 := by
 have := and_mask n.toNat (by omega) 1 (by decide)
 rw [Int.toNat_of_nonneg h0] at this
 rw [show (1 : Int) = ((2 ^ 1 - 1 : Nat) : Int) from by decide,this]
 omega
theorem mulm {p a a' b b' : Int} (h : a % p = a' % p) (k : b % p = b' % p) : a * b % p = a' * b' % p := by rw [Int.mul_emod,h,k,← Int.mul_emod]
theorem modm (p a : Int) : a % p % p = a % p := Int.emod_emod_of_dvd _ (Int.dvd_refl p)
theorem pow_two_half (a : Int) (n : Nat) : a ^ n = (a * a) ^ (n / 2) * a ^ (n % 2) := by
 have h : a * a = a ^ 2 := by rw [Int.pow_succ,Int.pow_succ,Int.pow_zero,Int.one_mul]
 rw [h,← Int.pow_mul,← Int.pow_add];congr 1;omega
theorem pow_mod_base (a p : Int) : ∀ n : Nat,(a % p) ^ n % p = a ^ n % p
 | 0 => by rw [Int.pow_zero,Int.pow_zero]
 | n + 1 => by rw [Int.pow_succ,Int.pow_succ,Int.mul_emod,pow_mod_base a p n,Int.emod_emod_of_dvd _ (Int.dvd_refl p),← Int.mul_emod]
theorem pow_l0 {p : Int} (h : Supp p) : ∀ (n : Nat) (a out : Int),n < 18446744073709551616 → Res p a → Res p out → Ev (fun k => field_Pow.l0 k p a n out) (out * a ^ n % p) := by
 intro n
 induction n using Nat.strongRecOn with
 | _ n ih =>
  intro a out hn ha ho
  by_cases h0 : n = 0
  ·subst h0
   refine Ev.of (fun k => (field_Pow.mono_l k) _ _ _ _) (k := 1) ?_
   simp only [field_Pow.l0]
   rw [if_neg (by omega),Int.pow_zero,Int.mul_one,ho.eq]
  ·have hsq := mul_ev h ha ha
   have hrec := fun out' ho' => ih (n / 2) (by omega) (a * a % p) out' (by omega) (Res.mod h _) ho'
   have eh := pow_two_half a n
   have e1 := pow_mod_base (a * a) p (n / 2)
   by_cases hodd : n % 2 = 1
   ·refine Ev.step (f := fun k => (field_Mul.f k p out a).bind fun t244 => ((field_Mul.f k p a a).bind fun t245 => (field_Pow.l0 k p t245 ((n / 2 : Nat) : Int) t244))) (fun k => ?_) ?_
    ·simp only [field_Pow.l0]
     rw [if_pos (by omega),if_pos (by rw [and_one _ (by omega) (by omega)];omega)]
     rfl
    ·refine Ev.bind (mul_ev h ho ha) (Ev.bind hsq ?_)
     have := hrec (out * a % p) (Res.mod h _)
     rw [show out * a ^ n % p = out * a % p * (a * a % p) ^ (n / 2) % p from ?_]
     ·exact this
     ·rw [mulm (Int.emod_emod_of_dvd (out * a) (Int.dvd_refl p)) e1,eh,hodd,Int.pow_one,Int.mul_assoc,Int.mul_comm a ((a * a) ^ (n / 2))]
   ·refine Ev.step (f := fun k => (field_Mul.f k p a a).bind fun t246 => (field_Pow.l0 k p t246 ((n / 2 : Nat) : Int) out)) (fun k => ?_) ?_
    ·simp only [field_Pow.l0]
     rw [if_pos (by omega),if_neg (by rw [and_one _ (by omega) (by omega)];omega)]
     rfl
    ·refine Ev.bind hsq ?_
     have := hrec out ho
     rw [show out * a ^ n % p = out * (a * a % p) ^ (n / 2) % p from ?_]
     ·exact this
     ·rw [mulm (a := out) rfl e1,eh,show n % 2 = 0 from by omega,Int.pow_zero,Int.mul_one]
def invp (p a : Int) : Int := a ^ (p - 2).toNat % p
theorem inv_ev {p : Int} (h : Supp p) {a : Int} (ha : Res p a) (h0 : a ≠ 0) : Ev (fun k => field_Inverse.f k p a) (invp p a,0) := by
 have := h.bd
 have e := pow_l0 h (p - 2).toNat a 1 (by omega) ha ⟨by omega,by omega⟩
 rw [Int.one_mul,show ((p - 2).toNat : Int) = p - 2 from Int.toNat_of_nonneg (by omega)] at e
 refine (Ev.bind (f := fun k t => some (t,0)) e (Ev.now _)).congr fun k => ?_
 show (if a = 0 then _ else (field_Pow.f k p a (IntKind.u64.wrap (p - 2))).bind _) = _
 rw [if_neg h0,wrapU_id (by omega) (by omega)]
 rfl
theorem inv_spec {p : Int} (h : Supp p) {a : Int} (ha : Res p a) (h0 : a ≠ 0) : a * invp p a % p = 1 := by
 have := h.bd
 obtain ⟨a0,a1⟩ := ha
 have e := h.good.fermat a.toNat (by omega) (by omega)
 unfold invp
 rw [mulm rfl (modm p _),Int.mul_comm,← Int.pow_succ,show (p - 2).toNat.succ = p.toNat - 1 from by omega]
 have e2 : ((a.toNat ^ (p.toNat - 1) % p.toNat : Nat) : Int) = 1 := by rw [e];rfl
 rw [Int.natCast_emod,Int.natCast_pow,Int.toNat_of_nonneg a0,Int.toNat_of_nonneg (by omega)] at e2
 exact e2
theorem inv_res {p : Int} (h : Supp p) (a : Int) : Res p (invp p a) := Res.mod h _
theorem over_ev {p : Int} (h : Supp p) {a b : Int} (ha : Res p a) (hb : Res p b) (h0 : b ≠ 0) : Ev (fun k => interpolate_over.f k p a b) (a * invp p b % p) := by
 refine (Ev.bind (f := fun k (t : Int × Int) => (field_Mul.f k p a t.1).bind fun t119 => some t119) (inv_ev h hb h0) (Ev.bind (f := fun k t => some t) (mul_ev h ha (inv_res h b)) (Ev.now _))).congr fun k => rfl
end Go.Proofs.Ytjnkkfdlcbcelaa.E
end
section
namespace Go.Proofs.Ytjnkkfdlcbcelaa.Hw
open Go
section
variable {P : Program} {ops : Array Oper} {md : Region.Mode} {C : World → Prop}
def wpAnyLQ (P : Program) (md : Region.Mode) (ops : Array Oper) (C : World → Prop) (n : Nat) (L : Array Bool → Act → Prop) : Nat → Array Bool → Act → Prop
 | 0,listed,a => L listed a
 | f + 1,listed,a =>
  Region.ready md ops listed ≠ [] ∧ ∀ i ∈ Region.ready md ops listed,i < n ∧ qOp P ops C i (wpAnyLQ P md ops C n L f (listed.setIfInBounds i true)) a
theorem wpAny_of_headQ {n g : Nat} {L : Array Bool → Act → Prop} {Q' : Exit → Act → World → Prop} (hL : ∀ listed a w,C w → L listed a → wpAny P md ops Q' g listed a w) :
  ∀ (f : Nat) (listed : Array Bool) (a : Act) (w : World),C w → wpAnyLQ P md ops C n L f listed a → wpAny P md ops Q' (f + g) listed a w
 | 0,listed,a,w,hw,h => by rw [Nat.zero_add];exact hL _ _ _ hw h
 | f + 1,listed,a,w,hw,h => by
  rw [show f + 1 + g = (f + g) + 1 by omega]
  exact ⟨fun h0 => absurd h0 h.1,fun i hi => wpOp_of_qOp hw (fun a' w' hw' h' => wpAny_of_headQ hL f _ a' w' hw' h') (h.2 i hi).2⟩
theorem wpAnyLQ_first {n i : Nat} {oi : Oper} {v : Value} {L : Array Bool → Act → Prop} (hi : ops[i]? = some oi) (hsel : ∀ (j : Nat) (o : Oper) cs b,ops[j]? = some o → o.op ≠ .select cs b)
  (hs : Region.sinkB md ops n = true) (hc : Region.chainB md ops n = true) (hn : n < ops.size) (hin : i < n)
  (hdone : ∀ listed a,L listed a → ∀ j ∈ Region.ready md ops listed,n ≤ j) :
  ∀ (f : Nat) (listed : Array Bool) (a : Act),HeadInv md ops n listed →
   (∀ j oj,ops[j]? = some oj → j ≠ i → listed.getD j true = false → (∀ e ∈ oj.after,Region.binds md e = true → e.on ≠ i) → oi.apart ops oj = true) →
   i ∈ Region.ready md ops listed → YieldsIn P ops C oi v a →
   wpAnyLQ P md ops C n L f (listed.setIfInBounds i true) (a.put oi.dst v) → wpAnyLQ P md ops C n L (f + 1) listed a := by
 intro f
 induction f with
 | zero =>
  intro listed a inv _ hr hy H
  have hun := (mem_ready.1 hr).1
  refine ⟨fun h => (by rw [h] at hr;cases hr),fun j hj => ?_⟩
  have hjn : j < n := by
   rcases Nat.lt_or_ge j n with h|h
   ·exact h
   ·exact absurd hj (tail_waits hs hc hn inv _ i rfl hin hun j h)
  refine ⟨hjn,?_⟩
  by_cases hji : j = i
  ·subst hji;exact hy.qOp hi H
  ·have := hdone _ _ H j (ready_mono hj hji)
   omega
 | succ f ih =>
  intro listed a inv hfree hr hy H
  have hun := (mem_ready.1 hr).1
  refine ⟨fun h => (by rw [h] at hr;cases hr),fun j hj => ?_⟩
  have hjn : j < n := by
   rcases Nat.lt_or_ge j n with h|h
   ·exact h
   ·exact absurd hj (tail_waits hs hc hn inv _ i rfl hin hun j h)
  refine ⟨hjn,?_⟩
  by_cases hji : j = i
  ·subst hji;exact hy.qOp hi H
  ·have h1 := (H.2 j (ready_mono hj hji)).2
   obtain ⟨hjun,oj,hoj,hall⟩ := mem_ready.1 hj
   have hnot : ∀ e ∈ oj.after,Region.binds md e = true → e.on ≠ i := fun e he hb heq => by
    have h1 := hall e he hb
    rw [heq,getD_both hun] at h1
    cases h1
   have h2 := qOp_put hoj (hfree j oj hoj hji hjun hnot) (fun cs b => hsel i oi cs b hi) (fun cs b => hsel j oj cs b hoj) hy h1
   have hfree' : ∀ k ok,ops[k]? = some ok → k ≠ i → (listed.setIfInBounds j true).getD k true = false →
     (∀ e ∈ ok.after,Region.binds md e = true → e.on ≠ i) → oi.apart ops ok = true := fun k ok hk hki hun hno => by
    refine hfree k ok hk hki ?_ hno
    by_cases hjk : j = k
    ·subst hjk;exact hjun
    ·rw [getD_set_ne true hjk] at hun;exact hun
   refine qOp_mono (fun a' h3 => ih (listed.setIfInBounds j true) a' (inv.set hj hjn) hfree' (ready_mono hr (Ne.symm hji)) h3.1 ?_) h2
   rw [Array.setIfInBounds_comm _ _ hji]
   exact h3.2
theorem wpAnyLQ_lex {n g : Nat} {Lq : Act → Prop} (hsel : Region.noSelect ops = true) (hs : Region.sinkB md ops n = true) (hc : Region.chainB md ops n = true) (hn : n < ops.size) :
  ∀ (l : List Oper) (k : Nat) (listed : Array Bool) (a : Act),(∀ j,j < l.length → l[j]? = ops[k + j]?) → k + l.length = n → HeadInv md ops n listed →
  Region.lexHead md ops g l.length k listed = true → wpQuiet P ops C Lq l a →
  wpAnyLQ P md ops C n (fun listed' a' => Region.seqB md ops g n listed' = true ∧ Lq a') l.length listed a
 | [],k,listed,a,_,hk,_,hB,h => by
  have : k = n := by simpa using hk
  subst this
  exact ⟨by simpa [Region.lexHead] using hB,h⟩
 | o :: l,k,listed,a,hl,hk,inv,hB,h => by
  have h0 : ops[k]? = some o := by simpa using (hl 0 (by simp)).symm
  simp only [List.length_cons,Region.lexHead,Bool.and_eq_true] at hB
  obtain ⟨⟨hr,hf⟩,hB'⟩ := hB
  have hkn : k < n := by simp only [List.length_cons] at hk;omega
  have hr' : k ∈ Region.ready md ops listed := by simpa using hr
  have hst : qOp P ops C k (wpQuiet P ops C Lq l) a := by unfold qOp;simp only [h0];exact h
  obtain ⟨v,hy,hK⟩ := yieldsIn_of_qOp h0 hst
  exact wpAnyLQ_first h0 (Region.noSelect_spec hsel) hs hc hn hkn (fun listed' a' hL => seqB_ready hL.1) l.length listed a inv (Region.free_spec h0 hf) hr' hy
   (wpAnyLQ_lex hsel hs hc hn l (k + 1) _ _ (fun j hj => by have := hl (j + 1) (by simp;omega);simpa [Nat.add_assoc,Nat.add_comm 1 j] using this) (by simp only [List.length_cons] at hk;omega) (inv.set hr' hkn) hB' hK)
theorem wp_region_quiet_tail {id : Nat} {Q : Exit → Act → World → Prop} {a : Act} {w : World} {l : List Oper} (n : Nat) (hm : P.follows .mixedOrders = true) (hB : Region.lexTailB .any l.toArray n = true)
  (hC : C { w with drawn := w.drawn + 1 })
  (h : wpQuiet P l.toArray C (fun a' => ∀ w',C w' → wpList P l.toArray Q (l.drop n) a' w') (l.take n) a) : (Code.region id l.toArray true).wp P Q a w := by
 simp only [Region.lexTailB,Bool.and_eq_true,decide_eq_true_eq] at hB
 obtain ⟨⟨⟨⟨hsel,hn⟩,hs⟩,hc⟩,hlex⟩ := hB
 have hn' : n < l.length := by simpa using hn
 have htl : (l.take n).length = n := by simp;omega
 have hdl : (l.drop n).length = l.toArray.size - n := by simp
 have inv0 : HeadInv .any l.toArray n (Array.replicate l.toArray.size false) :=
  ⟨by simp,fun j oj _ hl => (by rw [getD_replicate_false] at hl;cases hl),fun t _ ht => getD_in (by simpa using ht) (getD_replicate_false _ _)⟩
 have H := wpAnyLQ_lex (md := .any) (g := l.toArray.size - n) hsel hs hc hn (l.take n) 0 _ a (fun j hj => by
  have hj' : j < n := by rw [htl] at hj;exact hj
  simp [hj']) (by simpa using htl) inv0 (by rw [htl];exact hlex) h
 refine wp_region_any hm ?_
 have := wpAny_of_headQ (Q' := Q) (g := l.toArray.size - n) (fun listed a' w' hw' hL => by
  have := wpAny_of_seq (md := .any) (Q' := Q) (l.drop n) n listed a' w' (fun j => by simp [List.getElem?_drop]) (by rw [hdl];exact hL.1) (hL.2 w' hw')
  rwa [hdl] at this) _ _ _ _ hC H
 rw [htl,show n + (l.toArray.size - n) = l.toArray.size by omega] at this
 exact this
theorem wp_region_quiet_tail_drawn {id : Nat} {Q : Exit → Act → World → Prop} {a : Act} {w : World} {l : List Oper} (n : Nat) (hm : P.follows .mixedOrders = true) (hB : Region.lexTailB .any l.toArray n = true)
  (h : wpQuiet P l.toArray (fun w' => ∃ m,w' = w.drewN m) (fun a' => ∀ w',(∃ m,w' = w.drewN m) → wpList P l.toArray Q (l.drop n) a' w') (l.take n) a) : (Code.region id l.toArray true).wp P Q a w :=
 wp_region_quiet_tail n hm hB ⟨1,rfl⟩ h
end
end Go.Proofs.Ytjnkkfdlcbcelaa.Hw
end
section
namespace Go.Proofs.Ytjnkkfdlcbcelaa.Hw
open Go.RowKit Go.Proofs.Ytjnkkfdlcbcelaa.Pr Go.Proofs.YtjnkkfdlcbcelaaW.PrintWords Go.Proofs.YtjnkkfdlcbcelaaW.PrintLast Go.Proofs.YtjnkkfdlcbcelaaW.PrintMore Go.Proofs.Ytjnkkfdlcbcelaa.E
def grow (l : List Int) (n : Nat) : List Int := l ++ List.replicate (n - l.length) 0
def putL (p : Int) (l : List Int) (i : Nat) (k : Int) : List Int := (grow l (i + 1)).set i (((grow l (i + 1)).getD i 0 + k) % p)
structure SumAt (w : World) (base g : Nat) (p : Int) (v : Value) (l : List Int) : Prop where
 blk : w.heap[g]? = some (.cells #[.int .u64 p,v] 92 (0,0))
 own : Kd.R (Kd.int .u64) 22 w base (fun _ => True) v l
 ge : base ≤ g
set_option maxHeartbeats 1000000 in
theorem put_calls {p : Int} (hp : Supp p) {l : List Int} (hl : ∀ x ∈ l,Res p x) (i : Nat) (hi : i < 1099511627776) (hll : l.length ≤ 1099511627776) {k : Int} (hk : Res p k) (w0 w : World) (hB : Below w0.heap.size w0 w) (g : Nat) (v : Value) (h : SumAt w w0.heap.size g p v l) :
  Calls Try.prog 70 #[.pointer (some ⟨g,0,none⟩),.int .i64 (i : Int),.int .u64 k] w fun e w' => e = .returned (.tuple #[]) ∧ Aside0 (∃ v',SumAt w' w0.heap.size g p v' (putL p l i k)) ∧ Below w0.heap.size w0 w' := by
 have HS := Aside0.mk h
 have HBx := Aside0.mk hB
 clear h hB
 go_enter Try.func70,Try.ntmps70
 go_wp2
 go_loopg [12] (i + 1 - l.length) (fun kq v12 w' => ∃ (m : List Int) (v' : Value),Aside0 (SumAt w' w0.heap.size g p v' m) ∧ Aside0 (Below w0.heap.size w0 w') ∧ Aside0 (∃ j,m = l ++ List.replicate j 0 ∧ kq + j = i + 1 - l.length))
 case atStart => exact ⟨l,v,HS,HBx,⟨0,by simp,rfl⟩⟩
 case round =>
  obtain ⟨m,v',HS',HB',⟨j,HM⟩⟩ := hrel
  replace HM := Aside0.mk HM
  clear HS HBx
  obtain ⟨A,c,rfl⟩ := Kd.R_slice HS'.out.own
  have c0 := blk_cell HS'.out.blk 0
  have c1 := blk_cell HS'.out.blk 1
  have f1 := blk_frozen HS'.out.blk 1
  simp only [List.getElem?_toArray,List.getElem?_cons_zero,List.getElem?_cons_succ] at c0 c1
  by_cases hle : m.length ≤ i
  ·have hd : decide (m.length ≤ i) = true := decide_eq_true hle
   obtain ⟨m1,hm1⟩ : ∃ y : List Int,y = m ++ [0] := ⟨_,rfl⟩
   have NM := Aside0.mk hm1
   clear hm1
   go_wp2_with (first|((with_reducible refine gate_builtin (b := .append) (xs := #[.tmp 17,.tmp 18]) rfl ?_);at_builtin;refine Kd.R_append (Kd.int .u64) (w0 := w0) w0.heap.size rfl (.tmp 17) (.tmp 18) 41 22 (.int .u64 0) 8 rfl Try.underlying41 info22 rfl (by decide) (by omega) (.slice A m.length c) m 0 [.int .u64 0] (fun _ => True) (fun _ => False) rfl rfl rfl (fun _ hk => hk.elim) (fun _ _ => trivial) HS'.out.own HB'.out (below_size HB'.out) (by omega) ?_;intro v1 w1 ho hb hg hat;rw [← NM.out] at ho;obtain ⟨A1,q1,rfl⟩ := Kd.R_slice ho;have hblk1 := Aside0.mk (blk_grown HS'.out.blk hg (Kd.R_ne HS'.out.own HS'.out.blk (by decide)));have c1' := blk_cell hblk1.out 1;have f1' := blk_frozen hblk1.out 1;simp only [List.getElem?_toArray,List.getElem?_cons_zero,List.getElem?_cons_succ] at c1';have HO1 := Aside0.mk ho;have HB1 := Aside0.mk hb;clear ho hb hg hat))
   go_roundg (i + 1 - l.length - (j + 1))
   case measure => have := HM.out;have : m.length = l.length + j := (by rw [HM.out.1];simp);omega
   case rel =>
    have hml : m.length = l.length + j := by rw [HM.out.1];simp
    have hk := HM.out.2
    refine ⟨m1,.slice A1 m1.length q1,⟨⟨?_,?_,HS'.out.ge⟩⟩,⟨?_⟩,⟨j + 1,?_,by omega⟩⟩
    ·exact blk_put hblk1.out 1 _ rfl
    ·exact Kd.R_set HO1.out hblk1.out (by decide) 1 _
    ·exact HB1.out.setCell HS'.out.ge _
    ·rw [NM.out,HM.out.1,List.replicate_succ',List.append_assoc]
  ·have hd : decide (m.length ≤ i) = false := decide_eq_false hle
   go_wp2
   have hml : m.length = l.length + j := by rw [HM.out.1];simp
   have hkj := HM.out.2
   obtain ⟨b,q,hv,hb0,how⟩ := R_open HS'.out.own (by omega)
   cases hv
   have ⟨ci,fi⟩ := own_at how (i : Int) (by omega) (by omega)
   rw [Int.toNat_natCast] at ci fi
   have p1 : ((0 : Int) ≤ (i : Int)) = True := eq_true (by omega)
   have p2 : ((i : Int) < (m.length : Int)) = True := eq_true (by omega)
   have hmr : ∀ x ∈ m,Res p x := by
    intro x hx
    rw [HM.out.1] at hx
    rcases List.mem_append.1 hx with h|h
    ·exact hl x h
    ·rw [(List.mem_replicate.1 h).2];have := hp.bd;exact ⟨by omega,by omega⟩
   have hri : Res p (rd m i) := by
    have e : rd m i = m[i]'(by omega) := by unfold rd;rw [Int.toNat_natCast,List.getD_eq_getElem?_getD,List.getElem?_eq_getElem (by omega)];rfl
    rw [e];exact hmr _ (List.getElem_mem _)
   obtain ⟨kk,hkk⟩ := (add_ev hp hri hk).rounds
   have hgm : m = grow l (i + 1) := by rw [HM.out.1];unfold grow;rw [show i + 1 - l.length = j from by omega]
   have HG := Aside0.mk hgm
   have HKK := Aside0.mk hkk
   have HOW := Aside0.mk how
   clear hml hkj hmr hgm hkk how
   refine wp_region_quiet_tail_drawn 19 (by kernel_rfl) (by kernel_rfl) ?_
   simp only [List.take_succ_cons,List.take_zero,List.drop_succ_cons,List.drop_zero]
   repeat (quiet_step ((refine Calls.quiet_of ((field_Add.calls kk _ _ _ ((rd m i + k) % p) _ HKK.out).mono fun e w' h => ⟨h.1,h.2.out⟩))))
   refine wpQuiet_nil ?_
   rintro _ ⟨nq,rfl⟩
   go_wp2
   go_end0
   have hne : g ≠ b := fun e => Kd.R_ne HS'.out.own HS'.out.blk (by decide) (by rw [e];rfl)
   have hset := own_put (pw_own_drewN HOW.out nq) (i : Int) ((rd m i + k) % p)
   rw [Int.toNat_natCast] at hset
   refine ⟨rfl,⟨.slice (some ⟨b,0,none⟩) m.length c,?_,?_,HS'.out.ge⟩,(pw_below_drewN HB'.out nq).setCell hb0 _⟩
   ·exact blk_far (blk_drewN HS'.out.blk nq) hne _
   ·unfold putL
    rw [← HG.out]
    have hl : (m.set i ((m.getD i 0 + k) % p)).length = m.length := by simp
    rw [show m.getD i 0 = rd m i from rfl] at hl ⊢
    refine R_made ?_ (fun _ _ => trivial)
    exact hset
theorem putL_length (p : Int) (l : List Int) (i : Nat) (k : Int) : (putL p l i k).length = max l.length (i + 1) := by unfold putL grow;simp;omega
theorem grow_res {p : Int} (hp : Supp p) {l : List Int} (hl : ∀ x ∈ l,Res p x) (n : Nat) : ∀ x ∈ grow l n,Res p x := by
 intro x hx
 have := hp.bd
 rcases List.mem_append.1 hx with h|h
 ·exact hl x h
 ·rw [(List.mem_replicate.1 h).2];exact ⟨by omega,by omega⟩
theorem putL_res {p : Int} (hp : Supp p) {l : List Int} (hl : ∀ x ∈ l,Res p x) (i : Nat) (k : Int) : ∀ x ∈ putL p l i k,Res p x := by
 intro x hx
 rcases List.mem_or_eq_of_mem_set hx with h|h
 ·exact grow_res hp hl _ x h
 ·rw [h];exact Res.mod hp _
def putsL (p : Int) (m l : List Int) : Nat → List Int
 | 0 => m
 | n + 1 => putL p (putsL p m l n) n (l.getD n 0)
theorem putsL_res {p : Int} (hp : Supp p) {m l : List Int} (hm : ∀ x ∈ m,Res p x) : ∀ n,∀ x ∈ putsL p m l n,Res p x
 | 0 => hm
 | n + 1 => putL_res hp (putsL_res hp hm n) _ _
theorem putsL_length (p : Int) (m l : List Int) : ∀ n,(putsL p m l n).length = max m.length n
 | 0 => by simp [putsL]
 | n + 1 => by rw [putsL,putL_length,putsL_length p m l n];omega
theorem rd_res {p : Int} {l : List Int} (hl : ∀ x ∈ l,Res p x) (i : Nat) (hi : i < l.length) : Res p (rd l i) := by
 have e : rd l i = l[i] := by unfold rd;rw [Int.toNat_natCast,List.getD_eq_getElem?_getD,List.getElem?_eq_getElem hi];rfl
 rw [e];exact hl _ (List.getElem_mem _)
set_option maxHeartbeats 1000000 in
theorem poly_Add.walks (p : Int) (hp : Supp p) (A1 : Option Addr) (c1 : Nat) (l1 : List Int) (A2 : Option Addr) (c2 : Nat) (l2 : List Int) (h1 : ∀ x ∈ l1,Res p x) (h2 : ∀ x ∈ l2,Res p x) (b1 : l1.length ≤ 1099511627776) (b2 : l2.length ≤ 1099511627776) (w : World)
  (hr1 : Kd.C (Kd.int .u64) w A1 l1.length l1) (hc1 : l1.length ≤ c1) (hr2 : Kd.C (Kd.int .u64) w A2 l2.length l2) (hc2 : l2.length ≤ c2) (r : List Int) (k : Nat) (ht : poly_Trim.f k (putsL p (putsL p [] l1 l1.length) l2 l2.length) = some r) :
  Calls Try.prog 56 #[.int .u64 p,.slice A1 l1.length c1,.slice A2 l2.length c2] w fun e w' => ∃ v0_ : Value,e = .returned (v0_) ∧ Kd.R (Kd.int .u64) 22 w' w.heap.size (fun _ => True) v0_ r ∧ Below w.heap.size w w' := by
 have HR1 := Aside0.mk hr1
 have HR2 := Aside0.mk hr2
 have HT := Aside0.mk ht
 have H1 := Aside0.mk h1
 have H2 := Aside0.mk h2
 have HL1 := Aside0.mk (fun n (hn : n ≤ l1.length) => (show (putsL p [] l1 n).length ≤ 1099511627776 from by rw [putsL_length];simp;omega))
 have HL2 := Aside0.mk (fun n (hn : n ≤ l2.length) => (show (putsL p (putsL p [] l1 l1.length) l2 n).length ≤ 1099511627776 from by rw [putsL_length,putsL_length];simp;omega))
 clear hr1 hr2 ht h1 h2
 have hS0 : Aside0 (SumAt (w.alloc (Obj.cells #[Value.int IntKind.u64 p,Value.slice none 0 0] 92)) w.heap.size w.heap.size p (.slice none 0 0) []) := ⟨⟨blk_new _ _,Kd.R_nil _ _ _ _ _,Nat.le_refl _⟩⟩
 go_enter Try.func56,Try.ntmps56
 go_wp2
 go_loopg [20] l1.length (fun kq v20 w' => ∃ (n : Nat) (v' : Value),v20 = .int .i64 n ∧ Aside0 (kq + n = l1.length) ∧ Aside0 (SumAt w' w.heap.size w.heap.size p v' (putsL p [] l1 n)) ∧ Aside0 (Below w.heap.size w w'))
 case atStart => exact ⟨0,_,rfl,⟨rfl⟩,hS0,⟨below_alloc (Below.refl _ _) _⟩⟩
 case round =>
  obtain ⟨n,v',rfl,HK,HS,HB⟩ := hrel
  clear hS0
  by_cases hlt : n < l1.length
  ·have p1 : ((0 : Int) ≤ (n : Int)) = True := eq_true (by omega)
   have q1 : ((n : Int) < (l1.length : Int)) = True := eq_true (by omega)
   obtain ⟨ad,e1,hx⟩ := Kd.at_int HR1.out (n : Int) (by omega) (by omega)
   cases e1
   replace hx := pw_cell_below HB.out hx
   rw [Int.toNat_natCast] at hx
   have hput := Aside0.mk (put_calls hp (putsL_res hp (fun x hx => by cases hx) n) n (by omega) (HL1.out n (by omega)) (rd_res H1.out n hlt) w wr HB.out w.heap.size v' HS.out)
   go_wp2_with (first|(go_at_call 70;(with_reducible refine hput.out.mono ?_);rintro e w' ⟨rfl,HP,HB2⟩))
   go_roundg (l1.length - (n + 1))
   case measure => have := HK.out;omega
   case rel =>
    obtain ⟨v2,HS2⟩ := HP.out
    exact ⟨n + 1,v2,by go_num,⟨by omega⟩,⟨HS2⟩,⟨HB2⟩⟩
  ·have hd : decide ((n : Int) < (l1.length : Int)) = false := decide_eq_false (by omega)
   have hn : n = l1.length := by have := HK.out;omega
   subst hn
   clear HK hlt hd
   go_wp2
   go_loopg [32] l2.length (fun kq v32 w' => ∃ (n : Nat) (v' : Value),v32 = .int .i64 n ∧ Aside0 (kq + n = l2.length) ∧ Aside0 (SumAt w' w.heap.size w.heap.size p v' (putsL p (putsL p [] l1 l1.length) l2 n)) ∧ Aside0 (Below w.heap.size w w'))
   case atStart => exact ⟨0,_,rfl,⟨rfl⟩,HS,HB⟩
   case round =>
    clear HS HB
    obtain ⟨n,v',rfl,HK,HS,HB⟩ := hrel
    by_cases hlt : n < l2.length
    ·have p1 : ((0 : Int) ≤ (n : Int)) = True := eq_true (by omega)
     have q1 : ((n : Int) < (l2.length : Int)) = True := eq_true (by omega)
     obtain ⟨ad,e1,hx⟩ := Kd.at_int HR2.out (n : Int) (by omega) (by omega)
     cases e1
     replace hx := pw_cell_below HB.out hx
     rw [Int.toNat_natCast] at hx
     have hput := Aside0.mk (put_calls hp (putsL_res hp (putsL_res hp (fun x hx => by cases hx) l1.length) n) n (by omega) (HL2.out n (by omega)) (rd_res H2.out n hlt) w wr HB.out w.heap.size v' HS.out)
     go_wp2_with (first|(go_at_call 70;(with_reducible refine hput.out.mono ?_);rintro e w' ⟨rfl,HP,HB2⟩))
     go_roundg (l2.length - (n + 1))
     case measure => have := HK.out;omega
     case rel =>
      obtain ⟨v2,HS2⟩ := HP.out
      exact ⟨n + 1,v2,by go_num,⟨by omega⟩,⟨HS2⟩,⟨HB2⟩⟩
    ·have hd : decide ((n : Int) < (l2.length : Int)) = false := decide_eq_false (by omega)
     have hn : n = l2.length := by have := HK.out;omega
     subst hn
     clear HK hlt hd
     obtain ⟨A,c,rfl,hcc,hC⟩ := Kd.R_reads HS.out.own
     have c1 := blk_cell HS.out.blk 1
     simp only [List.getElem?_toArray,List.getElem?_cons_zero,List.getElem?_cons_succ] at c1
     have htc := Aside0.mk (poly_Trim.calls k A c _ r wr hC hcc HT.out)
     clear hC
     go_wp2_with (first|(go_at_call 59;(with_reducible refine htc.out.mono ?_);rintro e w' ⟨v0,rfl,hv0,hb0⟩;have HV0 := Aside0.mk hv0;have HB0 := Aside0.mk hb0;clear hv0 hb0))
     go_ret
     exact ⟨v0,rfl,Kd.R_lower HV0.out (below_size HB.out),below_step HB.out HB0.out⟩
def rowL (p : Int) (m : List Int) (u : Int) (b : List Int) (i : Nat) : Nat → List Int
 | 0 => m
 | n + 1 => putL p (rowL p m u b i n) (i + n) (u * rd b n % p)
def mulsL (p : Int) (a b : List Int) : Nat → List Int
 | 0 => []
 | i + 1 => rowL p (mulsL p a b i) (rd a i) b i b.length
theorem rowL_res {p : Int} (hp : Supp p) {m : List Int} (hm : ∀ x ∈ m,Res p x) (u : Int) (b : List Int) (i : Nat) : ∀ n,∀ x ∈ rowL p m u b i n,Res p x
 | 0 => hm
 | n + 1 => putL_res hp (rowL_res hp hm u b i n) _ _
theorem rowL_length (p : Int) (m : List Int) (u : Int) (b : List Int) (i : Nat) : ∀ n,(rowL p m u b i n).length ≤ max m.length (i + n)
 | 0 => by simp [rowL];omega
 | n + 1 => by have := rowL_length p m u b i n;rw [rowL,putL_length];omega
theorem mulsL_res {p : Int} (hp : Supp p) (a b : List Int) : ∀ n,∀ x ∈ mulsL p a b n,Res p x
 | 0 => fun x hx => by cases hx
 | n + 1 => rowL_res hp (mulsL_res hp a b n) _ _ _ _
theorem mulsL_length (p : Int) (a b : List Int) : ∀ n,(mulsL p a b n).length ≤ n + b.length
 | 0 => by simp [mulsL]
 | n + 1 => by have := mulsL_length p a b n;have h := rowL_length p (mulsL p a b n) (rd a n) b n b.length;rw [mulsL];omega
set_option maxHeartbeats 2000000 in
set_option maxRecDepth 100000 in
theorem poly_Mul.walks (p : Int) (hp : Supp p) (A1 : Option Addr) (c1 : Nat) (l1 : List Int) (A2 : Option Addr) (c2 : Nat) (l2 : List Int) (h1 : ∀ x ∈ l1,Res p x) (h2 : ∀ x ∈ l2,Res p x) (b1 : l1.length ≤ 274877906944) (b2 : l2.length ≤ 274877906944) (w : World)
  (hr1 : Kd.C (Kd.int .u64) w A1 l1.length l1) (hc1 : l1.length ≤ c1) (hr2 : Kd.C (Kd.int .u64) w A2 l2.length l2) (hc2 : l2.length ≤ c2) (r : List Int) (k : Nat) (ht : poly_Trim.f k (mulsL p l1 l2 l1.length) = some r) :
  Calls Try.prog 55 #[.int .u64 p,.slice A1 l1.length c1,.slice A2 l2.length c2] w fun e w' => ∃ v0_ : Value,e = .returned (v0_) ∧ Kd.R (Kd.int .u64) 22 w' w.heap.size (fun _ => True) v0_ r ∧ Below w.heap.size w w' := by
 have HR1 := Aside0.mk hr1
 have HR2 := Aside0.mk hr2
 have HT := Aside0.mk ht
 have H1 := Aside0.mk h1
 have H2 := Aside0.mk h2
 have HL := Aside0.mk (fun i n (hi : i < l1.length) (hn : n ≤ l2.length) => (show (rowL p (mulsL p l1 l2 i) (rd l1 i) l2 i n).length ≤ 1099511627776 from by have := mulsL_length p l1 l2 i;have := rowL_length p (mulsL p l1 l2 i) (rd l1 i) l2 i n;omega))
 clear hr1 hr2 ht h1 h2
 have hS0 : Aside0 (SumAt (w.alloc (Obj.cells #[Value.int IntKind.u64 p,Value.slice none 0 0] 92)) w.heap.size w.heap.size p (.slice none 0 0) []) := ⟨⟨blk_new _ _,Kd.R_nil _ _ _ _ _,Nat.le_refl _⟩⟩
 go_enter Try.func55,Try.ntmps55
 go_wp2
 go_loopg [20] l1.length (fun kq v20 w' => ∃ (n : Nat) (v' : Value),v20 = .int .i64 (n : Int) ∧ Aside0 (kq + n = l1.length) ∧ Aside0 (SumAt w' w.heap.size w.heap.size p v' (mulsL p l1 l2 n)) ∧ Aside0 (Below w.heap.size w w'))
 case atStart => exact ⟨0,_,rfl,⟨rfl⟩,hS0,⟨below_alloc (Below.refl _ _) _⟩⟩
 case round =>
  obtain ⟨i,v',rfl,HK,HS,HB⟩ := hrel
  clear hS0
  by_cases hlt : i < l1.length
  ·have p1 : ((0 : Int) ≤ (i : Int)) = True := eq_true (by omega)
   have q1 : ((i : Int) < (l1.length : Int)) = True := eq_true (by omega)
   obtain ⟨ad,e1,hx⟩ := Kd.at_int HR1.out (i : Int) (by omega) (by omega)
   cases e1
   replace hx := pw_cell_below HB.out hx
   rw [Int.toNat_natCast] at hx
   go_wp2
   clear hx
   go_loopg [27] l2.length (fun kq v27 w' => ∃ (n : Nat) (v2 : Value),v27 = .int .i64 (n : Int) ∧ Aside0 (kq + n = l2.length) ∧ Aside0 (SumAt w' w.heap.size w.heap.size p v2 (rowL p (mulsL p l1 l2 i) (rd l1 i) l2 i n)) ∧ Aside0 (Below w.heap.size w w'))
   case atStart => exact ⟨0,v',rfl,⟨rfl⟩,HS,HB⟩
   case round =>
    clear HS HB
    obtain ⟨n,v2,rfl,HK2,HS,HB⟩ := hrel
    by_cases hlt2 : n < l2.length
    ·have p2 : ((0 : Int) ≤ (n : Int)) = True := eq_true (by omega)
     have q2 : ((n : Int) < (l2.length : Int)) = True := eq_true (by omega)
     obtain ⟨ad2,e2,hx⟩ := Kd.at_int HR2.out (n : Int) (by omega) (by omega)
     cases e2
     replace hx := pw_cell_below HB.out hx
     rw [Int.toNat_natCast] at hx
     obtain ⟨km,hkm⟩ := (mul_ev hp (rd_res H1.out i hlt) (rd_res H2.out n hlt2)).rounds
     have HKM := Aside0.mk hkm
     have hput := fun nd => put_calls hp (rowL_res hp (mulsL_res hp l1 l2 i) (rd l1 i) l2 i n) (i + n) (by omega) (HL.out i n hlt (by omega)) (Res.mod hp (rd l1 i * rd l2 n)) w (wr.drewN nd) (pw_below_drewN HB.out nd) w.heap.size v2 ⟨blk_drewN HS.out.blk nd,Kd.R_drewN HS.out.own nd,HS.out.ge⟩
     have HPUT := Aside0.mk hput
     clear hkm hput
     obtain ⟨u,hu⟩ : ∃ u,u = rd l1 i * rd l2 n % p := ⟨_,rfl⟩
     rw [← hu] at HKM HPUT
     have HU := Aside0.mk hu
     clear hu
     have hin : ((i : Int) + (n : Int)) = ((i + n : Nat) : Int) := by omega
     have HIN := Aside0.mk hin
     clear hin
     go_wp2_with (first
      | (go_at_call 27;(with_reducible refine (field_Mul.calls km p (rd l1 i) (rd l2 n) u _ HKM.out).mono ?_);rintro e w5 ⟨rfl,⟨nd,rfl⟩⟩)
      | (go_at_call 70;rw [HIN.out];(with_reducible refine (HPUT.out nd).mono ?_);rintro e w' ⟨rfl,HP,HB2⟩))
     go_roundg (l2.length - (n + 1))
     case measure => have := HK2.out;omega
     case rel =>
      obtain ⟨v3,HS2⟩ := HP.out
      refine ⟨n + 1,v3,by go_num,⟨by omega⟩,⟨?_⟩,⟨HB2⟩⟩
      rw [rowL,← HU.out];exact HS2
    ·have hd : decide ((n : Int) < (l2.length : Int)) = false := decide_eq_false (by omega)
     have hn : n = l2.length := by have := HK2.out;omega
     subst hn
     clear hlt2 hd
     go_wp2
     go_roundg (l1.length - (i + 1))
     case measure => have := HK.out;omega
     case rel => exact ⟨i + 1,v2,by go_num,⟨by omega⟩,HS,HB⟩
  ·have hd : decide ((i : Int) < (l1.length : Int)) = false := decide_eq_false (by omega)
   have hn : i = l1.length := by have := HK.out;omega
   subst hn
   clear HK hlt hd
   obtain ⟨A,c,rfl,hcc,hC⟩ := Kd.R_reads HS.out.own
   have c1 := blk_cell HS.out.blk 1
   simp only [List.getElem?_toArray,List.getElem?_cons_zero,List.getElem?_cons_succ] at c1
   have htc := Aside0.mk (poly_Trim.calls k A c _ r wr hC hcc HT.out)
   clear hC
   go_wp2_with (first|(go_at_call 59;(with_reducible refine htc.out.mono ?_);rintro e w' ⟨v0,rfl,hv0,hb0⟩;have HV0 := Aside0.mk hv0;have HB0 := Aside0.mk hb0;clear hv0 hb0))
   go_ret
   exact ⟨v0,rfl,Kd.R_lower HV0.out (below_size HB.out),below_step HB.out HB0.out⟩
end Go.Proofs.Ytjnkkfdlcbcelaa.Hw
end
section
namespace Go.Proofs.Ytjnkkfdlcbcelaa.Pr
open Go.RowKit Go.Proofs.YtjnkkfdlcbcelaaW.PrintWords Go.Proofs.YtjnkkfdlcbcelaaW.PrintLast Go.Proofs.YtjnkkfdlcbcelaaW.PrintMore
attribute [local go_sem] max2_int min2_int max_two min_two max_three min_three max_four min_four
open Go.Proofs.Ytjnkkfdlcbcelaa.Hw

def cmp_isNaN_uint64.f (a0 : Int) : Option (Bool) := some (a0 != a0)
set_option maxHeartbeats 8000000 in
set_option maxRecDepth 100000 in
theorem cmp_isNaN_uint64.calls (a0 : Int) (r : Bool) (w : World) (h : cmp_isNaN_uint64.f a0 = some r) :
  Calls Try.prog 98 #[.int .u64 a0] w fun e w' => e = .returned (.bool r) ∧ Drawn0 w w' := by
 have H : (some (a0 != a0)) = some r := h
 clear h
 obtain rfl := Option.some.inj H
 go_enter Try.func98,Try.ntmps98
 go_wp2
 go_ret
 exact ⟨by first|rfl|(simp;done)|(simp [*];done),by repeat (first|exact Drawn0.refl _|apply Drawn0.step)⟩
def cmp_Less_uint64.f (a0 : Int) (a1 : Int) : Option (Bool) := (cmp_isNaN_uint64.f a0).bind fun t157 => (if t157 = true then ((cmp_isNaN_uint64.f a1).bind fun t158 => (if t158 = true then (some (decide (a0 < a1))) else (some true))) else (some (decide (a0 < a1))))
set_option maxHeartbeats 8000000 in
set_option maxRecDepth 100000 in
theorem cmp_Less_uint64.calls (a0 : Int) (a1 : Int) (r : Bool) (w : World) (h : cmp_Less_uint64.f a0 a1 = some r) :
  Calls Try.prog 89 #[.int .u64 a0,.int .u64 a1] w fun e w' => e = .returned (.bool r) ∧ Drawn0 w w' := by
 have H : ((cmp_isNaN_uint64.f a0).bind fun t157 => (if t157 = true then ((cmp_isNaN_uint64.f a1).bind fun t158 => (if t158 = true then (some (decide (a0 < a1))) else (some true))) else (some (decide (a0 < a1))))) = some r := h
 clear h
 replace H := Option.bind_eq_some_iff.mp H
 obtain ⟨t157,A30,H⟩ := H
 try dsimp only at H
 have A3 := am A30
 clear A30
 by_cases c4 : t157 = true
 ·subst c4
  rw [if_pos rfl] at H
  replace H := Option.bind_eq_some_iff.mp H
  obtain ⟨t158,A50,H⟩ := H
  try dsimp only at H
  have A5 := am A50
  clear A50
  by_cases c6 : t158 = true
  ·subst c6
   rw [if_pos rfl] at H
   obtain rfl := Option.some.inj H
   go_enter Try.func89,Try.ntmps89
   go_wp2_with (first|((with_reducible refine gate_callee (f := 98) rfl ?_);refine goesL_ (some 6) rfl rfl Try.func98 (by kernel_rfl) rfl #[.int .u64 a0] rfl (by (try simp only [List.map_toArray,List.map_cons,List.map_nil]);first|done|rfl|(simp only [List.length_drop,List.length_take];rfl)) ?_;(with_reducible refine (cmp_isNaN_uint64.calls a0 true _ A3.out).mono ?_);rintro e w' ⟨rfl,⟨nd,rfl⟩⟩;refine ⟨_,rfl,?_⟩)|(go_at_call 98;(with_reducible refine (cmp_isNaN_uint64.calls a1 true _ A5.out).mono ?_);rintro e w' ⟨rfl,⟨nd,rfl⟩⟩))
   go_ret
   exact ⟨by first|rfl|(simp;done)|(simp [*];done),by repeat (first|exact Drawn0.refl _|apply Drawn0.step)⟩
  ·replace c6 := Bool.eq_false_iff.mpr c6
   subst c6
   rw [if_neg (show ¬ (false = true) by decide)] at H
   obtain rfl := Option.some.inj H
   go_enter Try.func89,Try.ntmps89
   go_wp2_with (first|((with_reducible refine gate_callee (f := 98) rfl ?_);refine goesL_ (some 6) rfl rfl Try.func98 (by kernel_rfl) rfl #[.int .u64 a0] rfl (by (try simp only [List.map_toArray,List.map_cons,List.map_nil]);first|done|rfl|(simp only [List.length_drop,List.length_take];rfl)) ?_;(with_reducible refine (cmp_isNaN_uint64.calls a0 true _ A3.out).mono ?_);rintro e w' ⟨rfl,⟨nd,rfl⟩⟩;refine ⟨_,rfl,?_⟩)|(go_at_call 98;(with_reducible refine (cmp_isNaN_uint64.calls a1 false _ A5.out).mono ?_);rintro e w' ⟨rfl,⟨nd,rfl⟩⟩))
   go_ret
   exact ⟨by first|rfl|(simp;done)|(simp [*];done),by repeat (first|exact Drawn0.refl _|apply Drawn0.step)⟩
 ·replace c4 := Bool.eq_false_iff.mpr c4
  subst c4
  rw [if_neg (show ¬ (false = true) by decide)] at H
  obtain rfl := Option.some.inj H
  go_enter Try.func89,Try.ntmps89
  go_wp2_with (first|((with_reducible refine gate_callee (f := 98) rfl ?_);refine goesL_ (some 6) rfl rfl Try.func98 (by kernel_rfl) rfl #[.int .u64 a0] rfl (by (try simp only [List.map_toArray,List.map_cons,List.map_nil]);first|done|rfl|(simp only [List.length_drop,List.length_take];rfl)) ?_;(with_reducible refine (cmp_isNaN_uint64.calls a0 false _ A3.out).mono ?_);rintro e w' ⟨rfl,⟨nd,rfl⟩⟩;refine ⟨_,rfl,?_⟩))
  go_ret
  exact ⟨by first|rfl|(simp;done)|(simp [*];done),by repeat (first|exact Drawn0.refl _|apply Drawn0.step)⟩
end Go.Proofs.Ytjnkkfdlcbcelaa.Pr
end
